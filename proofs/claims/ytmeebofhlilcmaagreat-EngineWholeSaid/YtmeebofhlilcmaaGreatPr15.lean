/- Parts. -/
import Derived.Test.YtmeebofhlilcmaaGreatPr03
import Derived.Test.YtmeebofhlilcmaaGreatPr05
import Derived.Lib.AppendZerosOnto
import Derived.Lib.AppendZeros
set_option linter.unusedVariables false
set_option linter.unusedSimpArgs false
set_option maxRecDepth 100000
set_option maxHeartbeats 0
namespace Go.Proofs.YtmeebofhlilcmaaGreat
variable {X Y j:Nat} {a b:Int}
open Go.RowKit
def iT (U V k:Nat):Nat:=(U % 2 ^ k+V % 2 ^ k) / 2 ^ k
theorem carryK_le (U V k:Nat):iT U V k<=1:=by
 unfold iT;have h:=Nat.two_pow_pos k;have h1:=Nat.mod_lt U h;have h2:=Nat.mod_lt V h;have:(U % 2 ^ k+V % 2 ^ k) / 2 ^ k<2:=Nat.div_lt_of_lt_mul aS;omega
theorem lY (U k:Nat):U % 2 ^ (k+1)=U % 2 ^ k+2 ^ k * bit U k:=by unfold bit;rw[Nat.pow_succ,Nat.mod_mul]
theorem carryK_next (U V k:Nat):(bit U k+bit V k+iT U V k) / 2=iT U V (k+1):=by
 unfold iT;rw[lY,lY,show U % 2 ^ k+2 ^ k * bit U k+(V % 2 ^ k+2 ^ k * bit V k)=(U % 2 ^ k+V % 2 ^ k)+2 ^ k * (bit U k+bit V k) from by rw[Nat.mul_add];omega,Nat.pow_succ,<- Nat.div_div_eq_div_mul,Nat.add_mul_div_left _ _ (Nat.two_pow_pos k)]
 congr 1;omega
theorem bit_add (U V k:Nat):(bit U k+bit V k+iT U V k) % 2=bit (U+V) k:=by
 unfold iT;have h:(U+V) / 2 ^ k=U / 2 ^ k+V / 2 ^ k+(U % 2 ^ k+V % 2 ^ k) / 2 ^ k:=by
  have e:U+V=(U % 2 ^ k+V % 2 ^ k)+2 ^ k * (U / 2 ^ k+V / 2 ^ k):=by
   have h1:=Nat.mod_add_div U (2 ^ k);have h2:=Nat.mod_add_div V (2 ^ k);rw[Nat.mul_add];omega
  rw[e,Nat.add_mul_div_left _ _ (Nat.two_pow_pos k)];omega
 unfold bit;rw[h];omega
theorem bit_mod64 (x i:Nat)(h:i<64):bit (x % 18446744073709551616) i=bit x i:=by
 unfold bit;have e:(18446744073709551616:Nat)=2 ^ i * 2 ^ (64 - i):=by rw[<- Nat.pow_add,show i+(64 - i)=64 from by omega]
 rw[e,Nat.mod_mul_right_div_self,show 64 - i=(63 - i)+1 from by omega,Nat.pow_succ,Nat.mod_mul_left_mod]
theorem sg_sum (a b:Int):sg ((un a+un b) % 18446744073709551616)=wrap64 (a+b):=by unfold sg un wrap64;split <;> omega
theorem wrap64_wrap (a:Int):wrap64 (wrap64 a)=wrap64 a:=by unfold wrap64;omega
theorem jW (a b:Int)(w:World)(ha:-9223372036854775808<=a/\a<=9223372036854775807)(hb:-9223372036854775808<=b/\b<=9223372036854775807) :
 Ca 299 #[I a,I b] w fun e w'=>e=.returned (I (wrap64 (a+b)))/\Below w.heap.size w w':=by
 have hba:=fun w=>lL a w ha.1 ha.2
 have hbb:=fun w=>lL b w hb.1 hb.2
 have hnum:=fun A c w h=>pI A c ((un a+un b) % 18446744073709551616) w aS h
 rw[sg_sum] at hnum;have htab:Hid (tab 64 (bit (un a+un b))=tab 64 (bit ((un a+un b) % 18446744073709551616))):=kW fun i hi=>(bit_mod64 _ i hi).symm
 generalize wrap64 (a+b)=R at *;generalize (un a+un b) % 18446744073709551616=S at *;generalize un a=U at *;generalize un b=V at *;clear ha hb;go_enter Tryz.func299,Tryz.ntmps299;go_wp2_with (first | ((go_at_call 183;(with_reducible refine (hba _).mono ?_);rintro e w1 ⟨A1,c1,rfl,own1,hb1⟩);replace hb1:=bH (a:=w) (B:=w.heap.size) bc hb1 be;have hb1s:=hb1.size) | ((go_at_call 183;(with_reducible refine (hbb _).mono ?_);rintro e w2 ⟨A2,c2,rfl,own2,hb2⟩);have own1a:=own1.below hb2 aW;replace hb2:=bH (a:=w) (B:=w.heap.size) bc hb2 be;have hb2s:=hb2.size));have hb2s:=hb2.size;obtain⟨g1,rfl,_,hg1⟩:=own1a.addr aS;obtain⟨g2,rfl,_,hg2⟩:=own2.addr aS;have hc1:∀ k,k<64->Hid (w2.cell? ⟨g1,k,none⟩=some (I (bit U k:Nat))):=fun k hk=>own1a.tab_cell hk
 have hc2:∀ k,k<64->Hid (w2.cell? ⟨g2,k,none⟩=some (I (bit V k:Nat))):=fun k hk=>own2.tab_cell hk
 clear own1 own1a own2 hba hbb;go_loopw [7,8,9] (fun v cc i wr=>∃ k A c,k<=64/\i=I (k:Nat)/\cc=I (iT U V k:Nat)/\v=.slice A k c/\Ow iv wr w2.heap.size 3 A k c (tab k (bit (U+V)))/\Below w2.heap.size w2 wr) (fun _ _ i _=>64 - (intOf i).toNat)
 case atStart=>exact⟨0,none,0,aS,rfl,by simp[iT,Nat.mod_one],rfl,Ow.nil _ _ _ _,Below.refl _ _⟩
 case round=>
  obtain⟨k,A,c,hk,rfl,rfl,rfl,hown,hb⟩:=hrel;have hbs:=hb.size
  by_cases hlt:k<64
  · have d1:=(hb.cell (p:=⟨g1,k,none⟩) hg1).trans (hc1 k hlt).out;have d2:=(hb.cell (p:=⟨g2,k,none⟩) hg2).trans (hc2 k hlt).out;have l1:=gR U k;have l2:=gR V k;have l3:=carryK_le U V k;have hbit:=aT (bit_add U V k);have hcar:=aT (carryK_next U V k);have hsu:=aT (kV k (bit (U+V)));rw[<- hbit.out] at hsu;clear hbit hc1 hc2 htab hnum;generalize hcK:iT U V (k+1)=c' at *;generalize hLK:tab (k+1) (bit (U+V))=L' at *;replace hcK:=aT hcK;replace hLK:=aT hLK;generalize tab k (bit (U+V))=L at *;generalize bit U k=u at *;generalize bit V k=v at *;generalize iT U V k=cc at *;have hm2:(((u+v+cc) % 2:Nat):Int)=((u:Int)+v+cc) % 2:=aS;rw[hm2] at hsu;clear hm2;go_wp2;go_quiet (fail);go_wp2_with (at_builtin;refine dw rfl rfl dS eS (s:=.tmp 30) (N:=k+1) (L:=L') rfl (hown.below (b:=wr.heap.size) bc be) rfl (k:=[((u:Int)+(v:Int)+(cc:Int)) % 2]) (Rd.of_block (l:=[((u:Int)+(v:Int)+(cc:Int)) % 2]) (dr _ _ ba) rfl) rfl (hsu.out) bM aS be ?_;intro A5 c5 w5 hown5 hg5 hat5 hb5);replace hb5:=bH (a:=w2) (B:=w2.heap.size) bc hb5 be;have hb5s:=hb5.size;go_roundw
    case rel=>exact⟨k+1,A5,c5,aS,by go_num,by rw[hcK.out,<- hcar.out];go_num,rfl,by rw[hLK.out];exact hown5,hb5⟩
    case measure=>simp[intOf];omega
  · have hk9:k=64:=aS;subst hk9;rw[htab.out] at hown;go_wp2_with (go_at_call 185;go_call (hnum _ _ _ hown.rd.ri) as e w9 ⟨rfl,rfl⟩);go_ret;exact⟨rfl,bH hb2 hb hb2s⟩
def mulS (a:Int)(V:Nat):Nat->Int
 | 0=>0
 | k+1=>wrap64 (mulS a V k+(if bit V k=1 then wrap64 (a * 2 ^ k) else 0))
theorem mulS_eq (a:Int)(V:Nat):∀ k,mulS a V k=wrap64 (a * ((V % 2 ^ k:Nat):Int)):=by
 intro k
 induction k with
 | zero=>simp[mulS,Nat.mod_one,wrap64]
 | succ k ih=>
   unfold mulS;rw[ih,lY];have hb:=gR V k;have h:bit V k=0\/bit V k=1:=aS;rcases h with h | h
   · rw[h,if_neg aS,Nat.mul_zero,Int.add_zero,Nat.add_zero,wrap64_wrap]
   · rw[h,if_pos rfl,Nat.mul_one,Int.natCast_add,Int.mul_add,Int.natCast_pow]
     show wrap64 (wrap64 _+wrap64 _)=wrap64 (_+a * 2 ^ k)
     generalize a * ((V % 2 ^ k:Nat):Int)=x;generalize a * 2 ^ k=y;unfold wrap64;omega
theorem dbl_wrap (a:Int)(k:Nat):wrap64 (wrap64 (a * 2 ^ k)+wrap64 (a * 2 ^ k))=wrap64 (a * 2 ^ (k+1)):=by
 rw[Int.pow_succ,<- Int.mul_assoc];generalize a * 2 ^ k=y;unfold wrap64;omega
theorem mulS_64 (a b:Int):mulS a (un b) 64=wrap64 (a * b):=by
 rw[mulS_eq,Nat.mod_eq_of_lt (un_lt b)];have:∃ q:Int,((un b:Nat):Int)=b+q * 18446744073709551616:=⟨-(b / 18446744073709551616),by unfold un;omega⟩;obtain⟨q,hq⟩:=this;rw[hq,Int.mul_add,<- Int.mul_assoc];generalize a * b=x;generalize a * q=y;unfold wrap64;omega
theorem mT (x:Int):-9223372036854775808<=wrap64 x/\wrap64 x<=9223372036854775807:=by unfold wrap64;omega
theorem mulS_in (a:Int)(V k:Nat):-9223372036854775808<=mulS a V k/\mulS a V k<=9223372036854775807:=by rw[mulS_eq];exact mT _
theorem qb (a b:Int)(w:World)(ha:-9223372036854775808<=a/\a<=9223372036854775807)(hb:-9223372036854775808<=b/\b<=9223372036854775807) :
 Ca 300 #[I a,I b] w fun e w'=>e=.returned (I (wrap64 (a * b)))/\Below w.heap.size w w':=by
 have hbb:=fun w=>lL b w hb.1 hb.2
 have hend:=aT (mulS_64 a b);have ha0:Hid (a=wrap64 (a * 2 ^ 0)):=by show a=_;rw[Int.pow_zero,Int.mul_one];unfold wrap64;omega
 generalize wrap64 (a * b)=R at *;generalize un b=V at *;clear hb;go_enter Tryz.func300,Tryz.ntmps300;go_wp2_with ((go_at_call 183;go_call (hbb _) as e w2 ⟨A2,c2,rfl,own2,hb2⟩);replace hb2:=bH (a:=w) (B:=w.heap.size) bc hb2 be;have hb2s:=hb2.size);have hb2s:=hb2.size;obtain⟨g2,rfl,_,hg2⟩:=own2.addr aS;have hc2:∀ k,k<64->Hid (w2.cell? ⟨g2,k,none⟩=some (I (bit V k:Nat))):=fun k hk=>own2.tab_cell hk
 clear own2 hbb;go_loopw [0,6,7] (fun aa s i wr=>∃ k,k<=64/\i=I (k:Nat)/\aa=I (wrap64 (a * 2 ^ k))/\s=I (mulS a V k)/\Below w2.heap.size w2 wr) (fun _ _ i _=>64 - (intOf i).toNat)
 case atStart=>exact⟨0,aS,rfl,by rw[<- ha0.out],rfl,Below.refl _ _⟩
 case round=>
  obtain⟨k,hk,rfl,rfl,rfl,hb⟩:=hrel;have hbs:=hb.size
  by_cases hlt:k<64
  · have d2:=(hb.cell (p:=⟨g2,k,none⟩) hg2).trans (hc2 k hlt).out;have qhdd:=fun w=>jW _ _ w (mT (a * 2 ^ k)) (mT (a * 2 ^ k))
    have hsd:=fun w=>jW _ _ w (mulS_in a V k) (mT (a * 2 ^ k))
    rw[dbl_wrap] at qhdd;have hm:mulS a V (k+1)=wrap64 (mulS a V k+(if bit V k=1 then wrap64 (a * 2 ^ k) else 0)):=rfl;have hl:=gR V k;have hms:=mulS_in a V k;have hbc:bit V k=0\/bit V k=1:=aS;rcases hbc with h | h
    · rw[h] at d2 hm;have hm':Hid (mulS a V (k+1)=mulS a V k):=by show _=_;rw[hm];simp;unfold wrap64;omega
      clear hm hl hms h hc2 hsd;generalize wrap64 (a * 2 ^ k)=x at *;generalize hx':wrap64 (a * 2 ^ (k+1))=x' at *;generalize hs':mulS a V (k+1)=s' at *;replace hx':=aT hx';replace hs':=aT hs';generalize mulS a V k=s at *;go_wp2_with ((go_at_call 299;go_call (qhdd _) as e w5 ⟨rfl,hb5⟩);replace hb5:=bH (a:=w2) (B:=w2.heap.size) bc hb5 be;have hb5s:=hb5.size);go_roundw
      case rel=>exact⟨k+1,aS,by go_num,by rw[hx'.out],by rw[hs'.out,hm'.out],hb5⟩
      case measure=>simp[intOf];omega
    · rw[h] at d2 hm;rw[if_pos rfl] at hm;rw[<- hm] at hsd;clear hm hl hms h hc2;generalize wrap64 (a * 2 ^ k)=x at *;generalize hx':wrap64 (a * 2 ^ (k+1))=x' at *;generalize hs':mulS a V (k+1)=s' at *;replace hx':=aT hx';replace hs':=aT hs';generalize mulS a V k=s at *;go_wp2_with (first | ((go_at_call 299;(with_reducible refine (hsd _).mono ?_);rintro e w5 ⟨rfl,hb5⟩);replace hb5:=bH (a:=w2) (B:=w2.heap.size) bc hb5 be;have hb5s:=hb5.size) | ((go_at_call 299;(with_reducible refine (qhdd _).mono ?_);rintro e w6 ⟨rfl,hb6⟩);replace hb6:=bH (a:=w2) (B:=w2.heap.size) bc hb6 be;have hb6s:=hb6.size));go_roundw
      case rel=>exact⟨k+1,aS,by go_num,by rw[hx'.out],by rw[hs'.out],hb6⟩
      case measure=>simp[intOf];omega
  · have hk9:k=64:=aS;subst hk9;go_wp2;go_ret;exact⟨jI (by rw[hend.out]),bH hb2 hb hb2s⟩
theorem wrap64_in {x:Int}(h:-9223372036854775808<=x/\x<=9223372036854775807):wrap64 x=x:=by unfold wrap64;omega
theorem iU (x:Int):-9223372036854775808<=wrap64 x/\wrap64 x<=9223372036854775807:=by unfold wrap64;omega
def bZ (n i:Nat):Nat:=bit n (64 - i)
theorem oI (n i:Nat):bZ n i<=1:=gR _ _
theorem lZ (X j:Nat):X / 2 ^ j=2 * (X / 2 ^ (j+1))+bit X j:=by
 unfold bit;rw[Nat.pow_succ,<- Nat.div_div_eq_div_mul];omega
theorem less_at (h:X / 2 ^ (j+1)=Y / 2 ^ (j+1))(hne:bit X j≠bit Y j):X<Y ↔ bit X j<bit Y j:=by
 have ex:=lZ X j;have ey:=lZ Y j;have hx:=gR X j;have hy:=gR Y j;constructor
 · intro hlt;have:X / 2 ^ j<=Y / 2 ^ j:=Nat.div_le_div_right (Nat.le_of_lt hlt);omega
 · intro hlt;refine Decidable.byContradiction fun hc=>?_
   have:Y / 2 ^ j<=X / 2 ^ j:=Nat.div_le_div_right aS;omega
theorem less_on (h:X / 2 ^ (j+1)=Y / 2 ^ (j+1))(he:bit X j=bit Y j):X / 2 ^ j=Y / 2 ^ j:=by
 have ex:=lZ X j;have ey:=lZ Y j;omega
def borK (X Y j:Nat):Nat:=if X % 2 ^ j<Y % 2 ^ j then 1 else 0
theorem borK_le (X Y j:Nat):borK X Y j<=1:=by unfold borK;split <;> omega
theorem borK_next (X Y j:Nat):borK X Y (j+1)=if (bit X j:Int) - (bit Y j:Int) - (borK X Y j:Int)<0 then 1 else 0:=by
 unfold borK;rw[lY,lY];have hp:=Nat.two_pow_pos j;have h1:=Nat.mod_lt X hp;have h2:=Nat.mod_lt Y hp;have hx:=gR X j;have hy:=gR Y j;generalize X % 2 ^ j=xr at *;generalize Y % 2 ^ j=yr at *;generalize bit X j=u at *;generalize bit Y j=v at *;generalize 2 ^ j=p at *;rcases (show u=0\/u=1 by omega) with rfl | rfl <;> rcases (show v=0\/v=1 by omega) with rfl | rfl <;> (by_cases h:xr<yr <;> simp only[h,if_true,if_false,Nat.mul_zero,Nat.mul_one,Nat.add_zero] <;> ((repeat' split) <;> omega))
theorem bit_sub (h:Y<=X)(j:Nat):(bit X j+2 - bit Y j - borK X Y j) % 2=bit (X - Y) j:=by
 have hp:=Nat.two_pow_pos j;have h1:=Nat.mod_lt X hp;have h2:=Nat.mod_lt Y hp;have ex:=Nat.mod_add_div X (2 ^ j);have ey:=Nat.mod_add_div Y (2 ^ j);have hb:Y / 2 ^ j+borK X Y j<=X / 2 ^ j:=by
  unfold borK;have h0:Y / 2 ^ j<=X / 2 ^ j:=Nat.div_le_div_right h
  split
  · rename_i hlt;refine Decidable.byContradiction fun hc=>?_
    have:X / 2 ^ j=Y / 2 ^ j:=aS;rw[this] at ex;omega
  · omega
 have hd:(X - Y) / 2 ^ j=X / 2 ^ j - Y / 2 ^ j - borK X Y j:=by
  have e:X - Y=(X % 2 ^ j+borK X Y j * 2 ^ j - Y % 2 ^ j)+2 ^ j * (X / 2 ^ j - Y / 2 ^ j - borK X Y j):=by
   obtain⟨d,qhdd⟩:∃ d,X / 2 ^ j=Y / 2 ^ j+borK X Y j+d:=⟨X / 2 ^ j - (Y / 2 ^ j+borK X Y j),aS⟩;rw[qhdd,Nat.mul_add,Nat.mul_add] at ex;rw[qhdd,show Y / 2 ^ j+borK X Y j+d - Y / 2 ^ j - borK X Y j=d by omega];have hc:borK X Y j * 2 ^ j=2 ^ j * borK X Y j:=Nat.mul_comm _ _;rw[hc];have hle:Y % 2 ^ j<=X % 2 ^ j+2 ^ j * borK X Y j:=by
    unfold borK
    split
    · omega
    · omega
   omega
  rw[e,Nat.add_mul_div_left _ _ hp,Nat.div_eq_of_lt,aB];unfold borK
  split
  · omega
  · omega
 have hbl:=borK_le X Y j;unfold bit;rw[hd];omega
theorem qc {R b i:Nat}(hb1:b<=1)(hi:i<=64):bZ (2 * R+b) i=if i=64 then b else bZ R (i+1):=by
 unfold bZ
 by_cases h:i=64
 · subst h;rw[if_pos rfl];unfold bit;simp only[Nat.sub_self,Nat.pow_zero,Nat.div_one];omega
 · rw[if_neg h,show 64 - i=(64 - (i+1))+1 by omega,<- bit_half,show (2 * R+b) / 2=R by omega]
theorem top_next {k:Nat}(hk:k<65):X / 2 ^ (65 - (k+1))=2 * (X / 2 ^ (65 - k))+bZ X k:=by
 have:=lZ X (64 - k);rw[show 64 - k+1=65 - k by omega] at this;rw[show 65 - (k+1)=64 - k by omega];exact this
theorem long_next {Q R b N:Nat}(hY:0<Y)(hN:N=Q * Y+R)(hR:R<Y)(hb1:b<=1) :
 (2 * R+b<Y->(2 * N+b) / Y=2 * Q/\(2 * N+b) % Y=2 * R+b)/\(Y<=2 * R+b->(2 * N+b) / Y=2 * Q+1/\(2 * N+b) % Y=2 * R+b - Y):=by
 subst hN;refine⟨fun h=>?_,fun h=>?_⟩
 · have e:2 * (Q * Y+R)+b=(2 * R+b)+Y * (2 * Q):=by rw[Nat.mul_add,Nat.mul_comm Y,Nat.mul_assoc];omega
   rw[e,Nat.add_mul_div_left _ _ hY,Nat.add_mul_mod_self_left,Nat.div_eq_of_lt h,Nat.mod_eq_of_lt h];exact⟨aS,rfl⟩
 · have e:2 * (Q * Y+R)+b=(2 * R+b - Y)+Y * (2 * Q+1):=by rw[Nat.mul_add,Nat.mul_comm Y,Nat.add_mul,Nat.mul_assoc];omega
   have h2:2 * R+b - Y<Y:=aS;rw[e,Nat.add_mul_div_left _ _ hY,Nat.add_mul_mod_self_left,Nat.div_eq_of_lt h2,Nat.mod_eq_of_lt h2];exact⟨aS,rfl⟩
def divK (a b:Int):Int:=if b=0 then 0 else if b=-1 then wrap64 (-a) else a.tdiv b
def modK (a b:Int):Int:=wrap64 (a - wrap64 (divK a b * b))
def dh (b:Bool):Int:=if b then 1 else 0
def oneK (op a:Int):Int:=if op=5 then wrap64 (-a) else if op=6 then dh (a == 0) else 0
def doK (op a b:Int):Int :=
 if op=7 then wrap64 (a+b) else if op=8 then wrap64 (a - b) else if op=9 then wrap64 (a * b) else if op=10 then divK a b else if op=11 then modK a b
 else if op=12 then dh (a == b) else if op=13 then dh (a != b) else if op=14 then dh (decide (a<b)) else if op=15 then dh (decide (a<=b)) else if op=16 then dh (decide (b<a)) else if op=17 then dh (decide (b<=a))
 else if op=18 then dh ((a != 0) && (b != 0)) else if op=19 then dh ((a != 0) || (b != 0)) else if op=20 then dh ((a != 0) != (b != 0)) else 0
theorem mU (ha:-9223372036854775808<=a/\a<=9223372036854775807):-9223372036854775808<=divK a b/\divK a b<=9223372036854775807:=by
 unfold divK
 split
 · omega
 · split
   · exact iU _
   · rename_i h0 h1;have hn:(a.tdiv b).natAbs=a.natAbs / b.natAbs:=Int.natAbs_tdiv a b;have h2:2<=b.natAbs\/b=1:=aS;rcases h2 with h2 | h2
     · have:a.natAbs / b.natAbs<=a.natAbs / 2:=Nat.div_le_div_left h2 aS;omega
     · subst h2;rw[Int.tdiv_one];exact ha
def In64 (z:Int):Prop:=-9223372036854775808<=z/\z<=9223372036854775807
theorem in_ite {c:Prop} [Decidable c](h1:In64 a)(h2:In64 b):In64 (if c then a else b):=by split <;> assumption
theorem flagK_in (x:Bool):In64 (dh x):=by cases x <;> (unfold In64;simp[dh])
theorem doK_in {op:Int}(ha:In64 a):In64 (doK op a b):=by
 have hw:∀ x,In64 (wrap64 x):=iU;have hd:In64 (divK a b):=mU ha;unfold doK modK;generalize divK a b=d at *
 repeat' (with_reducible refine in_ite ?_ ?_)
 all_goals first | exact flagK_in _ | exact hw _ | exact hd | (unfold In64;omega)
theorem oneK_in (op a:Int):In64 (oneK op a):=by
 have hw:∀ x,In64 (wrap64 x):=iU;unfold oneK
 repeat' (with_reducible refine in_ite ?_ ?_)
 all_goals first | exact flagK_in _ | exact hw _ | (unfold In64;omega)
theorem un_neg (ha:-9223372036854775808<=a/\a<=9223372036854775807):un (if a<0 then wrap64 (-a) else a)=a.natAbs:=by
 unfold un wrap64
 split <;> omega
theorem divK_abs (ha:-9223372036854775808<=a/\a<=9223372036854775807)(h0:b≠0) :
 divK a b=if (decide (a<0) != decide (b<0))=true then wrap64 (-(wrap64 ((a.natAbs / b.natAbs:Nat):Int))) else wrap64 ((a.natAbs / b.natAbs:Nat):Int):=by
 have hin:=@mU a b ha;have hw:divK a b=wrap64 (a.tdiv b):=by
  unfold divK at hin ⊢;rw[if_neg h0] at hin ⊢
  split at hin
  · rename_i h1;rw[if_pos h1,h1];rw[show a.tdiv (-1)=-a from by rw[Int.tdiv_neg,Int.tdiv_one]]
  · rename_i h1;rw[if_neg h1];exact (wrap64_in hin).symm
 rw[hw];have hn:(a.tdiv b).natAbs=a.natAbs / b.natAbs:=Int.natAbs_tdiv a b;have ww:∀ x:Int,wrap64 (-(wrap64 x))=wrap64 (-x):=fun x=>by unfold wrap64;omega
 rw[ww,<- hn];have sgn:(decide (a<0) != decide (b<0))=true->a.tdiv b<=0:=fun h=>by
  by_cases q:a<0
  · have q2:0<b:=by
     rw[am q] at h;have:¬ b<0:=by intro h2;rw[am h2] at h;simp at h
     omega
    have:=Int.tdiv_nonneg (a:=-a) (b:=b) aS aS;rw[Int.neg_tdiv] at this;omega
  · have q2:b<0:=by
     rw[aj q] at h;refine Decidable.byContradiction fun h2=>?_
     rw[aj h2] at h;simp at h
    have:=Int.tdiv_nonneg (a:=a) (b:=-b) aS aS;rw[Int.tdiv_neg] at this;omega
 have sgp:¬ (decide (a<0) != decide (b<0))=true->0<=a.tdiv b:=fun h=>by
  by_cases q:a<0
  · have q2:b<0:=by
     rw[am q] at h;refine Decidable.byContradiction fun h2=>?_
     rw[aj h2] at h;simp at h
    have:=Int.tdiv_nonneg (a:=-a) (b:=-b) aS aS;rw[Int.neg_tdiv,Int.tdiv_neg] at this;omega
  · have q2:0<=b:=by
     rw[aj q] at h;refine Decidable.byContradiction fun h2=>?_
     rw[am (show b<0 by omega)] at h;simp at h
    exact Int.tdiv_nonneg aS q2
 by_cases hs:(decide (a<0) != decide (b<0))=true
 · rw[if_pos hs];have:=sgn hs
   congr 1;omega
 · rw[if_neg hs];have:=sgp hs
   congr 1;omega
theorem grow_any (n:Nat)(h0:0<n)(hn:n<=1000000)(w:World):Ca 279 #[.slice none 0 0,I (n:Nat)] w fun e w'=>∃ g c,e=.returned (.slice (some ⟨g,0,none⟩) 0 c)/\OB w' w.heap.size 5 (some ⟨g,0,none⟩) 0 c []/\Below w.heap.size w w':=by
 obtain⟨ht,⟨i0,hi,hz,hs,hby⟩,hzs,_⟩:=cJ;have hold:(Builtin.firstCells i0.size 0 (.slice none 0 0)).run Tryz.prog w.drew=.ok ([]:List Value).toArray w.drew:=by simp[Builtin.firstCells]
 have hrz:∀ ty,(Builtin.append_ #[27,3] ty #[.slice none 0 0,I (n:Nat)]).run Tryz.prog w =
  .ok (.slice (some ⟨w.heap.size,0,none⟩) n (grownCap w n 0 5)) (w.drew.alloc (.cells (([]:List Value).toArray ++ Builtin.zeroCells (Value.int .u8 0).cells n ++ Builtin.zeroCells (Value.int .u8 0).cells (grownCap w n 0 5 - n)) 5)):=fun ty=>by
  have h:=Lib.run_append_grow_zeros (P:=Tryz.prog) w 27 3 ty 5 i0 (.int .u8 0) .i64 .i64 ht Tryz.underlying3 hi hz none 0 0 [] hold n h0 (by rw[hs];omega) aS aS (by rw[hby];omega)
   (by rw[aB];exact growslice_fits h0 (by rw[hby];omega))
  rw[aB] at h;exact h
 have hGn:n<=grownCap w n 0 5:=grownCap_ge w _ _ _;have hG63:=grownCap_le_maxLen w n 0 5 bM;have hown:∀ w':World,w'.heap[w.heap.size]?=some (.cells (([]:List Value).toArray ++ Builtin.zeroCells (Value.int .u8 0).cells n ++ Builtin.zeroCells (Value.int .u8 0).cells (grownCap w n 0 5 - n)) 5 (0,0)) ->
  OB w' w.heap.size 5 (some ⟨w.heap.size,0,none⟩) 0 (grownCap w n 0 5) []:=fun w' h=>
  ⟨rfl,rfl,.inr ⟨w.heap.size,_,_,rfl,Nat.le_refl _,h,Nat.zero_le _,hG63,by
   rw[Array.size_append,Array.size_append,size_zeroCells,size_zeroCells,hzs]
   show 0+n * 1+_ * 1=_ * 1
   omega,by simp⟩⟩
 have hown2:=hown (w.drew.alloc (.cells (([]:List Value).toArray ++ Builtin.zeroCells (Value.int .u8 0).cells n ++ Builtin.zeroCells (Value.int .u8 0).cells (grownCap w n 0 5 - n)) 5)) (heap_alloc_new w.drew _);clear hold hi hz hs hby hzs ht hown i0;generalize (([]:List Value).toArray ++ Builtin.zeroCells (Value.int .u8 0).cells n ++ Builtin.zeroCells (Value.int .u8 0).cells (grownCap w n 0 5 - n))=C at *;generalize grownCap w n 0 5=G at *;unfold maxLen at hG63;have Hown:=aT hown2;clear hown2;go_enter Tryz.func279,Tryz.ntmps279;go_wp2_with (at_builtin;refine Lib.wpList_append_run _ rfl _ _ _ _ rfl _ _ rfl rfl _ _ (hrz _) ?_);go_ret;exact⟨w.heap.size,G,rfl,Hown.out,bc⟩
theorem mV (n:Nat)(w:World)(h:n<9223372036854775808):Ca 228 #[I n] w fun e w'=>∃ A c,e=.returned (.slice A (digL 9 n).length c)/\OB w' w.heap.size 5 A (digL 9 n).length c (digL 9 n)/\Below w.heap.size w w':=by
 have hs:=fun w=>short_any n w h
 generalize digL 9 n=L at *;clear h;go_enter Tryz.func228,Tryz.ntmps228;go_wp2_with (go_at_call 280;go_call (hs _) as e w1 ⟨A1,c1,rfl,hown,hb⟩);go_ret;exact⟨A1,c1,rfl,hown,hb⟩
theorem u8_wrap (t:Int)(h:t=1\/t=2):bv (UInt8.ofNat t.toNat)=.int .u8 t:=by rcases h with rfl | rfl <;> rfl
theorem qd (A:Option Addr)(n c:Nat)(l:List Int)(w:World)(hl:RI w A n l)(hr:db l=true) :
 Ca 227 #[.slice A n c] w fun e w'=>∃ A N c,e=.returned (.slice A N c)/\OB w' w.heap.size 5 A N c (iM l)/\Below w.heap.size w w':=by
 obtain⟨r1,r2,r3⟩:=fJ.1 hr;have hlen:=hl.1;rw[hlen] at r1 r2 r3;have hs:=fun w=>mV n w aS
 have hT:∀ k,k<n->Hid (digL 9 n ++ (l.take k).map (fun t=>UInt8.ofNat t.toNat) ++ [UInt8.ofNat (aZ l k).toNat]=digL 9 n ++ (l.take (k+1)).map (fun t=>UInt8.ofNat t.toNat)):=fun k hk=>by
  show _=_
  rw[aQ (show k<l.length by omega),List.map_append,aO];unfold aZ;rw[ah,ap (show k<l.length by omega)]
  rfl
 have hD:=(gX 9 n).1;have hfin:Hid (iM l=digL 9 n ++ (l.take n).map (fun t=>UInt8.ofNat t.toNat)):=by
  show _=_
  unfold iM;rw[hlen,au aS]
 have hL0:Hid (digL 9 n ++ (l.take 0).map (fun t=>UInt8.ofNat t.toNat)=digL 9 n):=by show _=_;simp
 generalize iM l=B at *;have hlen2:∀ k,k<=n->(digL 9 n ++ (l.take k).map (fun t=>UInt8.ofNat t.toNat)).length=(digL 9 n).length+k:=fun k hk=>by simp[hlen];omega
 have Hlen2:=aT hlen2;clear hlen hr hlen2;generalize hK:(fun k:Nat=>digL 9 n ++ (l.take k).map (fun t=>UInt8.ofNat t.toNat))=K;have HK:∀ k,Hid (digL 9 n ++ (l.take k).map (fun t=>UInt8.ofNat t.toNat)=K k):=fun k=>by rw[<- hK];rfl
 clear hK;go_enter Tryz.func227,Tryz.ntmps227;go_wp2_with ((go_at_call 228;go_call (hs _) as e w1 ⟨A1,c1,rfl,hown,hb⟩);have hbs:=hb.size);go_loopw [3,11] (fun v i wr=>∃ k A2 c2,k<=n/\i=I (k:Nat)/\v=.slice A2 ((digL 9 n).length+k) c2/\Ow bv wr w.heap.size 5 A2 ((digL 9 n).length+k) c2 (K k)/\Below w.heap.size w wr) (fun _ i _=>n - (intOf i).toNat)
 case atStart=>exact⟨0,A1,c1,aS,rfl,rfl,by rw[<- (HK 0).out,hL0.out];exact hown,hb⟩
 case round=>
  obtain⟨k,A2,c2,hk,rfl,rfl,hown2,hbel⟩:=hrel;have hbs2:=hbel.size
  by_cases hlt:k<n
  · obtain⟨b,o,rfl,_,hc⟩:=(hl.below hbel aW).at_ hlt;have h12:=r1 k hlt;have hkT:=hT k hlt;have hbv:=aT (u8_wrap _ h12);have hkL:Hid (K k ++ [UInt8.ofNat (aZ l k).toNat]=K (k+1)):=by show _=_;rw[<- (HK k).out,<- (HK (k+1)).out];exact hkT.out
    clear r1 hT hkT HK hL0;rcases h12 with h | h
    all_goals
     rw[h] at hc hkL;clear h hbv
    · go_wp2_with (at_builtin;refine dw rfl rfl cJ dj (s:=.tmp 15) (N:=(digL 9 n).length+(k+1)) (L:=K (k+1)) rfl (hown2.below (b:=wr.heap.size) bc be) rfl (k:=[(1:UInt8)]) (Rd.of_block (l:=[(1:UInt8)]) (dr _ _ ba) rfl) rfl (hkL.out) bM aS be ?_;intro A5 c5 w5 hown5 hg5 hat5 hb5);replace hb5:=bH (a:=w) (B:=w.heap.size) bc hb5 be;have hb5s:=hb5.size;go_roundw
      case rel=>exact⟨k+1,A5,c5,aS,by go_num,rfl,hown5,hb5⟩
      case measure=>simp[intOf];omega
    · go_wp2_with (at_builtin;refine dw rfl rfl cJ dj (s:=.tmp 15) (N:=(digL 9 n).length+(k+1)) (L:=K (k+1)) rfl (hown2.below (b:=wr.heap.size) bc be) rfl (k:=[(2:UInt8)]) (Rd.of_block (l:=[(2:UInt8)]) (dr _ _ ba) rfl) rfl (hkL.out) bM aS be ?_;intro A5 c5 w5 hown5 hg5 hat5 hb5);replace hb5:=bH (a:=w) (B:=w.heap.size) bc hb5 be;have hb5s:=hb5.size;go_roundw
      case rel=>exact⟨k+1,A5,c5,aS,by go_num,rfl,hown5,hb5⟩
      case measure=>simp[intOf];omega
  · have hkn:k=n:=aS;subst hkn;have hF:Hid (B=K k):=by show _=_;rw[hfin.out];exact (HK k).out
    clear r1 hT HK hfin;go_wp2;go_ret;exact⟨A2,_,c2,rfl,by rw[hF.out];exact hown2,hbel⟩
def sumK (f:Nat->Nat):Nat->Nat
 | 0=>0
 | k+1=>sumK f k+f k
def catK (L:Nat->List UInt8):Nat->List UInt8
 | 0=>[]
 | k+1=>catK L k ++ L k
theorem sumK_le (f:Nat->Nat)(B:Nat):∀ k,(∀ i,i<k->f i<=B)->sumK f k<=B * k:=by
 intro k
 induction k with
 | zero=>intro _;simp[sumK]
 | succ k ih=>
   intro h;have h1:=ih (fun i hi=>h i aS);have h2:=h k aS
   show sumK f k+f k<=B * (k+1)
   rw[Nat.mul_succ];omega
theorem sumK_mono (f:Nat->Nat){k:Nat}(h:j<=k):sumK f j<=sumK f k:=by
 induction k with
 | zero=>rw[show j=0 by omega];exact Nat.le_refl _
 | succ k ih=>
   by_cases e:j=k+1
   · rw[e];exact Nat.le_refl _
   · exact ag (ih aS) (Nat.le_add_right _ _)
theorem catK_len (L:Nat->List UInt8)(f:Nat->Nat)(k:Nat)(h:∀ i,i<k->(L i).length=f i):(catK L k).length=sumK f k:=by
 induction k with
 | zero=>rfl
 | succ k ih=>show (catK L k ++ L k).length=_;rw[az,ih (fun i hi=>h i aS),h k aS];rfl
theorem concat_any (b m c:Nat)(Av:Nat->Option Addr)(nv cv:Nat->Nat)(L:Nat->List UInt8)(w:World)(hm:m<=10)(hb:b<w.heap.size)
 (hrow:∀ i,i<m->w.cell? ⟨b,i,none⟩=some (.slice (Av i) (nv i) (cv i))) (hrd:∀ i,i<m->RB w (Av i) (nv i) (L i)) (hn:∀ i,i<m->nv i<=1000) (h1:0<sumK nv m) :
 Ca 226 #[.slice (some ⟨b,0,none⟩) m c] w fun e w'=>∃ A N c,e=.returned (.slice A N c)/\OB w' w.heap.size 5 A N c (catK L m)/\Below w.heap.size w w':=by
 have hle:=sumK_le nv 1000 m hn;have hS:∀ k,Hid (sumK nv (k+1)=sumK nv k+nv k):=fun k=>rfl
 have hmono:=fun k (h:k<=m)=>sumK_mono nv h
 have hcl:∀ k,k<=m->(catK L k).length=sumK nv k:=fun k hk=>catK_len L nv k (fun i hi=>(hrd i aS).1)
 have Hcl:=aT hcl;clear hcl;have hC:∀ k,Hid (catK L k ++ L k=catK L (k+1)):=fun k=>rfl
 have hS0:Hid (sumK nv 0=0):=rfl;have hC0:Hid (catK L 0=[]):=rfl;generalize catK L=K at *;generalize sumK nv=S at *;go_enter Tryz.func226,Tryz.ntmps226;go_wp2;go_loop [3,11] (fun v i=>∃ k:Nat,k<=m/\i=I (k:Nat)/\v=I (S k:Nat)) (fun _ i=>m - (intOf i).toNat)
 case atStart=>exact⟨0,aS,rfl,by rw[hS0.out];rfl⟩
 case round=>
  obtain⟨k,hk,rfl,rfl⟩:=hrel
  by_cases hlt:k<m
  · have hc:=hrow k hlt;have hs:=hS k;have hnk:=hn k hlt;have hmk:=hmono k hk;clear hrow hS hC hmono hrd hn;generalize nv k=x at *;go_wp2;go_round
    case rel=>exact⟨k+1,aS,by go_num,by rw[hs.out];go_num⟩
    case measure=>simp[intOf];omega
  · have hkm:k=m:=aS;subst hkm;have hg:=fun w=>grow_any (S k) h1 aS w
    go_wp2_with (go_at_call 279;go_call (hg _) as e w1 ⟨g,c1,rfl,hown,hb1⟩);clear hg;go_loopw [6,27] (fun v i wr=>∃ (j:Nat) (A2:Option Addr) (c2:Nat),j<=k/\i=I (j:Nat)/\v=.slice A2 (S j) c2/\Ow bv wr w.heap.size 5 A2 (S j) c2 (K j)/\Below w.heap.size w wr) (fun _ i _=>k - (intOf i).toNat)
    case atStart=>exact⟨0,some ⟨g,0,none⟩,c1,aS,rfl,by rw[hS0.out],by rw[hS0.out,hC0.out];exact hown,hb1⟩
    case round=>
     obtain⟨j,A2,c2,hj,rfl,rfl,hown2,hbel⟩:=hrel;have hbs:=hbel.size
     by_cases hlt2:j<k
     · have hc:=(hbel.cell (p:=⟨b,j,none⟩) hb).trans (hrow j hlt2);have hrj:=(hrd j hlt2).below hbel aW;have hs:=hS j;have hnk:=hn j hlt2;have hmk:=hmono j hj;have hkL:=hC j;have hmk2:=hmono (j+1) aS;clear hrow hS hC hmono hrd hn hown hb1;generalize nv j=x at *;generalize Av j=A3 at *;generalize cv j=c3 at *;go_wp2_with (at_builtin;refine dw rfl rfl cJ dj (s:=.tmp 31) (N:=S (j+1)) (L:=K (j+1)) rfl hown2 rfl (k:=L j) hrj.rd hs.out.symm hkL.out bM aS aS ?_;intro A5 c5 w5 hown5 hg5 hat5 hb5);replace hb5:=bH (a:=w) (B:=w.heap.size) bc hb5 be;have hb5s:=hb5.size;go_roundw
       case rel=>exact⟨j+1,A5,c5,aS,by go_num,rfl,hown5,hb5⟩
       case measure=>simp[intOf];omega
     · have hjk:j=k:=aS;subst hjk;clear hrow hS hC hmono hrd hn hown hb1;go_wp2;go_ret;exact⟨A2,_,c2,rfl,hown2,hbel⟩
