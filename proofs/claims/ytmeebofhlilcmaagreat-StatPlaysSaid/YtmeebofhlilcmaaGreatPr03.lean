/- Parts: NumB, NumC, NumD, PlainNumB, PlainNumC. -/
import Derived.Test.YtmeebofhlilcmaaGreatPr02
set_option linter.unusedVariables false
set_option linter.unusedSimpArgs false
set_option maxRecDepth 100000
set_option maxHeartbeats 0
namespace Go.Proofs.YtmeebofhlilcmaaGreat
open Go.RowKit
theorem digL_lt {f n:Nat}(h:n<128):digL f n=[UInt8.ofNat n]:=by
 cases f with
 | zero=>rfl
 | succ f=>unfold digL;rw[if_pos h]
theorem digits_u (u:Nat)(w:World)(hu:u<18446744073709551616):Ca 281 #[.int .u64 u] w fun e w'=>∃ A c,e=.returned (.slice A (digL 9 u).length c)/\OB w' w.heap.size 5 A (digL 9 u).length c (digL 9 u)/\Below w.heap.size w w':=by
 generalize hz:digL 9 u=z at *;have Hz:=aT hz;clear hz;go_enter Tryz.func281,Tryz.ntmps281;go_wp2;go_loopw [0,3] (fun nn v wr=>∃ f m A c L,Hid (f+L.length=9)/\nn=.int .u64 (m:Nat)/\v=.slice A L.length c/\Hid (L ++ digL f m=z)/\Hid (m<128 ^ (f+1))/\m<18446744073709551616/\OB wr w.heap.size 5 A L.length c L/\Below w.heap.size w wr) (fun nn _ _=>(intOf nn).toNat)
 case atStart=>exact⟨9,u,none,0,[],rfl,rfl,rfl,Hz,by show u<_;omega,hu,Ow.nil _ _ _ _,Below.refl _ _⟩
 case round=>
  obtain⟨f,m,A,c,L,hf,rfl,rfl,hL,hm,hm64,hown,hb⟩:=hrel;have hbs:=hb.size
  by_cases hbig:128<=m
  · obtain⟨f,rfl⟩:∃ k,f=k+1:=by
     cases f with
     | zero=>have:=hm.out;omega
     | succ f=>exact⟨f,rfl⟩
    have hL2:Hid ((L ++ [UInt8.ofNat (m % 128+128)]) ++ digL f (m / 128)=z):=by
     show _=_
     rw[<- hL.out];conv=>rhs;unfold digL
     rw[if_neg aS];simp
    have hm2:Hid (m / 128<128 ^ (f+1)):=by
     show m / 128<_
     have:=hm.out;rw[Nat.pow_succ] at this;omega
    have hf9:L.length<=8:=by have:=hf.out;omega
    have hlen:(L ++ [UInt8.ofNat (m % 128+128)]).length=L.length+1:=by simp
    have hbv:=aT (jf (v:=m % 128+128) aS);generalize hN:L ++ [UInt8.ofNat (m % 128+128)]=L2 at *;have HN:=aT hN;have Hlen:=aT hlen;clear hN hlen;go_wp2_with (at_builtin;refine ef rfl rfl cG da (s:=.tmp 6) (N:=L.length+1) (L:=L2) rfl (hown.below (b:=wr.heap.size) ba bq) rfl (k:=[UInt8.ofNat (m % 128+128)]) (Rd.of_block (l:=[UInt8.ofNat (m % 128+128)]) (dQ _ _ aZ) ly) rfl HN.out bU aS bq ?_;intro A5 c5 w5 hown5 hg5 hat5 hb5);replace hb5:=bM (a:=w) (B:=w.heap.size) ba hb5 bq;have hb5s:=hb5.size;go_roundw
    case rel=>exact⟨f,m / 128,A5,c5,L2,by show f+L2.length=9;have:=hf.out;rw[Hlen.out];omega,by go_num,by rw[Hlen.out],hL2,hm2,aS,by rw[Hlen.out];exact hown5,hb5⟩
    case measure=>simp[intOf];omega
  · have hL2:Hid (L ++ [UInt8.ofNat m]=z):=by
     show _=_
     rw[<- hL.out,digL_lt aS]
    have hf9:L.length<=9:=by have:=hf.out;omega
    have hlen:Hid (z.length=L.length+1):=by show _=_;rw[<- hL2.out];simp
    have hbv:=aT (jf (v:=m) aS);go_wp2_with (at_builtin;refine ef rfl rfl cG da (s:=.tmp 15) (N:=L.length+1) (L:=z) rfl (hown.below (b:=wr.heap.size) ba bq) rfl (k:=[UInt8.ofNat m]) (Rd.of_block (l:=[UInt8.ofNat m]) (dQ _ _ aZ) ly) rfl hL2.out bU aS bq ?_;intro A5 c5 w5 hown5 hg5 hat5 hb5);replace hb5:=bM (a:=w) (B:=w.heap.size) ba hb5 bq;have hb5s:=hb5.size;go_ret;rw[hlen.out];exact⟨A5,c5,rfl,hown5,hb5⟩
theorem digits_i (u:Nat)(w:World)(hu:u<9223372036854775808):Ca 303 #[I u] w fun e w'=>∃ A c,e=.returned (.slice A (digL 9 u).length c)/\OB w' w.heap.size 5 A (digL 9 u).length c (digL 9 u)/\Below w.heap.size w w':=by
 generalize hz:digL 9 u=z at *;have Hz:=aT hz;clear hz;go_enter Tryz.func303,Tryz.ntmps303;go_wp2;go_loopw [0,3] (fun nn v wr=>∃ f m A c L,Hid (f+L.length=9)/\nn=I (m:Nat)/\v=.slice A L.length c/\Hid (L ++ digL f m=z)/\Hid (m<128 ^ (f+1))/\m<9223372036854775808/\OB wr w.heap.size 5 A L.length c L/\Below w.heap.size w wr) (fun nn _ _=>(intOf nn).toNat)
 case atStart=>exact⟨9,u,none,0,[],rfl,rfl,rfl,Hz,by show u<_;omega,hu,Ow.nil _ _ _ _,Below.refl _ _⟩
 case round=>
  obtain⟨f,m,A,c,L,hf,rfl,rfl,hL,hm,hm64,hown,hb⟩:=hrel;have hbs:=hb.size
  by_cases hbig:128<=m
  · obtain⟨f,rfl⟩:∃ k,f=k+1:=by
     cases f with
     | zero=>have:=hm.out;omega
     | succ f=>exact⟨f,rfl⟩
    have hL2:Hid ((L ++ [UInt8.ofNat (m % 128+128)]) ++ digL f (m / 128)=z):=by
     show _=_
     rw[<- hL.out];conv=>rhs;unfold digL
     rw[if_neg aS];simp
    have hm2:Hid (m / 128<128 ^ (f+1)):=by
     show m / 128<_
     have:=hm.out;rw[Nat.pow_succ] at this;omega
    have hf9:L.length<=8:=by have:=hf.out;omega
    have hlen:(L ++ [UInt8.ofNat (m % 128+128)]).length=L.length+1:=by simp
    have hbv:=aT (jf (v:=m % 128+128) aS);generalize hN:L ++ [UInt8.ofNat (m % 128+128)]=L2 at *;have HN:=aT hN;have Hlen:=aT hlen;clear hN hlen;go_wp2_with (at_builtin;refine ef rfl rfl cG da (s:=.tmp 6) (N:=L.length+1) (L:=L2) rfl (hown.below (b:=wr.heap.size) ba bq) rfl (k:=[UInt8.ofNat (m % 128+128)]) (Rd.of_block (l:=[UInt8.ofNat (m % 128+128)]) (dQ _ _ aZ) ly) rfl HN.out bU aS bq ?_;intro A5 c5 w5 hown5 hg5 hat5 hb5);replace hb5:=bM (a:=w) (B:=w.heap.size) ba hb5 bq;have hb5s:=hb5.size;go_roundw
    case rel=>exact⟨f,m / 128,A5,c5,L2,by show f+L2.length=9;have:=hf.out;rw[Hlen.out];omega,by go_num,by rw[Hlen.out],hL2,hm2,aS,by rw[Hlen.out];exact hown5,hb5⟩
    case measure=>simp[intOf];omega
  · have hL2:Hid (L ++ [UInt8.ofNat m]=z):=by
     show _=_
     rw[<- hL.out,digL_lt aS]
    have hf9:L.length<=9:=by have:=hf.out;omega
    have hlen:Hid (z.length=L.length+1):=by show _=_;rw[<- hL2.out];simp
    have hbv:=aT (jf (v:=m) aS);go_wp2_with (at_builtin;refine ef rfl rfl cG da (s:=.tmp 15) (N:=L.length+1) (L:=z) rfl (hown.below (b:=wr.heap.size) ba bq) rfl (k:=[UInt8.ofNat m]) (Rd.of_block (l:=[UInt8.ofNat m]) (dQ _ _ aZ) ly) rfl hL2.out bU aS bq ?_;intro A5 c5 w5 hown5 hg5 hat5 hb5);replace hb5:=bM (a:=w) (B:=w.heap.size) ba hb5 bq;have hb5s:=hb5.size;go_ret;rw[hlen.out];exact⟨A5,c5,rfl,hown5,hb5⟩
theorem short_any (n:Nat)(w:World)(h:n<9223372036854775808):Ca 280 #[I n] w fun e w'=>∃ A c,e=.returned (.tuple #[.slice A (digL 9 n).length c,I 0])/\OB w' w.heap.size 5 A (digL 9 n).length c (digL 9 n)/\Below w.heap.size w w':=by
 have h1:¬ ((n:Nat):Int)<0:=aS;have hd:=fun w=>digits_i n w h
 go_enter Tryz.func280,Tryz.ntmps280;go_wp2_with (go_at_call 303;go_call (hd _) as e w1 ⟨A,c,rfl,hown,hb⟩);go_ret2;exact⟨A,c,rfl,hown,hb⟩
theorem u64_flip (x:Nat)(hx:x<18446744073709551616):bits .xor .u64 (x:Int) 18446744073709551615=((18446744073709551615 - x:Nat):Int):=by
 show IntKind.u64.wrap ((BitVec.ofInt 64 (x:Int) ^^^ BitVec.ofInt 64 18446744073709551615).toNat:Int)=_
 have h1:BitVec.ofInt 64 18446744073709551615=BitVec.allOnes 64:=by decide
 rw[h1,BitVec.xor_allOnes,BitVec.toNat_not,ke x hx,IntKind.wrap_u64];omega
theorem zig_bits (n:Int)(h0:-9223372036854775808<=n)(h1:n<=9223372036854775807) :
 bits .xor .u64 (IntKind.u64.wrap (IntKind.u64.wrap n * 2)) (IntKind.u64.wrap (n / 9223372036854775808))=((zz n:Nat):Int):=by
 by_cases h:0<=n
 · have e1:IntKind.u64.wrap (IntKind.u64.wrap n * 2)=(((2 * n).toNat:Nat):Int):=by simp only[IntKind.wrap_u64];omega
   have e2:IntKind.u64.wrap (n / 9223372036854775808)=((0:Nat):Int):=by simp only[IntKind.wrap_u64];omega
   rw[e1,e2,bits_xor_u64_nat _ _ aS aS,Nat.xor_zero];unfold zz;rw[if_pos h]
 · have e1:IntKind.u64.wrap (IntKind.u64.wrap n * 2)=(((2 * n+18446744073709551616).toNat:Nat):Int):=by simp only[IntKind.wrap_u64];omega
   have e2:IntKind.u64.wrap (n / 9223372036854775808)=18446744073709551615:=by simp only[IntKind.wrap_u64];omega
   rw[e1,e2,u64_flip _ aS];unfold zz;rw[if_neg h];omega
theorem zig_any (n:Int)(w:World)(h0:-9223372036854775808<=n)(h1:n<=9223372036854775807):Ca 229 #[I n] w fun e w'=>∃ A c,e=.returned (.slice A (digL 9 (zz n)).length c)/\OB w' w.heap.size 5 A (digL 9 (zz n)).length c (digL 9 (zz n))/\Below w.heap.size w w':=by
 have hd:=fun w=>digits_u (zz n) w (zz_lt h0 h1)
 have hz:=zig_bits n h0 h1;go_enter Tryz.func229,Tryz.ntmps229;go_wp2_with (go_at_call 281;go_call (hd _) as e w1 ⟨A,c,rfl,hown,hb⟩);go_ret;exact⟨A,c,rfl,hown,hb⟩
theorem oV (most k:Nat)(l:List UInt8)(h:k<l.length):cu most k (l.drop k) =
 if most<=k then (0,11) else if bw l k<128 then (if 0<k/\bw l k=0 then (0,11) else (k+1,0)) else cu most (k+1) (l.drop (k+1)):=by
 rw[aR h];have e:l[k].toNat=bw l k:=by simp[bw,ag,h]
 conv=>lhs;unfold cu
 rw[e]
theorem endsL_nil (most k:Nat)(l:List UInt8)(h:l.length<=k):cu most k (l.drop k)=(0,if k<most then 10 else 11):=by
 rw[aQ h];rfl
theorem sevL_snoc (l:List UInt8)(k:Nat)(h:k<l.length):sevL (l.take (k+1))=sevL (l.take k)+128 ^ k * (bw l k % 128):=by
 rw[mC l k h,sevL_append];have e:(l.take k).length=k:=by rw[aB];omega
 rw[e];simp[sevL,bw]
def kf (N:Nat)(z:Nat × Nat)(l:List UInt8):Nat:=if z.2=0 then sevL (l.take z.1) % N else 0
theorem read_u (A:Option Addr)(n c:Nat)(l:List UInt8)(w:World)(hl:RB w A n l)(hn:n<=maxLen) :
 Ca 286 #[.slice A n c,I 10] w fun e w'=>e=.returned (.tuple #[.int .u64 (kf 18446744073709551616 (cu 10 0 l) l:Nat),I ((cu 10 0 l).1:Nat),I ((cu 10 0 l).2:Nat)])/\w=w':=by
 unfold maxLen at hn;have hlen:=aT hl.1;generalize hz:cu 10 0 l=z at *;have Hz:=aT hz;clear hz;go_enter Tryz.func286,Tryz.ntmps286;go_wp2;go_loop [7,8,13] (fun vv oo ii=>∃ k v o,k<=n/\k<=10/\ii=I (k:Nat)/\vv=.int .u64 (v:Nat)/\oo=.int .u64 (o:Nat)/\Hid (cu 10 k (l.drop k)=z)/\Hid (k<10->o=128 ^ k/\v=sevL (l.take k))) (fun _ _ ii=>n - (intOf ii).toNat)
 case atStart=>exact⟨0,0,1,Nat.zero_le _,aS,rfl,rfl,rfl,Hz,fun _=>⟨rfl,rfl⟩⟩
 case round=>
  obtain⟨k,v,o,hk,hk10,rfl,rfl,rfl,hE,hV⟩:=hrel
  by_cases hlt:k<n
  · by_cases hmost:k<10
    · obtain⟨b,off,rfl,_,hc⟩:=hl.at_ hlt;have hcons:=aT (oV 10 k l kH);have hsnoc:=aT (sevL_snoc l k kH);have hb:=gQ l k;obtain⟨ho,hv⟩:=hV.out hmost;have Ho:=aT ho;have Hv:=aT hv;clear ho hv;have hne:(((k:Nat):Int) == 10)=false:=by rw[af];omega
      have Hc:=aT (rfl:bw l k=bw l k);generalize hy:bw l k=y at *;clear hy Hc;have e1:IntKind.u64.wrap ((o:Int) * ((y:Int) % 128))=((o * (y % 128) % 18446744073709551616:Nat):Int):=by
       rw[IntKind.wrap_u64];simp only[Int.natCast_emod,Int.natCast_mul];rfl
      have e2:IntKind.u64.wrap ((v:Int)+((o * (y % 128) % 18446744073709551616:Nat):Int))=(((v+o * (y % 128)) % 18446744073709551616:Nat):Int):=by
       rw[IntKind.wrap_u64];omega
      have e3:IntKind.u64.wrap ((o:Int) * 128)=((o * 128 % 18446744073709551616:Nat):Int):=by
       rw[IntKind.wrap_u64];omega
      have hVn:Hid ((v+o * (y % 128)) % 18446744073709551616=sevL (l.take (k+1)) % 18446744073709551616):=by
       show _=_
       rw[hsnoc.out,<- Hv.out,<- Ho.out]
      generalize hg1:o * (y % 128) % 18446744073709551616=p1 at *;generalize hg2:(v+o * (y % 128)) % 18446744073709551616=p2 at *;generalize hg3:o * 128 % 18446744073709551616=p3 at *;have Hg2:=aT hg2;have Hg3:=aT hg3;clear hg1 hg2 hg3
      by_cases h128:128<=y
      · have hE2:Hid (cu 10 (k+1) (l.drop (k+1))=z):=by
         show _=_
         rw[<- hE.out,hcons.out,if_neg aS,if_neg aS]
        have hV2:Hid (k+1<10->p3=128 ^ (k+1)/\p2=sevL (l.take (k+1))):=by
         intro hk2;have h1:128 ^ (k+1)<=128 ^ 9:=Nat.pow_le_pow_right aS aS;have h2:=sevL_lt (l.take (k+1));have h3:128 ^ (l.take (k+1)).length<=128 ^ (k+1):=Nat.pow_le_pow_right aS (List.length_take_le _ _);constructor
         · rw[<- Hg3.out,Ho.out,<- Nat.pow_succ];omega
         · rw[hVn.out];omega
        clear hVn Hg2 Hg3 Ho Hv hcons hsnoc hE hV;go_wp2;go_round
        case rel=>exact⟨k+1,p2,p3,aS,by omega,by go_num,rfl,rfl,hE2,hV2⟩
        case measure=>simp[intOf];omega
      · by_cases hform:0<k/\y=0
        · have hz:Hid (z=(0,11)):=by
           show _=_
           rw[<- hE.out,hcons.out,if_neg aS,if_pos aS,if_pos hform]
          obtain⟨hk0,hy0⟩:=hform;subst hy0;clear hVn Hg2 Hg3 Ho Hv hcons hsnoc hE hV;go_wp2;go_ret3;rw[hz.out];exact⟨rfl,rfl⟩
        · have hz:Hid (z=(k+1,0)):=by
           show _=_
           rw[<- hE.out,hcons.out,if_neg aS,if_pos aS,if_neg hform]
          have hfin:Hid (Ending.returned (.tuple #[.int .u64 ((p2:Nat):Int),I ((k:Int)+1),I 0])=Ending.returned (.tuple #[.int .u64 (kf 18446744073709551616 z l:Nat),I (z.1:Nat),I (z.2:Nat)])):=by
           show _=_
           rw[hz.out];have e:kf 18446744073709551616 (k+1,0) l=p2:=hVn.out.symm;rw[e];rfl
          have hcase:(y=0/\k=0)\/0<y:=aS;clear hVn Hg2 Hg3 Ho Hv hcons hsnoc hE hV hz hform;rcases hcase with ⟨hy0,hk0⟩ | hy0
          · have hyb:(((y:Nat):Int) == 0)=true:=by rw[beq_iff_eq];omega
            have hkb:decide ((0:Int)<(k:Int))=false:=by rw[aD];omega
            have hk1:k<=0:=aS;clear hy0 hk0;go_wp2;go_ret3;exact⟨hfin.out,rfl⟩
          · have hyb:(((y:Nat):Int) == 0)=false:=by rw[af];omega
            go_wp2;go_ret3;exact⟨hfin.out,rfl⟩
    · have hk9:k=10:=aS;subst hk9;have hz:Hid (z=(0,11)):=by
       show _=_
       rw[<- hE.out,oV 10 10 l kH,if_pos aS]
      obtain⟨b,off,rfl,_,hc⟩:=hl.at_ hlt;clear hE hV;go_wp2;go_ret3;rw[hz.out];exact⟨rfl,rfl⟩
  · have hz:Hid (z=(0,if k<10 then 10 else 11)):=by
     show _=_
     rw[<- hE.out,endsL_nil 10 k l (by rw[hlen.out];omega)]
    have hkn:k=n:=aS;subst hkn;clear hE hV
    by_cases h9:k<10
    · rw[if_pos h9] at hz;go_wp2;go_ret3;rw[hz.out];exact⟨rfl,rfl⟩
    · rw[if_neg h9] at hz;go_wp2;go_ret3;rw[hz.out];exact⟨rfl,rfl⟩
def zagE (l:List UInt8):Nat:=if (cu 10 0 l).2≠0 then (cu 10 0 l).2 else if (cu 10 0 l).1=10/\1<bw l 9 then 11 else 0
def zagS (l:List UInt8):Nat:=if zagE l=0 then (cu 10 0 l).1 else 0
def zagV (l:List UInt8):Int:=if zagE l=0 then unzz (sevL (l.take (cu 10 0 l).1)) else 0
theorem zag_err (A:Option Addr)(n c:Nat)(l:List UInt8)(w:World)(hl:RB w A n l)(hn:n<=maxLen)(he:(cu 10 0 l).2≠0) :
 Ca 240 #[.slice A n c] w fun e w'=>e=.returned (.tuple #[I 0,I 0,I ((cu 10 0 l).2:Nat)])/\w=w':=by
 have hd:=fun w=>read_u A n c l w
 generalize kf 18446744073709551616 (cu 10 0 l) l=v at *;generalize cu 10 0 l=z at *;have h1:(((z.2:Nat):Int) != 0)=true:=by rw[ah];omega
 have h2:(((z.2:Nat):Int) == 0)=false:=by rw[af];omega
 clear he;go_enter Tryz.func240,Tryz.ntmps240;go_wp2_with (go_at_call 286;go_call (hd _ hl hn) as e w' ⟨rfl,rfl⟩);go_ret3;exact⟨rfl,rfl⟩
theorem zag_big (A:Option Addr)(n c:Nat)(l:List UInt8)(w:World)(hl:RB w A n l)(hn:n<=maxLen)(hz:cu 10 0 l=(10,0))(hb:1<bw l 9) :
 Ca 240 #[.slice A n c] w fun e w'=>e=.returned (.tuple #[I 0,I 0,I 11])/\w=w':=by
 have hd:=fun w=>read_u A n c l w
 rw[hz] at hd;have hle:=(jv 10 l 0 (by rw[hz])).2.2;rw[hz] at hle;have hlen:=hl.1;have h10:10<=n:=by simp at hle;omega
 clear hz hle hlen;obtain⟨b,o,rfl,_,hc⟩:=hl.at_ (k:=9) aS;generalize kf 18446744073709551616 (10,0) l=v at *;generalize bw l 9=y at *;go_enter Tryz.func240,Tryz.ntmps240;go_wp2_with (go_at_call 286;go_call (hd _ hl hn) as e w' ⟨rfl,rfl⟩);go_ret3;exact⟨rfl,rfl⟩
theorem i64_flip (a:Nat)(ha:a<9223372036854775808):bits .xor .i64 (a:Int) (-1)=-(a:Int) - 1:=by
 show IntKind.i64.wrap ((BitVec.ofInt 64 (a:Int) ^^^ BitVec.ofInt 64 (-1)).toNat:Int)=_
 have h1:BitVec.ofInt 64 (-1)=BitVec.allOnes 64:=by decide
 rw[h1,BitVec.xor_allOnes,BitVec.toNat_not,ke a aS];simp[IntKind.wrap,IntKind.bits,IntKind.signed];omega
theorem i64_same (a:Nat)(ha:a<9223372036854775808):bits .xor .i64 (a:Int) 0=(a:Int):=by
 show IntKind.i64.wrap ((BitVec.ofInt 64 (a:Int) ^^^ BitVec.ofInt 64 ((0:Nat):Int)).toNat:Int)=_
 rw[BitVec.toNat_xor,ke a aS,ke 0 aS,Nat.xor_zero,IntKind.wrap_i64];omega
theorem zag_bits (v:Nat)(hv:v<18446744073709551616):bits .xor .i64 ((v:Int) / 2) (-((v:Int) % 2))=unzz v:=by
 unfold unzz;have e:(v:Int) / 2=((v / 2:Nat):Int):=aS
 by_cases h:v % 2=0
 · have e2:-((v:Int) % 2)=0:=aS;rw[if_pos h,e,e2,i64_same _ aS]
 · have e2:-((v:Int) % 2)=-1:=aS;rw[if_neg h,e,e2,i64_flip _ aS]
theorem zag_lt {n s:Nat}{l:List UInt8}(hlen:l.length=n)(hz:cu 10 0 l=(s,0))(hb:s≠10\/bw l 9<=1):sevL (l.take s)<18446744073709551616:=by
 have hle:=jv 10 l 0 (by rw[hz]);rw[hz] at hle;simp only[aC] at hle
 by_cases h10:s=10
 · subst h10;have hb1:bw l 9<=1:=aS;have h2:=sevL_lt (l.take 9);have h3:(l.take 9).length=9:=by rw[aB];omega
   rw[h3] at h2;rw[sevL_snoc l 9 aS];have:bw l 9 % 128<=1:=aS;have:=Nat.mul_le_mul_left (128 ^ 9) this;omega
 · have h2:=sevL_lt (l.take s);have h3:128 ^ (l.take s).length<=128 ^ 9:=Nat.pow_le_pow_right aS lD;omega
theorem zag_ok (A:Option Addr)(n c s:Nat)(l:List UInt8)(w:World)(hl:RB w A n l)(hn:n<=maxLen)(hz:cu 10 0 l=(s,0))(hb:s≠10\/bw l 9<=1) :
 Ca 240 #[.slice A n c] w fun e w'=>e=.returned (.tuple #[I (unzz (sevL (l.take s))),I s,I 0])/\w=w':=by
 have hd:=fun w=>read_u A n c l w
 have hle:=jv 10 l 0 (by rw[hz]);rw[hz] at hd hle;simp only[aC] at hle;have hlen:=hl.1;have hv:=zag_lt hl.1 hz hb;have hrv:kf 18446744073709551616 (s,0) l=sevL (l.take s):=Nat.mod_eq_of_lt hv;rw[hrv] at hd;generalize sevL (l.take s)=v at *;clear hrv;have hand:=and_one_u64 (v:Int) aS aS;have hxor:=zag_bits v hv;generalize unzz v=r at *
 by_cases h10:s=10
 · have hb1:bw l 9<=1:=aS;have h9:10<=n:=aS;have hs:(((s:Nat):Int) == 10)=true:=by rw[beq_iff_eq];omega
   clear hz hle hlen hb h10;obtain⟨b,o,rfl,_,hc⟩:=hl.at_ (k:=9) aS;generalize bw l 9=y at *;go_enter Tryz.func240,Tryz.ntmps240;go_wp2_with (go_at_call 286;go_call (hd _ hl hn) as e w' ⟨rfl,rfl⟩);go_ret3;exact⟨rfl,rfl⟩
 · have hs:(((s:Nat):Int) == 10)=false:=by rw[af];omega
   clear hz hle hlen hb h10;go_enter Tryz.func240,Tryz.ntmps240;go_wp2_with (go_at_call 286;go_call (hd _ hl hn) as e w' ⟨rfl,rfl⟩);go_ret3;exact⟨rfl,rfl⟩
theorem digL_tab (f:Nat):∀ Z,Z<128 ^ (f+1)->digL f Z=tabB (digL f Z).length (fun i=>if i+1<(digL f Z).length then Z / 128 ^ i % 128+128 else Z / 128 ^ i % 128):=by
 induction f with
 | zero=>intro Z h;simp[digL,tabB,show Z % 128=Z from by omega]
 | succ f ih=>
   intro Z h
   by_cases hz:Z<128
   · have:digL (f+1) Z=[UInt8.ofNat Z]:=mR hz;rw[this];simp[tabB,show Z % 128=Z from by omega]
   · have hl:=(gw f (Z / 128)).2;have e:=ih (Z / 128) (by rw[Nat.pow_succ] at h;omega);have hd:digL (f+1) Z=UInt8.ofNat (Z % 128+128) :: digL f (Z / 128):=by
      conv=>lhs;unfold digL
      rw[if_neg hz]
     rw[hd];simp only[aE]
     conv=>lhs;rw[e]
     unfold tabB;rw[List.range_succ_eq_map,List.map_cons,List.map_map]
     congr 1
     · dsimp only;rw[if_pos aS];simp
     · apply List.map_congr_left;intro i _;simp only[Function.comp,Nat.succ_eq_add_one,Nat.add_lt_add_iff_right];rw[Nat.div_div_eq_div_mul,Nat.pow_succ,Nat.mul_comm 128]
theorem kg {v:Nat}(h:v<256):(UInt8.ofNat v).toNat=v:=UInt8.toNat_ofNat_of_lt' kG
theorem endsL_dig (f:Nat):∀ (i most Z:Nat) (more:List UInt8),i+(digL f Z).length<=most->(0<i->0<Z)->Z<128 ^ (f+1)->cu most i (digL f Z ++ more)=(i+(digL f Z).length,0):=by
 induction f with
 | zero=>
   intro i most Z more h1 h2 h3;simp only[digL,aF] at h1 ⊢;simp only[List.singleton_append,cu];rw[if_neg aS,kg aS,if_pos aS,if_neg aS]
 | succ f ih=>
   intro i most Z more h1 h2 h3
   by_cases hz:Z<128
   · have e:digL (f+1) Z=[UInt8.ofNat Z]:=by conv=>lhs;unfold digL
                                             rw[if_pos hz]
     rw[e] at h1 ⊢;simp only[aF] at h1 ⊢;simp only[List.singleton_append,cu];rw[if_neg aS,kg aS,if_pos aS,if_neg aS]
   · have e:digL (f+1) Z=UInt8.ofNat (Z % 128+128) :: digL f (Z / 128):=by conv=>lhs;unfold digL
                                                                           rw[if_neg hz]
     rw[e] at h1 ⊢;simp only[aE] at h1 ⊢;have hp:Z / 128<128 ^ (f+1):=by rw[Nat.pow_succ] at h3;omega
     simp only[List.cons_append,cu];rw[if_neg aS,kg aS,if_neg aS,ih (i+1) most (Z / 128) more aS aS hp]
     congr 1;omega
theorem sevL_dig (f:Nat):∀ Z,Z<128 ^ (f+1)->sevL (digL f Z)=Z:=by
 induction f with
 | zero=>intro Z h;simp only[digL,sevL];rw[kg aS];omega
 | succ f ih=>
   intro Z h
   by_cases hz:Z<128
   · rw[mR hz];simp only[sevL];rw[kg aS];omega
   · have e:digL (f+1) Z=UInt8.ofNat (Z % 128+128) :: digL f (Z / 128):=by conv=>lhs;unfold digL
                                                                           rw[if_neg hz]
     rw[e];simp only[sevL];rw[kg aS,ih _ (by rw[Nat.pow_succ] at h;omega)];omega
theorem dig_sevL (most:Nat)(l:List UInt8):∀ (i k f:Nat),cu most i l=(i+k,0)->k<=f+1->digL f (sevL (l.take k))=l.take k/\(0<i->0<sevL (l.take k)):=by
 induction l with
 | nil=>intro i k f h hk;simp[cu] at h;have:=h.2;split at this <;> omega
 | cons c l ih=>
   intro i k f h hk;have hc:=c.toNat_lt;have hle:=jv most (c :: l) i (by rw[h]);rw[h] at hle;simp only at hle;unfold cu at h
   by_cases h1:most<=i
   · simp[h1] at h
   · rw[if_neg h1] at h
     by_cases h2:c.toNat<128
     · rw[if_pos h2] at h
       by_cases h3:0<i/\c.toNat=0
       · rw[if_pos h3] at h;simp at h
       · rw[if_neg h3] at h;have hk1:k=1:=by have:=congrArg Prod.fst h;simp only at this;omega
         subst hk1;have e:sevL ((c :: l).take 1)=c.toNat:=by simp[sevL];omega
         rw[e,mR h2];refine⟨by simp,fun hi=>by omega⟩
     · rw[if_neg h2] at h;obtain⟨k,rfl⟩:∃ j,k=j+1:=⟨k - 1,aS⟩;have hle2:=jv most l (i+1) (by rw[h]);rw[h] at hle2;simp only at hle2;obtain⟨f,rfl⟩:∃ j,f=j+1:=⟨f - 1,aS⟩;have h4:=ih (i+1) k f (by rw[h];congr 1;omega) aS;have h5:=h4.2 aS;have e:sevL ((c :: l).take (k+1))=c.toNat % 128+128 * sevL (l.take k):=by simp[sevL]
       rw[e];refine⟨?_,fun _=>by omega⟩;have e2:∀ Z,¬ Z<128->digL (f+1) Z=UInt8.ofNat (Z % 128+128) :: digL f (Z / 128):=fun Z hZ=>by
        conv=>lhs;unfold digL
        rw[if_neg hZ]
       rw[e2 _ aS,List.take_succ_cons,show (c.toNat % 128+128 * sevL (l.take k)) / 128=sevL (l.take k) from by omega,h4.1]
       congr 1
       rw[show (c.toNat % 128+128 * sevL (l.take k)) % 128+128=c.toNat from by omega];simp
theorem digL_ten (Z:Nat)(h:Z<18446744073709551616)(more:List UInt8):(digL 9 Z).length≠10\/bw (digL 9 Z ++ more) 9<=1:=by
 by_cases hl:(digL 9 Z).length=10
 · refine .inr ?_;have e:=digL_tab 9 Z aS;rw[hl] at e;have e2:bw (digL 9 Z ++ more) 9=bw (digL 9 Z) 9:=by
    unfold bw;rw[ag,ag,aO aS]
   rw[e2,e,tabB_at _ aS cH];simp;omega
 · exact .inl hl
end Go.Proofs.YtmeebofhlilcmaaGreat
