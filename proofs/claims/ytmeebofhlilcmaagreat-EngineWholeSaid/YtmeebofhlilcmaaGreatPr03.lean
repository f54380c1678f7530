/- Parts. -/
import Derived.Test.YtmeebofhlilcmaaGreatPr02
set_option linter.unusedVariables false
set_option linter.unusedSimpArgs false
set_option maxRecDepth 100000
set_option maxHeartbeats 0
namespace Go.Proofs.YtmeebofhlilcmaaGreat
variable {w:World}
open Go.RowKit
theorem intAt_inj {l m:List Int}(h:l.length=m.length)(hall:∀ i,i<l.length->aZ l i=aZ m i):l=m:=by
 apply List.ext_getElem h;intro i h1 h2;have:=hall i h1;simpa [aZ,ah,h1,h2] using this
theorem ints_any (A B:Option Addr)(n m c d:Nat)(l k:List Int)(w:World)(ha:RI w A n l)(hb:RI w B m k)(hn:n<=maxLen) :
 Ca 95 #[.slice A n c,.slice B m d] w fun e w'=>e=.returned (.bool (decide (l=k)))/\∃ q,w'=w.drewN q:=by
 unfold maxLen at hn
 by_cases hnm:n=m
 · subst hnm;have hlen:=ha.1.trans hb.1.symm;have hl:=aT ha.1;have hk:=aT hlen;have hnn:(((n:Nat):Int) != (n:Int))=false:=by simp
   clear hlen;generalize hz:decide (l=k)=z;have Hz:=aT hz;clear hz;go_enter Tryz.func95,Tryz.ntmps95;go_wp2;go_loopw [5] (fun i wr=>∃ j q,j<=n/\i=I (j:Nat)/\Hid (∀ i,i<j->aZ l i=aZ k i)/\wr=w.drewN q) (fun i _=>n - (intOf i).toNat)
   case atStart=>exact⟨0,0,Nat.zero_le _,rfl,fun i hi=>absurd hi aS,rfl⟩
   case round=>
    obtain⟨j,q,hj,rfl,hall,rfl⟩:=hrel
    by_cases hlt:j<n
    · obtain⟨b0,o0,rfl,_,hc0⟩:=ha.at_ hlt;obtain⟨b1,o1,rfl,_,hc1⟩:=hb.at_ hlt;have hlt':(j:Int)<n:=aS
      by_cases heq:aZ l j=aZ k j
      · have hE:=aT heq;have hne:((aZ l j) != (aZ k j))=false:=by simp[heq]
        clear heq;go_wp2;go_quiet (fail);go_wp2;go_roundw
        case rel=>
         refine⟨j+1,q+nq,aS,by go_num,fun i hi=>?_,rfl⟩;rcases aw i j with h | h
         · exact hall.out i h
         · rw[show i=j from by omega];exact hE.out
        case measure=>simp[intOf];omega
      · have hE:=aT heq;have hne:((aZ l j) != (aZ k j))=true:=by
         rw[af];exact heq
        clear heq;go_wp2;go_quiet (fail);go_wp2;go_ret;refine⟨cO ?_,q+nq,World.drewN_drewN _ _ _⟩;rw[<- Hz.out,eq_comm,aD];rintro rfl;exact hE.out rfl
    · go_wp2;go_ret;refine⟨cO ?_,_,rfl⟩;rw[<- Hz.out,eq_comm,aq];exact intAt_inj hk.out (fun i hi=>hall.out i (by have:=hl.out;omega))
 · have hne:(((n:Nat):Int) != (m:Int))=true:=by rw[af];omega
   have hz:decide (l=k)=false:=by
    rw[aD];rintro rfl;exact hnm (ha.1.symm.trans hb.1)
   rw[hz];clear hz hnm;go_enter Tryz.func95,Tryz.ntmps95;go_wp2;go_ret;exact⟨rfl,0,rfl⟩
structure SV where
 tick:Int
 hash:Int
 cells:List Int
def eY (p:PV)(s:SV):Bool:=mayB p && ((decide (0<=s.tick) && decide (0<=s.hash)) && (decide (s.cells.length=p.cells.length) && allK p.cells.length (fun i=>okAt (cK p.cells i).1 (aZ s.cells i))))
theorem jR {p:PV}{s:SV}:eY p s=true ↔ mayB p=true/\0<=s.tick/\0<=s.hash/\s.cells.length=p.cells.length/\∀ i,i<p.cells.length->okAt (cK p.cells i).1 (aZ s.cells i)=true:=by
 unfold eY;simp only[av,jg,aq];constructor
 · rintro ⟨h1,⟨h2,h3⟩,h4,h5⟩;exact⟨h1,h2,h3,h4,h5⟩
 · rintro ⟨h1,h2,h3,h4,h5⟩;exact⟨h1,⟨h2,h3⟩,h4,h5⟩
theorem blk3 {g:Nat}{t:TypeId}{v0 v1 v2:Value}(h:Blk w g t [v0,v1,v2]):w.cell? ⟨g,0,none⟩=some v0/\w.cell? ⟨g,1,none⟩=some v1/\w.cell? ⟨g,2,none⟩=some v2:=⟨h.cell 0,h.cell 1,h.cell 2⟩
theorem nX (x:PA)(p:PV)(tick hash:Int)(B:Option Addr)(m d:Nat)(l:List Int)(w:World)(h:ca w x p)(hl:RI w B m l)(hm:m<=maxLen) :
 Ca 233 #[.agg #[.slice x.A1 x.n1 x.c1,.slice x.A2 x.n2 x.c2,I p.regs,.slice x.A3 x.n3 x.c3,.slice x.A4 x.n4 x.c4],.agg #[I tick,I hash,.slice B m d]] w
  fun e w'=>e=.returned (.bool (eY p ⟨tick,hash,l⟩))/\Below w.heap.size w w':=by
 have hmay:=fun w h=>j9 x p w h
 have hI:=@jR p ⟨tick,hash,l⟩;generalize eY p ⟨tick,hash,l⟩=z at *;have hsub:=h;obtain⟨r1,r2,r3,r4,k1,k2,k3,k4⟩:=h;obtain⟨A1,n1,c1,A2,n2,c2,A3,n3,c3,A4,n4,c4⟩:=x;obtain⟨ins,outs,regs,cells,code⟩:=p;simp only at r1 r2 r3 r4 k1 k2 k3 k4 hmay hI ⊢;rw[r3.1,hl.1] at hI;have HI:=aT hI;clear hI;have HF:¬ (mayB ⟨ins,outs,regs,cells,code⟩=true/\0<=tick/\0<=hash/\m=n3)->Hid (z=false):=fun h=>by
  show z=false
  rw[Bool.eq_false_iff];intro hc;obtain⟨a1,a2,a3,a4,_⟩:=HI.out.1 hc;exact h ⟨a1,a2,a3,a4⟩
 have HF:=aT HF;have M3:n3<=9223372036854775807:=by have:=k3.1;have:=k3.2;unfold maxLen at this;omega
 have M4:m<=9223372036854775807:=by unfold maxLen at hm;omega
 clear k1 k2 k3 k4 r1 r2 r4 hm;have hp0:Blk ((w.alloc (.cells #[.slice A1 n1 c1,.slice A2 n2 c2,I regs,.slice A3 n3 c3,.slice A4 n4 c4] 26)).alloc (.cells #[I tick,I hash,.slice B m d] 139)) w.heap.size 26 [.slice A1 n1 c1,.slice A2 n2 c2,I regs,.slice A3 n3 c3,.slice A4 n4 c4]:=bK;have hs0:Blk ((w.alloc (.cells #[.slice A1 n1 c1,.slice A2 n2 c2,I regs,.slice A3 n3 c3,.slice A4 n4 c4] 26)).alloc (.cells #[I tick,I hash,.slice B m d] 139)) (w.heap.size+1) 139 [I tick,I hash,.slice B m d]:=bK
 cases hmb:mayB ⟨ins,outs,regs,cells,code⟩ with
 | false=>
   have hz:=HF.out (by rw[hmb];simp);rw[hmb] at hmay;clear hmb HF HI hp0 hs0;go_enter Tryz.func233,Tryz.ntmps233;go_wp2_with ((go_at_call 153;go_call (hmay _ (hsub.below (b:=w.heap.size) bc aW)) as e w1 ⟨rfl,hb1⟩);replace hb1:=bH (a:=w) (B:=w.heap.size) bc hb1 be;have hb1s:=hb1.size);go_ret;exact⟨cO hz.out.symm,bc⟩
 | true=>
   rw[hmb] at hmay;have Hmb:=aT hmb;rcases (show tick<0\/(0<=tick/\hash<0)\/(0<=tick/\0<=hash/\m≠n3)\/(0<=tick/\0<=hash/\m=n3) by omega) with h | h | h | h
   case inr.inr.inr=>
    obtain⟨h1,h2,rfl⟩:=h;have f3:(((m:Nat):Int) != (m:Int))=false:=by simp
    have HZ:Hid (z=true ↔ ∀ i,i<m->okAt (cK cells i).1 (aZ l i)=true):=by
     have h9:=HI.out
     show _ ↔ _
     constructor
     · intro h;exact (h9.1 h).2.2.2.2
     · intro h;exact h9.2 ⟨Hmb.out,h1,h2,rfl,h⟩
    clear HF HI hmb;go_enter Tryz.func233,Tryz.ntmps233;go_wp2_with ((go_at_call 153;go_call (hmay _ (hsub.below (b:=w.heap.size) bc aW)) as e w1 ⟨rfl,hb1⟩);have hp1:=hp0.below (w':=w1) hb1 hp0.lt;have hs1:=hs0.below (w':=w1) hb1 hs0.lt;obtain⟨g0,g1,g2,g3,g4⟩:=blk5 hp1;obtain⟨j0,j1,j2⟩:=blk3 hs1;replace hb1:=bH (a:=w) (B:=w.heap.size) bc hb1 be;have hb1s:=hb1.size);clear hp0 hs0;have sz1:=hs1.lt;go_loopw [32] (fun i wr=>∃ k:Nat,k<=m/\i=I (k:Nat)/\Hid (∀ i,i<k->okAt (cK cells i).1 (aZ l i)=true)/\Below w.heap.size w wr/\w.heap.size+1<wr.heap.size /\
     Blk wr (w.heap.size+1) 139 [I tick,I hash,.slice B m d]) (fun i _=>m - (intOf i).toNat)
    case atStart=>exact⟨0,aS,rfl,fun i hi=>absurd hi aS,hb1,sz1,hs1⟩
    case round=>
     clear hp1 hs1 g0 g1 g2 g3 g4 j0 j1 j2 hb1 hb1s sz1;obtain⟨k,hk,rfl,hall,hbel,hsz,hblk⟩:=hrel;obtain⟨j0,j1,j2⟩:=blk3 hblk
     by_cases hlt:k<m
     · have hne:¬ (m:Int)<=(k:Int):=aS;obtain⟨b,o,x,rfl,hb,hx,hc⟩:=(r3.below hbel aW).at_ im aS hlt;have e0:wr.cell? ⟨b,o+k * 2,none⟩=some (I x.1):=hc 0 aS;have e1:wr.cell? ⟨b,o+k * 2+1,none⟩=some (I x.2):=hc 1 aS;obtain⟨b2,o2,rfl,hb2,hc2⟩:=(hl.below hbel aW).at_ hlt;have hxk:=aT (jp hx);clear hc hx;obtain⟨t,f⟩:=x;simp only at e0 e1
       cases hvb:okAt t (aZ l k) with
       | true=>
         have hall':Hid (∀ i,i<k+1->okAt (cK cells i).1 (aZ l i)=true):=fun i hi=>by
          rcases aw i k with h | h
          · exact hall.out i h
          · rw[show i=k from by omega,hxk.out];exact hvb
         have h12:=jO.1 hvb;clear hvb hall
         by_cases ht:t=2
         · have h12':=h12 ht;subst ht;clear h12;rcases h12' with h9 | h9
           all_goals
            rw[h9] at hc2;clear h9;go_wp2;go_roundw
            case rel=>exact⟨k+1,aS,by go_num,hall',bc,by simp;omega,bK⟩
            case measure=>simp[intOf];omega
         · have bt:(t == 2)=false:=by rw[ae];exact ht
           clear ht h12;go_wp2;go_roundw
           case rel=>exact⟨k+1,aS,by go_num,hall',bc,by simp;omega,bK⟩
           case measure=>simp[intOf];omega
       | false=>
         have hz:Hid (z=false):=by
          show z=false
          rw[Bool.eq_false_iff];intro hc;have h9:=HZ.out.1 hc k hlt;rw[hxk.out,hvb] at h9
          cases h9
         obtain⟨h5,h6,h7⟩:=mC.1 hvb;have b6:(aZ l k != 0)=true:=by rw[af];exact h6
         have b7:(aZ l k != 1)=true:=by rw[af];exact h7
         subst h5;clear hvb hall h6 h7;generalize aZ l k=v at *;go_wp2;go_ret;exact⟨cO hz.out.symm,bc⟩
     · have hkn:k=m:=aS;subst hkn;have hge:(k:Int)<=(k:Int):=aS;have hz:Hid (z=true):=HZ.out.2 hall.out;clear HZ hall;go_wp2;go_ret;exact⟨cO hz.out.symm,hbel⟩
   case' inl=>have hz:=HF.out aS
   case' inr.inl=>
    have hz:=HF.out aS;obtain⟨h1,h2⟩:=h
   case' inr.inr.inl=>
    have hz:=HF.out aS;obtain⟨h1,h2,h3⟩:=h;have f3:(((m:Nat):Int) != (n3:Int))=true:=by rw[af];omega
   all_goals
    clear HF HI hmb;go_enter Tryz.func233,Tryz.ntmps233;go_wp2_with ((go_at_call 153;go_call (hmay _ (hsub.below (b:=w.heap.size) bc aW)) as e w1 ⟨rfl,hb1⟩);have hp1:=hp0.below (w':=w1) hb1 hp0.lt;have hs1:=hs0.below (w':=w1) hb1 hs0.lt;obtain⟨g0,g1,g2,g3,g4⟩:=blk5 hp1;obtain⟨j0,j1,j2⟩:=blk3 hs1;replace hb1:=bH (a:=w) (B:=w.heap.size) bc hb1 be;have hb1s:=hb1.size);go_ret;exact⟨cO nI,bc⟩
theorem bit_un (n:Int)(k:Nat)(hk:k<64):((bit (un n) k:Nat):Int)=n / 2 ^ k % 2:=by
 unfold bit un;have h1:((n % 18446744073709551616).toNat:Int)=n % 18446744073709551616:=Int.toNat_of_nonneg aS;rw[Int.natCast_emod,Int.natCast_ediv,h1];have h2:(18446744073709551616:Int)=2 ^ k * 2 ^ (64 - k):=by
  rw[<- Int.pow_add,show k+(64 - k)=64 from by omega];rfl
 have h3:(2:Int) ^ (64 - k)=2 * 2 ^ (63 - k):=by
  rw[show 64 - k=(63 - k)+1 from by omega,Int.pow_succ,Int.mul_comm]
 have h4:n % 18446744073709551616=n - 18446744073709551616 * (n / 18446744073709551616):=aS;have hp:(2:Int) ^ k≠0:=by
  have:(0:Int)<2 ^ k:=Int.pow_pos aS;omega
 generalize hq:n / 18446744073709551616=q at *;rw[h4,h2,h3];have e:n - 2 ^ k * (2 * 2 ^ (63 - k)) * q=n+2 ^ k * (-(2 * (2 ^ (63 - k) * q))):=by
  rw[Int.mul_neg,<- Int.mul_assoc,<- Int.mul_assoc,<- Int.mul_assoc];omega
 rw[e];have e2:(((2 ^ k:Nat):Int))=2 ^ k:=by simp
 rw[e2,Int.add_mul_ediv_left _ _ hp];have:((2:Nat):Int)=2:=rfl;rw[this];generalize 2 ^ (63 - k) * q=z;omega
theorem tm2 (x:Int)(h:x<0):x.tmod 2=-((-x) % 2):=by
 have e:=Int.neg_tmod (-x) 2;rw[Int.neg_neg,show (-x).tmod 2=(-x) % 2 from Int.tmod_eq_emod_of_nonneg aS] at e;exact e
theorem td2 (x:Int)(h:x<0):x.tdiv 2=-((-x) / 2):=by
 have e:=Int.neg_tdiv (-x) 2;rw[Int.neg_neg,show (-x).tdiv 2=(-x) / 2 from Int.tdiv_eq_ediv_of_nonneg aS] at e;exact e
theorem bit_any (n:Int)(k:Nat)(w:World)(h0:-9223372036854775808<=n)(h1:n<=9223372036854775807)(hk:k<64) :
 Ca 250 #[I n,I k] w fun e w'=>e=.returned (I (bit (un n) k:Nat))/\w=w':=by
 have hbit:=aT (bit_un n k hk);generalize bit (un n) k=z at *;have Hn:=aT (rfl:n=n);go_enter Tryz.func250,Tryz.ntmps250;go_wp2;go_loop [0,5] (fun xx ii=>∃ j x,j<=k/\ii=I (j:Nat)/\xx=I (x:Int)/\Hid (x=n / 2 ^ j)/\-9223372036854775808<=x/\x<=9223372036854775807) (fun _ ii=>k - (intOf ii).toNat)
 case atStart=>exact⟨0,n,Nat.zero_le _,rfl,rfl,by show n=n / 2 ^ 0;simp,h0,h1⟩
 case round=>
  obtain⟨j,x,hj,rfl,rfl,hx,hx0,hx1⟩:=hrel
  by_cases hlt:j<k
  · have hx2:Hid (x / 2=n / 2 ^ (j+1)):=by
     show _=_
     rw[hx.out,Int.pow_succ,Int.ediv_ediv_of_nonneg (by have:(0:Int)<2 ^ j:=Int.pow_pos aS;omega)]
    by_cases hpos:0<=x
    · have hn:¬ x<0:=aS;have b1:-9223372036854775808<=x / 2/\x / 2<=9223372036854775807:=aS;go_wp2;go_round
      case rel=>exact⟨j+1,x / 2,aS,by go_num,rfl,hx2,b1.1,b1.2⟩
      case measure=>simp[intOf];omega
    · have hn:x<0:=aS
      by_cases hodd:x % 2=1
      · have e1:(x.tmod 2 != 0)=true:=by rw[af,tm2 x hn];omega
        have hx0':-9223372036854775807<=x:=aS;have e2:(x - 1).tdiv 2=x / 2:=by rw[td2 _ aS];omega
        have b1:-9223372036854775808<=x / 2/\x / 2<=9223372036854775807:=aS;clear hodd;go_wp2;go_round
        case rel=>exact⟨j+1,x / 2,aS,by go_num,rfl,hx2,b1.1,b1.2⟩
        case measure=>simp[intOf];omega
      · have e1:(x.tmod 2 != 0)=false:=by rw[bne_eq_false_iff_eq,tm2 x hn];omega
        have e2:x.tdiv 2=x / 2:=by rw[td2 _ aS];omega
        have b1:-9223372036854775808<=x / 2/\x / 2<=9223372036854775807:=aS;clear hodd;go_wp2;go_round
        case rel=>exact⟨j+1,x / 2,aS,by go_num,rfl,hx2,b1.1,b1.2⟩
        case measure=>simp[intOf];omega
  · have hjk:j=k:=aS;subst hjk;have hfin:Hid ((z:Int)=x % 2):=by show _=_;rw[hbit.out,hx.out]
    have hz:x.tmod 2=0\/(x.tmod 2 == 0)=false:=by
     by_cases h:x.tmod 2=0
     · exact .inl h
     · exact .inr (by rw[ae];exact h)
    have hp:x % 2=0 ↔ x.tmod 2=0:=by
     by_cases hpos:0<=x
     · rw[Int.tmod_eq_emod_of_nonneg hpos]
     · rw[tm2 x aS];omega
    by_cases h2:x % 2=0
    · have e0:(x.tmod 2 == 0)=true:=by rw[beq_iff_eq];exact hp.1 h2
      have e0':(x % 2 == 0)=true:=by rw[beq_iff_eq];exact h2
      have hf:Hid ((z:Int)=0):=by show _=_;rw[hfin.out];exact h2
      clear hp hz h2 hfin;go_wp2;go_ret;exact⟨jI hf.out.symm,rfl⟩
    · have e0:(x.tmod 2 == 0)=false:=by rw[ae];intro h;exact h2 (hp.2 h)
      have e0':(x % 2 == 0)=false:=by rw[ae];exact h2
      have hf:Hid ((z:Int)=1):=by show _=_;rw[hfin.out];omega
      clear hp hz h2 hfin;go_wp2;go_ret;exact⟨jI hf.out.symm,rfl⟩
theorem lL (n:Int)(w:World)(h0:-9223372036854775808<=n)(h1:n<=9223372036854775807) :
 Ca 183 #[I n] w fun e w'=>∃ A c,e=.returned (.slice A 64 c)/\Ow iv w' w.heap.size 3 A 64 c (tab 64 (bit (un n)))/\Below w.heap.size w w':=by
 have hbit:=fun k w=>bit_any n k w h0 h1
 generalize un n=U at *;go_enter Tryz.func183,Tryz.ntmps183;go_wp2;go_loopw [3,4] (fun v i wr=>∃ k A c,k<=64/\i=I (k:Nat)/\v=.slice A k c/\Ow iv wr w.heap.size 3 A k c (tab k (bit U))/\Below w.heap.size w wr) (fun _ i _=>64 - (intOf i).toNat)
 case atStart=>exact⟨0,none,0,aS,rfl,rfl,Ow.nil _ _ _ _,Below.refl _ _⟩
 case round=>
  obtain⟨k,A,c,hk,rfl,rfl,hown,hb⟩:=hrel;have hbs:=hb.size
  by_cases hk64:k<64
  · go_wp2_with (first | (go_at_call 250;go_call (hbit k _ hk64) as e w' ⟨rfl,rfl⟩) | (at_builtin;refine dw rfl rfl dS eS (s:=.tmp 9) (N:=k+1) (L:=tab (k+1) (bit U)) rfl (hown.below (b:=wr.heap.size) bc be) rfl (k:=[((bit U k:Nat):Int)]) (Rd.of_block (l:=[((bit U k:Nat):Int)]) (dr _ _ ba) rfl) rfl (kV k (bit U)) bM aS be ?_;intro A5 c5 w5 hown5 hg5 hat5 hb5));replace hb5:=bH (a:=w) (B:=w.heap.size) bc hb5 be;have hb5s:=hb5.size;go_roundw
    case rel=>exact⟨k+1,A5,c5,aS,by go_num,rfl,hown5,hb5⟩
    case measure=>simp[intOf];omega
  · have hk9:k=64:=aS;subst hk9;go_wp2;go_ret;exact⟨A,c,rfl,hown,hb⟩
theorem RI.tab_cell {b o n:Nat}{f:Nat->Nat}(h:RI w (some ⟨b,o,none⟩) n (tab n f)){k:Nat}(hk:k<n):w.cell? ⟨b,o+k,none⟩=some (I (f k:Nat)):=by
 obtain⟨b',o',hA,_,hc⟩:=h.at_ hk;injection hA with hA;injection hA with h1 h2 _;subst h1 h2;rw[hc,tab_at f hk]
theorem RI.addr {A:Option Addr}{n:Nat}{l:List Int}(h:RI w A n l)(hn:0<n):∃ b o,A=some ⟨b,o,none⟩/\b<w.heap.size:=by
 obtain⟨b,o,hA,hb,_⟩:=h.at_ hn;exact⟨b,o,hA,hb⟩
theorem pI (A:Option Addr)(c U:Nat)(w:World)(hU:U<18446744073709551616)(hl:RI w A 64 (tab 64 (bit U))) :
 Ca 185 #[.slice A 64 c] w fun e w'=>e=.returned (I (sg U))/\w=w':=by
 obtain⟨b,o,rfl,hb⟩:=hl.addr aS;have h63:=hl.tab_cell (k:=63) aS;have hcell:∀ k,k<64->Hid (w.cell? ⟨b,o+k,none⟩=some (I (bit U k:Nat))):=fun k hk=>hl.tab_cell hk
 have hz:Hid (sg U=if bit U 63=1 then ((U % 9223372036854775808:Nat):Int) - 4611686018427387904 - 4611686018427387904 else ((U % 9223372036854775808:Nat):Int)):=by
  show _=_
  unfold sg bit;have:(2:Nat) ^ 63=9223372036854775808:=rfl;rw[this]
  split <;> split <;> omega
 generalize sg U=z at *;go_enter Tryz.func185,Tryz.ntmps185;go_wp2;go_loop [3,4] (fun vv kk=>∃ m v,m<=63/\kk=I (62 - (m:Nat))/\vv=I (v:Nat)/\Hid (v=U % 9223372036854775808 / 2 ^ (63 - m))/\v<=9223372036854775807) (fun _ kk=>(intOf kk+1).toNat)
 case atStart=>exact⟨0,0,aS,rfl,rfl,by show 0=_;omega,aS⟩
 case round=>
  obtain⟨m,v,hm,rfl,rfl,hv,hv2⟩:=hrel
  by_cases hm63:m<63
  · have hc:=(hcell (62 - m) aS).out;have hv3:Hid (2 * v+bit U (62 - m)=U % 9223372036854775808 / 2 ^ (63 - (m+1))):=by
     show _=_
     have e1:bit U (62 - m)=U % 9223372036854775808 / 2 ^ (62 - m) % 2:=by
      have e:(9223372036854775808:Nat)=2 ^ (62 - m) * 2 ^ (m+1):=by rw[<- Nat.pow_add,show 62 - m+(m+1)=63 from by omega]
      unfold bit;rw[e,Nat.mod_mul_right_div_self,Nat.pow_succ,Nat.mod_mul_left_mod]
     rw[hv.out,show 63 - m=(62 - m)+1 from by omega,show 63 - (m+1)=62 - m from by omega,Nat.pow_succ,<- Nat.div_div_eq_div_mul,e1];omega
    have hv4:2 * v+bit U (62 - m)<=9223372036854775807:=by
     rw[hv3.out];have:=Nat.div_le_self (U % 9223372036854775808) (2 ^ (63 - (m+1)));omega
    generalize bit U (62 - m)=y at *;clear hcell h63;go_wp2;go_round
    case rel=>exact⟨m+1,2 * v+y,aS,by go_num,by go_num,hv3,hv4⟩
    case measure=>simp[intOf];omega
  · have hm9:m=63:=aS;subst hm9;have hv3:Hid (v=U % 9223372036854775808):=by show _=_;rw[hv.out];simp
    have hbl:=gR U 63;clear hcell hv;generalize bit U 63=t at *
    by_cases ht:t=1
    · subst ht;have hz2:Hid (z=(v:Int) - 4611686018427387904 - 4611686018427387904):=by show _=_;rw[hz.out,hv3.out];rfl
      go_wp2;go_ret;exact⟨jI hz2.out.symm,rfl⟩
    · have ht0:(((t:Nat):Int) == 1)=false:=by rw[ae];omega
      have hz2:Hid (z=(v:Int)):=by show _=_;rw[hz.out,hv3.out,if_neg ht]
      clear ht hz;go_wp2;go_ret;exact⟨jI hz2.out.symm,rfl⟩
def nBs (n:Int):List UInt8:=putL (un n)
theorem jS (n:Int):(nBs n).length=8:=jf _
def stBs (s:SV):List UInt8:=nBs s.tick ++ nBs s.hash ++ s.cells.flatMap nBs
theorem statewrite_row (x:PA)(p:PV)(tick hash:Int)(B:Option Addr)(m d:Nat)(l:List Int)(w:World)(h:ca w x p)(hl:RI w B m l)(hm:m<=maxLen)(hmb:mayB p=true)(hf:eY p ⟨tick,hash,l⟩=false) :
 Ca 263 #[.agg #[.slice x.A1 x.n1 x.c1,.slice x.A2 x.n2 x.c2,I p.regs,.slice x.A3 x.n3 x.c3,.slice x.A4 x.n4 x.c4],.agg #[I tick,I hash,.slice B m d]] w fun e w'=>e=.returned (.tuple #[.slice none 0 0,I 41])/\Below w.heap.size w w':=by
 have hmay:=fun w h=>j9 x p w h
 have hfit:=fun w h k=>nX x p tick hash B m d l w h k hm
 rw[hmb] at hmay;rw[hf] at hfit;clear hmb hf;go_enter Tryz.func263,Tryz.ntmps263;go_wp2_with (first | ((go_at_call 153;go_call (hmay _ (h.below (b:=w.heap.size) bc aW)) as e w1 ⟨rfl,hb1⟩);have hp1:=Blk.below (w':=w1) (g:=w.heap.size) (t:=26) (cs:=[.slice x.A1 x.n1 x.c1,.slice x.A2 x.n2 x.c2,I p.regs,.slice x.A3 x.n3 x.c3,.slice x.A4 x.n4 x.c4]) bK hb1 be;have hs1:=Blk.below (w':=w1) (g:=w.heap.size+1) (t:=139) (cs:=[I tick,I hash,.slice B m d]) bK hb1 be;obtain⟨y10,y11,y12,y13,y14⟩:=blk5 hp1;obtain⟨j10,j11,j12⟩:=blk3 hs1;have sz1:=hs1.lt;have rs1:=hb1.size;replace hb1:=bH (a:=w) (B:=w.heap.size) bc hb1 be;have hb1s:=hb1.size) | ((go_at_call 233;go_call (hfit _ (h.below (b:=w.heap.size) bc aW) (hl.below (B:=w.heap.size) bc aW)) as e w2 ⟨rfl,hb2⟩);replace hb2:=bH (a:=w) (B:=w.heap.size) bc hb2 be;have hb2s:=hb2.size));go_ret2;exact⟨rfl,bc⟩
theorem statewrite_ok (x:PA)(p:PV)(tick hash:Int)(B:Option Addr)(m d:Nat)(l:List Int)(w:World)(h:ca w x p)(hl:RI w B m l)(hm:m<=maxLen)(hf:eY p ⟨tick,hash,l⟩=true) :
 Ca 263 #[.agg #[.slice x.A1 x.n1 x.c1,.slice x.A2 x.n2 x.c2,I p.regs,.slice x.A3 x.n3 x.c3,.slice x.A4 x.n4 x.c4],.agg #[I tick,I hash,.slice B m d]] w fun e w'=>∃ A N c,e=.returned (.tuple #[.slice A N c,I 0])/\OB w' w.heap.size 5 A N c (stBs ⟨tick,hash,l⟩)/\Below w.heap.size w w':=by
 have hmay:=fun w h=>j9 x p w h
 have hfit:=fun w h k=>nX x p tick hash B m d l w h k hm
 obtain⟨f1,f2,f3,f4,_⟩:=jR.1 hf;have hm60:m<=60:=by have:=(dN.1 f1).2.2.2.2.1;have:=hl.1;simp only at f4;omega
 rw[f1] at hmay;rw[hf] at hfit;clear hf f1 f2 f3 f4 hm;have hput:∀ n w,Ca 254 #[I n] w fun e w'=>∃ A c,e=.returned (.slice A 8 c)/\OB w' w.heap.size 5 A 8 c (nBs n)/\Below w.heap.size w w':=fun n w=>mA n w
 have hcat:∀ k,k<m->Hid (nBs tick ++ nBs hash ++ (l.take k).flatMap nBs ++ nBs (aZ l k)=nBs tick ++ nBs hash ++ (l.take (k+1)).flatMap nBs):=fun k hk=>by
  show _=_
  have hk':k<l.length:=by rw[hl.1];exact hk
  rw[aQ hk',List.flatMap_append];unfold aZ;rw[ah,ap hk'];simp
 have hz0:Hid (nBs tick ++ nBs hash ++ (l.take 0).flatMap nBs=nBs tick ++ nBs hash):=by show _=_;simp
 have hfin:Hid (nBs tick ++ nBs hash ++ (l.take m).flatMap nBs=stBs ⟨tick,hash,l⟩):=by
  show _=_
  unfold stBs;rw[au (by rw[hl.1];omega)]
 generalize stBs ⟨tick,hash,l⟩=SB at *;go_enter Tryz.func263,Tryz.ntmps263;go_wp2_with (first | ((go_at_call 153;go_call (hmay _ (h.below (b:=w.heap.size) bc aW)) as e w1 ⟨rfl,hb1⟩);have hp1:=Blk.below (w':=w1) (g:=w.heap.size) (t:=26) (cs:=[.slice x.A1 x.n1 x.c1,.slice x.A2 x.n2 x.c2,I p.regs,.slice x.A3 x.n3 x.c3,.slice x.A4 x.n4 x.c4]) bK hb1 be;have hs1:=Blk.below (w':=w1) (g:=w.heap.size+1) (t:=139) (cs:=[I tick,I hash,.slice B m d]) bK hb1 be;obtain⟨y10,y11,y12,y13,y14⟩:=blk5 hp1;obtain⟨j10,j11,j12⟩:=blk3 hs1;have sz1:=hs1.lt;have rs1:=hb1.size;replace hb1:=bH (a:=w) (B:=w.heap.size) bc hb1 be;have hb1s:=hb1.size) | ((go_at_call 233;go_call (hfit _ (h.below (b:=w.heap.size) bc aW) (hl.below (B:=w.heap.size) bc aW)) as e w2 ⟨rfl,hb2⟩);have hp2:=Blk.below (w':=w2) (g:=w.heap.size) (t:=26) (cs:=[.slice x.A1 x.n1 x.c1,.slice x.A2 x.n2 x.c2,I p.regs,.slice x.A3 x.n3 x.c3,.slice x.A4 x.n4 x.c4]) bK hb2 be;have hs2:=Blk.below (w':=w2) (g:=w.heap.size+1) (t:=139) (cs:=[I tick,I hash,.slice B m d]) bK hb2 be;obtain⟨y20,y21,y22,y23,y24⟩:=blk5 hp2;obtain⟨j20,j21,j22⟩:=blk3 hs2;have sz2:=hs2.lt;have rs2:=hb2.size;replace hb2:=bH (a:=w) (B:=w.heap.size) bc hb2 be;have hb2s:=hb2.size));go_region_held3 (fun w'=>w'.cell? ⟨w.heap.size+1,0,none⟩=some (I tick)/\w'.cell? ⟨w.heap.size+1,1,none⟩=some (I hash)) (first | go_keep | (refine⟨?_,?_⟩ <;> assumption)) (first | ((go_at_call 254;(with_reducible refine (hput tick _).mono ?_);rintro e w3 ⟨A3,c3,rfl,own3,hb3⟩);have hp3:=Blk.below (w':=w3) (g:=w.heap.size) (t:=26) (cs:=[.slice x.A1 x.n1 x.c1,.slice x.A2 x.n2 x.c2,I p.regs,.slice x.A3 x.n3 x.c3,.slice x.A4 x.n4 x.c4]) bK hb3 be;have hs3:=Blk.below (w':=w3) (g:=w.heap.size+1) (t:=139) (cs:=[I tick,I hash,.slice B m d]) bK hb3 be;obtain⟨y30,y31,y32,y33,y34⟩:=blk5 hp3;obtain⟨j30,j31,j32⟩:=blk3 hs3;have sz3:=hs3.lt;have rs3:=hb3.size;replace hb3:=bH (a:=w) (B:=w.heap.size) bc hb3 be;have hb3s:=hb3.size) | ((go_at_call 254;(with_reducible refine (hput hash _).mono ?_);rintro e w4 ⟨A4,c4,rfl,own4,hb4⟩);have own3a:=own3.below hb4 aW;have hp4:=Blk.below (w':=w4) (g:=w.heap.size) (t:=26) (cs:=[.slice x.A1 x.n1 x.c1,.slice x.A2 x.n2 x.c2,I p.regs,.slice x.A3 x.n3 x.c3,.slice x.A4 x.n4 x.c4]) bK hb4 be;have hs4:=Blk.below (w':=w4) (g:=w.heap.size+1) (t:=139) (cs:=[I tick,I hash,.slice B m d]) bK hb4 be;obtain⟨y40,y41,y42,y43,y44⟩:=blk5 hp4;obtain⟨j40,j41,j42⟩:=blk3 hs4;have sz4:=hs4.lt;have rs4:=hb4.size;replace hb4:=bH (a:=w) (B:=w.heap.size) bc hb4 be;have hb4s:=hb4.size) | (refine eR rfl rfl cJ dj (s:=.tmp 20) (N:=16) (L:=nBs tick ++ nBs hash) rfl own3a rfl (k:=nBs hash) own4.rd rfl rfl bM aS be ?_;intro A5 c5 w5 own5 hg5 hat5 hb5;have hs5:=Blk.grown hs4 hg5 (own3a.ne_ hs4 aV);obtain⟨j50,j51,j52⟩:=blk3 hs5;replace own5:=own5.rebase (base':=w.heap.size) be;replace hb5:=bH (a:=w) (B:=w.heap.size) bc hb5 be;have hb5s:=hb5.size))
 all_goals
  clear own3 own3a own4;go_wp2;go_loopw [6,28] (fun v i wr=>∃ (k:Nat) (C:Option Addr) (e:Nat),k<=m/\i=I (k:Nat)/\v=.slice C (16+8 * k) e/\Ow bv wr w.heap.size 5 C (16+8 * k) e (nBs tick ++ nBs hash ++ (l.take k).flatMap nBs)/\Below w.heap.size w wr) (fun _ i _=>m - (intOf i).toNat)
  case atStart=>exact⟨0,A5,c5,aS,rfl,rfl,by rw[hz0.out];exact own5,hb5⟩
  case round=>
   clear own5;obtain⟨k,C,e,hk,rfl,rfl,hown,hbel⟩:=hrel;have hbs:=hbel.size
   by_cases hlt:k<m
   · obtain⟨b,o,rfl,_,hc⟩:=(hl.below hbel aW).at_ hlt;have hcx:=hcat k hlt;clear hcat hz0;generalize aZ l k=v at *;go_wp2_with (first | ((go_at_call 254;go_call (hput v _) as e w7 ⟨A7,c7,rfl,own7,hb7⟩);have own7a:=hown.below hb7 aW;replace hb7:=bH (a:=w) (B:=w.heap.size) bc hb7 be;have hb7s:=hb7.size) | (at_builtin;refine dw rfl rfl cJ dj (s:=.tmp 32) (N:=16+8 * (k+1)) (L:=nBs tick ++ nBs hash ++ (l.take (k+1)).flatMap nBs) rfl own7a rfl (k:=nBs v) own7.rd aS hcx.out bM aS be ?_;intro A8 c8 w8 own8 hg8 hat8 hb8;replace hb8:=bH (a:=w) (B:=w.heap.size) bc hb8 be;have hb8s:=hb8.size));go_roundw
     case rel=>exact⟨k+1,A8,c8,aS,by go_num,rfl,own8,hb8⟩
     case measure=>simp[intOf];omega
   · have hkm:k=m:=aS;subst hkm;clear hcat hz0;go_wp2;go_ret2;exact⟨C,_,e,rfl,by rw[<- hfin.out];exact hown,hbel⟩
/-! ### Turned numbers -/
theorem write_row (A B:Option Addr)(n m c d:Nat)(ts l:List Int)(w:World)(ht:RI w A n ts)(hl:RI w B m l)(hn:n<=maxLen)(hm:m<=maxLen)(h:db ts=true)(hf:cB ts l=false) :
 Ca 205 #[.slice A n c,.slice B m d] w fun e w'=>e=.returned (.tuple #[.slice none 0 0,I 41])/\w=w':=by
 have hright:=jQ A n c ts w ht hn;have hfits:=nW A B n m c d ts l w ht hl hn hm;rw[h] at hright;rw[hf] at hfits;clear h hf;go_enter Tryz.func205,Tryz.ntmps205;go_wp2_with (first | (go_at_call 150;go_call (hright) as e w' ⟨rfl,rfl⟩) | (go_at_call 216;go_call (hfits) as e w' ⟨rfl,rfl⟩));go_ret2;exact⟨rfl,rfl⟩
theorem piece_two (v:Int):piece 2 v=[UInt8.ofNat v.toNat]:=by unfold piece;rw[if_pos rfl]
theorem piece_not {t:Int}(h:t≠2)(v:Int):piece t v=digL 9 (zz v):=by unfold piece;rw[if_neg h]
theorem pJ (A B:Option Addr)(n m c d:Nat)(ts l:List Int)(w:World)(ht:RI w A n ts)(hl:RI w B m l)(hn:n<=maxLen)(hm:m<=maxLen)(hf:cB ts l=true)
 (hb:∀ i,i<l.length->-9223372036854775808<=aZ l i/\aZ l i<=9223372036854775807) :
 Ca 205 #[.slice A n c,.slice B m d] w fun e w'=>∃ A' N c',e=.returned (.tuple #[.slice A' N c',I 0])/\OB w' w.heap.size 5 A' N c' (rowB ts l ts.length)/\Below w.heap.size w w':=by
 have hright:=jQ A n c ts w ht hn;have hfits:=nW A B n m c d ts l w ht hl hn hm;obtain⟨f1,f2,f3⟩:=jP.1 hf;obtain⟨r1,r2,r3⟩:=fJ.1 f1;rw[hf] at hfits;rw[f1] at hright;have e1:=ht.1;have e2:=hl.1;have hmn:m=n:=aS;subst hmn;have hm8:m<=8:=aS;rw[e1] at f3 r1 ⊢;rw[e2] at hb;clear hf f1 f2 r2 r3 e1 e2;have hrs:∀ k,Hid (rowB ts l (k+1)=rowB ts l k ++ piece (aZ ts k) (aZ l k)):=fun k=>rfl
 have hr0:Hid (rowB ts l 0=[]):=rfl;generalize rowB ts l=R at *;go_enter Tryz.func205,Tryz.ntmps205;go_wp2_with (first | (go_at_call 150;go_call (hright) as e w' ⟨rfl,rfl⟩) | (go_at_call 216;go_call (hfits) as e w' ⟨rfl,rfl⟩));go_loopw [6,20] (fun v i wr=>∃ k N A' c',k<=m/\i=I (k:Nat)/\N<=10 * k/\v=.slice A' N c'/\Ow bv wr w.heap.size 5 A' N c' (R k)/\Below w.heap.size w wr) (fun _ i _=>m - (intOf i).toNat)
 case atStart=>exact⟨0,0,none,0,aS,rfl,aS,rfl,by rw[hr0.out];exact Ow.nil _ _ _ _,Below.refl _ _⟩
 case round=>
  obtain⟨k,N,A1,c1,hk,rfl,hN,rfl,hown,hbel⟩:=hrel;have hbs:=hbel.size
  by_cases hlt:k<m
  · have ht':=ht.below hbel aW;have hl':=hl.below hbel aW;obtain⟨b,o,rfl,_,hc⟩:=ht'.at_ hlt;obtain⟨b2,o2,rfl,_,hc2⟩:=hl'.at_ hlt;have hk1:=hrs k;have hbk:=hb k hlt
    by_cases h2:aZ ts k=2
    · have h3:=f3 k hlt h2;rw[h2] at hc;clear hrs hb f3 r1;rcases h3 with h3 | h3
      all_goals
       have hk2:Hid (R k ++ [UInt8.ofNat (aZ l k).toNat]=R (k+1)):=by
        show _=_
        rw[hk1.out,h2,piece_two]
       rw[h3] at hc2 hk2;clear h3 h2 hk1 hbk
      · go_wp2_with (at_builtin;refine dw rfl rfl cJ dj (s:=.tmp 27) (N:=N+1) (L:=R (k+1)) rfl (hown.below (b:=wr.heap.size) bc be) rfl (k:=[(0:UInt8)]) (Rd.of_block (l:=[(0:UInt8)]) (dr _ _ ba) rfl) rfl (hk2.out) bM aS be ?_;intro A5 c5 w5 hown5 hg5 hat5 hb5);replace hb5:=bH (a:=w) (B:=w.heap.size) bc hb5 be;have hb5s:=hb5.size;go_roundw
        case rel=>exact⟨k+1,N+1,A5,c5,aS,by go_num,aS,rfl,hown5,hb5⟩
        case measure=>simp[intOf];omega
      · go_wp2_with (at_builtin;refine dw rfl rfl cJ dj (s:=.tmp 27) (N:=N+1) (L:=R (k+1)) rfl (hown.below (b:=wr.heap.size) bc be) rfl (k:=[(1:UInt8)]) (Rd.of_block (l:=[(1:UInt8)]) (dr _ _ ba) rfl) rfl (hk2.out) bM aS be ?_;intro A5 c5 w5 hown5 hg5 hat5 hb5);replace hb5:=bH (a:=w) (B:=w.heap.size) bc hb5 be;have hb5s:=hb5.size;go_roundw
        case rel=>exact⟨k+1,N+1,A5,c5,aS,by go_num,aS,rfl,hown5,hb5⟩
        case measure=>simp[intOf];omega
    · have b2:(aZ ts k == 2)=false:=by rw[ae];exact h2
      have hkL:Hid (R k ++ digL 9 (zz (aZ l k))=R (k+1)):=by
       show _=_
       rw[hk1.out,piece_not h2]
      have hz:=fun w=>zig_any (aZ l k) w hbk.1 hbk.2
      have hd:=(gX 9 (zz (aZ l k))).1;clear hrs hb f3 r1 h2 hk1 hbk;generalize aZ ts k=t at *;generalize digL 9 (zz (aZ l k))=D at *;generalize aZ l k=v at *;go_wp2_with (first | ((go_at_call 229;go_call (hz _) as e w4 ⟨A4,c4,rfl,hown4,hb4⟩);have hb4s:=hb4.size;have hbw4:=i8 hbel hb4 hbs) | (at_builtin;refine dw rfl rfl cJ dj (s:=.tmp 35) (N:=N+D.length) (L:=R (k+1)) rfl (hown.below (b:=wr.heap.size) bc be) rfl (k:=D) (hown4.rd) (by first | rfl | omega) (by first | exact hkL.out | rfl | (simp;done)) bM aS be ?_;intro A5 c5 w5 hown5 hg5 hat5 hb5;replace hown5:=hown5.rebase (base':=w.heap.size) be;replace hb5:=bH (a:=w) (B:=w.heap.size) bc hb5 be;have hb5s:=hb5.size));go_roundw
      case rel=>exact⟨k+1,N+D.length,A5,c5,aS,by go_num,aS,rfl,hown5,hb5⟩
      case measure=>simp[intOf];omega
  · have hkn:k=m:=aS;subst hkn;clear hrs hb f3 r1;go_wp2;go_ret2;exact⟨A1,N,c1,rfl,hown,hbel⟩
theorem zag_any (A:Option Addr)(n c:Nat)(l:List UInt8)(w:World)(hl:RB w A n l)(hn:n<=maxLen) :
 Ca 240 #[.slice A n c] w fun e w'=>e=.returned (.tuple #[I (zagV l),I (zagS l:Nat),I (zagE l:Nat)])/\w=w':=by
 by_cases h:(cy 10 0 l).2=0
 · have hz:cy 10 0 l=((cy 10 0 l).1,0):=Prod.ext rfl h
   by_cases hb:(cy 10 0 l).1=10/\1<bw l 9
   · have e1:zagE l=11:=by unfold zagE;rw[if_neg aS,if_pos hb]
     have e2:zagS l=0:=by unfold zagS;rw[if_neg aS]
     have e3:zagV l=0:=by unfold zagV;rw[if_neg aS]
     rw[e1,e2,e3];rw[hb.1] at hz;exact zag_big A n c l w hl hn hz hb.2
   · have e1:zagE l=0:=by unfold zagE;rw[if_neg aS,if_neg hb]
     have e2:zagS l=(cy 10 0 l).1:=by unfold zagS;rw[if_pos e1]
     have e3:zagV l=unzz (sevL (l.take (cy 10 0 l).1)):=by unfold zagV;rw[if_pos e1]
     rw[e1,e2,e3];exact zag_ok A n c _ l w hl hn hz aS
 · have e1:zagE l=(cy 10 0 l).2:=by unfold zagE;rw[if_pos h]
   have e2:zagS l=0:=by unfold zagS;rw[if_neg aS]
   have e3:zagV l=0:=by unfold zagV;rw[if_neg aS]
   rw[e1,e2,e3];exact zag_err A n c l w hl hn h
