/- Parts. -/
import Derived.Test.YtmeebofhlilcmaaGreatPr21
import Derived.Test.YtmeebofhlilcmaaGreatPr19
import Derived.Laws.BytesString
import Derived.Laws.IdiomStrings
set_option linter.unusedVariables false
set_option linter.unusedSimpArgs false
set_option maxRecDepth 100000
set_option maxHeartbeats 0
namespace Go.Proofs.YtmeebofhlilcmaaGreat
variable {cs:List Value}
open Go.RowKit
def keepC (gs:Nat)(x:PA)(p:PV)(hash:Int)(s:SV)(A:Option Addr)(n c:Nat)(has:Bool):List Value :=
 [.pointer (some ⟨gs,0,none⟩),.slice x.A1 x.n1 x.c1,.slice x.A2 x.n2 x.c2,I p.regs,.slice x.A3 x.n3 x.c3,.slice x.A4 x.n4 x.c4,I hash,I s.tick,I s.hash,.slice A n c,.bool has]
def iM (X:Nat->Prop)(w:World)(base g ga gb:Nat)(x:PA)(p:PV)(hash:Int)(k:KpV):Prop :=
 ∃ gs A n c,Blk w g 302 (keepC gs x p hash k.last A n c k.has)/\base<=gs/\base<=g/\eJ w base gs ga gb k.s/\cK w base A n k.last.cells/\n<=c/\c<=maxLen/\ej w base x p/\∀ b,A.map (·.block)=some b->¬ X b
abbrev kX (w:World)(base g ga gb:Nat)(x:PA)(p:PV)(hash:Int)(k:KpV):Prop:=iM (fun _=>False) w base g ga gb x p hash k
def mutK:List TypeId:=302 :: mutS
section
variable {M:List TypeId} {w w':World} {base g ga gb:Nat} {q:bE} {D:aX} {x:PA} {p:PV} {hash:Int} {k:KpV} {X:Nat→Prop}
theorem eJ.stepM {gs:Nat}{s:SlV3}(h:eJ w base gs ga gb s)(hd:be w base q D)(t:Step M base q w w')(h2:336 ∉ 4 :: M)(h3:5 ∉ 4 :: M):eJ w' base gs ga gb s:=by
 obtain⟨B,n,c,b1,b2,b3,b4,b5,b6⟩:=h;exact⟨B,n,c,hd.blk b1 t.tch h2,b2,b3,b4.step hd t h3,b5,b6⟩
theorem iM.below (h:iM X w base g ga gb x p hash k)(hb:Below w.heap.size w w'):iM X w' base g ga gb x p hash k:=by
 obtain⟨gs,A,n,c,b1,b2,b3,b4,b5,b6,b7,b8,b9⟩:=h;exact⟨gs,A,n,c,b1.below hb b1.lt,b2,b3,b4.below hb,b5.below hb,b6,b7,b8.below hb,b9⟩
theorem iM.step (h:iM X w base g ga gb x p hash k)(hd:be w base q D)(t:Step M base q w w')(h1:302 ∉ 4 :: M)(h2:336 ∉ 4 :: M)(h3:5 ∉ 4 :: M)(h4:3 ∉ 4 :: M)(h5:187 ∉ 4 :: M)(h6:144 ∉ 4 :: M):iM X w' base g ga gb x p hash k:=by
 obtain⟨gs,A,n,c,b1,b2,b3,b4,b5,b6,b7,b8,b9⟩:=h;exact⟨gs,A,n,c,hd.blk b1 t.tch h1,b2,b3,b4.stepM hd t h2 h3,b5.step hd t h4,b6,b7,b8.step hd t h4 h5 h6,b9⟩
theorem be.keepSet (h:be w base q D)(hb:Blk w g 302 cs)(i:Nat)(u:Value):be (w.setCell ⟨g,i,none⟩ u) base q D:=by
 obtain⟨A9,c9,h9⟩:=h;exact⟨A9,c9,h9.keep (F:=(·=g)) (Keep.one (dw _)) (fun g9 hf e=>by
  subst e;rcases h9.foot_ty hb hf with q | q | q | q | q <;> exact absurd q aU)⟩
theorem Step.toK (h:Step mutS base q w w'):Step mutK base q w w':=h.mono fun t ht=>aB _ ht
def kq (X:Nat->Prop)(w:World)(base:Nat)(q:bE)(ga gb:Nat)(x:PA)(p:PV)(hash:Int)(R:aX × KpV × Int)(e:Ending)(w':World):Prop :=
 ∃ P,e=.returned (.tuple #[.pointer P,I R.2.2])/\(R.2.2≠0->P=none)/\(R.2.2=0->∃ g,P=some ⟨g,0,none⟩/\w.heap.size<=g/\iM X w' base g ga gb x p hash R.2.1)/\be w' base q R.1/\Step mutD base q w w'
theorem kq.no {z:Int}{D':aX}{k:KpV}(hz:z≠0)(hd:be w' base q D')(hs:Step mutD base q w w'):kq X w base q ga gb x p hash (D',k,z) (.returned (.tuple #[.pointer none,I z])) w' :=
 ⟨none,rfl,fun _=>rfl,fun e=>absurd e hz,hd,hs⟩
end
def fnvStep (h c:Nat):Nat:=1099511628211 * (h ^^^ c) % 18446744073709551616
def mL (h:Nat)(l:List UInt8):Nat:=l.foldl (fun h c=>fnvStep h c.toNat) h
def fnv (l:List UInt8):Nat:=mL 14695981039346656037 l
theorem fnvFold_snoc (h:Nat)(a:List UInt8)(x:UInt8):mL h (a ++ [x])=fnvStep (mL h a) x.toNat:=by simp only[mL,List.foldl_append,List.foldl_cons,List.foldl_nil]
theorem fnv_take (l:List UInt8)(k:Nat)(h:k<l.length):fnv (l.take (k+1))=fnvStep (fnv (l.take k)) (bx l k):=by
 unfold fnv bx;rw[mY l k h,fnvFold_snoc]
theorem fnv_top (H:Nat)(_:H<18446744073709551616):wrap64 (IntKind.u64.wrap ((H:Int) * 2) / 2)=((H % 9223372036854775808:Nat):Int):=by
 rw[IntKind.wrap_u64];unfold wrap64;omega
theorem dbytes_any (A:Option Addr)(n c:Nat)(l:List UInt8)(w:World)(hl:RB w A n l)(hn:n<=maxLen) :
 Ca 156 #[.slice A n c] w fun e w'=>e=.returned (I ((fnv l % 9223372036854775808:Nat):Int))/\w=w':=by
 unfold maxLen at hn;have hlen:=aT hl.1;generalize hz:fnv l=Z at *;have Hz:=aT hz;clear hz;go_enter Tryz.func156,Tryz.ntmps156;go_wp2;go_loop [3,8] (fun h i=>∃ k H,k<=n/\i=I (k:Nat)/\h=.int .u64 (H:Nat)/\Hid (H=fnv (l.take k))/\H<18446744073709551616) (fun _ i=>n - (intOf i).toNat)
 case atStart=>exact⟨0,14695981039346656037,Nat.zero_le _,rfl,rfl,rfl,aS⟩
 case round=>
  obtain⟨k,H,hk,rfl,rfl,hH,hlt⟩:=hrel
  by_cases hkn:k<n
  · obtain⟨b,o,rfl,_,hc⟩:=hl.at_ hkn;have hstep:=aT (fnv_take l k (by rw[hlen.out];exact hkn));have hy:=ij l k;generalize bx l k=y at *;have hxor:=bits_xor_u64_nat H y hlt aS;have hX:H ^^^ y<18446744073709551616:=Nat.xor_lt_two_pow (n:=64) hlt aS;have hnext:Hid (1099511628211 * (H ^^^ y) % 18446744073709551616=fnv (l.take (k+1))):=by
     show _=_
     rw[hstep.out,hH.out];rfl
    generalize H ^^^ y=X at *;have hmul:IntKind.u64.wrap ((X:Int) * 1099511628211)=((1099511628211 * X % 18446744073709551616:Nat):Int):=by rw[IntKind.wrap_u64];omega
    have hlt2:1099511628211 * X % 18446744073709551616<18446744073709551616:=aS;generalize 1099511628211 * X % 18446744073709551616=Y at *;go_wp2;go_round
    case rel=>exact⟨k+1,Y,aS,by go_num,by go_num,hnext,hlt2⟩
    case measure=>simp[intOf];omega
  · have hkk:k=n:=aS;have hHZ:Hid (H=Z):=by
     show _=_
     rw[hH.out,<- Hz.out,hkk,<- hlen.out,List.take_length]
    clear hkk;go_wp2;go_ret;rw[<- hHZ.out];exact⟨ret_int (fnv_top H hlt),rfl⟩
theorem digof_ok (x:PA)(p:PV)(w:World)(h:cC w x p)(hw:eO p)(hm:mayB p=true) :
 Ca 67 #[.agg #[.slice x.A1 x.n1 x.c1,.slice x.A2 x.n2 x.c2,I p.regs,.slice x.A3 x.n3 x.c3,.slice x.A4 x.n4 x.c4]] w fun e w'=>e=.returned (.tuple #[I (fnv (gw p) % 9223372036854775808:Nat),I 0])/\Below w.heap.size w w':=by
 have he:=fun w h=>encode_ok x p w h hw hm
 have hd:=fun (A:Option Addr) (n c:Nat) (w:World) hl hn=>dbytes_any A n c (gw p) w hl hn
 generalize gw p=L at *;generalize fnv L % 9223372036854775808=z at *;go_enter Tryz.func67,Tryz.ntmps67;go_wp2_with (first | ((go_at_call 155;go_call (he _ (h.below ((Below.refl _ _).alloc aW _) aW)) as e w1 ⟨A1,N1,c1,rfl,own1,hb1⟩);have hcp:=own1.cap;have hN:N1<=maxLen:=aS;replace hb1:=bO (a:=w) (B:=w.heap.size) bc hb1 br;have hb1s:=hb1.size) | (go_at_call 156;go_call (hd _ _ _ _ own1.rd.rb hN) as e w2 ⟨rfl,rfl⟩));go_ret2;exact⟨rfl,bc⟩
def progC (x:PA)(p:PV):List Value:=[.slice x.A1 x.n1 x.c1,.slice x.A2 x.n2 x.c2,I p.regs,.slice x.A3 x.n3 x.c3,.slice x.A4 x.n4 x.c4]
theorem verifyB_may {p:PV}(h:dF p=true):mayB p=true:=by
 unfold dF at h;rw[av] at h;exact h.1
section
variable {w w':World} {base ga gb fl ml fr mr:Nat} {q:bE} {D:aX} {x:PA} {p:PV}
theorem keep_set4 {g:Nat}(hb:Blk w g 302 cs)(hg:base<=g)(hs:base<=w.heap.size)(u7 u8 u9 u10:Value) :
 Step [302] base q w ((((w.setCell ⟨g,7,none⟩ u7).setCell ⟨g,8,none⟩ u8).setCell ⟨g,9,none⟩ u9).setCell ⟨g,10,none⟩ u10) /\
 Blk ((((w.setCell ⟨g,7,none⟩ u7).setCell ⟨g,8,none⟩ u8).setCell ⟨g,9,none⟩ u9).setCell ⟨g,10,none⟩ u10) g 302 ((((cs.set 7 u7).set 8 u8).set 9 u9).set 10 u10) /\
 (be w base q D->be ((((w.setCell ⟨g,7,none⟩ u7).setCell ⟨g,8,none⟩ u8).setCell ⟨g,9,none⟩ u9).setCell ⟨g,10,none⟩ u10) base q D):=by
 have one:∀ {W:World} {cs:List Value} (i:Nat) (u:Value),Blk W g 302 cs->base<=W.heap.size->Step [302] base q W (W.setCell ⟨g,i,none⟩ u):=fun i u b s=>Step.one (dw _) b (aC ..) hg s
 have b1:=hb.set_ 7 u7;have s1:=one 7 u7 hb hs;have b2:=b1.set_ 8 u8;have s2:=one 8 u8 b1 (by have:=s1.size;omega);have b3:=b2.set_ 9 u9;have s3:=one 9 u9 b2 (by have:=s1.size;have:=s2.size;omega);have s4:=one 10 u10 b3 (by have:=s1.size;have:=s2.size;have:=s3.size;omega);exact⟨((s1.trans s2).trans s3).trans s4,b3.set_ 10 u10,fun d=>(((d.keepSet hb 7 u7).keepSet b1 8 u8).keepSet b2 9 u9).keepSet b3 10 u10⟩
theorem kopen_any {X:Nat->Prop}(hX:∀ b,w.heap.size<=b->¬ X b)(h:ej w base x p)(hw:eO p)(hv:dF p=true)(hd:be w base q D)(hs:base<=w.heap.size)(hal:bD w ga q.d fl ml)(har:bD w gb q.d fr mr)(hml:5<=ml)(hmr:5<=mr)(hfl:fl+ml<=D.many)(hfr:fr+mr<=D.many) :
 Ca 195 #[.pointer (some ⟨ga,0,none⟩),.pointer (some ⟨gb,0,none⟩),.agg #[.slice x.A1 x.n1 x.c1,.slice x.A2 x.n2 x.c2,I p.regs,.slice x.A3 x.n3 x.c3,.slice x.A4 x.n4 x.c4]] w (kq X w base q ga gb x p ((fnv (gw p) % 9223372036854775808:Nat):Int) (ec D fl ml fr mr p ((fnv (gw p) % 9223372036854775808:Nat):Int))):=by
 have hvr:=fun W h=>oy x p W h hw
 rw[hv] at hvr;have hdg:=fun W h=>digof_ok x p W h hw (verifyB_may hv)
 have hR:ec D fl ml fr mr p ((fnv (gw p) % 9223372036854775808:Nat):Int)=if (dq D fl ml fr mr).2.2≠0 then ((dq D fl ml fr mr).1,hJ,(dq D fl ml fr mr).2.2)
  else if (jv (dq D fl ml fr mr).2.1).2.2=false then ((dq D fl ml fr mr).1,⟨(dq D fl ml fr mr).2.1,gz,false⟩,0)
  else if (fI p (jv (dq D fl ml fr mr).2.1).1).2≠0 then ((dq D fl ml fr mr).1,hJ,53)
  else if (fI p (jv (dq D fl ml fr mr).2.1).1).1.hash≠((fnv (gw p) % 9223372036854775808:Nat):Int) then ((dq D fl ml fr mr).1,hJ,42)
  else ((dq D fl ml fr mr).1,⟨(dq D fl ml fr mr).2.1,(fI p (jv (dq D fl ml fr mr).2.1).1).1,true⟩,0):=by
  unfold ec;rw[if_neg (by rw[hv];simp)]
  rfl
 have hop:=fun {W:World} (d:be W base q D) (b:base<=W.heap.size) (a:bD W ga q.d fl ml) (r:bD W gb q.d fr mr)=>sopen_any d b a r hml hmr hfl hfr
 generalize dq D fl ml fr mr=O at *;obtain⟨D',s',z⟩:=O;simp only at hR hop;generalize ec D fl ml fr mr p ((fnv (gw p) % 9223372036854775808:Nat):Int)=R at *;generalize ((fnv (gw p) % 9223372036854775808:Nat):Int)=hash at *;have bA:Below w.heap.size w (w.alloc (.cells #[.slice x.A1 x.n1 x.c1,.slice x.A2 x.n2 x.c2,I p.regs,.slice x.A3 x.n3 x.c3,.slice x.A4 x.n4 x.c4] 26)):=(Below.refl _ _).alloc aW _;have X0:=aT (show Blk (w.alloc (.cells #[.slice x.A1 x.n1 x.c1,.slice x.A2 x.n2 x.c2,I p.regs,.slice x.A3 x.n3 x.c3,.slice x.A4 x.n4 x.c4] 26)) w.heap.size 26 (progC x p) from Blk.top _ rfl rfl);have P0:=aT (h.below bA);have D0:=aT (hd.below bA);have AL0:=aT (show bD _ ga q.d fl ml from Blk.below hal bA (Blk.lt hal));have AR0:=aT (show bD _ gb q.d fr mr from Blk.below har bA (Blk.lt har));have ST0:=aT (show Step mutD base q w _ from Step.of_below bA hs);have s0:=bA.size;have HR:=aT hR;clear hR bA h hd hal har hw hv;go_enter Tryz.func195,Tryz.ntmps195;go_upto_region 4 with (first | ((go_at_call 65;go_call (hvr _ P0.out.rd) as e w1 ⟨rfl,hb1⟩);have X1:=aT (X0.out.below hb1 X0.out.lt);have P1:=aT (P0.out.below hb1);have D1:=aT (D0.out.below hb1);have AL1:=aT (show bD w1 ga q.d fl ml from Blk.below AL0.out hb1 (Blk.lt AL0.out));have AR1:=aT (show bD w1 gb q.d fr mr from Blk.below AR0.out hb1 (Blk.lt AR0.out));have s1:=hb1.size;have ST1:=aT (ST0.out.then_below (hb1.mono s0) hs);clear hb1) | ((go_at_call 159;go_call (hop D1.out (ae hs (ae s0 s1)) AL1.out AR1.out) as e w2 ⟨Q2,rfl,n2,y2,h2,st2⟩);have X2:=aT (D1.out.blk X1.out st2.tch aU);have P2:=aT (P1.out.step D1.out st2 aU aU aU);have D2:=aT h2;have ST2:=aT (ST1.out.trans st2);have s2:=st2.size;clear h2 st2) | fail);clear hop hvr AL0 AR0 AL1 AR1 X0 P0 D0 ST0 X1 P1 D1 ST1
 by_cases hz:z=0
 · subst hz;obtain⟨gs,rfl,hgs,hsl⟩:=y2 rfl;have S2:=aT hsl;clear y2 n2 hsl;have HR2:=aT (HR.out.trans (if_neg aZ));clear HR;obtain⟨x20,x21,x22,x23,x24⟩:=blk5 X2.out;go_upto_region 11 with (first | ((go_at_call 67;go_call (hdg _ P2.out.rd) as e w3 ⟨rfl,hb3⟩);have X3:=aT (X2.out.below hb3 X2.out.lt);have P3:=aT (P2.out.below hb3);have D3:=aT (D2.out.below hb3);have S3:=aT (S2.out.below hb3);have s3:=hb3.size;have ST3:=aT (ST2.out.then_below (hb3.mono (ae s0 (ae s1 s2))) hs);obtain⟨x30,x31,x32,x33,x34⟩:=blk5 X3.out;clear hb3) | ((go_at_call 160;go_call (load_any (S3.out.below bc)) as e w5 ⟨B5,m5,c5,rfl,ob5,hb5⟩)) | fail);have b35:Below w3.heap.size w3 w5:=bO (a:=w3) (B:=w3.heap.size) bc hb5 br;have K5:=aT (Blk.below (w':=w5) (g:=w3.heap.size) (t:=302) (cs:=keepC gs x p hash gz none 0 0 false) (Blk.top _ rfl rfl) hb5 br);have OB5:=aT ob5;have X5:=aT (X3.out.below b35 X3.out.lt);have P5:=aT (P3.out.below b35);have D5:=aT (D3.out.below b35);have S5:=aT (S3.out.below b35);have s5:=b35.size;have ST5:=aT (ST3.out.then_below (b35.mono (ae s0 (ae s1 (ae s2 s3)))) hs);obtain⟨x50,x51,x52,x53,x54⟩:=blk5 X5.out;have g5:=K5.out.lt;clear ob5 hb5 b35 X3 P3 D3 S3 ST3 X2 P2 D2 S2 ST2 hdg;have g3:=s3;have hwg:=ae s0 (ae s1 (ae s2 s3));generalize w3.heap.size=gk at *;generalize jv s'=L at *;obtain⟨lb,ln,lh⟩:=L;simp only at HR2
   cases lh with
   | false=>
     have HR3:=aT (HR2.out.trans (if_pos rfl));clear HR2;go_wp2_with fail;go_ret2;rw[HR3.out];exact⟨_,rfl,fun e=>absurd rfl e,fun _=>⟨_,rfl,hwg,gs,none,0,0,K5.out,aS,by omega,S5.out,cK.nil _ _,Nat.le_refl _,by unfold maxLen;omega,P5.out,fun b e=>by cases e⟩,D5.out,ST5.out⟩
   | true=>
     have HR3:=aT (HR2.out.trans (if_neg aZ));clear HR2;have cp5:=OB5.out.cap;have hrd:=fun W (h:cC W x p) hl=>stateread_own x p B5 m5 c5 lb W h hl cp5.1 cp5.2
     generalize fI p lb=Sr at *;obtain⟨⟨st,sh,sc⟩,er⟩:=Sr;simp only at HR3;clear cp5;go_upto_region 14 with (first | ((go_at_call 161;go_call (hrd _ P5.out.rd OB5.out.rd.rb) as e w6 ⟨A6,n6,c6,rfl,⟨b6,hb6b,own6⟩,hb6⟩)) | fail);have b57:Below w5.heap.size w5 (w6.alloc (.cells #[I st,I sh,.slice A6 n6 c6] 139)):=hb6.alloc hb6.size _;have V7:=aT (show Blk (w6.alloc (.cells #[I st,I sh,.slice A6 n6 c6] 139)) w6.heap.size 139 [I st,I sh,.slice A6 n6 c6] from Blk.top _ rfl rfl);have K7:=aT (K5.out.below b57 K5.out.lt);have P7:=aT (P5.out.below b57);have D7:=aT (D5.out.below b57);have S7:=aT (S5.out.below b57);have I7:=aT (own6.below (b:=w6.heap.size) ((Below.refl _ _).alloc aW _) aW:Ow iv (w6.alloc (.cells #[I st,I sh,.slice A6 n6 c6] 139)) b6 3 A6 n6 c6 sc);have s7:=b57.size;have hbw5:=ae hs (ae hwg (Nat.le_of_lt g5));have ST7:=aT (ST5.out.then_below (b57.mono (ae hwg (Nat.le_of_lt g5))) hs);have hgx:=V7.out.lt;clear b57 own6 hb6 hrd K5 P5 D5 S5 ST5 X5 x50 x51 x52 x53 x54 OB5;generalize (w6.alloc (.cells #[I st,I sh,.slice A6 n6 c6] 139))=w7 at *;generalize w6.heap.size=gx at *;obtain⟨v70,v71,v72⟩:=blk3 V7.out
     by_cases he:er=0
     · subst he;have HR4:=aT (HR3.out.trans (if_neg aZ));clear HR3
       by_cases hh:sh=hash
       · subst hh;have HR5:=aT (HR4.out.trans (if_neg aZ));clear HR4;have g7:=K7.out.lt;have f73:=K7.out.frozen 3;have f74:=K7.out.frozen 4;have f77:=K7.out.frozen 7;have f78:=K7.out.frozen 8;have f79:=K7.out.frozen 9;have f710:=K7.out.frozen 10;obtain⟨k0,k7,k8,k9,k10⟩:=(show w7.cell? ⟨gk,0,none⟩=some (.pointer (some ⟨gs,0,none⟩))/\w7.cell? ⟨gk,7,none⟩=some (I 0)/\w7.cell? ⟨gk,8,none⟩=some (I 0)/\w7.cell? ⟨gk,9,none⟩=some (.slice none 0 0)/\w7.cell? ⟨gk,10,none⟩=some (.bool false) from ⟨K7.out.cell 0,K7.out.cell 7,K7.out.cell 8,K7.out.cell 9,K7.out.cell 10⟩);go_wp2_with fail;go_ret2;rw[HR5.out];obtain⟨t8,b8,d8⟩:=keep_set4 (q:=q) (D:=D') K7.out (ae hs hwg) (ae hbw5 s7) (I st) (I sh) (.slice A6 n6 c6) (.bool true);have cp7:=I7.out.cap;exact⟨_,rfl,fun e=>absurd rfl e,fun _=>⟨_,rfl,hwg,gs,A6,n6,c6,b8,aS,by omega,S7.out.stepM D7.out t8 aU aU,(cK.of_ow I7.out).step D7.out t8 aU,cp7.1,cp7.2,P7.out.step D7.out t8 aU aU aU,fun b e=>hX b (ae hwg (ae (Nat.le_of_lt g5) (ae hb6b (I7.out.lt b e).1)))⟩,d8 D7.out,ST7.out.then_below ((((((Below.refl _ _).setCell hwg _).setCell hwg _).setCell hwg _).setCell hwg _)) hs⟩
       · have hhb:(sh != hash)=true:=by rw[ag];exact hh
         have HR5:=aT (HR4.out.trans (if_pos hh));clear HR4 hh;go_wp2_with fail;go_ret2;rw[HR5.out];exact kq.no aU D7.out ST7.out
     · have heb:((er:Int) != 0)=true:=by rw[ag];omega
       have HR4:=aT (HR3.out.trans (if_pos (by simpa using he)));clear HR3 he;go_wp2_with fail;go_ret2;rw[HR4.out];exact kq.no aU D7.out ST7.out
 · have hzb:(z != 0)=true:=by rw[ag];exact hz
   have HR2:=aT (HR.out.trans (if_pos hz));obtain rfl:=n2 hz;have HZ:=aT hz;clear HR hz n2 y2;go_wp2_with fail;go_ret2;rw[HR2.out];exact kq.no HZ.out D2.out ST2.out
end
def gS (k:KpV):SV:=if k.has then k.last else gz
section
variable {w w':World} {base g ga gb fl ml fr mr:Nat} {q:bE} {D:aX} {x:PA} {p:PV} {hash:Int} {k:KpV}
theorem klast_any {X:Nat->Prop}(h:iM X w base g ga gb x p hash k)(h60:k.last.cells.length<=100):Ca 118 #[.pointer (some ⟨g,0,none⟩)] w fun e w'=>
 ∃ A n c,e=.returned (.tuple #[.agg #[I (gS k).tick,I (gS k).hash,.slice A n c],.bool k.has])/\Ow iv w' w.heap.size 3 A n c (gS k).cells/\Below w.heap.size w w':=by
 obtain⟨gs,A,n,c,b1,b2,b3,b4,b5,b6,b7,b8,_⟩:=h;obtain⟨k7,k8,k9,k10⟩:=(show w.cell? ⟨g,7,none⟩=some (I k.last.tick)/\w.cell? ⟨g,8,none⟩=some (I k.last.hash)/\w.cell? ⟨g,9,none⟩=some (.slice A n c)/\w.cell? ⟨g,10,none⟩=some (.bool k.has) from ⟨b1.cell 7,b1.cell 8,b1.cell 9,b1.cell 10⟩);have hgl:=b1.lt;have HI:=aT b5;unfold gS;obtain⟨ks,⟨kt,kh,kc⟩,khas⟩:=k;simp only at k7 k8 k9 k10 HI ⊢;have HB1:=aT b1;clear b1 b4 b5 b8;have hlen:=HI.out.ri.1;unfold maxLen at b7
 cases khas with
 | false=>
   go_enter Tryz.func118,Tryz.ntmps118;go_wp2;refine bodyPost_ret (v:=.tuple #[.agg #[I 0,I 0,.slice none 0 0],.bool false]) (by simp[results,Tryz.results118,go_sem]) rfl ?_;exact⟨none,0,0,rfl,Ow.nil _ _ _ _,bc⟩
 | true=>
   have hn60:n<=100:=by rw[<- hlen];exact h60
   have hmk:∀ W:World,(Instr.makeSlice 22 (I (n:Int)) (I (n:Int))).run Tryz.prog W=.ok (.slice (some ⟨W.heap.size,0,none⟩) n n) (W.alloc (.cells ((List.replicate n (0:Int)).map iv).toArray 3)):=fun W=>by
    have:=kM fF n aS aS W;rw[show madeCells (I 0).cells n=((List.replicate n (0:Int)).map iv).toArray from by
     apply Array.ext';rw[show (I 0).cells=#[I 0] from rfl,toList_madeCells_one];simp[iv]] at this
    exact this
   have hsp:splice (List.replicate n (0:Int)) 0 (kc.take n)=kc:=by
    have h1:kc.take n=kc:=au aS;unfold splice;rw[h1,List.take_zero,List.nil_append,aP (by rw[List.length_replicate];omega),List.append_nil]
   have HSP:=aT hsp;have HZL:=aT (show (List.replicate n (0:Int)).length=n by simp);have HKL:=aT hlen;clear hsp h60 hlen;generalize List.replicate n (0:Int)=zs at *;go_enter Tryz.func118,Tryz.ntmps118;go_upto_region 5 with fail;have b5:Below w.heap.size w (((w.alloc (.cells #[I 0,I 0,.slice none 0 0] 139)).alloc (.cells #[I kt,I kh,.slice (some ⟨w.heap.size+1+1,0,none⟩) n n] 139)).alloc (.cells (zs.map iv).toArray 3)):=bc;have R5:=aT (show Blk (((w.alloc (.cells #[I 0,I 0,.slice none 0 0] 139)).alloc (.cells #[I kt,I kh,.slice (some ⟨w.heap.size+1+1,0,none⟩) n n] 139)).alloc (.cells (zs.map iv).toArray 3)) w.heap.size 139 [I 0,I 0,.slice none 0 0] from ((Blk.top _ rfl rfl).alloc _).alloc _);have X5:=aT (show Blk (((w.alloc (.cells #[I 0,I 0,.slice none 0 0] 139)).alloc (.cells #[I kt,I kh,.slice (some ⟨w.heap.size+1+1,0,none⟩) n n] 139)).alloc (.cells (zs.map iv).toArray 3)) (w.heap.size+1) 139 [I kt,I kh,.slice (some ⟨w.heap.size+1+1,0,none⟩) n n] from (Blk.top _ aZ rfl).alloc _);have Z5:=aT (show Blk (((w.alloc (.cells #[I 0,I 0,.slice none 0 0] 139)).alloc (.cells #[I kt,I kh,.slice (some ⟨w.heap.size+1+1,0,none⟩) n n] 139)).alloc (.cells (zs.map iv).toArray 3)) (w.heap.size+1+1) 3 (zs.map iv) from Blk.top _ aZ rfl);have I5:=aT (HI.out.below b5);have K5:=aT (HB1.out.below b5 hgl);have B5:=aT b5;clear b5 k7 k8 k9 k10 HI HB1 hmk;generalize (((w.alloc (.cells #[I 0,I 0,.slice none 0 0] 139)).alloc (.cells #[I kt,I kh,.slice (some ⟨w.heap.size+1+1,0,none⟩) n n] 139)).alloc (.cells (zs.map iv).toArray 3))=w5 at *;have k9:=K5.out.c9;have x2:=X5.out.c2;have gl5:=K5.out.lt;have qB:=X5.out.lt;go_region_held3 (fun w'=>w'.cell? ⟨w.heap.size+1,2,none⟩=some (.slice (some ⟨w.heap.size+1+1,0,none⟩) n n)/\w'.cell? ⟨g,9,none⟩=some (.slice A n c)) (first | go_keep | (refine⟨?_,?_⟩ <;> assumption)) (first | (refine lf rfl (d:=.tmp 28) (s:=.tmp 33) rfl fF gq (g:=w.heap.size+1+1) (off:=0) (dLen:=n) (dCap:=n) (l:=zs) (k:=kc) (L:=kc) rfl rfl (fun _=>rfl) Z5.out.drew I5.out.ri.rd (by rw[HZL.out];omega) HSP.out ?_;intro w6 hb6 hg6 hs6;have X6:=aT (X5.out.drew.grown hg6 aZ);have K6:=aT (K5.out.drew.grown hg6 cR);have R6:=aT (R5.out.drew.grown hg6 cR);have y2:=X6.out.c2;have y9:=K6.out.c9) | fail);obtain⟨x60,x61,x62⟩:=blk3 X6.out;obtain⟨r60,r61,r62⟩:=blk3 R6.out;have fr0:=R6.out.frozen 0;have fr1:=R6.out.frozen 1;have fr2:=R6.out.frozen 2;have rl6:=R6.out.lt;have qC:=X6.out.lt;have B6:=aT (et (Below.drew B5.out) hg6 B5.out.size (show w.heap.size<=w.heap.size+1+1 by omega));go_wp2;refine bodyPost_ret (v:=.tuple #[.agg #[I kt,I kh,.slice (some ⟨w.heap.size+1+1,0,none⟩) n n],.bool true]) (by simp[results,Tryz.results118,go_sem,r60,r61,r62]) rfl ?_;have hZ:=((Blk.far hb6 (p:=⟨w.heap.size,0,none⟩) cR (I kt)).far (p:=⟨w.heap.size,1,none⟩) cR (I kh)).far (p:=⟨w.heap.size,2,none⟩) cR (.slice (some ⟨w.heap.size+1+1,0,none⟩) n n);exact⟨_,n,n,rfl,gM hZ aS HKL.out bQ,((B6.out.setCell aW _).setCell aW _).setCell aW _⟩
end
