/- Parts. -/
import Derived.Test.YtmeebofhlilcmaaGreatPr06
import Derived.Deep.RegionLaw
set_option linter.unusedVariables false
set_option linter.unusedSimpArgs false
set_option maxRecDepth 100000
set_option maxHeartbeats 0
namespace Go.Proofs.YtmeebofhlilcmaaGreat
variable {w w':World}
open Go.RowKit
structure RdSt (w0 w:World)(gb go:Nat)(bs:List UInt8)(out:List Int)(i:Nat):Prop where
 below:Below w0.heap.size w0 w
 hb:w0.heap.size<=gb
 ho:w0.heap.size<=go
 bb:∃ A n c,Blk w gb 27 [.slice A n c]/\RB w0 A n (bs.drop i)/\n<=c/\c<=maxLen
 bo:∃ A n c,Blk w go 22 [.slice A n c]/\Ow iv w w0.heap.size 3 A n c out
theorem cut_rb {A:Option Addr}{n c k:Nat}{l:List UInt8}(h:RB w A n l)(hk:k<=n)(hc:n<=c):RB w (if c=k then A else A.map (·.add (k * 1))) (n - k) (l.drop k):=by
 refine⟨by rw[aG,h.1],?_⟩;have:=h.2.cut hk hc;rw[Nat.mul_one];exact this.congr fun i hi=>by unfold bC;simp[ag]
theorem read1_int (gb go:Nat)(bs:List UInt8)(out:List Int)(i:Nat)(w0 w:World)(h:RdSt w0 w gb go bs out i)(ho:out.length<=100) :
 Ca 239 #[I 1,.pointer (some ⟨gb,0,none⟩),.pointer (some ⟨go,0,none⟩)] w fun e w'=>e=.returned (I (zagE (bs.drop i):Nat))/\RdSt w0 w' gb go bs (out ++ [zagV (bs.drop i)]) (i+zagS (bs.drop i)):=by
 obtain⟨hbel,hb,ho2,⟨A,n,c,hblk,hrb,hnc,hcm⟩,A2,n2,c2,hblk2,hown⟩:=h;have hzag:=fun w hl=>zag_any A n c (bs.drop i) w hl aS
 have hS:=zagS_le (bs.drop i);have hlen:=hrb.1;rw[hlen] at hS;have hcut:=jC (P:=Tryz.prog) cI A n c (zagS (bs.drop i)) hS;have hrb2:=cut_rb hrb hS hnc;rw[List.drop_drop] at hrb2;generalize zagS (bs.drop i)=s at *;generalize zagV (bs.drop i)=v at *;generalize (if c=s then A else A.map (·.add (s * 1)))=A' at *;have hrbw:=hrb.below hbel aV;clear hlen;generalize zagE (bs.drop i)=z at *;have c1:=hblk.c0;have f1:=hblk.frozen 0;have c3:=hblk2.c0;have f3:=hblk2.frozen 0;have hlt:=hblk.lt;have hlt2:=hblk2.lt;have hbs:=hbel.size;have hn2:n2<=100:=by have:=hown.1;omega
 have hne1:=hown.ne_ hblk aU;have hne2:=hown.ne_ hblk2 aU;have hgo:=hblk.ne_ hblk2 aU;go_enter Tryz.func239,Tryz.ntmps239;go_wp2_with (go_at_call 240;go_call (hzag _ hrbw) as e w' ⟨rfl,rfl⟩);go_region_law ((refine eR rfl rfl dV eS (s:=.tmp 16) (N:=n2+1) (L:=out ++ [v]) rfl (hown.below (b:=w.heap.size) be aV) rfl (k:=[v]) (Rd.of_block (l:=[v]) (dy _ _ bj) rfl) rfl rfl bO aS cO ?_;intro A5 c5 w5 hown5 hg5 hat5 hb5;have k1:Blk w5 gb 27 [.slice A n c]:=Blk.grown bx hg5 hne1;have k2:Blk w5 go 22 [.slice A2 n2 c2]:=Blk.grown bx hg5 hne2;have c15:=k1.c0;have f15:=k1.frozen 0;have c35:=k2.c0;have f35:=k2.frozen 0))
 all_goals
  go_wp2;go_ret;have hb6:Below w0.heap.size w0 w5:=((hbel.alloc aS _).drew).trans hb5;refine⟨rfl,(hb6.setCell aS _).setCell aS _,hb,ho2,⟨A',n - s,c - s,(k1.far hgo _).set_ 0 _,hrb2,aS,aS⟩,A5,n2+1,c5,(k2.set_ 0 _).far (Ne.symm hgo) _,?_⟩;exact (hown5.setFar k2 aU 0 _).setFar (k1.far hgo _) aU 0 _
theorem read1_end (t:Int)(gb go:Nat)(bs:List UInt8)(out:List Int)(i:Nat)(w0 w:World)(h:RdSt w0 w gb go bs out i)(ht:t≠1)(hi:bs.length<=i) :
 Ca 239 #[I t,.pointer (some ⟨gb,0,none⟩),.pointer (some ⟨go,0,none⟩)] w fun e w'=>e=.returned (I 10)/\w=w':=by
 obtain⟨hbel,hb,ho2,⟨A,n,c,hblk,hrb,hnc,hcm⟩,A2,n2,c2,hblk2,hown⟩:=h;have hn:n=0:=by have:=hrb.1;rw[aG] at this;omega
 subst hn;have c1:=hblk.c0;have b:(t == 1)=false:=by rw[ae];exact ht
 clear ht;go_enter Tryz.func239,Tryz.ntmps239;go_wp2;go_ret;exact⟨rfl,rfl⟩
theorem read1_form (t:Int)(gb go:Nat)(bs:List UInt8)(out:List Int)(i:Nat)(w0 w:World)(h:RdSt w0 w gb go bs out i)(ht:t≠1)(hi:i<bs.length)(hf:1<bC bs i) :
 Ca 239 #[I t,.pointer (some ⟨gb,0,none⟩),.pointer (some ⟨go,0,none⟩)] w fun e w'=>e=.returned (I 11)/\w=w':=by
 obtain⟨hbel,hb,ho2,⟨A,n,c,hblk,hrb,hnc,hcm⟩,A2,n2,c2,hblk2,hown⟩:=h;have hn:0<n:=by have:=hrb.1;rw[aG] at this;omega
 have c1:=hblk.c0;have b:(t == 1)=false:=by rw[ae];exact ht
 have hrb':=hrb.below hbel aV;obtain⟨b2,o2,rfl,_,hc2⟩:=hrb'.at_ hn;have e1:bC (bs.drop i) 0=bC bs i:=by unfold bC;simp[ag]
 rw[e1,Nat.add_zero] at hc2;have e2:(((bC bs i:Nat):Int) == 0 || ((bC bs i:Nat):Int) == 1)=false:=by
  rw[Bool.or_eq_false_iff,ae,ae];omega
 have hb256:=gO bs i;clear e1 ht hf hrb';have hnb:(((n:Nat):Int) == 0)=false:=by rw[ae];omega
 have ht2:=fun w=>lR ((bC bs i:Nat):Int) w
 rw[e2] at ht2;clear e2;generalize bC bs i=y at *;unfold maxLen at hcm;go_enter Tryz.func239,Tryz.ntmps239;go_wp2_with (go_at_call 241;go_call (ht2 _) as e w' ⟨rfl,rfl⟩);go_ret;exact⟨rfl,rfl⟩
theorem read1_bool (t:Int)(gb go:Nat)(bs:List UInt8)(out:List Int)(i:Nat)(w0 w:World)(h:RdSt w0 w gb go bs out i)(ho:out.length<=100)(ht:t≠1)(hi:i<bs.length)(hf:bC bs i<=1) :
 Ca 239 #[I t,.pointer (some ⟨gb,0,none⟩),.pointer (some ⟨go,0,none⟩)] w fun e w'=>e=.returned (I 0)/\RdSt w0 w' gb go bs (out ++ [(bC bs i:Int)]) (i+1):=by
 obtain⟨hbel,hb,ho2,⟨A,n,c,hblk,hrb,hnc,hcm⟩,A2,n2,c2,hblk2,hown⟩:=h;have hn:0<n:=by have:=hrb.1;rw[aG] at this;omega
 have hrb2:=cut_rb hrb (k:=1) hn hnc;rw[List.drop_drop] at hrb2;have b:(t == 1)=false:=by rw[ae];exact ht
 have hrb':=hrb.below hbel aV;obtain⟨b2,o2,hA,hb2,hc2⟩:=hrb'.at_ hn;have e1:bC (bs.drop i) 0=bC bs i:=by unfold bC;simp[ag]
 rw[e1,Nat.add_zero] at hc2;have e2:(((bC bs i:Nat):Int) == 0 || ((bC bs i:Nat):Int) == 1)=true:=by
  rw[Bool.or_eq_true,beq_iff_eq,beq_iff_eq];omega
 have hb256:=gO bs i;have hcut:∀ W,(Instr.slice 27 (.slice A n c) (some (I 1)) none none).run Tryz.prog W=.ok (.slice (if c=1 then A else A.map (·.add (1 * 1))) (n - 1) (c - 1)) W:=fun W=>jC (P:=Tryz.prog) cI A n c 1 hn W
 generalize (if c=1 then A else A.map (·.add (1 * 1)))=A' at *;subst hA;clear e1 ht hf hrb';have hnb:(((n:Nat):Int) == 0)=false:=by rw[ae];omega
 have ht2:=fun w=>lR ((bC bs i:Nat):Int) w
 rw[e2] at ht2;clear e2;generalize bC bs i=y at *;have c1:=hblk.c0;have f1:=hblk.frozen 0;have c3:=hblk2.c0;have f3:=hblk2.frozen 0;have hlt:=hblk.lt;have hlt2:=hblk2.lt;have hbs:=hbel.size;have hn2:n2<=100:=by have:=hown.1;omega
 have hne1:=hown.ne_ hblk aU;have hne2:=hown.ne_ hblk2 aU;have hgo:=hblk.ne_ hblk2 aU;have hi0:(0:Int)<(n:Int):=aS;have hi1:(1:Int)<=(n:Int):=aS;have hw:IntKind.i64.wrap ((y:Nat):Int)=(y:Int):=by rw[IntKind.wrap_i64];omega
 unfold maxLen at hcm;go_enter Tryz.func239,Tryz.ntmps239;go_wp2_with (go_at_call 241;go_call (ht2 _) as e w' ⟨rfl,rfl⟩);go_region_law ((refine eR rfl rfl dV eS (s:=.tmp 35) (N:=n2+1) (L:=out ++ [((y:Nat):Int)]) rfl (hown.below (b:=w.heap.size) be aV) rfl (k:=[((y:Nat):Int)]) (Rd.of_block (l:=[((y:Nat):Int)]) (dy _ _ bj) rfl) rfl rfl bO aS cO ?_;intro A5 c5 w5 hown5 hg5 hat5 hb5;have k1:Blk w5 gb 27 [.slice (some ⟨b2,o2,none⟩) n c]:=Blk.grown bx hg5 hne1;have k2:Blk w5 go 22 [.slice A2 n2 c2]:=Blk.grown bx hg5 hne2;have c15:=k1.c0;have f15:=k1.frozen 0;have c35:=k2.c0;have f35:=k2.frozen 0))
 all_goals
  go_wp2;go_ret;have hb6:Below w0.heap.size w0 w5:=((hbel.alloc aS _).drew).trans hb5;refine⟨rfl,(hb6.setCell aS _).setCell aS _,hb,ho2,⟨A',n - 1,c - 1,(k1.far hgo _).set_ 0 _,hrb2,aS,by unfold maxLen;omega⟩,A5,n2+1,c5,(k2.set_ 0 _).far (Ne.symm hgo) _,?_⟩;exact (hown5.setFar k2 aU 0 _).setFar (k1.far hgo _) aU 0 _
structure NumSt (w0 w:World)(gb:Nat)(bs:List UInt8)(i:Nat):Prop where
 below:Below w0.heap.size w0 w
 hb:w0.heap.size<=gb
 bb:∃ A n c,Blk w gb 27 [.slice A n c]/\RB w0 A n (bs.drop i)/\n<=c/\c<=maxLen
def fL (bs:List UInt8)(i:Nat):Int:=sg (getL ((bs.drop i).take 8))
theorem nm (gb:Nat)(bs:List UInt8)(i:Nat)(w0 w:World)(h:NumSt w0 w gb bs i)(hi:i+8<=bs.length) :
 Ca 284 #[.pointer (some ⟨gb,0,none⟩)] w fun e w'=>e=.returned (I (fL bs i))/\NumSt w0 w' gb bs (i+8)/\w.grownBy w' (some gb):=by
 obtain⟨hbel,hb,A,n,c,hblk,hrb,hnc,hcm⟩:=h;have hn:8<=n:=by have:=hrb.1;rw[aG] at this;omega
 have hcut8:∀ W,(Instr.slice 27 (.slice A n c) none (some (I 8)) none).run Tryz.prog W=.ok (.slice A 8 c) W:=fun W=>lF (P:=Tryz.prog) cI A n c 8 aS W
 have hcutr:∀ W,(Instr.slice 27 (.slice A n c) (some (I 8)) none none).run Tryz.prog W=.ok (.slice (if c=8 then A else A.map (·.add (8 * 1))) (n - 8) (c - 8)) W:=fun W=>jC (P:=Tryz.prog) cI A n c 8 hn W
 have hrb2:=cut_rb hrb (k:=8) hn hnc;rw[List.drop_drop] at hrb2;generalize (if c=8 then A else A.map (·.add (8 * 1)))=A' at *;have hget:=fun w hl=>mS A c ((bs.drop i).take 8) w hl
 have hr8:=(hrb.below hbel aV).less hn;have hnum:Hid (sg (getL ((bs.drop i).take 8))=fL bs i):=rfl;rw[hnum.out] at hget;generalize fL bs i=v at *;have c1:=hblk.c0;have f1:=hblk.frozen 0;clear hnum;go_enter Tryz.func284,Tryz.ntmps284;go_wp2_with (go_at_call 237;go_call (hget _ hr8) as e w' ⟨rfl,rfl⟩);go_ret;exact⟨rfl,⟨hbel.setCell hb _,hb,A',n - 8,c - 8,hblk.set_ 0 _,hrb2,aS,aS⟩,ec _⟩
theorem numbers_any (A:Option Addr)(n c:Nat)(bs:List UInt8)(w:World)(hl:RB w A n bs)(hnc:n<=c)(hcm:c<=maxLen) :
 Ca 232 #[.slice A n c] w fun e w'=>e=.returned (.func (.func 284) #[] #[.pointer (some ⟨w.heap.size,0,none⟩)])/\NumSt w w' w.heap.size bs 0/\w'.heap.size=w.heap.size+1:=by
 go_enter Tryz.func232,Tryz.ntmps232;go_wp2;go_ret;exact⟨rfl,⟨be,Nat.le_refl _,A,n,c,bx,by simpa using hl,hnc,hcm⟩,by simp⟩
theorem Ow.grownBlk {α:Type}{enc:α->Value}{base n c g:Nat}{e t:TypeId}{A:Option Addr}{l:List α}{cs:List Value}(h:Ow enc w base e A n c l)(hg:w.grownBy w' (some g))(hb:Blk w g t cs)(hne:e≠t):Ow enc w' base e A n c l :=
 ⟨h.1,gY (F:=(·=g)) h.2 (Keep.of_grown hg (fun x e=>by injection e with e;exact e.symm)) (fun x hx e=>jm h.2 hb hne (by subst e;exact hx))⟩
def gE:SV:=⟨0,0,[]⟩
def gp (bs:List UInt8)(k:Nat):List Int:=(List.range k).map fun k=>fL bs (16+8 * k)
def snapOf (n:Nat)(bs:List UInt8):SV:=⟨fL bs 0,fL bs 8,gp bs n⟩
def fM (p:PV)(bs:List UInt8):SV × Nat :=
 if mayB p=false then (gE,2)
 else if bs.length<8 * (2+p.cells.length) then (gE,10)
 else if 8 * (2+p.cells.length)<bs.length then (gE,12)
 else if eV p (snapOf p.cells.length bs) then (snapOf p.cells.length bs,0) else (gE,11)
def jH (w:World)(r:SV × Nat)(e:Ending)(w':World):Prop:=∃ A m d,e=.returned (.tuple #[.agg #[I r.1.tick,I r.1.hash,.slice A m d],I (r.2:Nat)])/\(∃ b,w.heap.size<=b/\Ow iv w' b 3 A m d r.1.cells)/\Below w.heap.size w w'
theorem jH.bad {r:SV × Nat}(z:Int)(h1:r.1=gE)(h2:z=(r.2:Nat))(hb:Below w.heap.size w w'):jH w r (.returned (.tuple #[.agg #[I 0,I 0,.slice none 0 0],I z])) w' :=
 ⟨none,0,0,by rw[h1,h2];rfl,by rw[h1];exact⟨w.heap.size,Nat.le_refl _,Ow.nil _ _ _ _⟩,hb⟩
theorem stateread_own (x:PA)(p:PV)(B:Option Addr)(m d:Nat)(bs:List UInt8)(w:World)(h:bZ w x p)(hl:RB w B m bs)(hm:m<=d)(hd:d<=maxLen) :
 Ca 161 #[.agg #[.slice x.A1 x.n1 x.c1,.slice x.A2 x.n2 x.c2,I p.regs,.slice x.A3 x.n3 x.c3,.slice x.A4 x.n4 x.c4],.slice B m d] w (jH w (fM p bs)):=by
 have hmay:=fun w h=>jG x p w h
 have hlen:=hl.1;have hn3:=h.r3.1;generalize hr:fM p bs=r;unfold fM at hr;have hMd:m<=9223372036854775807:=by unfold maxLen at hd;omega
 cases hmb:mayB p with
 | false=>
   rw[if_pos hmb] at hr;rw[hmb] at hmay;subst hr;clear hmb hlen hn3;go_enter Tryz.func161,Tryz.ntmps161;go_wp2_with ((go_at_call 153;go_call (hmay _ (h.below (b:=w.heap.size) be aV)) as e w1 ⟨rfl,hb1⟩);have hp1:=Blk.below (w':=w1) (g:=w.heap.size) (t:=26) (cs:=[.slice x.A1 x.n1 x.c1,.slice x.A2 x.n2 x.c2,I p.regs,.slice x.A3 x.n3 x.c3,.slice x.A4 x.n4 x.c4]) bx hb1 aZ;have hs1:=Blk.below (w':=w1) (g:=w.heap.size+1) (t:=139) (cs:=[I 0,I 0,.slice none 0 0]) bx hb1 aZ;obtain⟨y10,y11,y12,y13,y14⟩:=blk5 hp1;obtain⟨j10,j11,j12⟩:=blk3 hs1;have f10:=hs1.frozen 0;have f11:=hs1.frozen 1;have f12:=hs1.frozen 2;have sz1:=hs1.lt;have rs1:=hb1.size;replace hb1:=bB (a:=w) (B:=w.heap.size) be hb1 aZ;have hb1s:=hb1.size);refine bodyPost_ret (v:=.tuple #[.agg #[I 0,I 0,.slice none 0 0],I 2]) mT rfl ?_;exact jH.bad 2 rfl rfl be
 | true=>
   rw[if_neg (by simp[hmb])] at hr;rw[hmb] at hmay;have hn60:=(dP.1 hmb).2.2.2.2.1;rw[hlen,hn3] at hr;rw[hn3] at hn60;have hn3':=aT hn3;clear hmb hn3;rcases (show m<8 * (2+x.n3)\/8 * (2+x.n3)<m\/m=8 * (2+x.n3) by omega) with hc | hc | hc
   · rw[if_pos hc] at hr;subst hr;have hc':(m:Int)<8 * (2+(x.n3:Int)):=aS;clear hlen;go_enter Tryz.func161,Tryz.ntmps161;go_wp2_with ((go_at_call 153;go_call (hmay _ (h.below (b:=w.heap.size) be aV)) as e w1 ⟨rfl,hb1⟩);have hp1:=Blk.below (w':=w1) (g:=w.heap.size) (t:=26) (cs:=[.slice x.A1 x.n1 x.c1,.slice x.A2 x.n2 x.c2,I p.regs,.slice x.A3 x.n3 x.c3,.slice x.A4 x.n4 x.c4]) bx hb1 aZ;have hs1:=Blk.below (w':=w1) (g:=w.heap.size+1) (t:=139) (cs:=[I 0,I 0,.slice none 0 0]) bx hb1 aZ;obtain⟨y10,y11,y12,y13,y14⟩:=blk5 hp1;obtain⟨j10,j11,j12⟩:=blk3 hs1;have f10:=hs1.frozen 0;have f11:=hs1.frozen 1;have f12:=hs1.frozen 2;have sz1:=hs1.lt;have rs1:=hb1.size;replace hb1:=bB (a:=w) (B:=w.heap.size) be hb1 aZ;have hb1s:=hb1.size);refine bodyPost_ret (v:=.tuple #[.agg #[I 0,I 0,.slice none 0 0],I 10]) mT rfl ?_;exact jH.bad 10 rfl rfl be
   · rw[if_neg aS,if_pos hc] at hr;subst hr;have hc':¬ (m:Int)<8 * (2+(x.n3:Int)):=aS;have hc2:8 * (2+(x.n3:Int))<(m:Int):=aS;clear hlen;go_enter Tryz.func161,Tryz.ntmps161;go_wp2_with ((go_at_call 153;go_call (hmay _ (h.below (b:=w.heap.size) be aV)) as e w1 ⟨rfl,hb1⟩);have hp1:=Blk.below (w':=w1) (g:=w.heap.size) (t:=26) (cs:=[.slice x.A1 x.n1 x.c1,.slice x.A2 x.n2 x.c2,I p.regs,.slice x.A3 x.n3 x.c3,.slice x.A4 x.n4 x.c4]) bx hb1 aZ;have hs1:=Blk.below (w':=w1) (g:=w.heap.size+1) (t:=139) (cs:=[I 0,I 0,.slice none 0 0]) bx hb1 aZ;obtain⟨y10,y11,y12,y13,y14⟩:=blk5 hp1;obtain⟨j10,j11,j12⟩:=blk3 hs1;have f10:=hs1.frozen 0;have f11:=hs1.frozen 1;have f12:=hs1.frozen 2;have sz1:=hs1.lt;have rs1:=hb1.size;replace hb1:=bB (a:=w) (B:=w.heap.size) be hb1 aZ;have hb1s:=hb1.size);refine bodyPost_ret (v:=.tuple #[.agg #[I 0,I 0,.slice none 0 0],I 12]) mT rfl ?_;exact jH.bad 12 rfl rfl be
   · rw[if_neg aS,if_neg aS] at hr;have hc':¬ (m:Int)<8 * (2+(x.n3:Int)):=aS;have hc2:¬ 8 * (2+(x.n3:Int))<(m:Int):=aS;have Hr:=aT hr;have hbl:bs.length=16+8 * x.n3:=aS;have hge:16+8 * x.n3<=bs.length:=aS;have hm':m<=1000:=aS;have hnum:=fun w hl=>numbers_any B m d bs w hl hm hd
     clear hr hlen hc hbl;have hT:∀ k,Hid (gp bs k ++ [fL bs (16+8 * k)]=gp bs (k+1)):=fun k=>by
      show _=_
      unfold gp;rw[List.range_succ,List.map_append];rfl
     have hT0:Hid (gp bs 0=[]):=rfl;have hsn:Hid (snapOf x.n3 bs=⟨fL bs 0,fL bs 8,gp bs x.n3⟩):=rfl;go_enter Tryz.func161,Tryz.ntmps161;go_wp2_with (first | ((go_at_call 153;go_call (hmay _ (h.below (b:=w.heap.size) be aV)) as e w1 ⟨rfl,hb1⟩);have hp1:=Blk.below (w':=w1) (g:=w.heap.size) (t:=26) (cs:=[.slice x.A1 x.n1 x.c1,.slice x.A2 x.n2 x.c2,I p.regs,.slice x.A3 x.n3 x.c3,.slice x.A4 x.n4 x.c4]) bx hb1 aZ;have hs1:=Blk.below (w':=w1) (g:=w.heap.size+1) (t:=139) (cs:=[I 0,I 0,.slice none 0 0]) bx hb1 aZ;obtain⟨y10,y11,y12,y13,y14⟩:=blk5 hp1;obtain⟨j10,j11,j12⟩:=blk3 hs1;have f10:=hs1.frozen 0;have f11:=hs1.frozen 1;have f12:=hs1.frozen 2;have sz1:=hs1.lt;have rs1:=hb1.size;replace hb1:=bB (a:=w) (B:=w.heap.size) be hb1 aZ;have hb1s:=hb1.size) | ((go_at_call 232;go_call (hnum _ (hl.below (B:=w.heap.size) be aV)) as e w2 ⟨rfl,st2,oV⟩);have Hz2:=aT oV;clear oV;have hp2:=hp1.below (w':=w2) st2.below hp1.lt;have hs2:=hs1.below (w':=w2) st2.below hs1.lt;have hb2:=hb1.trans (st2.below.mono aS);have sz2:=hs2.lt) | ((go_at_call 284;(with_reducible refine (nm w1.heap.size bs 0 w1 _ st2 aS).mono ?_);rintro e w3 ⟨rfl,st3,hg3⟩);have hp3:=Blk.grown hp2 hg3 cO;have hs3:=Blk.grown hs2 hg3 cO;have hb3:=hb1.trans (st3.below.mono aS);obtain⟨y30,y31,y32,y33,y34⟩:=blk5 hp3;have sz3:=hs3.lt) | ((go_at_call 284;(with_reducible refine (nm w1.heap.size bs (0+8) w1 _ st3 aS).mono ?_);rintro e w4 ⟨rfl,st4,hg4⟩);have hp4:=Blk.grown hp3 hg4 cO;have hs4:=Blk.grown hs3 hg4 cO;have hb4:=hb1.trans (st4.below.mono aS);obtain⟨y40,y41,y42,y43,y44⟩:=blk5 hp4;have sz4:=hs4.lt;have qb:=hp4.lt));have oF:=sz1;clear hp1 hs1 hp2 hs2 hp3 hs3 y10 y11 y12 y13 y14 j10 j11 j12 f10 f11 f12 y30 y31 y32 y33 y34 y40 y41 y42 y43 y44 st2 st3 hg3 hg4 hb2 hb3 sz2 sz3 hnum rs1 hb1s sz1;have hgb:=st4.hb;obtain⟨_,_,Ab,nb,cb,hkb,_,_,_⟩:=id st4;have hltb:=hkb.lt;clear hkb;have hw14:=st4.below.size;have hgx:w1.heap.size<w4.heap.size:=aS;clear Hz2;have hst4':NumSt w1 w4 w1.heap.size bs 16:=st4;generalize fL bs 0=T at *;generalize fL bs 8=Hh at *;go_loopw [40] (fun i wr=>∃ (k:Nat) (A3:Option Addr) (c3:Nat),k<=x.n3/\i=I (k:Nat)/\NumSt w1 wr w1.heap.size bs (16+8 * k)/\Blk wr w4.heap.size 139 [I T,I Hh,.slice A3 k c3]/\Ow iv wr w1.heap.size 3 A3 k c3 (gp bs k)/\Blk wr w.heap.size 26 [.slice x.A1 x.n1 x.c1,.slice x.A2 x.n2 x.c2,I p.regs,.slice x.A3 x.n3 x.c3,.slice x.A4 x.n4 x.c4]/\Blk wr (w.heap.size+1) 139 [I 0,I 0,.slice none 0 0]/\Below w.heap.size w wr) (fun i _=>x.n3 - (intOf i).toNat)
     case atStart=>exact⟨0,none,0,aS,rfl,⟨hst4'.below.alloc aS _,hst4'.hb,by obtain⟨a,b,c,k1,k2⟩:=hst4'.bb;exact⟨a,b,c,k1.alloc _,k2⟩⟩,bx,by rw[hT0.out];exact Ow.nil _ _ _ _,bx,bx,be⟩
     case round=>
      clear hp4 hs4 hst4' st4 hb4;obtain⟨k,A3,c3,hk,rfl,hst,hx,hown,hp,hs,hbel⟩:=hrel;have hbs:=hbel.size;have hgg:=hx.lt;obtain⟨q0,q1,q2⟩:=blk3 hx
      by_cases hlt:k<x.n3
      · have hstd:NumSt w1 wr.drew w1.heap.size bs (16+8 * k):=⟨hst.below.drew,hst.hb,hst.bb⟩;obtain⟨_,_,Ab,nb,cb,hkb,_,_,_⟩:=id hst;have hTk:=hT k;have hle:16+8 * k+8<=bs.length:=aS;have hnext:=fun (w2:World) (hs:NumSt w1 w2 w1.heap.size bs (16+8 * k))=>nm _ bs (16+8 * k) w1 w2 hs hle
        generalize fL bs (16+8 * k)=v at *;clear hT hT0;have n1:w1.heap.size≠w4.heap.size:=aS;have hfz:=hx.frozen 2;have hww1:=hb1.size;go_wp2;go_region_law (first | (go_simp;(go_at_call 284;go_call (hnext _ hstd) as e w5 ⟨rfl,st5,hg5⟩);have hx5:=Blk.grown (w:=wr.drew) hx hg5 cO;have hp5:=Blk.grown (w:=wr.drew) hp hg5 cO;have hs5:=Blk.grown (w:=wr.drew) hs hg5 cO;have own5:=Ow.grownBlk (w:=wr.drew) hown hg5 hkb aU;have c52:=hx5.c2;have hb5:=hb1.trans (st5.below.mono aS);have hb5s:=hb5.size;have z5:=hx5.lt;have st5b:=st5.below;have st5s:=st5b.size;obtain⟨_,_,Ab5,nb5,cb5,hkb5,hrb5,hnc5,hcm5⟩:=id st5) | (refine eR rfl rfl dV eS (s:=.tmp 43) (N:=k+1) (L:=gp bs (k+1)) rfl (own5.below (b:=w5.heap.size) be aV) rfl (k:=[v]) (Rd.of_block (l:=[v]) (dy _ _ bj) rfl) rfl hTk.out bO aS aZ ?_;intro A6 c6 w6 own6 hg6 hat6 hb6;have hx6:Blk w6 w4.heap.size 139 [I T,I Hh,.slice A3 k c3]:=Blk.grown bx hg6 (own5.ne_ hx5 aU);have hp6:Blk w6 w.heap.size 26 [.slice x.A1 x.n1 x.c1,.slice x.A2 x.n2 x.c2,I p.regs,.slice x.A3 x.n3 x.c3,.slice x.A4 x.n4 x.c4]:=Blk.grown bx hg6 (own5.ne_ hp5 aU);have hs6:Blk w6 (w.heap.size+1) 139 [I 0,I 0,.slice none 0 0]:=Blk.grown bx hg6 (own5.ne_ hs5 aU);have c62:=hx6.c2;have f62:=hx6.frozen 2;have z6:=hx6.lt;have hkb6:Blk w6 w1.heap.size 27 [.slice Ab5 nb5 cb5]:=Blk.grown bx hg6 (own5.ne_ hkb5 aU);have hbw6:Below w1.heap.size w1 w6:=bB (a:=w1) (B:=w1.heap.size) be hb6 aV))
        all_goals
         go_wp2;go_roundw
         case rel=>
          refine⟨k+1,A6,c6,aS,by go_num,⟨hbw6.setCell aS _,hst.hb,Ab5,nb5,cb5,hkb6.far n1 _,hrb5,hnc5,hcm5⟩,hx6.set_ 2 _,own6.setFar hx6 aU 2 _,hp6.far cO _,hs6.far cO _,hb1.trans ((hbw6.setCell aS _).mono aS)⟩
         case measure=>simp[intOf];omega
      · have hkn:k=x.n3:=aS;subst hkn;have hge:((x.n3:Nat):Int)<=((x.n3:Nat):Int):=aS;obtain⟨qc,qd,qe,qf,qg⟩:=blk5 hp;obtain⟨qh,qi,ql⟩:=blk3 hs;have hfit:=fun w h k'=>nj x p T Hh A3 x.n3 c3 (gp bs x.n3) w h k' bO
        have hcp:=hown.cap;rw[hsn.out] at Hr;clear hT hT0;generalize gp bs x.n3=CC at *;have Hr2:=Hr;clear Hr;generalize eV p ⟨T,Hh,CC⟩=fb at *
        cases fb with
        | true=>
          have hr2:Hid (r=(⟨T,Hh,CC⟩,0)):=by show r=_;rw[<- Hr2.out];rfl
          clear Hr2;go_wp2_with ((go_at_call 233;go_call (hfit _ (h.below (b:=w.heap.size) be aV) hown.rd.ri) as e w7 ⟨rfl,hb7⟩);have hx7:=hx.below (w':=w7) hb7 hx.lt;have hs7:=hs.below (w':=w7) hb7 hs.lt;have own7:=hown.below hb7 aV;obtain⟨v70,v71,v72⟩:=blk3 hx7;obtain⟨u70,u71,u72⟩:=blk3 hs7;have f70:=hs7.frozen 0;have f71:=hs7.frozen 1;have f72:=hs7.frozen 2;have cO:=hs7.lt;replace hb7:=bB (a:=w) (B:=w.heap.size) be hb7 aZ;have hb7s:=hb7.size);refine bodyPost_ret (v:=.tuple #[.agg #[I T,I Hh,.slice A3 x.n3 c3],I 0]) (by simp[results,Tryz.results161,go_sem,u70,u71,u72]) rfl ?_;exact⟨A3,x.n3,c3,by rw[hr2.out];rfl,by rw[hr2.out];exact⟨_,hb1.size,(((own7.setFar hs7 aU 0 _).setFar (hs7.set_ 0 _) aU 1 _).setFar ((hs7.set_ 0 _).set_ 1 _) aU 2 _)⟩,be⟩
        | false=>
          have hr2:Hid (r=(gE,11)):=by show r=_;rw[<- Hr2.out];rfl
          clear Hr2;go_wp2_with ((go_at_call 233;go_call (hfit _ (h.below (b:=w.heap.size) be aV) hown.rd.ri) as e w7 ⟨rfl,hb7⟩);have hx7:=hx.below (w':=w7) hb7 hx.lt;have hs7:=hs.below (w':=w7) hb7 hs.lt;have own7:=hown.below hb7 aV;obtain⟨v70,v71,v72⟩:=blk3 hx7;obtain⟨u70,u71,u72⟩:=blk3 hs7;have f70:=hs7.frozen 0;have f71:=hs7.frozen 1;have f72:=hs7.frozen 2;have cO:=hs7.lt;replace hb7:=bB (a:=w) (B:=w.heap.size) be hb7 aZ;have hb7s:=hb7.size);refine bodyPost_ret (v:=.tuple #[.agg #[I 0,I 0,.slice none 0 0],I 11]) (by simp[results,Tryz.results161,go_sem,u70,u71,u72]) rfl ?_;exact jH.bad 11 (by rw[hr2.out]) (by rw[hr2.out];rfl) be
