/- Parts. -/
import Derived.Test.YtmeebofhlilcmaaGreatPr04
import Derived.Deep.RegionLaw
import Derived.Test.YtmeebofhlilcmaaGreatRows
import Derived.Lib.SmallJoins
import Derived.Deep.Slices
import Derived.Deep.Fields
import Derived.Laws.LoneSync
import Derived.Deep.WholeRow
set_option linter.unusedVariables false
set_option linter.unusedSimpArgs false
set_option maxRecDepth 100000
set_option maxHeartbeats 0
namespace Go.Proofs.YtmeebofhlilcmaaGreat
variable {w w':World} {A:Option Addr} {n k g fuel:Nat} {α:Type} {e t:TypeId} {zs l:List Int} {kind:Int}
open Go.RowKit
structure RdSt (w0 w:World)(gb go:Nat)(bs:List UInt8)(out:List Int)(i:Nat):Prop where
 below:Below w0.heap.size w0 w
 hb:w0.heap.size<=gb
 ho:w0.heap.size<=go
 bb:∃ A n c,Blk w gb 27 [.slice A n c]/\RB w0 A n (bs.drop i)/\n<=c/\c<=maxLen
 bo:∃ A n c,Blk w go 22 [.slice A n c]/\Ow iv w w0.heap.size 3 A n c out
theorem cut_rb {c:Nat}{l:List UInt8}(h:RB w A n l)(hk:k<=n)(hc:n<=c):RB w (if c=k then A else A.map (·.add (k * 1))) (n - k) (l.drop k):=by
 refine⟨by rw[aH,h.1],?_⟩;have:=h.2.cut hk hc;rw[Nat.mul_one];exact this.congr fun i hi=>by unfold bx;simp[ah]
theorem read1_int (gb go:Nat)(bs:List UInt8)(out:List Int)(i:Nat)(w0 w:World)(h:RdSt w0 w gb go bs out i)(ho:out.length<=100) :
 Ca 239 #[I 1,.pointer (some ⟨gb,0,none⟩),.pointer (some ⟨go,0,none⟩)] w fun e w'=>e=.returned (I (zagE (bs.drop i):Nat))/\RdSt w0 w' gb go bs (out ++ [zagV (bs.drop i)]) (i+zagS (bs.drop i)):=by
 obtain⟨hbel,hb,ho2,⟨A,n,c,hblk,hrb,hnc,hcm⟩,A2,n2,c2,hblk2,hown⟩:=h;have hzag:=fun w hl=>zag_any A n c (bs.drop i) w hl aS
 have hS:=zagS_le (bs.drop i);have hlen:=hrb.1;rw[hlen] at hS;have hcut:=kF (P:=Tryz.prog) cH A n c (zagS (bs.drop i)) hS;have hrb2:=cut_rb hrb hS hnc;rw[List.drop_drop] at hrb2;generalize zagS (bs.drop i)=s at *;generalize zagV (bs.drop i)=v at *;generalize (if c=s then A else A.map (·.add (s * 1)))=A' at *;have hrbw:=hrb.below hbel aW;clear hlen;generalize zagE (bs.drop i)=z at *;have c1:=hblk.c0;have f1:=hblk.frozen 0;have c3:=hblk2.c0;have f3:=hblk2.frozen 0;have hlt:=hblk.lt;have hlt2:=hblk2.lt;have hbs:=hbel.size;have hn2:n2<=100:=by have:=hown.1;omega
 have hne1:=hown.ne_ hblk aU;have hne2:=hown.ne_ hblk2 aU;have hgo:=hblk.ne_ hblk2 aU;go_enter Tryz.func239,Tryz.ntmps239;go_wp2_with (go_at_call 240;go_call (hzag _ hrbw) as e w' ⟨rfl,rfl⟩);go_region_law ((refine eF rfl rfl fF gq (s:=.tmp 16) (N:=n2+1) (L:=out ++ [v]) rfl (hown.below (b:=w.heap.size) bc aW) rfl (k:=[v]) (Rd.of_block (l:=[v]) (dP _ _ aZ) rfl) rfl rfl bQ aS cR ?_;intro A5 c5 w5 hown5 hg5 hat5 hb5;have k1:Blk w5 gb 27 [.slice A n c]:=Blk.grown bI hg5 hne1;have k2:Blk w5 go 22 [.slice A2 n2 c2]:=Blk.grown bI hg5 hne2;have c15:=k1.c0;have f15:=k1.frozen 0;have c35:=k2.c0;have f35:=k2.frozen 0))
 all_goals
  go_wp2;go_ret;have hb6:Below w0.heap.size w0 w5:=((hbel.alloc aS _).drew).trans hb5;refine⟨rfl,(hb6.setCell aS _).setCell aS _,hb,ho2,⟨A',n - s,c - s,(k1.far hgo _).set_ 0 _,hrb2,aS,aS⟩,A5,n2+1,c5,(k2.set_ 0 _).far (Ne.symm hgo) _,?_⟩;exact (hown5.setFar k2 aU 0 _).setFar (k1.far hgo _) aU 0 _
theorem read1_end (t:Int)(gb go:Nat)(bs:List UInt8)(out:List Int)(i:Nat)(w0 w:World)(h:RdSt w0 w gb go bs out i)(ht:t≠1)(hi:bs.length<=i) :
 Ca 239 #[I t,.pointer (some ⟨gb,0,none⟩),.pointer (some ⟨go,0,none⟩)] w fun e w'=>e=.returned (I 10)/\w=w':=by
 obtain⟨hbel,hb,ho2,⟨A,n,c,hblk,hrb,hnc,hcm⟩,A2,n2,c2,hblk2,hown⟩:=h;have hn:n=0:=by have:=hrb.1;rw[aH] at this;omega
 subst hn;have c1:=hblk.c0;have b:(t == 1)=false:=by rw[af];exact ht
 clear ht;go_enter Tryz.func239,Tryz.ntmps239;go_wp2;go_ret;exact⟨rfl,rfl⟩
theorem read1_form (t:Int)(gb go:Nat)(bs:List UInt8)(out:List Int)(i:Nat)(w0 w:World)(h:RdSt w0 w gb go bs out i)(ht:t≠1)(hi:i<bs.length)(hf:1<bx bs i) :
 Ca 239 #[I t,.pointer (some ⟨gb,0,none⟩),.pointer (some ⟨go,0,none⟩)] w fun e w'=>e=.returned (I 11)/\w=w':=by
 obtain⟨hbel,hb,ho2,⟨A,n,c,hblk,hrb,hnc,hcm⟩,A2,n2,c2,hblk2,hown⟩:=h;have hn:0<n:=by have:=hrb.1;rw[aH] at this;omega
 have c1:=hblk.c0;have b:(t == 1)=false:=by rw[af];exact ht
 have hrb':=hrb.below hbel aW;obtain⟨b2,o2,rfl,_,hc2⟩:=hrb'.at_ hn;have e1:bx (bs.drop i) 0=bx bs i:=by unfold bx;simp[ah]
 rw[e1,Nat.add_zero] at hc2;have e2:(((bx bs i:Nat):Int) == 0 || ((bx bs i:Nat):Int) == 1)=false:=by
  rw[Bool.or_eq_false_iff,af,af];omega
 have hb256:=ij bs i;clear e1 ht hf hrb';have hnb:(((n:Nat):Int) == 0)=false:=by rw[af];omega
 have ht2:=fun w=>mb ((bx bs i:Nat):Int) w
 rw[e2] at ht2;clear e2;generalize bx bs i=y at *;unfold maxLen at hcm;go_enter Tryz.func239,Tryz.ntmps239;go_wp2_with (go_at_call 241;go_call (ht2 _) as e w' ⟨rfl,rfl⟩);go_ret;exact⟨rfl,rfl⟩
theorem read1_bool (t:Int)(gb go:Nat)(bs:List UInt8)(out:List Int)(i:Nat)(w0 w:World)(h:RdSt w0 w gb go bs out i)(ho:out.length<=100)(ht:t≠1)(hi:i<bs.length)(hf:bx bs i<=1) :
 Ca 239 #[I t,.pointer (some ⟨gb,0,none⟩),.pointer (some ⟨go,0,none⟩)] w fun e w'=>e=.returned (I 0)/\RdSt w0 w' gb go bs (out ++ [(bx bs i:Int)]) (i+1):=by
 obtain⟨hbel,hb,ho2,⟨A,n,c,hblk,hrb,hnc,hcm⟩,A2,n2,c2,hblk2,hown⟩:=h;have hn:0<n:=by have:=hrb.1;rw[aH] at this;omega
 have hrb2:=cut_rb hrb (k:=1) hn hnc;rw[List.drop_drop] at hrb2;have b:(t == 1)=false:=by rw[af];exact ht
 have hrb':=hrb.below hbel aW;obtain⟨b2,o2,hA,hb2,hc2⟩:=hrb'.at_ hn;have e1:bx (bs.drop i) 0=bx bs i:=by unfold bx;simp[ah]
 rw[e1,Nat.add_zero] at hc2;have e2:(((bx bs i:Nat):Int) == 0 || ((bx bs i:Nat):Int) == 1)=true:=by
  rw[Bool.or_eq_true,beq_iff_eq,beq_iff_eq];omega
 have hb256:=ij bs i;have hcut:∀ W,(Instr.slice 27 (.slice A n c) (some (I 1)) none none).run Tryz.prog W=.ok (.slice (if c=1 then A else A.map (·.add (1 * 1))) (n - 1) (c - 1)) W:=fun W=>kF (P:=Tryz.prog) cH A n c 1 hn W
 generalize (if c=1 then A else A.map (·.add (1 * 1)))=A' at *;subst hA;clear e1 ht hf hrb';have hnb:(((n:Nat):Int) == 0)=false:=by rw[af];omega
 have ht2:=fun w=>mb ((bx bs i:Nat):Int) w
 rw[e2] at ht2;clear e2;generalize bx bs i=y at *;have c1:=hblk.c0;have f1:=hblk.frozen 0;have c3:=hblk2.c0;have f3:=hblk2.frozen 0;have hlt:=hblk.lt;have hlt2:=hblk2.lt;have hbs:=hbel.size;have hn2:n2<=100:=by have:=hown.1;omega
 have hne1:=hown.ne_ hblk aU;have hne2:=hown.ne_ hblk2 aU;have hgo:=hblk.ne_ hblk2 aU;have hi0:(0:Int)<(n:Int):=aS;have hi1:(1:Int)<=(n:Int):=aS;have hw:IntKind.i64.wrap ((y:Nat):Int)=(y:Int):=by rw[IntKind.wrap_i64];omega
 unfold maxLen at hcm;go_enter Tryz.func239,Tryz.ntmps239;go_wp2_with (go_at_call 241;go_call (ht2 _) as e w' ⟨rfl,rfl⟩);go_region_law ((refine eF rfl rfl fF gq (s:=.tmp 35) (N:=n2+1) (L:=out ++ [((y:Nat):Int)]) rfl (hown.below (b:=w.heap.size) bc aW) rfl (k:=[((y:Nat):Int)]) (Rd.of_block (l:=[((y:Nat):Int)]) (dP _ _ aZ) rfl) rfl rfl bQ aS cR ?_;intro A5 c5 w5 hown5 hg5 hat5 hb5;have k1:Blk w5 gb 27 [.slice (some ⟨b2,o2,none⟩) n c]:=Blk.grown bI hg5 hne1;have k2:Blk w5 go 22 [.slice A2 n2 c2]:=Blk.grown bI hg5 hne2;have c15:=k1.c0;have f15:=k1.frozen 0;have c35:=k2.c0;have f35:=k2.frozen 0))
 all_goals
  go_wp2;go_ret;have hb6:Below w0.heap.size w0 w5:=((hbel.alloc aS _).drew).trans hb5;refine⟨rfl,(hb6.setCell aS _).setCell aS _,hb,ho2,⟨A',n - 1,c - 1,(k1.far hgo _).set_ 0 _,hrb2,aS,by unfold maxLen;omega⟩,A5,n2+1,c5,(k2.set_ 0 _).far (Ne.symm hgo) _,?_⟩;exact (hown5.setFar k2 aU 0 _).setFar (k1.far hgo _) aU 0 _
structure NumSt (w0 w:World)(gb:Nat)(bs:List UInt8)(i:Nat):Prop where
 below:Below w0.heap.size w0 w
 hb:w0.heap.size<=gb
 bb:∃ A n c,Blk w gb 27 [.slice A n c]/\RB w0 A n (bs.drop i)/\n<=c/\c<=maxLen
def fH (bs:List UInt8)(i:Nat):Int:=sg (getL ((bs.drop i).take 8))
theorem nI (gb:Nat)(bs:List UInt8)(i:Nat)(w0 w:World)(h:NumSt w0 w gb bs i)(hi:i+8<=bs.length) :
 Ca 284 #[.pointer (some ⟨gb,0,none⟩)] w fun e w'=>e=.returned (I (fH bs i))/\NumSt w0 w' gb bs (i+8)/\w.grownBy w' (some gb):=by
 obtain⟨hbel,hb,A,n,c,hblk,hrb,hnc,hcm⟩:=h;have hn:8<=n:=by have:=hrb.1;rw[aH] at this;omega
 have hcut8:∀ W,(Instr.slice 27 (.slice A n c) none (some (I 8)) none).run Tryz.prog W=.ok (.slice A 8 c) W:=fun W=>jM (P:=Tryz.prog) cH A n c 8 aS W
 have hcutr:∀ W,(Instr.slice 27 (.slice A n c) (some (I 8)) none none).run Tryz.prog W=.ok (.slice (if c=8 then A else A.map (·.add (8 * 1))) (n - 8) (c - 8)) W:=fun W=>kF (P:=Tryz.prog) cH A n c 8 hn W
 have hrb2:=cut_rb hrb (k:=8) hn hnc;rw[List.drop_drop] at hrb2;generalize (if c=8 then A else A.map (·.add (8 * 1)))=A' at *;have hget:=fun w hl=>np A c ((bs.drop i).take 8) w hl
 have hr8:=(hrb.below hbel aW).less hn;have hnum:Hid (sg (getL ((bs.drop i).take 8))=fH bs i):=rfl;rw[hnum.out] at hget;generalize fH bs i=v at *;have c1:=hblk.c0;have f1:=hblk.frozen 0;clear hnum;go_enter Tryz.func284,Tryz.ntmps284;go_wp2_with (go_at_call 237;go_call (hget _ hr8) as e w' ⟨rfl,rfl⟩);go_ret;exact⟨rfl,⟨hbel.setCell hb _,hb,A',n - 8,c - 8,hblk.set_ 0 _,hrb2,aS,aS⟩,dw _⟩
theorem numbers_any (A:Option Addr)(n c:Nat)(bs:List UInt8)(w:World)(hl:RB w A n bs)(hnc:n<=c)(hcm:c<=maxLen) :
 Ca 232 #[.slice A n c] w fun e w'=>e=.returned (.func (.func 284) #[] #[.pointer (some ⟨w.heap.size,0,none⟩)])/\NumSt w w' w.heap.size bs 0/\w'.heap.size=w.heap.size+1:=by
 go_enter Tryz.func232,Tryz.ntmps232;go_wp2;go_ret;exact⟨rfl,⟨bc,Nat.le_refl _,A,n,c,bI,by simpa using hl,hnc,hcm⟩,by simp⟩
theorem Ow.grownBlk {enc:α->Value}{base c:Nat}{l:List α}{cs:List Value}(h:Ow enc w base e A n c l)(hg:w.grownBy w' (some g))(hb:Blk w g t cs)(hne:e≠t):Ow enc w' base e A n c l :=
 ⟨h.1,il (F:=(·=g)) h.2 (Keep.of_grown hg (fun x e=>by injection e with e;exact e.symm)) (fun x hx e=>jy h.2 hb hne (by subst e;exact hx))⟩
def gz:SV:=⟨0,0,[]⟩
def fY (bs:List UInt8)(k:Nat):List Int:=(List.range k).map fun k=>fH bs (16+8 * k)
def snapOf (n:Nat)(bs:List UInt8):SV:=⟨fH bs 0,fH bs 8,fY bs n⟩
def fI (p:PV)(bs:List UInt8):SV × Nat :=
 if mayB p=false then (gz,2)
 else if bs.length<8 * (2+p.cells.length) then (gz,10)
 else if 8 * (2+p.cells.length)<bs.length then (gz,12)
 else if fd p (snapOf p.cells.length bs) then (snapOf p.cells.length bs,0) else (gz,11)
def jU (w:World)(r:SV × Nat)(e:Ending)(w':World):Prop:=∃ A m d,e=.returned (.tuple #[.agg #[I r.1.tick,I r.1.hash,.slice A m d],I (r.2:Nat)])/\(∃ b,w.heap.size<=b/\Ow iv w' b 3 A m d r.1.cells)/\Below w.heap.size w w'
theorem jU.bad {r:SV × Nat}(z:Int)(h1:r.1=gz)(h2:z=(r.2:Nat))(hb:Below w.heap.size w w'):jU w r (.returned (.tuple #[.agg #[I 0,I 0,.slice none 0 0],I z])) w' :=
 ⟨none,0,0,by rw[h1,h2];rfl,by rw[h1];exact⟨w.heap.size,Nat.le_refl _,Ow.nil _ _ _ _⟩,hb⟩
theorem stateread_own (x:PA)(p:PV)(B:Option Addr)(m d:Nat)(bs:List UInt8)(w:World)(h:cC w x p)(hl:RB w B m bs)(hm:m<=d)(hd:d<=maxLen) :
 Ca 161 #[.agg #[.slice x.A1 x.n1 x.c1,.slice x.A2 x.n2 x.c2,I p.regs,.slice x.A3 x.n3 x.c3,.slice x.A4 x.n4 x.c4],.slice B m d] w (jU w (fI p bs)):=by
 have hmay:=fun w h=>jT x p w h
 have hlen:=hl.1;have hn3:=h.r3.1;generalize hr:fI p bs=r;unfold fI at hr;have hMd:m<=9223372036854775807:=by unfold maxLen at hd;omega
 cases hmb:mayB p with
 | false=>
   rw[if_pos hmb] at hr;rw[hmb] at hmay;subst hr;clear hmb hlen hn3;go_enter Tryz.func161,Tryz.ntmps161;go_wp2_with ((go_at_call 153;go_call (hmay _ (h.below (b:=w.heap.size) bc aW)) as e w1 ⟨rfl,hb1⟩);have hp1:=Blk.below (w':=w1) (g:=w.heap.size) (t:=26) (cs:=[.slice x.A1 x.n1 x.c1,.slice x.A2 x.n2 x.c2,I p.regs,.slice x.A3 x.n3 x.c3,.slice x.A4 x.n4 x.c4]) bI hb1 br;have hs1:=Blk.below (w':=w1) (g:=w.heap.size+1) (t:=139) (cs:=[I 0,I 0,.slice none 0 0]) bI hb1 br;obtain⟨y10,y11,y12,y13,y14⟩:=blk5 hp1;obtain⟨j10,j11,j12⟩:=blk3 hs1;have f10:=hs1.frozen 0;have f11:=hs1.frozen 1;have f12:=hs1.frozen 2;have sz1:=hs1.lt;have rs1:=hb1.size;replace hb1:=bO (a:=w) (B:=w.heap.size) bc hb1 br;have hb1s:=hb1.size);refine bodyPost_ret (v:=.tuple #[.agg #[I 0,I 0,.slice none 0 0],I 2]) ns rfl ?_;exact jU.bad 2 rfl rfl bc
 | true=>
   rw[if_neg (by simp[hmb])] at hr;rw[hmb] at hmay;have hn60:=(dV.1 hmb).2.2.2.2.1;rw[hlen,hn3] at hr;rw[hn3] at hn60;have hn3':=aT hn3;clear hmb hn3;rcases (show m<8 * (2+x.n3)\/8 * (2+x.n3)<m\/m=8 * (2+x.n3) by omega) with hc | hc | hc
   · rw[if_pos hc] at hr;subst hr;have hc':(m:Int)<8 * (2+(x.n3:Int)):=aS;clear hlen;go_enter Tryz.func161,Tryz.ntmps161;go_wp2_with ((go_at_call 153;go_call (hmay _ (h.below (b:=w.heap.size) bc aW)) as e w1 ⟨rfl,hb1⟩);have hp1:=Blk.below (w':=w1) (g:=w.heap.size) (t:=26) (cs:=[.slice x.A1 x.n1 x.c1,.slice x.A2 x.n2 x.c2,I p.regs,.slice x.A3 x.n3 x.c3,.slice x.A4 x.n4 x.c4]) bI hb1 br;have hs1:=Blk.below (w':=w1) (g:=w.heap.size+1) (t:=139) (cs:=[I 0,I 0,.slice none 0 0]) bI hb1 br;obtain⟨y10,y11,y12,y13,y14⟩:=blk5 hp1;obtain⟨j10,j11,j12⟩:=blk3 hs1;have f10:=hs1.frozen 0;have f11:=hs1.frozen 1;have f12:=hs1.frozen 2;have sz1:=hs1.lt;have rs1:=hb1.size;replace hb1:=bO (a:=w) (B:=w.heap.size) bc hb1 br;have hb1s:=hb1.size);refine bodyPost_ret (v:=.tuple #[.agg #[I 0,I 0,.slice none 0 0],I 10]) ns rfl ?_;exact jU.bad 10 rfl rfl bc
   · rw[if_neg aS,if_pos hc] at hr;subst hr;have hc':¬ (m:Int)<8 * (2+(x.n3:Int)):=aS;have hc2:8 * (2+(x.n3:Int))<(m:Int):=aS;clear hlen;go_enter Tryz.func161,Tryz.ntmps161;go_wp2_with ((go_at_call 153;go_call (hmay _ (h.below (b:=w.heap.size) bc aW)) as e w1 ⟨rfl,hb1⟩);have hp1:=Blk.below (w':=w1) (g:=w.heap.size) (t:=26) (cs:=[.slice x.A1 x.n1 x.c1,.slice x.A2 x.n2 x.c2,I p.regs,.slice x.A3 x.n3 x.c3,.slice x.A4 x.n4 x.c4]) bI hb1 br;have hs1:=Blk.below (w':=w1) (g:=w.heap.size+1) (t:=139) (cs:=[I 0,I 0,.slice none 0 0]) bI hb1 br;obtain⟨y10,y11,y12,y13,y14⟩:=blk5 hp1;obtain⟨j10,j11,j12⟩:=blk3 hs1;have f10:=hs1.frozen 0;have f11:=hs1.frozen 1;have f12:=hs1.frozen 2;have sz1:=hs1.lt;have rs1:=hb1.size;replace hb1:=bO (a:=w) (B:=w.heap.size) bc hb1 br;have hb1s:=hb1.size);refine bodyPost_ret (v:=.tuple #[.agg #[I 0,I 0,.slice none 0 0],I 12]) ns rfl ?_;exact jU.bad 12 rfl rfl bc
   · rw[if_neg aS,if_neg aS] at hr;have hc':¬ (m:Int)<8 * (2+(x.n3:Int)):=aS;have hc2:¬ 8 * (2+(x.n3:Int))<(m:Int):=aS;have Hr:=aT hr;have hbl:bs.length=16+8 * x.n3:=aS;have hge:16+8 * x.n3<=bs.length:=aS;have hm':m<=1000:=aS;have hnum:=fun w hl=>numbers_any B m d bs w hl hm hd
     clear hr hlen hc hbl;have hT:∀ k,Hid (fY bs k ++ [fH bs (16+8 * k)]=fY bs (k+1)):=fun k=>by
      show _=_
      unfold fY;rw[List.range_succ,List.map_append];rfl
     have hT0:Hid (fY bs 0=[]):=rfl;have hsn:Hid (snapOf x.n3 bs=⟨fH bs 0,fH bs 8,fY bs x.n3⟩):=rfl;go_enter Tryz.func161,Tryz.ntmps161;go_wp2_with (first | ((go_at_call 153;go_call (hmay _ (h.below (b:=w.heap.size) bc aW)) as e w1 ⟨rfl,hb1⟩);have hp1:=Blk.below (w':=w1) (g:=w.heap.size) (t:=26) (cs:=[.slice x.A1 x.n1 x.c1,.slice x.A2 x.n2 x.c2,I p.regs,.slice x.A3 x.n3 x.c3,.slice x.A4 x.n4 x.c4]) bI hb1 br;have hs1:=Blk.below (w':=w1) (g:=w.heap.size+1) (t:=139) (cs:=[I 0,I 0,.slice none 0 0]) bI hb1 br;obtain⟨y10,y11,y12,y13,y14⟩:=blk5 hp1;obtain⟨j10,j11,j12⟩:=blk3 hs1;have f10:=hs1.frozen 0;have f11:=hs1.frozen 1;have f12:=hs1.frozen 2;have sz1:=hs1.lt;have rs1:=hb1.size;replace hb1:=bO (a:=w) (B:=w.heap.size) bc hb1 br;have hb1s:=hb1.size) | ((go_at_call 232;go_call (hnum _ (hl.below (B:=w.heap.size) bc aW)) as e w2 ⟨rfl,st2,pu⟩);have Hz2:=aT pu;clear pu;have hp2:=hp1.below (w':=w2) st2.below hp1.lt;have hs2:=hs1.below (w':=w2) st2.below hs1.lt;have hb2:=hb1.trans (st2.below.mono aS);have sz2:=hs2.lt) | ((go_at_call 284;(with_reducible refine (nI w1.heap.size bs 0 w1 _ st2 aS).mono ?_);rintro e w3 ⟨rfl,st3,hg3⟩);have hp3:=Blk.grown hp2 hg3 cR;have hs3:=Blk.grown hs2 hg3 cR;have hb3:=hb1.trans (st3.below.mono aS);obtain⟨y30,y31,y32,y33,y34⟩:=blk5 hp3;have sz3:=hs3.lt) | ((go_at_call 284;(with_reducible refine (nI w1.heap.size bs (0+8) w1 _ st3 aS).mono ?_);rintro e w4 ⟨rfl,st4,hg4⟩);have hp4:=Blk.grown hp3 hg4 cR;have hs4:=Blk.grown hs3 hg4 cR;have hb4:=hb1.trans (st4.below.mono aS);obtain⟨y40,y41,y42,y43,y44⟩:=blk5 hp4;have sz4:=hs4.lt;have qr:=hp4.lt));have o9:=sz1;clear hp1 hs1 hp2 hs2 hp3 hs3 y10 y11 y12 y13 y14 j10 j11 j12 f10 f11 f12 y30 y31 y32 y33 y34 y40 y41 y42 y43 y44 st2 st3 hg3 hg4 hb2 hb3 sz2 sz3 hnum rs1 hb1s sz1;have hgb:=st4.hb;obtain⟨_,_,Ab,nb,cb,hkb,_,_,_⟩:=id st4;have hltb:=hkb.lt;clear hkb;have hw14:=st4.below.size;have hgx:w1.heap.size<w4.heap.size:=aS;clear Hz2;have hst4':NumSt w1 w4 w1.heap.size bs 16:=st4;generalize fH bs 0=T at *;generalize fH bs 8=Hh at *;go_loopw [40] (fun i wr=>∃ (k:Nat) (A3:Option Addr) (c3:Nat),k<=x.n3/\i=I (k:Nat)/\NumSt w1 wr w1.heap.size bs (16+8 * k)/\Blk wr w4.heap.size 139 [I T,I Hh,.slice A3 k c3]/\Ow iv wr w1.heap.size 3 A3 k c3 (fY bs k)/\Blk wr w.heap.size 26 [.slice x.A1 x.n1 x.c1,.slice x.A2 x.n2 x.c2,I p.regs,.slice x.A3 x.n3 x.c3,.slice x.A4 x.n4 x.c4]/\Blk wr (w.heap.size+1) 139 [I 0,I 0,.slice none 0 0]/\Below w.heap.size w wr) (fun i _=>x.n3 - (intOf i).toNat)
     case atStart=>exact⟨0,none,0,aS,rfl,⟨hst4'.below.alloc aS _,hst4'.hb,by obtain⟨a,b,c,k1,k2⟩:=hst4'.bb;exact⟨a,b,c,k1.alloc _,k2⟩⟩,bI,by rw[hT0.out];exact Ow.nil _ _ _ _,bI,bI,bc⟩
     case round=>
      clear hp4 hs4 hst4' st4 hb4;obtain⟨k,A3,c3,hk,rfl,hst,hx,hown,hp,hs,hbel⟩:=hrel;have hbs:=hbel.size;have hgg:=hx.lt;obtain⟨q0,q1,q2⟩:=blk3 hx
      by_cases hlt:k<x.n3
      · have hstd:NumSt w1 wr.drew w1.heap.size bs (16+8 * k):=⟨hst.below.drew,hst.hb,hst.bb⟩;obtain⟨_,_,Ab,nb,cb,hkb,_,_,_⟩:=id hst;have hTk:=hT k;have hle:16+8 * k+8<=bs.length:=aS;have hnext:=fun (w2:World) (hs:NumSt w1 w2 w1.heap.size bs (16+8 * k))=>nI _ bs (16+8 * k) w1 w2 hs hle
        generalize fH bs (16+8 * k)=v at *;clear hT hT0;have n1:w1.heap.size≠w4.heap.size:=aS;have hfz:=hx.frozen 2;have hww1:=hb1.size;go_wp2;go_region_law (first | (go_simp;(go_at_call 284;go_call (hnext _ hstd) as e w5 ⟨rfl,st5,hg5⟩);have hx5:=Blk.grown (w:=wr.drew) hx hg5 cR;have hp5:=Blk.grown (w:=wr.drew) hp hg5 cR;have hs5:=Blk.grown (w:=wr.drew) hs hg5 cR;have own5:=Ow.grownBlk (w:=wr.drew) hown hg5 hkb aU;have c52:=hx5.c2;have hb5:=hb1.trans (st5.below.mono aS);have hb5s:=hb5.size;have z5:=hx5.lt;have st5b:=st5.below;have st5s:=st5b.size;obtain⟨_,_,Ab5,nb5,cb5,hkb5,hrb5,hnc5,hcm5⟩:=id st5) | (refine eF rfl rfl fF gq (s:=.tmp 43) (N:=k+1) (L:=fY bs (k+1)) rfl (own5.below (b:=w5.heap.size) bc aW) rfl (k:=[v]) (Rd.of_block (l:=[v]) (dP _ _ aZ) rfl) rfl hTk.out bQ aS br ?_;intro A6 c6 w6 own6 hg6 hat6 hb6;have hx6:Blk w6 w4.heap.size 139 [I T,I Hh,.slice A3 k c3]:=Blk.grown bI hg6 (own5.ne_ hx5 aU);have hp6:Blk w6 w.heap.size 26 [.slice x.A1 x.n1 x.c1,.slice x.A2 x.n2 x.c2,I p.regs,.slice x.A3 x.n3 x.c3,.slice x.A4 x.n4 x.c4]:=Blk.grown bI hg6 (own5.ne_ hp5 aU);have hs6:Blk w6 (w.heap.size+1) 139 [I 0,I 0,.slice none 0 0]:=Blk.grown bI hg6 (own5.ne_ hs5 aU);have c62:=hx6.c2;have f62:=hx6.frozen 2;have z6:=hx6.lt;have hkb6:Blk w6 w1.heap.size 27 [.slice Ab5 nb5 cb5]:=Blk.grown bI hg6 (own5.ne_ hkb5 aU);have hbw6:Below w1.heap.size w1 w6:=bO (a:=w1) (B:=w1.heap.size) bc hb6 aW))
        all_goals
         go_wp2;go_roundw
         case rel=>
          refine⟨k+1,A6,c6,aS,by go_num,⟨hbw6.setCell aS _,hst.hb,Ab5,nb5,cb5,hkb6.far n1 _,hrb5,hnc5,hcm5⟩,hx6.set_ 2 _,own6.setFar hx6 aU 2 _,hp6.far cR _,hs6.far cR _,hb1.trans ((hbw6.setCell aS _).mono aS)⟩
         case measure=>simp[intOf];omega
      · have hkn:k=x.n3:=aS;subst hkn;have hge:((x.n3:Nat):Int)<=((x.n3:Nat):Int):=aS;obtain⟨qs,qt,qv,qw,qx⟩:=blk5 hp;obtain⟨qy,qz,qA⟩:=blk3 hs;have hfit:=fun w h k'=>nH x p T Hh A3 x.n3 c3 (fY bs x.n3) w h k' bQ
        have hcp:=hown.cap;rw[hsn.out] at Hr;clear hT hT0;generalize fY bs x.n3=CC at *;have Hr2:=Hr;clear Hr;generalize fd p ⟨T,Hh,CC⟩=fb at *
        cases fb with
        | true=>
          have hr2:Hid (r=(⟨T,Hh,CC⟩,0)):=by show r=_;rw[<- Hr2.out];rfl
          clear Hr2;go_wp2_with ((go_at_call 233;go_call (hfit _ (h.below (b:=w.heap.size) bc aW) hown.rd.ri) as e w7 ⟨rfl,hb7⟩);have hx7:=hx.below (w':=w7) hb7 hx.lt;have hs7:=hs.below (w':=w7) hb7 hs.lt;have own7:=hown.below hb7 aW;obtain⟨v70,v71,v72⟩:=blk3 hx7;obtain⟨u70,u71,u72⟩:=blk3 hs7;have f70:=hs7.frozen 0;have f71:=hs7.frozen 1;have f72:=hs7.frozen 2;have cR:=hs7.lt;replace hb7:=bO (a:=w) (B:=w.heap.size) bc hb7 br;have hb7s:=hb7.size);refine bodyPost_ret (v:=.tuple #[.agg #[I T,I Hh,.slice A3 x.n3 c3],I 0]) (by simp[results,Tryz.results161,go_sem,u70,u71,u72]) rfl ?_;exact⟨A3,x.n3,c3,by rw[hr2.out];rfl,by rw[hr2.out];exact⟨_,hb1.size,(((own7.setFar hs7 aU 0 _).setFar (hs7.set_ 0 _) aU 1 _).setFar ((hs7.set_ 0 _).set_ 1 _) aU 2 _)⟩,bc⟩
        | false=>
          have hr2:Hid (r=(gz,11)):=by show r=_;rw[<- Hr2.out];rfl
          clear Hr2;go_wp2_with ((go_at_call 233;go_call (hfit _ (h.below (b:=w.heap.size) bc aW) hown.rd.ri) as e w7 ⟨rfl,hb7⟩);have hx7:=hx.below (w':=w7) hb7 hx.lt;have hs7:=hs.below (w':=w7) hb7 hs.lt;have own7:=hown.below hb7 aW;obtain⟨v70,v71,v72⟩:=blk3 hx7;obtain⟨u70,u71,u72⟩:=blk3 hs7;have f70:=hs7.frozen 0;have f71:=hs7.frozen 1;have f72:=hs7.frozen 2;have cR:=hs7.lt;replace hb7:=bO (a:=w) (B:=w.heap.size) bc hb7 br;have hb7s:=hb7.size);refine bodyPost_ret (v:=.tuple #[.agg #[I 0,I 0,.slice none 0 0],I 11]) (by simp[results,Tryz.results161,go_sem,u70,u71,u72]) rfl ?_;exact jU.bad 11 (by rw[hr2.out]) (by rw[hr2.out];rfl) bc
open Go.RowKit Go.WideShapes Go.ChangeShapes
theorem nJ {a:Addr}{v:Value}(h:w.cell? a=some v):a.spot=none:=by
 unfold World.cell? at h
 split at h
 · split at h
   · cases h
   · rename_i hs;simpa using hs
 · cases h
section
variable {H:Type} {enc:TypeId × Value→H} {P:Program} {w:World} {base b0:Nat} {spare:Nat→Bool} {held:Bool} {r:Reach} {v:Value} {d:DataW H} {ps:List MemPlace}
theorem row_of_ints {k:IntKind}{x:Addr}{len:Nat}(hz:len<=zs.length)(hcell:∀ i,i<zs.length->w.cell? (x.add i)=some (.int k (zs.getD i 0))) :
 Row w (some x) len (fun i=>.int k (zs.getD i 0)):=by
 intro h0;have h:=hcell 0 aS;have hs:=nJ (a:=x) (by simpa [Addr.add] using h);obtain⟨b,o,s⟩:=x;simp only at hs;subst hs;refine⟨b,o,rfl,?_,fun i hi=>?_⟩
 · exact World.block_lt_of_cell? w ⟨b,o,none⟩ (by simpa [Addr.add] using h)
 · have:=hcell i aS;have hadd:(⟨b,o,none⟩:Addr).add i=⟨b,o+i,none⟩:=by unfold Addr.add;split <;> simp_all
   rwa [hadd] at this
theorem args_array {k:IntKind}(ht:P.underlying t=some (.array n e))(he:P.underlying e=some (.int k))(hc:P.cellsOf e=1)(hct:P.cellsOf t=n)(hval:Value.okWide P w r b0 t v)
 (hd:DataW.Trod enc P w base spare held t v d ps):∃ zs:List Int,v=.agg (zs.map (Value.int k)).toArray/\zs.length=n/\∀ z ∈ zs,(Lit.int k z).wf=true:=by
 simp only[Value.okWide,ht] at hval;obtain⟨cs,rfl,hsz,_⟩:=hval;obtain⟨fuel,hf⟩:=hd;obtain⟨xs,m,_,_,hcl,hxl,hat⟩:=DataW.trod_array ht hf;simp only[Value.cells,hct] at hcl hat
 have hl:cs.toList.length=n:=by simpa using hcl
 have hall:∀ i,i<n->∃ z,cs.toList[i]?=some (.int k z)/\(Lit.int k z).wf=true:=by
  intro i hi;have h:=hat i hi;rw[hc,Nat.mul_one] at h;have hx:xs[i]?=some (xs[i]'aS):=ap aS;rw[hx] at h;obtain⟨z,hz,_,hw⟩:=DataW.trod_int he h;have h1:cs.toList.drop i=cs.toList[i]'aS :: cs.toList.drop (i+1):=aQ aS;rw[h1] at hz;simp only[List.take_succ_cons,List.take_zero,List.cons.injEq,and_true] at hz;exact⟨z,by rw[ap aS,hz],hw⟩
 refine⟨cs.toList.map fun v=>match v with | .int _ z=>z | _=>0,?_,by simpa using hl,fun z hz=>?_⟩
 · congr 1
   apply Array.ext_getElem?;intro i;rw[<- Array.getElem?_toList];simp only[List.getElem?_toArray,List.getElem?_map];rcases ay i n with hi | hi
   · obtain⟨z,hz,_⟩:=hall i hi;rw[hz];rfl
   · rw[aK aS];rfl
 · obtain⟨v,hv,rfl⟩:=List.mem_map.1 hz;obtain⟨i,hi,rfl⟩:=List.mem_iff_getElem.1 hv;obtain⟨z,hz,hw⟩:=hall i aS;rw[ap hi] at hz;injection hz with hz;rw[hz];exact hw
end
open Go.RowKit Go.WideShapes Go.ChangeShapes Go.Deep
section
variable {H:Type} {enc:TypeId × Value→H} {P:Program} {w:World} {base b0:Nat} {held:Bool} {r:Reach} {v:Value} {d:DataW H} {ps:List MemPlace}
def zsOf (w:World)(a:Addr)(n:Nat):List Int:=(List.range n).map fun q=>match w.cell? (a.add q) with | some (.int _ z)=>z | _=>0
end
open Go.RowKit Go.WideShapes Go.ChangeShapes Go.Deep Go.Joins
section
variable {H:Type} {enc:TypeId × Value→H} {P:Program} {w:World} {base b0:Nat} {held:Bool} {r:Reach} {v:Value} {d:DataW H} {ps:List MemPlace}
theorem pv {spare:Nat->Bool}{y:DataW H × List MemPlace}(ht:P.underlying t=some (.slice e))(hf:DataW.trod enc P w base spare held fuel t [v]=some y):∃ a len cap,v=.slice a len cap:=by
 rcases DataW.trod_slice ht hf with ⟨h,_⟩ | ⟨a,len,cap,_,_,_,_,h,_⟩
 · exact⟨none,0,0,by simpa using h⟩
 · exact⟨some a,len,cap,by simpa using h⟩
theorem pw {k:IntKind}(ht:P.underlying t=some (.slice e))(he:P.underlying e=some (.int k))(hc:P.cellsOf e=1) 
  {y:DataW H × List MemPlace} (hf:DataW.trod enc P w base (fun _=>true) held fuel t [v]=some y) :
 ∃ A n c,∃ zs:List Int,v=.slice A n c/\zs.length=n/\Row w A n (fun i=>.int k (zs.getD i 0))/\n<=c/\c<=maxLen/\(∀ z ∈ zs,(Lit.int k z).wf=true):=by
 obtain⟨a0,len,cap,rfl⟩:=pv ht hf;rcases open_ints ht he hc hf with ⟨hcs,_⟩ | ⟨x,l,c,zs,hcs,_,hl,hm,hz,_,hcell,hwz⟩
 · simp at hcs;obtain⟨rfl,rfl,rfl⟩:=hcs;exact⟨none,0,0,[],rfl,rfl,Row.nil _ _ _,Nat.le_refl _,by unfold maxLen;omega,by simp⟩
 · simp at hcs;obtain⟨rfl,rfl,rfl⟩:=hcs;simp only[if_true] at hz;refine⟨some x,len,cap,zs.take len,rfl,by simp;omega,(row_of_ints aS hcell).congr fun i hi=>?_,hl,hm,fun z hzm=>hwz z (List.mem_of_mem_take hzm)⟩;simp[ah,hi]
theorem trod_bytes (ht:P.underlying t=some (.slice e))(he:P.underlying e=some (.int .u8))(hc:P.cellsOf e=1) 
  {y:DataW H × List MemPlace} (hf:DataW.trod enc P w base (fun _=>true) held fuel t [v]=some y) :
 ∃ A n c l,v=.slice A n c/\RB w A n l/\n<=c/\c<=maxLen:=by
 obtain⟨A,n,c,zs,rfl,hlen,hrow,hnc,hm,hwf⟩:=pw ht he hc hf;refine⟨A,n,c,zs.map fun z=>UInt8.ofNat z.toNat,rfl,⟨by simpa using hlen,hrow.congr fun i hi=>?_⟩,hnc,hm⟩;have hi':i<zs.length:=aS;have hb:=bounds_u8 (hwf _ (List.getElem_mem hi'));simp only[bx,ah,List.getElem?_map,ap hi',Option.map_some,Option.getD_some]
 congr 1
 rw[UInt8.toNat_ofNat_of_lt' lW];omega
theorem nK (ht:P.underlying t=some (.slice e))(he:P.underlying e=some (.int .i64))(hc:P.cellsOf e=1) 
  {y:DataW H × List MemPlace} (hf:DataW.trod enc P w base (fun _=>true) held fuel t [v]=some y) :
 ∃ A n c l,v=.slice A n c/\RI w A n l/\n<=c/\c<=maxLen/\(∀ z ∈ l,-9223372036854775808<=z/\z<=9223372036854775807):=by
 obtain⟨A,n,c,zs,rfl,hlen,hrow,hnc,hm,hwf⟩:=pw ht he hc hf;exact⟨A,n,c,zs,rfl,⟨hlen,hrow⟩,hnc,hm,fun z hz=>bounds_i64 (hwf z hz)⟩
theorem px {fs:Array Field}(ht:P.underlying t=some (.slice e))(he:P.underlying e=some (.struct fs))(hone:oneCellFields P fs=true)(hC:P.cellsOf e=fs.size)(hk:fs.size=k)
 (hint:∀ (j:Nat) (f:Field),fs[j]?=some f->P.underlying f.type=some (.int .i64))  {y:DataW H × List MemPlace} (hf:DataW.trod enc P w base (fun _=>true) held fuel t [v]=some y) :
 ∃ A n c,∃ zs:List Int,v=.slice A n c/\zs.length=n * k/\Row w A (n * k) (fun i=>I (zs.getD i 0))/\n<=c/\c<=maxLen/\(∀ z ∈ zs,-9223372036854775808<=z/\z<=9223372036854775807):=by
 obtain⟨a0,len,cap,rfl⟩:=pv ht hf;subst hk;rcases open_slice ht hf with ⟨hcs,_⟩ | ⟨x,l,c,m,nf,D,Pl,hcs,_,hl,hm,hmm,_,hat⟩
 · simp at hcs;obtain⟨rfl,rfl,rfl⟩:=hcs;exact⟨none,0,0,[],rfl,by simp,by rw[Nat.zero_mul];exact Row.nil _ _ _,Nat.le_refl _,by unfold maxLen;omega,by simp⟩
 · simp at hcs;obtain⟨rfl,rfl,rfl⟩:=hcs;simp only[if_true] at hmm;have hcell:∀ q,q<len * fs.size->∃ z,w.cell? (x.add q)=some (I z)/\-9223372036854775808<=z/\z<=9223372036854775807:=by
    intro q hq;have hp:0<fs.size:=by
     rcases aI fs.size with h | h
     · rw[h,Nat.mul_zero] at hq;omega
     · exact h
    have hi:=Nat.div_lt_of_lt_mul (by rw[Nat.mul_comm];exact hq);have hj:q % fs.size<fs.size:=Nat.mod_lt _ hp;obtain⟨cells,hcells,htr⟩:=hat (q / fs.size) aS;rw[hC] at hcells;obtain⟨_,_,_,_,hlen,hys,hff⟩:=DataW.trod_struct he htr;obtain⟨_,_,hread⟩:=World.cells?_some hcells;have hlt:q % fs.size<cells.length:=by rw[hlen,hC];exact hj
    have hc:=hread (q % fs.size) hj;rw[ap hlt] at hc;have hfj:fs[q % fs.size]?=some fs[q % fs.size]:=by simp[hj]
    obtain⟨o1,k1⟩:=hone_of hone (q % fs.size) _ hfj;have h1:=hff (q % fs.size) _ hfj;rw[o1,k1,aQ hlt,List.take_succ_cons,List.take_zero] at h1;obtain⟨z,hz,_,hw⟩:=DataW.trod_int (hint (q % fs.size) _ hfj) (h1.trans (ap aS));have e:q / fs.size * fs.size+q % fs.size=q:=by rw[Nat.mul_comm];exact Nat.div_add_mod q fs.size
    rw[Go.Deep.add_add,e] at hc;simp only[List.cons.injEq,and_true] at hz;rw[hz] at hc;exact⟨z,hc,bounds_i64 hw⟩
   have hget:∀ q,q<len * fs.size->∃ z,w.cell? (x.add q)=some (I z)/\(zsOf w x (len * fs.size)).getD q 0=z:=by
    intro q hq;obtain⟨z,hz,_⟩:=hcell q hq;refine⟨z,hz,?_⟩;simp[zsOf,ah,hq,hz]
   refine⟨some x,len,cap,zsOf w x (len * fs.size),rfl,by simp[zsOf],fun h0=>?_,hl,hm,fun z hz=>?_⟩
   · obtain⟨z0,h00,_⟩:=hcell 0 h0;have hs:=nJ (a:=x) (by simpa [Addr.add] using h00);obtain⟨b,o,s⟩:=x;simp only at hs;subst hs;refine⟨b,o,rfl,World.block_lt_of_cell? w ⟨b,o,none⟩ (by simpa [Addr.add] using h00),fun i hi=>?_⟩;obtain⟨z,hz,hg⟩:=hget i hi;have hadd:(⟨b,o,none⟩:Addr).add i=⟨b,o+i,none⟩:=by unfold Addr.add;split <;> simp_all
     rw[hadd] at hz;rw[hz];exact congrArg (fun z=>some (I z)) hg.symm
   · obtain⟨q,hq,rfl⟩:=List.mem_map.1 hz;obtain⟨z,hz',hb⟩:=hcell q (List.mem_range.1 hq);rw[hz'];exact hb
theorem open_agg {fs:Array Field}{spare:Nat->Bool}(hs:P.underlying t=some (.struct fs))(hone:oneCellFields P fs=true)(hC:P.cellsOf t=fs.size)
 (hv:Value.okWide P w r b0 t v) (h:DataW.Trod enc P w base spare held t v d ps) :
 ∃ (vs:List Value) (n:Nat),v=.agg vs.toArray/\vs.length=fs.size/\∀ (j:Nat) (f:Field),fs[j]?=some f->∃ u y,vs[j]?=some u/\DataW.trod enc P w base spare held n f.type [u]=some y:=by
 obtain⟨cs,rfl,hsz⟩:=okWide_struct hs hv;obtain⟨fuel,hf⟩:=h;obtain⟨xs,n,_,hx,_,hlen,hg⟩:=DataW.trod_struct hs hf;refine⟨cs.toList,n,rfl,by rw[Array.length_toList,hsz,hC],fun j f hj=>?_⟩;obtain⟨ho,hk⟩:=hone_of hone j f hj;have hjl:j<fs.size:=(Array.getElem?_eq_some_iff.1 hj).1;have hcl:j<cs.toList.length:=by rw[Array.length_toList,hsz,hC];exact hjl
 have h1:=hg j f hj;rw[ho,hk] at h1;have h2:((Value.agg cs).cells.toList.drop j).take 1=[cs.toList[j]]:=by
  show (cs.toList.drop j).take 1=_
  rw[aQ hcl];rfl
 rw[h2] at h1;exact⟨cs.toList[j],xs[j]'aS,ap hcl,h1.trans (ap aS)⟩
end
open Go.RowKit Go.WideShapes Go.ChangeShapes Go.Deep Go.Joins
section
variable {H:Type} {enc:TypeId × Value→H} {P:Program} {w:World} {base b0:Nat} {held:Bool} {r:Reach} {v:Value} {d:DataW H} {ps:List MemPlace}
theorem open_structs {fs:Array Field}(ht:P.underlying t=some (.slice e))(he:P.underlying e=some (.struct fs))(hone:oneCellFields P fs=true)(hC:P.cellsOf e=fs.size)(hk:fs.size=k)(h0:0<k)
 (hval:Value.okWide P w r b0 t v) (hd:DataW.Trod enc P w base (fun _=>true) held t v d ps) :
 ∃ A n c,v=.slice A n c/\n<=c/\c<=maxLen/\∀ i,i<n->∃ b o,∃ vs:List Value,A=some ⟨b,o,none⟩/\b<w.heap.size/\vs.length=k/\(∀ j,j<k->w.cell? ⟨b,o+i * k+j,none⟩=vs[j]?) /\
   ∃ fuel,∀ (j:Nat) (f:Field),fs[j]?=some f->∃ u y,vs[j]?=some u/\DataW.trod enc P w base (fun _=>true) held fuel f.type [u]=some y:=by
 obtain⟨a0,len,cap,rfl⟩:=okWide_slice ht hval;obtain⟨fuel,hf⟩:=hd;subst hk;rcases open_slice ht hf with ⟨hcs,_⟩ | ⟨x,l,c,m,nf,D,Pl,hcs,_,hl,hm,hmm,_,hat⟩
 · simp[Value.cells] at hcs;obtain⟨rfl,rfl,rfl⟩:=hcs;exact⟨none,0,0,rfl,Nat.le_refl _,by unfold maxLen;omega,fun i hi=>absurd hi aS⟩
 · simp[Value.cells] at hcs;obtain⟨rfl,rfl,rfl⟩:=hcs;simp only[if_true] at hmm;refine⟨some x,len,cap,rfl,hl,hm,fun i hi=>?_⟩;obtain⟨cells,hcells,htr⟩:=hat i aS;rw[hC] at hcells;obtain⟨xs,n,_,_,hlen,hys,hff⟩:=DataW.trod_struct he htr;obtain⟨_,_,hread⟩:=World.cells?_some hcells;have hread':∀ j,j<fs.size->w.cell? ((x.add (i * fs.size)).add j)=cells[j]?:=fun j hj=>hread j hj
   have hc0:=hread' 0 h0;have hlt0:0<cells.length:=by rw[hlen,hC];exact h0
   rw[ap hlt0,Go.Deep.add_add] at hc0;have hs:x.spot=none:=by
    obtain⟨cells0,hcells0,htr0⟩:=hat 0 aS;rw[hC] at hcells0;obtain⟨_,_,_,_,hlen0,_,_⟩:=DataW.trod_struct he htr0;obtain⟨_,_,hread0⟩:=World.cells?_some hcells0;have h9:=hread0 0 h0;have hlt9:0<cells0.length:=by rw[hlen0,hC];exact h0
    rw[ap hlt9] at h9;exact nJ (a:=x) (by simpa [Addr.add] using h9)
   obtain⟨b,o,s⟩:=x;simp only at hs;subst hs;have hadd:∀ q,(⟨b,o,none⟩:Addr).add q=⟨b,o+q,none⟩:=fun q=>by unfold Addr.add;split <;> simp_all
   rw[hadd] at hc0;refine⟨b,o,cells,rfl,World.block_lt_of_cell? w _ hc0,by rw[hlen,hC],fun j hj=>?_,n,fun j f hj=>?_⟩
   · have:=hread' j hj;rw[Go.Deep.add_add,hadd] at this;rw[Nat.add_assoc];exact this
   · obtain⟨ho,hk⟩:=hone_of hone j f hj;have hjl:j<fs.size:=(Array.getElem?_eq_some_iff.1 hj).1;have hcl:j<cells.length:=by rw[hlen,hC];exact hjl
     have h1:=hff j f hj;rw[ho,hk,aQ hcl,List.take_succ_cons,List.take_zero] at h1;exact⟨cells[j],xs[j]'aS,ap hcl,h1.trans (ap aS)⟩
end
theorem list_of {P:Nat->α->Prop}(h:∀ i,i<n->∃ x,P i x):∃ l:List α,l.length=n/\∀ k x,l[k]?=some x->P k x:=by
 induction n with
 | zero=>exact⟨[],rfl,fun k x hx=>by simp at hx⟩
 | succ n ih=>
   obtain⟨l,hl,hp⟩:=ih (fun i hi=>h i aS);obtain⟨x,hx⟩:=h n aS;refine⟨l ++ [x],by simp[hl],fun k y hy=>?_⟩;rcases ay k n with hk | hk
   · rw[aR aS] at hy;exact hp k y hy
   · rw[aM aS] at hy;have:k - l.length=0:=by
      rcases aI (k - l.length) with q | q
      · exact q
      · rw[aK cR] at hy;cases hy
     rw[this] at hy;simp only[List.getElem?_cons_zero,Option.some.injEq] at hy;have e:k=n:=aS;subst e hy;exact hx
open Go.ChangeShapes Go.WideShapes Go.RowKit Go.Deep
theorem py {size:Nat}{enc:α->List Value}(henc:∀ x,(enc x).length=size)(h0:0<size)(mk:(Nat->Int)->α)
 (hmk:∀ g j,j<size->(enc (mk g))[j]?=some (I (g j))) (hrow:Row w A (n * size) (fun i=>I (zs.getD i 0))) :
 RdS size enc w A n ((List.range n).map fun k=>mk (fun j=>zs.getD (k * size+j) 0)):=by
 refine⟨by simp,by rw[ng henc];simp,hrow.congr fun i hi=>?_⟩;have hk:i / size<n:=Nat.div_lt_of_lt_mul (by rw[Nat.mul_comm];exact hi);have hj:i % size<size:=Nat.mod_lt _ h0;have e:i / size * size+i % size=i:=by rw[Nat.mul_comm];exact Nat.div_add_mod i size
 have h:=flat_at henc hj ((List.range n).map fun k=>mk (fun j=>zs.getD (k * size+j) 0)) (i / size) (mk (fun j=>zs.getD (i / size * size+j) 0)) (by simp[hk]);rw[e,hmk _ _ hj,e] at h;generalize List.flatMap enc _=F at *
 show _=F.getD i undef
 generalize zs.getD i 0=z at *;rw[ah,h]
 rfl
def I64 (z:Int):Prop:=-9223372036854775808<=z/\z<=9223372036854775807
structure ProgAll (p:PV):Prop where
 ins:∀ z ∈ p.ins,I64 z
 outs:∀ z ∈ p.outs,I64 z
 regs:I64 p.regs
 cells:∀ x ∈ p.cells,I64 x.1/\I64 x.2
 code:∀ x ∈ p.code,I64 x.op/\I64 x.a/\I64 x.b/\I64 x.c/\I64 x.k
theorem jV (h:∀ z ∈ zs,I64 z)(i:Nat):I64 (zs.getD i 0):=by
 rw[ah];rcases ay i zs.length with h1 | h1
 · rw[ap h1];exact h _ (List.getElem_mem h1)
 · rw[aK h1];exact⟨by decide,by decide⟩
section
variable {H:Type} {enc:TypeId × Value→H} {w:World} {base b0:Nat} {held:Bool} {r:Reach} {v:Value} {d:DataW H} {ps:List MemPlace}
theorem args_prog (hval:Value.okWide Tryz.prog w r b0 26 v)(hd:DataW.Trod enc Tryz.prog w base (fun _=>true) held 26 v d ps) :
 ∃ x p,v=.agg #[.slice x.A1 x.n1 x.c1,.slice x.A2 x.n2 x.c2,I p.regs,.slice x.A3 x.n3 x.c3,.slice x.A4 x.n4 x.c4]/\cC w x p/\ProgAll p:=by
 obtain⟨vs,n,rfl,hlen,hf⟩:=open_agg Tryz.underlying26 bM bM hval hd
 match vs,hlen with
 | [v0,v1,v2,v3,v4],_=>
   obtain⟨u0,y0,e0,t0⟩:=hf 0 _ rfl;obtain⟨u1,y1,e1,t1⟩:=hf 1 _ rfl;obtain⟨u2,y2,e2,t2⟩:=hf 2 _ rfl;obtain⟨u3,y3,e3,t3⟩:=hf 3 _ rfl;obtain⟨u4,y4,e4,t4⟩:=hf 4 _ rfl;injection e0 with e0;injection e1 with e1;injection e2 with e2;injection e3 with e3;injection e4 with e4;subst e0 e1 e2 e3 e4;obtain⟨A1,n1,c1,l1,rfl,r1,k1,m1,w1⟩:=nK Tryz.underlying22 Tryz.underlying3 bM t0;obtain⟨A2,n2,c2,l2,rfl,r2,k2,m2,w2⟩:=nK Tryz.underlying22 Tryz.underlying3 bM t1;obtain⟨z,hz,_,hw⟩:=DataW.trod_int Tryz.underlying3 t2;have hz:v2=I z:=by simpa using hz
   subst hz;obtain⟨A3,n3,c3,l3,rfl,_,r3,k3,m3,w3⟩:=px (k:=2) Tryz.underlying23 Tryz.underlying187 bM bM rfl (fun j f h=>by
    match j,h with | 0,h=>simp at h;subst h;exact Tryz.underlying3 | 1,h=>simp at h;subst h;exact Tryz.underlying3 | k+2,h=>simp at h) t3
   obtain⟨A4,n4,c4,l4,rfl,_,r4,k4,m4,w4⟩:=px (k:=5) Tryz.underlying24 Tryz.underlying144 bM bM rfl (fun j f h=>by
    match j,h with | 0,h=>simp at h;subst h;exact Tryz.underlying3 | 1,h=>simp at h;subst h;exact Tryz.underlying3 | 2,h=>simp at h;subst h;exact Tryz.underlying3 | 3,h=>simp at h;subst h;exact Tryz.underlying3 | 4,h=>simp at h;subst h;exact Tryz.underlying3 | k+5,h=>simp at h) t4
   have q3:=py iy aS (fun g=>(g 0,g 1)) (fun g j hj=>by
    match j,hj with | 0,_=>rfl | 1,_=>rfl) r3
   have q4:=py gX aS (fun g=>(⟨g 0,g 1,g 2,g 3,g 4⟩:Ins)) (fun g j hj=>by
    match j,hj with | 0,_=>rfl | 1,_=>rfl | 2,_=>rfl | 3,_=>rfl | 4,_=>rfl) r4
   refine⟨⟨A1,n1,c1,A2,n2,c2,A3,n3,c3,A4,n4,c4⟩,⟨l1,l2,z,_,_⟩,rfl,⟨r1,r2,q3,q4,⟨k1,m1⟩,⟨k2,m2⟩,⟨k3,m3⟩,⟨k4,m4⟩⟩,w1,w2,bounds_i64 hw,fun x hx=>?_,fun x hx=>?_⟩
   · obtain⟨k,_,rfl⟩:=List.mem_map.1 hx;exact⟨jV w3 _,jV w3 _⟩
   · obtain⟨k,_,rfl⟩:=List.mem_map.1 hx;exact⟨jV w4 _,jV w4 _,jV w4 _,jV w4 _,jV w4 _⟩
end
open Go.ChangeShapes Go.WideShapes Go.RowKit Go.Deep
section
variable {H:Type} {enc:TypeId × Value→H} {w:World} {base b0:Nat} {held:Bool} {r:Reach} {v:Value} {d:DataW H} {ps:List MemPlace}
structure mc (s:SV):Prop where
 tick:I64 s.tick
 hash:I64 s.hash
 cells:∀ z ∈ s.cells,I64 z
end
theorem nL {n:Int}(hn:-9223372036854775808<=n/\n<=9223372036854775807)(a b:List UInt8):fH (a ++ (nBs n ++ b)) a.length=n:=by
 unfold fH;rw[List.drop_left,List.take_left' (jG n)];unfold nBs;rw[ny _ (un_lt n),sg_un hn.1 hn.2]
theorem flat_len8 (l:List Int):(l.flatMap nBs).length=8 * l.length:=by
 induction l with
 | nil=>rfl
 | cons a l ih=>rw[List.flatMap_cons,aw,ih,jG,aF];omega
theorem stBs_len (s:SV):(stBs s).length=16+8 * s.cells.length:=by
 unfold stBs;rw[aw,aw,jG,jG,flat_len8]
theorem numAt_flat (l:List Int)(hl:∀ z ∈ l,-9223372036854775808<=z/\z<=9223372036854775807)(a:List UInt8)(k:Nat)(hk:k<l.length):fH (a ++ l.flatMap nBs) (a.length+8 * k)=l[k]:=by
 induction l generalizing a k with
 | nil=>simp at hk
 | cons z l ih=>
   rw[List.flatMap_cons]
   cases k with
   | zero=>exact nL (hl z aZ) a _
   | succ k=>
     have:=ih (fun y hy=>hl y (by simp[hy])) (a ++ nBs z) k (by simpa using hk);rw[aw,jG,aN] at this;rw[show a.length+8 * (k+1)=a.length+8+8 * k by omega,this];rfl
theorem snapOf_stBs {s:SV}(ht:I64 s.tick)(hh:I64 s.hash)(hc:∀ z ∈ s.cells,I64 z):snapOf s.cells.length (stBs s)=s:=by
 have e1:fH (stBs s) 0=s.tick:=by
  have:=nL (n:=s.tick) ht [] (nBs s.hash ++ s.cells.flatMap nBs);rw[List.nil_append,<- aN] at this;exact this
 have e2:fH (stBs s) 8=s.hash:=by
  have:=nL (n:=s.hash) hh (nBs s.tick) (s.cells.flatMap nBs);rw[<- aN,jG] at this;exact this
 have e3:fY (stBs s) s.cells.length=s.cells:=by
  apply List.ext_getElem
  · simp[fY]
  intro k h1 h2;have:=numAt_flat s.cells hc (nBs s.tick ++ nBs s.hash) k h2;rw[aw,jG,jG] at this;have e:(fY (stBs s) s.cells.length)[k]=fH (stBs s) (16+8 * k):=by
   simp only[fY,List.getElem_map,List.getElem_range]
  rw[e];exact this
 obtain⟨t,h,c⟩:=s;unfold snapOf;simp only at e1 e2 e3;rw[e1,e2,e3]
theorem aadd_any (g k:Nat)(x y:Int)(w:World)(hc:w.cell? ⟨g,k,none⟩=some (I x))(hz:w.frozen? ⟨g,k,none⟩=false) :
 Ca 305 #[.pointer (some ⟨g,k,none⟩),I y] w fun e w'=>e=.returned (I (wrap64 (x+y)))/\w.setCell ⟨g,k,none⟩ (I (wrap64 (x+y)))=w':=by
 have hl:=run_call_add (P:=Tryz.prog) Tryz.func320 bM bM bM .i64 bM (y:=y) (s:=wrap64 (x+y)) hc hz (by simp[go_sem,wrap64,IntKind.wrap_i64]);generalize wrap64 (x+y)=z at *;go_enter Tryz.func305,Tryz.ntmps305;go_wp2;go_ret;exact⟨rfl,rfl⟩
theorem has_yes (g:Nat)(kind:Int)(w:World)(h1:1<=kind)(h2:kind<=6):Ca 304 #[.pointer (some ⟨g,0,none⟩),I kind] w fun e w'=>e=.returned (.bool true)/\w=w':=by
 go_enter Tryz.func304,Tryz.ntmps304;go_wp2;go_ret;exact⟨rfl,rfl⟩
theorem has_no (g:Nat)(kind:Int)(w:World)(h:¬ (1<=kind/\kind<=6)):Ca 304 #[.pointer (some ⟨g,0,none⟩),I kind] w fun e w'=>e=.returned (.bool false)/\w=w':=by
 have h':kind<1\/(1<=kind/\6<kind):=aS;clear h;rcases h' with h | ⟨h1,h2⟩
 all_goals
  go_enter Tryz.func304,Tryz.ntmps304;go_wp2;go_ret;exact⟨df (by first | (simp;done) | (simp;omega)),rfl⟩
theorem has_nil (kind:Int)(w:World):Ca 304 #[.pointer none,I kind] w fun e w'=>e=.returned (.bool false)/\w=w':=by
 go_enter Tryz.func304,Tryz.ntmps304;go_wp2;go_ret;exact⟨rfl,rfl⟩
def eb (w:World)(g:Nat)(l:List Int):Prop:=l.length=6/\Blk w g 300 (l.map iv)
def mPut (l:List Int)(kind x:Int):List Int:=l.set (kind - 1).toNat x
def mGet (l:List Int)(kind:Int):Int:=l.getD (kind - 1).toNat 0
theorem mPut_len (l:List Int)(kind x:Int):(mPut l kind x).length=l.length:=by simp[mPut]
theorem eb.cell (h:eb w g l)(k:Nat)(hk:k<6):w.cell? ⟨g,k,none⟩=some (I (mGet l ((k:Int)+1))):=by
 rw[h.2.cell];have:k<l.length:=by rw[h.1];exact hk
 unfold mGet iv;rw[show ((k:Int)+1 - 1).toNat=k from by omega];simp[ah,this]
theorem eb.put (h:eb w g l)(k:Nat)(x:Int):eb (w.setCell ⟨g,k,none⟩ (I x)) g (mPut l ((k:Int)+1) x):=by
 refine⟨by rw[mPut_len];exact h.1,?_⟩;unfold mPut;rw[show ((k:Int)+1 - 1).toNat=k from by omega,List.map_set];exact h.2.set_ k _
theorem newmeter_any (w:World):Ca 117 #[] w fun e w'=>e=.returned (.pointer (some ⟨w.heap.size,0,none⟩))/\eb w' w.heap.size [0,0,0,0,0,0]/\Below w.heap.size w w'/\w'.heap.size=w.heap.size+1:=by
 have hbu:∀ w:World,(Instr.build 300 #[]).run Tryz.prog w=.ok (.agg #[I 0,I 0,I 0,I 0,I 0,I 0]) w:=fun w=>run_build w _ _ _ bM
 go_enter Tryz.func117,Tryz.ntmps117;go_wp2;go_ret;exact⟨rfl,⟨rfl,Blk.top _ rfl rfl⟩,bc,by simp⟩
theorem add_yes (g:Nat)(l:List Int)(kind n:Int)(w:World)(hm:eb w g l)(h1:1<=kind)(h2:kind<=6) :
 Ca 285 #[.pointer (some ⟨g,0,none⟩),I kind,I n] w fun e w'=>e=.returned (.bool true)/\eb w' g (mPut l kind (wrap64 (mGet l kind+n)))/\w.grownBy w' (some g)/\w'.heap.size=w.heap.size:=by
 obtain⟨k,rfl⟩:∃ k:Nat,kind=(k:Int)+1:=⟨(kind - 1).toNat,aS⟩;have hk:k<6:=aS;have hc:=hm.cell k hk;have hz:=hm.2.frozen k;have hp:=fun x=>aT (hm.put k x)
 generalize mGet l ((k:Int)+1)=x at *;have hput:=hp;clear hp;go_enter Tryz.func285,Tryz.ntmps285;go_wp2_with (first | (go_at_call 304;go_call (has_yes _ _ _ h1 h2) as e w1 ⟨rfl,rfl⟩) | (go_at_call 305;go_call (aadd_any _ _ _ _ _ hc hz) as e w1 ⟨rfl,rfl⟩));go_ret;exact⟨rfl,(hput _).out,dw _,by simp[World.setCell]⟩
def NoKind (A:Option Addr)(kind:Int):Prop:=(∃ g,A=some ⟨g,0,none⟩/\¬ (1<=kind/\kind<=6))\/A=none
theorem has_not (A:Option Addr)(kind:Int)(w:World)(h:NoKind A kind):Ca 304 #[.pointer A,I kind] w fun e w'=>e=.returned (.bool false)/\w=w':=by
 rcases h with ⟨g,rfl,h⟩ | rfl
 · exact has_no g kind w h
 · exact has_nil kind w
theorem add_no (A:Option Addr)(kind n:Int)(w:World)(h:NoKind A kind):Ca 285 #[.pointer A,I kind,I n] w fun e w'=>e=.returned (.bool false)/\w=w':=by
 go_enter Tryz.func285,Tryz.ntmps285;go_wp2_with (go_at_call 304;go_call (has_not _ _ _ h) as e w1 ⟨rfl,rfl⟩);go_ret;exact⟨rfl,rfl⟩
theorem eb.alloc (h:eb w g l)(o:Obj):eb (w.alloc o) g l:=⟨h.1,h.2.alloc o⟩
def inK (kind:Int):Bool:=decide (1<=kind/\kind<=6)
def mAdd (l:List Int)(kind n:Int):List Int:=if inK kind then mPut l kind (wrap64 (mGet l kind+n)) else l
theorem inK_yes (h:inK kind=true):1<=kind/\kind<=6:=by simpa [inK] using h
theorem inK_no (h:inK kind=false):NoKind (some ⟨g,0,none⟩) kind:=.inl ⟨g,rfl,by simpa [inK] using h⟩
theorem add_any (g:Nat)(l:List Int)(kind n:Int)(w:World)(hm:eb w g l) :
 Ca 285 #[.pointer (some ⟨g,0,none⟩),I kind,I n] w fun e w'=>e=.returned (.bool (inK kind))/\eb w' g (mAdd l kind n)/\w.grownBy w' (some g)/\w'.heap.size=w.heap.size:=by
 cases h:inK kind with
 | true=>unfold mAdd;rw[if_pos h];exact add_yes g l kind n w hm (inK_yes h).1 (inK_yes h).2
 | false=>unfold mAdd;rw[if_neg (by simp[h])];exact (add_no _ kind n w (inK_no h)).mono fun e w' ⟨he,hw⟩=>by subst hw;exact⟨he,hm,World.grownBy.refl _ _,rfl⟩
