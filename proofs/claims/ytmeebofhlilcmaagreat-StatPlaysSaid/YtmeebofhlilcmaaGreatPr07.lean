/- Parts: StateA, StateB, RefNumA, StateC, RefNumC, RefNumD, RefNumE, RowB, RowC, RefNumF, Zag. -/
import Derived.Test.YtmeebofhlilcmaaGreatPr06
set_option linter.unusedVariables false
set_option linter.unusedSimpArgs false
set_option maxRecDepth 100000
set_option maxHeartbeats 0
namespace Go.Proofs.YtmeebofhlilcmaaGreat
open Go.RowKit
structure SV where
 tick:Int
 hash:Int
 cells:List Int
def eU (p:PV)(s:SV):Bool:=mayB p && ((decide (0<=s.tick) && decide (0<=s.hash)) && (decide (s.cells.length=p.cells.length) && allK p.cells.length (fun i=>okAt (dx p.cells i).1 (bj s.cells i))))
theorem jj {p:PV}{s:SV}:eU p s=true ↔ mayB p=true/\0<=s.tick/\0<=s.hash/\s.cells.length=p.cells.length/\∀ i,i<p.cells.length->okAt (dx p.cells i).1 (bj s.cells i)=true:=by
 unfold eU;simp only[av,jg,aq];constructor
 · rintro ⟨h1,⟨h2,h3⟩,h4,h5⟩;exact⟨h1,h2,h3,h4,h5⟩
 · rintro ⟨h1,h2,h3,h4,h5⟩;exact⟨h1,⟨h2,h3⟩,h4,h5⟩
theorem blk3 {w:World}{g:Nat}{t:TypeId}{v0 v1 v2:Value}(h:Blk w g t [v0,v1,v2]):w.cell? ⟨g,0,none⟩=some v0/\w.cell? ⟨g,1,none⟩=some v1/\w.cell? ⟨g,2,none⟩=some v2:=⟨h.cell 0,h.cell 1,h.cell 2⟩
theorem m0 (x:PA)(p:PV)(tick hash:Int)(B:Option Addr)(m d:Nat)(l:List Int)(w:World)(h:dd w x p)(hl:RI w B m l)(hm:m<=maxLen) :
 Ca 233 #[.agg #[.slice x.A1 x.n1 x.c1,.slice x.A2 x.n2 x.c2,I p.regs,.slice x.A3 x.n3 x.c3,.slice x.A4 x.n4 x.c4],.agg #[I tick,I hash,.slice B m d]] w
  fun e w'=>e=.returned (.bool (eU p ⟨tick,hash,l⟩))/\Below w.heap.size w w':=by
 have hmay:=fun w h=>jz x p w h
 have hI:=@jj p ⟨tick,hash,l⟩;generalize eU p ⟨tick,hash,l⟩=z at *;have hsub:=h;obtain⟨r1,r2,r3,r4,k1,k2,k3,k4⟩:=h;obtain⟨A1,n1,c1,A2,n2,c2,A3,n3,c3,A4,n4,c4⟩:=x;obtain⟨ins,outs,regs,cells,code⟩:=p;simp only at r1 r2 r3 r4 k1 k2 k3 k4 hmay hI ⊢;rw[r3.1,hl.1] at hI;have HI:=aT hI;clear hI;have HF:¬ (mayB ⟨ins,outs,regs,cells,code⟩=true/\0<=tick/\0<=hash/\m=n3)->Hid (z=false):=fun h=>by
  show z=false
  rw[Bool.eq_false_iff];intro hc;obtain⟨a1,a2,a3,a4,_⟩:=HI.out.1 hc;exact h ⟨a1,a2,a3,a4⟩
 have HF:=aT HF;have M3:n3<=9223372036854775807:=by have:=k3.1;have:=k3.2;unfold maxLen at this;omega
 have M4:m<=9223372036854775807:=by unfold maxLen at hm;omega
 clear k1 k2 k3 k4 r1 r2 r4 hm;have hp0:Blk ((w.alloc (.cells #[.slice A1 n1 c1,.slice A2 n2 c2,I regs,.slice A3 n3 c3,.slice A4 n4 c4] 26)).alloc (.cells #[I tick,I hash,.slice B m d] 139)) w.heap.size 26 [.slice A1 n1 c1,.slice A2 n2 c2,I regs,.slice A3 n3 c3,.slice A4 n4 c4]:=bH;have hs0:Blk ((w.alloc (.cells #[.slice A1 n1 c1,.slice A2 n2 c2,I regs,.slice A3 n3 c3,.slice A4 n4 c4] 26)).alloc (.cells #[I tick,I hash,.slice B m d] 139)) (w.heap.size+1) 139 [I tick,I hash,.slice B m d]:=bH
 cases hmb:mayB ⟨ins,outs,regs,cells,code⟩ with
 | false=>
   have hz:=HF.out (by rw[hmb];simp);rw[hmb] at hmay;clear hmb HF HI hp0 hs0;go_enter Tryz.func233,Tryz.ntmps233;go_wp2_with ((go_at_call 153;go_call (hmay _ (hsub.below (b:=w.heap.size) ba aX)) as e w1 ⟨rfl,hb1⟩);replace hb1:=bM (a:=w) (B:=w.heap.size) ba hb1 bq;have hb1s:=hb1.size);go_ret;exact⟨dH hz.out.symm,ba⟩
 | true=>
   rw[hmb] at hmay;have Hmb:=aT hmb;rcases (show tick<0\/(0<=tick/\hash<0)\/(0<=tick/\0<=hash/\m≠n3)\/(0<=tick/\0<=hash/\m=n3) by omega) with h | h | h | h
   case inr.inr.inr=>
    obtain⟨h1,h2,rfl⟩:=h;have f3:(((m:Nat):Int) != (m:Int))=false:=by simp
    have HZ:Hid (z=true ↔ ∀ i,i<m->okAt (dx cells i).1 (bj l i)=true):=by
     have h9:=HI.out
     show _ ↔ _
     constructor
     · intro h;exact (h9.1 h).2.2.2.2
     · intro h;exact h9.2 ⟨Hmb.out,h1,h2,rfl,h⟩
    clear HF HI hmb;go_enter Tryz.func233,Tryz.ntmps233;go_wp2_with ((go_at_call 153;go_call (hmay _ (hsub.below (b:=w.heap.size) ba aX)) as e w1 ⟨rfl,hb1⟩);have hp1:=hp0.below (w':=w1) hb1 hp0.lt;have hs1:=hs0.below (w':=w1) hb1 hs0.lt;obtain⟨g0,g1,g2,g3,g4⟩:=blk5 hp1;obtain⟨j0,j1,j2⟩:=blk3 hs1;replace hb1:=bM (a:=w) (B:=w.heap.size) ba hb1 bq;have hb1s:=hb1.size);clear hp0 hs0;have sz1:=hs1.lt;go_loopw [32] (fun i wr=>∃ k:Nat,k<=m/\i=I (k:Nat)/\Hid (∀ i,i<k->okAt (dx cells i).1 (bj l i)=true)/\Below w.heap.size w wr/\w.heap.size+1<wr.heap.size /\
     Blk wr (w.heap.size+1) 139 [I tick,I hash,.slice B m d]) (fun i _=>m - (intOf i).toNat)
    case atStart=>exact⟨0,aS,rfl,fun i hi=>absurd hi aS,hb1,sz1,hs1⟩
    case round=>
     clear hp1 hs1 g0 g1 g2 g3 g4 j0 j1 j2 hb1 hb1s sz1;obtain⟨k,hk,rfl,hall,hbel,hsz,hblk⟩:=hrel;obtain⟨j0,j1,j2⟩:=blk3 hblk
     by_cases hlt:k<m
     · have hne:¬ (m:Int)<=(k:Int):=aS;obtain⟨b,o,x,rfl,hb,hx,hc⟩:=(r3.below hbel aX).at_ jh aS hlt;have e0:wr.cell? ⟨b,o+k * 2,none⟩=some (I x.1):=hc 0 aS;have e1:wr.cell? ⟨b,o+k * 2+1,none⟩=some (I x.2):=hc 1 aS;obtain⟨b2,o2,rfl,hb2,hc2⟩:=(hl.below hbel aX).at_ hlt;have hxk:=aT (kL hx);clear hc hx;obtain⟨t,f⟩:=x;simp only at e0 e1
       cases hvb:okAt t (bj l k) with
       | true=>
         have hall':Hid (∀ i,i<k+1->okAt (dx cells i).1 (bj l i)=true):=fun i hi=>by
          rcases az i k with h | h
          · exact hall.out i h
          · rw[show i=k from by omega,hxk.out];exact hvb
         have h12:=jw.1 hvb;clear hvb hall
         by_cases ht:t=2
         · have h12':=h12 ht;subst ht;clear h12;rcases h12' with h9 | h9
           all_goals
            rw[h9] at hc2;clear h9;go_wp2;go_roundw
            case rel=>exact⟨k+1,aS,by go_num,hall',ba,by simp;omega,bH⟩
            case measure=>simp[intOf];omega
         · have bt:(t == 2)=false:=by rw[af];exact ht
           clear ht h12;go_wp2;go_roundw
           case rel=>exact⟨k+1,aS,by go_num,hall',ba,by simp;omega,bH⟩
           case measure=>simp[intOf];omega
       | false=>
         have hz:Hid (z=false):=by
          show z=false
          rw[Bool.eq_false_iff];intro hc;have h9:=HZ.out.1 hc k hlt;rw[hxk.out,hvb] at h9
          cases h9
         obtain⟨h5,h6,h7⟩:=mT.1 hvb;have b6:(bj l k != 0)=true:=by rw[ah];exact h6
         have b7:(bj l k != 1)=true:=by rw[ah];exact h7
         subst h5;clear hvb hall h6 h7;generalize bj l k=v at *;go_wp2;go_ret;exact⟨dH hz.out.symm,ba⟩
     · have hkn:k=m:=aS;subst hkn;have hge:(k:Int)<=(k:Int):=aS;have hz:Hid (z=true):=HZ.out.2 hall.out;clear HZ hall;go_wp2;go_ret;exact⟨dH hz.out.symm,hbel⟩
   case' inl=>have hz:=HF.out aS
   case' inr.inl=>
    have hz:=HF.out aS;obtain⟨h1,h2⟩:=h
   case' inr.inr.inl=>
    have hz:=HF.out aS;obtain⟨h1,h2,h3⟩:=h;have f3:(((m:Nat):Int) != (n3:Int))=true:=by rw[ah];omega
   all_goals
    clear HF HI hmb;go_enter Tryz.func233,Tryz.ntmps233;go_wp2_with ((go_at_call 153;go_call (hmay _ (hsub.below (b:=w.heap.size) ba aX)) as e w1 ⟨rfl,hb1⟩);have hp1:=hp0.below (w':=w1) hb1 hp0.lt;have hs1:=hs0.below (w':=w1) hb1 hs0.lt;obtain⟨g0,g1,g2,g3,g4⟩:=blk5 hp1;obtain⟨j0,j1,j2⟩:=blk3 hs1;replace hb1:=bM (a:=w) (B:=w.heap.size) ba hb1 bq;have hb1s:=hb1.size);go_ret;exact⟨dH oO,ba⟩
def nBs (n:Int):List UInt8:=putL (un n)
theorem jl (n:Int):(nBs n).length=8:=iE _
def stBs (s:SV):List UInt8:=nBs s.tick ++ nBs s.hash ++ s.cells.flatMap nBs
theorem statewrite_row (x:PA)(p:PV)(tick hash:Int)(B:Option Addr)(m d:Nat)(l:List Int)(w:World)(h:dd w x p)(hl:RI w B m l)(hm:m<=maxLen)(hmb:mayB p=true)(hf:eU p ⟨tick,hash,l⟩=false) :
 Ca 263 #[.agg #[.slice x.A1 x.n1 x.c1,.slice x.A2 x.n2 x.c2,I p.regs,.slice x.A3 x.n3 x.c3,.slice x.A4 x.n4 x.c4],.agg #[I tick,I hash,.slice B m d]] w fun e w'=>e=.returned (.tuple #[.slice none 0 0,I 41])/\Below w.heap.size w w':=by
 have hmay:=fun w h=>jz x p w h
 have hfit:=fun w h k=>m0 x p tick hash B m d l w h k hm
 rw[hmb] at hmay;rw[hf] at hfit;clear hmb hf;go_enter Tryz.func263,Tryz.ntmps263;go_wp2_with (first | ((go_at_call 153;go_call (hmay _ (h.below (b:=w.heap.size) ba aX)) as e w1 ⟨rfl,hb1⟩);have hp1:=Blk.below (w':=w1) (g:=w.heap.size) (t:=26) (cs:=[.slice x.A1 x.n1 x.c1,.slice x.A2 x.n2 x.c2,I p.regs,.slice x.A3 x.n3 x.c3,.slice x.A4 x.n4 x.c4]) bH hb1 bq;have hs1:=Blk.below (w':=w1) (g:=w.heap.size+1) (t:=139) (cs:=[I tick,I hash,.slice B m d]) bH hb1 bq;obtain⟨y10,y11,y12,y13,y14⟩:=blk5 hp1;obtain⟨j10,j11,j12⟩:=blk3 hs1;have sz1:=hs1.lt;have rs1:=hb1.size;replace hb1:=bM (a:=w) (B:=w.heap.size) ba hb1 bq;have hb1s:=hb1.size) | ((go_at_call 233;go_call (hfit _ (h.below (b:=w.heap.size) ba aX) (hl.below (B:=w.heap.size) ba aX)) as e w2 ⟨rfl,hb2⟩);replace hb2:=bM (a:=w) (B:=w.heap.size) ba hb2 bq;have hb2s:=hb2.size));go_ret2;exact⟨rfl,ba⟩
theorem statewrite_ok (x:PA)(p:PV)(tick hash:Int)(B:Option Addr)(m d:Nat)(l:List Int)(w:World)(h:dd w x p)(hl:RI w B m l)(hm:m<=maxLen)(hf:eU p ⟨tick,hash,l⟩=true) :
 Ca 263 #[.agg #[.slice x.A1 x.n1 x.c1,.slice x.A2 x.n2 x.c2,I p.regs,.slice x.A3 x.n3 x.c3,.slice x.A4 x.n4 x.c4],.agg #[I tick,I hash,.slice B m d]] w fun e w'=>∃ A N c,e=.returned (.tuple #[.slice A N c,I 0])/\OB w' w.heap.size 5 A N c (stBs ⟨tick,hash,l⟩)/\Below w.heap.size w w':=by
 have hmay:=fun w h=>jz x p w h
 have hfit:=fun w h k=>m0 x p tick hash B m d l w h k hm
 obtain⟨f1,f2,f3,f4,_⟩:=jj.1 hf;have hm60:m<=60:=by have:=(ey.1 f1).2.2.2.2.1;have:=hl.1;simp only at f4;omega
 rw[f1] at hmay;rw[hf] at hfit;clear hf f1 f2 f3 f4 hm;have hput:∀ n w,Ca 254 #[I n] w fun e w'=>∃ A c,e=.returned (.slice A 8 c)/\OB w' w.heap.size 5 A 8 c (nBs n)/\Below w.heap.size w w':=fun n w=>lF n w
 have hcat:∀ k,k<m->Hid (nBs tick ++ nBs hash ++ (l.take k).flatMap nBs ++ nBs (bj l k)=nBs tick ++ nBs hash ++ (l.take (k+1)).flatMap nBs):=fun k hk=>by
  show _=_
  have hk':k<l.length:=by rw[hl.1];exact hk
  rw[aP hk',List.flatMap_append];unfold bj;rw[ag,ap hk'];simp
 have hz0:Hid (nBs tick ++ nBs hash ++ (l.take 0).flatMap nBs=nBs tick ++ nBs hash):=by show _=_;simp
 have hfin:Hid (nBs tick ++ nBs hash ++ (l.take m).flatMap nBs=stBs ⟨tick,hash,l⟩):=by
  show _=_
  unfold stBs;rw[au (by rw[hl.1];omega)]
 generalize stBs ⟨tick,hash,l⟩=SB at *;go_enter Tryz.func263,Tryz.ntmps263;go_wp2_with (first | ((go_at_call 153;go_call (hmay _ (h.below (b:=w.heap.size) ba aX)) as e w1 ⟨rfl,hb1⟩);have hp1:=Blk.below (w':=w1) (g:=w.heap.size) (t:=26) (cs:=[.slice x.A1 x.n1 x.c1,.slice x.A2 x.n2 x.c2,I p.regs,.slice x.A3 x.n3 x.c3,.slice x.A4 x.n4 x.c4]) bH hb1 bq;have hs1:=Blk.below (w':=w1) (g:=w.heap.size+1) (t:=139) (cs:=[I tick,I hash,.slice B m d]) bH hb1 bq;obtain⟨y10,y11,y12,y13,y14⟩:=blk5 hp1;obtain⟨j10,j11,j12⟩:=blk3 hs1;have sz1:=hs1.lt;have rs1:=hb1.size;replace hb1:=bM (a:=w) (B:=w.heap.size) ba hb1 bq;have hb1s:=hb1.size) | ((go_at_call 233;go_call (hfit _ (h.below (b:=w.heap.size) ba aX) (hl.below (B:=w.heap.size) ba aX)) as e w2 ⟨rfl,hb2⟩);have hp2:=Blk.below (w':=w2) (g:=w.heap.size) (t:=26) (cs:=[.slice x.A1 x.n1 x.c1,.slice x.A2 x.n2 x.c2,I p.regs,.slice x.A3 x.n3 x.c3,.slice x.A4 x.n4 x.c4]) bH hb2 bq;have hs2:=Blk.below (w':=w2) (g:=w.heap.size+1) (t:=139) (cs:=[I tick,I hash,.slice B m d]) bH hb2 bq;obtain⟨y20,y21,y22,y23,y24⟩:=blk5 hp2;obtain⟨j20,j21,j22⟩:=blk3 hs2;have sz2:=hs2.lt;have rs2:=hb2.size;replace hb2:=bM (a:=w) (B:=w.heap.size) ba hb2 bq;have hb2s:=hb2.size));go_region_held3 (fun w'=>w'.cell? ⟨w.heap.size+1,0,none⟩=some (I tick)/\w'.cell? ⟨w.heap.size+1,1,none⟩=some (I hash)) (first | go_keep | (refine⟨?_,?_⟩ <;> assumption)) (first | ((go_at_call 254;(with_reducible refine (hput tick _).mono ?_);rintro e w3 ⟨A3,c3,rfl,own3,hb3⟩);have hp3:=Blk.below (w':=w3) (g:=w.heap.size) (t:=26) (cs:=[.slice x.A1 x.n1 x.c1,.slice x.A2 x.n2 x.c2,I p.regs,.slice x.A3 x.n3 x.c3,.slice x.A4 x.n4 x.c4]) bH hb3 bq;have hs3:=Blk.below (w':=w3) (g:=w.heap.size+1) (t:=139) (cs:=[I tick,I hash,.slice B m d]) bH hb3 bq;obtain⟨y30,y31,y32,y33,y34⟩:=blk5 hp3;obtain⟨j30,j31,j32⟩:=blk3 hs3;have sz3:=hs3.lt;have rs3:=hb3.size;replace hb3:=bM (a:=w) (B:=w.heap.size) ba hb3 bq;have hb3s:=hb3.size) | ((go_at_call 254;(with_reducible refine (hput hash _).mono ?_);rintro e w4 ⟨A4,c4,rfl,own4,hb4⟩);have own3a:=own3.below hb4 aX;have hp4:=Blk.below (w':=w4) (g:=w.heap.size) (t:=26) (cs:=[.slice x.A1 x.n1 x.c1,.slice x.A2 x.n2 x.c2,I p.regs,.slice x.A3 x.n3 x.c3,.slice x.A4 x.n4 x.c4]) bH hb4 bq;have hs4:=Blk.below (w':=w4) (g:=w.heap.size+1) (t:=139) (cs:=[I tick,I hash,.slice B m d]) bH hb4 bq;obtain⟨y40,y41,y42,y43,y44⟩:=blk5 hp4;obtain⟨j40,j41,j42⟩:=blk3 hs4;have sz4:=hs4.lt;have rs4:=hb4.size;replace hb4:=bM (a:=w) (B:=w.heap.size) ba hb4 bq;have hb4s:=hb4.size) | (refine eQ rfl rfl cG da (s:=.tmp 20) (N:=16) (L:=nBs tick ++ nBs hash) rfl own3a rfl (k:=nBs hash) own4.rd rfl rfl bU aS bq ?_;intro A5 c5 w5 own5 hg5 hat5 hb5;have hs5:=Blk.grown hs4 hg5 (own3a.ne_ hs4 aU);obtain⟨j50,j51,j52⟩:=blk3 hs5;replace own5:=own5.rebase (base':=w.heap.size) bq;replace hb5:=bM (a:=w) (B:=w.heap.size) ba hb5 bq;have hb5s:=hb5.size))
 all_goals
  clear own3 own3a own4;go_wp2;go_loopw [6,28] (fun v i wr=>∃ (k:Nat) (C:Option Addr) (e:Nat),k<=m/\i=I (k:Nat)/\v=.slice C (16+8 * k) e/\Ow bv wr w.heap.size 5 C (16+8 * k) e (nBs tick ++ nBs hash ++ (l.take k).flatMap nBs)/\Below w.heap.size w wr) (fun _ i _=>m - (intOf i).toNat)
  case atStart=>exact⟨0,A5,c5,aS,rfl,rfl,by rw[hz0.out];exact own5,hb5⟩
  case round=>
   clear own5;obtain⟨k,C,e,hk,rfl,rfl,hown,hbel⟩:=hrel;have hbs:=hbel.size
   by_cases hlt:k<m
   · obtain⟨b,o,rfl,_,hc⟩:=(hl.below hbel aX).at_ hlt;have hcx:=hcat k hlt;clear hcat hz0;generalize bj l k=v at *;go_wp2_with (first | ((go_at_call 254;go_call (hput v _) as e w7 ⟨A7,c7,rfl,own7,hb7⟩);have own7a:=hown.below hb7 aX;replace hb7:=bM (a:=w) (B:=w.heap.size) ba hb7 bq;have hb7s:=hb7.size) | (at_builtin;refine ef rfl rfl cG da (s:=.tmp 32) (N:=16+8 * (k+1)) (L:=nBs tick ++ nBs hash ++ (l.take (k+1)).flatMap nBs) rfl own7a rfl (k:=nBs v) own7.rd aS hcx.out bU aS bq ?_;intro A8 c8 w8 own8 hg8 hat8 hb8;replace hb8:=bM (a:=w) (B:=w.heap.size) ba hb8 bq;have hb8s:=hb8.size));go_roundw
     case rel=>exact⟨k+1,A8,c8,aS,by go_num,rfl,own8,hb8⟩
     case measure=>simp[intOf];omega
   · have hkm:k=m:=aS;subst hkm;clear hcat hz0;go_wp2;go_ret2;exact⟨C,_,e,rfl,by rw[<- hfin.out];exact hown,hbel⟩
/-! ### Turned numbers -/
theorem write_row (A B:Option Addr)(n m c d:Nat)(ts l:List Int)(w:World)(ht:RI w A n ts)(hl:RI w B m l)(hn:n<=maxLen)(hm:m<=maxLen)(h:dj ts=true)(hf:cI ts l=false) :
 Ca 205 #[.slice A n c,.slice B m d] w fun e w'=>e=.returned (.tuple #[.slice none 0 0,I 41])/\w=w':=by
 have hright:=ji A n c ts w ht hn;have hfits:=mZ A B n m c d ts l w ht hl hn hm;rw[h] at hright;rw[hf] at hfits;clear h hf;go_enter Tryz.func205,Tryz.ntmps205;go_wp2_with (first | (go_at_call 150;go_call (hright) as e w' ⟨rfl,rfl⟩) | (go_at_call 216;go_call (hfits) as e w' ⟨rfl,rfl⟩));go_ret2;exact⟨rfl,rfl⟩
theorem piece_two (v:Int):piece 2 v=[UInt8.ofNat v.toNat]:=by unfold piece;rw[if_pos rfl]
theorem piece_not {t:Int}(h:t≠2)(v:Int):piece t v=digL 9 (zz v):=by unfold piece;rw[if_neg h]
theorem o9 (A B:Option Addr)(n m c d:Nat)(ts l:List Int)(w:World)(ht:RI w A n ts)(hl:RI w B m l)(hn:n<=maxLen)(hm:m<=maxLen)(hf:cI ts l=true)
 (hb:∀ i,i<l.length->-9223372036854775808<=bj l i/\bj l i<=9223372036854775807) :
 Ca 205 #[.slice A n c,.slice B m d] w fun e w'=>∃ A' N c',e=.returned (.tuple #[.slice A' N c',I 0])/\OB w' w.heap.size 5 A' N c' (rowB ts l ts.length)/\Below w.heap.size w w':=by
 have hright:=ji A n c ts w ht hn;have hfits:=mZ A B n m c d ts l w ht hl hn hm;obtain⟨f1,f2,f3⟩:=jx.1 hf;obtain⟨r1,r2,r3⟩:=fQ.1 f1;rw[hf] at hfits;rw[f1] at hright;have e1:=ht.1;have e2:=hl.1;have hmn:m=n:=aS;subst hmn;have hm8:m<=8:=aS;rw[e1] at f3 r1 ⊢;rw[e2] at hb;clear hf f1 f2 r2 r3 e1 e2;have hrs:∀ k,Hid (rowB ts l (k+1)=rowB ts l k ++ piece (bj ts k) (bj l k)):=fun k=>rfl
 have hr0:Hid (rowB ts l 0=[]):=rfl;generalize rowB ts l=R at *;go_enter Tryz.func205,Tryz.ntmps205;go_wp2_with (first | (go_at_call 150;go_call (hright) as e w' ⟨rfl,rfl⟩) | (go_at_call 216;go_call (hfits) as e w' ⟨rfl,rfl⟩));go_loopw [6,20] (fun v i wr=>∃ k N A' c',k<=m/\i=I (k:Nat)/\N<=10 * k/\v=.slice A' N c'/\Ow bv wr w.heap.size 5 A' N c' (R k)/\Below w.heap.size w wr) (fun _ i _=>m - (intOf i).toNat)
 case atStart=>exact⟨0,0,none,0,aS,rfl,aS,rfl,by rw[hr0.out];exact Ow.nil _ _ _ _,Below.refl _ _⟩
 case round=>
  obtain⟨k,N,A1,c1,hk,rfl,hN,rfl,hown,hbel⟩:=hrel;have hbs:=hbel.size
  by_cases hlt:k<m
  · have ht':=ht.below hbel aX;have hl':=hl.below hbel aX;obtain⟨b,o,rfl,_,hc⟩:=ht'.at_ hlt;obtain⟨b2,o2,rfl,_,hc2⟩:=hl'.at_ hlt;have hk1:=hrs k;have hbk:=hb k hlt
    by_cases h2:bj ts k=2
    · have h3:=f3 k hlt h2;rw[h2] at hc;clear hrs hb f3 r1;rcases h3 with h3 | h3
      all_goals
       have hk2:Hid (R k ++ [UInt8.ofNat (bj l k).toNat]=R (k+1)):=by
        show _=_
        rw[hk1.out,h2,piece_two]
       rw[h3] at hc2 hk2;clear h3 h2 hk1 hbk
      · go_wp2_with (at_builtin;refine ef rfl rfl cG da (s:=.tmp 27) (N:=N+1) (L:=R (k+1)) rfl (hown.below (b:=wr.heap.size) ba bq) rfl (k:=[(0:UInt8)]) (Rd.of_block (l:=[(0:UInt8)]) (dQ _ _ aZ) rfl) rfl (hk2.out) bU aS bq ?_;intro A5 c5 w5 hown5 hg5 hat5 hb5);replace hb5:=bM (a:=w) (B:=w.heap.size) ba hb5 bq;have hb5s:=hb5.size;go_roundw
        case rel=>exact⟨k+1,N+1,A5,c5,aS,by go_num,aS,rfl,hown5,hb5⟩
        case measure=>simp[intOf];omega
      · go_wp2_with (at_builtin;refine ef rfl rfl cG da (s:=.tmp 27) (N:=N+1) (L:=R (k+1)) rfl (hown.below (b:=wr.heap.size) ba bq) rfl (k:=[(1:UInt8)]) (Rd.of_block (l:=[(1:UInt8)]) (dQ _ _ aZ) rfl) rfl (hk2.out) bU aS bq ?_;intro A5 c5 w5 hown5 hg5 hat5 hb5);replace hb5:=bM (a:=w) (B:=w.heap.size) ba hb5 bq;have hb5s:=hb5.size;go_roundw
        case rel=>exact⟨k+1,N+1,A5,c5,aS,by go_num,aS,rfl,hown5,hb5⟩
        case measure=>simp[intOf];omega
    · have b2:(bj ts k == 2)=false:=by rw[af];exact h2
      have hkL:Hid (R k ++ digL 9 (zz (bj l k))=R (k+1)):=by
       show _=_
       rw[hk1.out,piece_not h2]
      have hz:=fun w=>zig_any (bj l k) w hbk.1 hbk.2
      have hd:=(gw 9 (zz (bj l k))).1;clear hrs hb f3 r1 h2 hk1 hbk;generalize bj ts k=t at *;generalize digL 9 (zz (bj l k))=D at *;generalize bj l k=v at *;go_wp2_with (first | ((go_at_call 229;go_call (hz _) as e w4 ⟨A4,c4,rfl,hown4,hb4⟩);have hb4s:=hb4.size;have hbw4:=iA hbel hb4 hbs) | (at_builtin;refine ef rfl rfl cG da (s:=.tmp 35) (N:=N+D.length) (L:=R (k+1)) rfl (hown.below (b:=wr.heap.size) ba bq) rfl (k:=D) (hown4.rd) (by first | rfl | omega) (by first | exact hkL.out | rfl | (simp;done)) bU aS bq ?_;intro A5 c5 w5 hown5 hg5 hat5 hb5;replace hown5:=hown5.rebase (base':=w.heap.size) bq;replace hb5:=bM (a:=w) (B:=w.heap.size) ba hb5 bq;have hb5s:=hb5.size));go_roundw
      case rel=>exact⟨k+1,N+D.length,A5,c5,aS,by go_num,aS,rfl,hown5,hb5⟩
      case measure=>simp[intOf];omega
  · have hkn:k=m:=aS;subst hkn;clear hrs hb f3 r1;go_wp2;go_ret2;exact⟨A1,N,c1,rfl,hown,hbel⟩
theorem zag_any (A:Option Addr)(n c:Nat)(l:List UInt8)(w:World)(hl:RB w A n l)(hn:n<=maxLen) :
 Ca 240 #[.slice A n c] w fun e w'=>e=.returned (.tuple #[I (zagV l),I (zagS l:Nat),I (zagE l:Nat)])/\w=w':=by
 by_cases h:(cu 10 0 l).2=0
 · have hz:cu 10 0 l=((cu 10 0 l).1,0):=Prod.ext rfl h
   by_cases hb:(cu 10 0 l).1=10/\1<bw l 9
   · have e1:zagE l=11:=by unfold zagE;rw[if_neg aS,if_pos hb]
     have e2:zagS l=0:=by unfold zagS;rw[if_neg aS]
     have e3:zagV l=0:=by unfold zagV;rw[if_neg aS]
     rw[e1,e2,e3];rw[hb.1] at hz;exact zag_big A n c l w hl hn hz hb.2
   · have e1:zagE l=0:=by unfold zagE;rw[if_neg aS,if_neg hb]
     have e2:zagS l=(cu 10 0 l).1:=by unfold zagS;rw[if_pos e1]
     have e3:zagV l=unzz (sevL (l.take (cu 10 0 l).1)):=by unfold zagV;rw[if_pos e1]
     rw[e1,e2,e3];exact zag_ok A n c _ l w hl hn hz aS
 · have e1:zagE l=(cu 10 0 l).2:=by unfold zagE;rw[if_pos h]
   have e2:zagS l=0:=by unfold zagS;rw[if_neg aS]
   have e3:zagV l=0:=by unfold zagV;rw[if_neg aS]
   rw[e1,e2,e3];exact zag_err A n c l w hl hn h
end Go.Proofs.YtmeebofhlilcmaaGreat
