/- Parts: JrnB. -/
import Derived.Test.YtmeebofhlilcmaaGreatPr02
import Derived.Test.YtmeebofhlilcmaaGreatPr16
set_option linter.unusedVariables false
set_option linter.unusedSimpArgs false
set_option maxRecDepth 100000
set_option maxHeartbeats 40000000
namespace Go.Proofs.YtmeebofhlilcmaaGreat
open Go.RowKit
theorem qa5.grown {α:Type} {enc:α→Value} {w w':World} {base b n c:Nat} {e:TypeId} {B:Option Addr} {p:qb9} {D:qa1} {l:List α} (h:qa5 w base p D) (ho:Ow enc w b e B n c l) (hg:w.grownBy w' (B.map (·.block))) (ht:e ∉ 4 :: mutD):qa5 w' base p D:=by
  obtain ⟨A,a,h⟩:=h;refine ⟨A,a,h.keep (F:=fun g => B.map (·.block)=some g) (Keep.of_grown hg (fun g e => e)) (fun g hf he => ?_)⟩;rcases ho.2.2 with ⟨hv,_⟩ | ⟨g',cap,cur,hv,_,hh,_⟩
  · injection hv with hv;subst hv;cases he
  · injection hv with hv;subst hv;simp only [Option.map_some,Option.some.injEq] at he;subst he;rcases h.foot_ty (t:=e) (cs:=cur.toList) (by unfold Blk;rw [hh]) hf with q | q | q | q | q
    all_goals exact ht (by rw [q];decide)
theorem Step.then_below {M:List TypeId} {w w1 w2:World} {base:Nat} {p:qb9} (h:Step M base p w w1) (hb:Below w.heap.size w1 w2) (hs:base≤w.heap.size):Step M base p w w2:=by
  obtain ⟨h1,F,hF,tF⟩:=h;refine ⟨h1.trans (hb.mono hs),F,⟨hb.os.trans hF.os,hb.tape.trans hF.tape,hb.output.trans hF.output,Nat.le_trans hF.size hb.size,fun k hk hn => (hb.block k hk).trans (hF.block k hk hn)⟩,tF⟩
def qt9 (w w':World) (gj:Nat):Prop:=∀ g cs,g≠gj→Blk w g 363 cs→Blk w' g 363 cs
def rdK (D:qa1):Nat→qa1
  | 0 => D
  | k+1 => qj0 (rdK D k)
theorem qo8 (D:qa1):∀ k,∃ o,rdK D k={ D with ops:=o }:=by
  intro k
  induction k with
  | zero => exact ⟨D.ops,rfl⟩
  | succ k ih => obtain ⟨o,e⟩:=ih;exact ⟨mAdd o 1 1,by show qj0 (rdK D k)=_;rw [e];rfl⟩
def recB (S:List UInt8) (kind:Int) (k:Nat):Bool:=qs0 S kind && decide (sg (qg0 S)=(k:Int))
def qe8 (now:List UInt8) (f:Nat) (kind:Int):Nat→Bool × Nat × List Int
  | 0 => (true,0,[])
  | k+1 =>
    if (qe8 now f kind k).1=true∧recB (qf1 now ((f+k:Nat):Int)) kind k=true then (true,(qe8 now f kind k).2.1+1,(qe8 now f kind k).2.2)
    else (false,(qe8 now f kind k).2.1,if qf1 now ((f+k:Nat):Int)=qa3 then (qe8 now f kind k).2.2 else (qe8 now f kind k).2.2 ++ [(k:Int)])
theorem vi2 (now:List UInt8) (f:Nat) (kind:Int):∀ k,(qe8 now f kind k).2.1≤k∧(qe8 now f kind k).2.2.length≤k:=by
  intro k
  induction k with
  | zero => exact ⟨Nat.le_refl _,Nat.le_refl _⟩
  | succ k ih =>
    unfold qe8
    split
    · simp only;omega
    · simp only
      split
      · omega
      · rw [List.length_append,List.length_singleton];omega
section
variable {w w':World} {base ga gj f m:Nat} {kind:Int} {p:qb9} {D:qa1}
theorem vn9 {D:qa1} (h:D.off=false) {f m k:Nat} (hfm:f+m≤D.many) (hk:k<m):qb4 D f m (k:Int)=(qj0 D,qf1 D.now ((f+k:Nat):Int),0):=by
  unfold qb4 qt2;have hm:mayV D ((f:Int)+k)=0:=by unfold mayV;rw [h];simp;omega
  rw [if_neg omg,hm,if_neg smp];rw [show ((f:Int)+(k:Int))=((f+k:Nat):Int) by omega]
theorem jread_on (h:qi9 w gj ga kind 0) (hd:qa5 w base p D) (hs:base≤w.heap.size) (hg:base≤gj) (ha:qa8 w ga p.d f m) (hfm:f+m≤D.many) (hoff:D.off=false) (hok:D.Ok) :
    Calls Tryz.prog 293 #[.pointer (some ⟨gj,0,none⟩)] w fun e w' => ∃ B N c,e=.returned (.tuple #[.slice B N c,.int .i64 0])∧Ow iv w' w.heap.size 3 B N c (qe8 D.now f kind m).2.2 ∧
      qa5 w' base p (rdK D m)∧qi9 w' gj ga kind (qe8 D.now f kind m).2.1∧Step mutJ base p w w'∧qt9 w w' gj:=by
  have c0:w.cell? ⟨gj,0,none⟩=some (.pointer (some ⟨ga,0,none⟩)):=Blk.cell h 0;have hmany:=qo9 ha;have hz:=(zero_of_info qe1).1;have Hi:=hdd (zero_of_info qe1).2;have hlz:Hid ((qa3.map bv).length=128):=by show _=_;simp [qc0]
  have hm4:f+m≤4096:=by have:=hok.many1;omega
  have HD:=hdd hd;have HJ:=hdd h;have HA:=hdd ha;have HOK:=hdd hok;clear h hd ha hok;unfold aggB at *;generalize hZ:qa3.map bv=Z at *;have HZ:=hdd hZ;clear hZ;go_enter Tryz.func293,Tryz.ntmps293;go_wp2_with fail;go_step3;go_wp2_with fail;go_step3;go_wp2_with (first | (go_at_call 113;(with_reducible refine (hmany).mono ?_);rintro e w1 ⟨rfl,rfl⟩) | fail "no arm");go_loopw [4,5,6,7,8,9,10,11,17] (fun v o _ _ _ _ _ _ i wr => ∃ (k:Nat) (B:Option Addr) (N c:Nat),k≤m∧i=.int .i64 (k:Nat)∧o=.bool (qe8 D.now f kind k).1∧v=.slice B N c∧Ow iv wr w.heap.size 3 B N c (qe8 D.now f kind k).2.2 ∧
      qa5 wr base p (rdK D k)∧qi9 wr gj ga kind (qe8 D.now f kind k).2.1∧Step mutJ base p w wr∧qt9 w wr gj) (fun _ _ _ _ _ _ _ _ i _ => m - (intOf i).toNat)
  case atStart => exact ⟨0,none,0,0,omg,rfl,rfl,rfl,Ow.nil _ _ _ _,HD.out,HJ.out,Step.refl _ _ _ _,fun _ _ _ h => h⟩
  case round =>
    obtain ⟨k,B,N,c,hk,rfl,rfl,rfl,hown,hdk,hjk,hst,hot⟩:=hrel
    by_cases hlt:k<m
    · have hak:=HD.out.area HA.out hst.tch dcd;obtain ⟨o,eo⟩:=qo8 D k;have hon:qb4 (rdK D k) f m (k:Int)=(rdK D (k+1),qf1 D.now ((f+k:Nat):Int),0):=by
        rw [vn9 (by rw [eo];exact hoff) (by rw [eo];exact hfm) hlt]
        show (rdK D (k+1),qf1 (rdK D k).now _,(0:Int))=_
        rw [eo]
      have hsz:=hst.size;have hrd:=vj8 hdk omg hak (by rw [eo];exact hfm) (k:Int);rw [hon] at hrd;simp only at hrd;have hsl0:(qf1 D.now ((f+k:Nat):Int)).length=128:=ql9 HOK.out.now omg omg;have hop:=fun w => open_v (qf1 D.now ((f+k:Nat):Int)) kind w hsl0
      have hbl:=fun w => blank_any (qf1 D.now ((f+k:Nat):Int)) w hsl0
      have hnx:Hid (qe8 D.now f kind (k+1)=if (qe8 D.now f kind k).1=true∧recB (qf1 D.now ((f+k:Nat):Int)) kind k=true then (true,(qe8 D.now f kind k).2.1+1,(qe8 D.now f kind k).2.2) else (false,(qe8 D.now f kind k).2.1,if qf1 D.now ((f+k:Nat):Int)=qa3 then (qe8 D.now f kind k).2.2 else (qe8 D.now f kind k).2.2 ++ [(k:Int)])):=rfl;have hle:=vi2 D.now f kind k;have hNl:=hown.1;generalize qe8 D.now f kind k=sc at *;obtain ⟨op,nx,dl⟩:=sc;simp only at hown hjk hnx hle hNl;generalize qf1 D.now ((f+k:Nat):Int)=S at *;have hsl:Hid ((S.map bv).length=128):=by show _=_;rw [List.length_map];exact hsl0
      have hsm:=hdd (qk1 (l:=S));have HDk:=hdd hdk;have HJk:=hdd hjk;have Hown:=hdd hown;have Hot:=hdd hot;clear hot;have y0:wr.cell? ⟨gj,0,none⟩=some (.pointer (some ⟨ga,0,none⟩)):=Blk.cell hjk 0;have hkI:(k:Int)<m:=omg;have hnum:Hid ((qq7 S kind).1=if qs0 S kind then sg (qg0 S) else 0):=by show _=_;unfold qq7;split <;> rfl
      have herr:Hid ((qq7 S kind).2.2=if qs0 S kind then 0 else 53):=by show _=_;unfold qq7;split <;> rfl
      have hrec:Hid (recB S kind k=(qs0 S kind && decide (sg (qg0 S)=(k:Int)))):=rfl;have HSV:Hid (S.map bv=S.map bv):=rfl;unfold aggB at hrd hop hbl;generalize S.map bv=SV at *;generalize qq7 S kind=OV at *;obtain ⟨Nn,L,er⟩:=OV;simp only at hnum herr hop;clear hdk hjk hown hsl0 hon hak eo;go_wp2_with (first | ((go_at_call 162;(with_reducible refine (hrd).mono ?_);rintro e w2 ⟨rfl,h2,s2⟩);have HJ2:=hdd (show qi9 w2 gj ga kind nx from HDk.out.blk HJk.out s2.tch dcd);have H2:=hdd h2;have o2:=hdd (HDk.out.ow Hown.out s2.tch dcd);clear h2) | (refine qb2 rfl (x:=.tmp 7) (y:=.tmp 27) rfl rfl rfl (t:=205) (cs:=Z) (xs:=SV) (Blk.top _ rfl rfl) Hi.out hsl.out (by rw [hlz.out];omega) hsm.out ?_;intro w3 hb3 hg3 hs3;rw [qc1 _ _ (hlz.out.trans hsl.out.symm)] at hb3;have b3:Below w2.heap.size w2 w3:=qb6 ((Below.refl w2.heap.size w2).alloc nlr _) hg3 szz szz;have HJ3:=hdd (show qi9 w3 gj ga kind nx from Blk.below HJ2.out b3 HJ2.out.lt);have H3:=hdd (H2.out.below b3);have o3:=hdd (o2.out.below b3 nlr);have S3:Step mutJ base p w w3:=hst.trans ((s2.mono (fun _ e => List.mem_cons_of_mem _ e)).trans (Step.of_below b3 (by have:=s2.size;omega)));have ot3:qt9 w w3 gj:=(fun g cs hne hb => (by have q:=HDk.out.blk (Hot.out g cs hne hb) s2.tch dcd;exact q.below b3 q.lt))) | fail "no arm");have r3:=Blk.range (o:=0) (n:=128) (xs:=SV) hb3 (by rw [List.drop_zero,List.take_of_length_le (by rw [hsl.out];omega)]);have y31:w3.cell? ⟨gj,1,none⟩=some (.int .i64 kind):=Blk.cell HJ3.out 1;refine wp_region_held_drew (S:=fun w' => w'.cell? ⟨gj,1,none⟩=some (.int .i64 kind)∧w'.rangeAt w2.heap.size 0 SV) (by kernel_rfl) ⟨y31,r3⟩ (fun hHeld => ?_);refine wpAnyH_take (i:=0) (v:=_) rfl (by decide +kernel) (by decide +kernel) (by decide +kernel) (fun _ _ _ h => h) (yieldsIf_load_mid (by rfl) _ _ rfl _ _ rfl SV _ (fun _ h => h.2) Tryz.underlying205 rfl (by rw [hsl.out];exact Hi.out)) (by assumption) ?_;refine nmz ?_;refine tkS 1 ?_;refine tkS 2 ?_;refine tkS 3 ?_;refine tkS 4 ?_ (hy:=Or.inl ⟨by rfl,by (intro w hSw;(try dsimp only at hSw);obtain ⟨s1,s2⟩:=hSw;go_simp;rfl)⟩);refine on1 5 (fun K hK => ?_);go_simp
      (go_at_call 163;(with_reducible refine (hop _).mono ?_);rintro e w4 ⟨B4,k4,d4,rfl,o4,hb4⟩)
      have b4:Below w3.heap.size w3 w4:=qa2 gwn hb4 szz;have hb4b:=Blk.below hb3 b4 (Blk.lt hb3);have hj4:qi9 w4 gj ga kind nx:=Blk.below HJ3.out b4 HJ3.out.lt;have H4:=hdd (H3.out.below b4);have o4':=hdd (o3.out.below b4 nlr);have sz3:base≤w3.heap.size:=by have:=S3.size;omega
      have S4:Step mutJ base p w w4:=S3.trans (Step.of_below b4 sz3);have ot4:Hid (qt9 w w4 gj):=fun g cs hne hb => (ot3 g cs hne hb).below b4 (ot3 g cs hne hb).lt
      clear ot3;have y41:w4.cell? ⟨gj,1,none⟩=some (.int .i64 kind):=Blk.cell hj4 1;have y42:w4.cell? ⟨gj,2,none⟩=some (.int .i64 (nx:Int)):=Blk.cell hj4 2;have y4f:=Blk.frozen hj4 2;have HJ4:=hdd hj4;refine hK.out _ _ (⟨y41,Blk.range (o:=0) (n:=128) (xs:=SV) hb4b (by rw [List.drop_zero,List.take_of_length_le (by rw [hsl.out];omega)])⟩) (fun hHeld => ?_);clear hK K;refine nmz ?_;refine tkS 6 ?_;refine tkS 7 ?_;refine tkS 8 ?_;refine tkS 9 ?_;refine tkS 10 ?_;refine tkS 11 ?_;refine tkS 12 ?_;refine wpAnyH_done (by decide +kernel) ?_ _
      cases op with
      | false =>
        by_cases hS0:S=qa3
        · have hbl':∀ w,Calls Tryz.prog 164 #[.agg SV.toArray] w fun e w' => e=.returned (.bool true)∧Below w.heap.size w w':=fun w => (hbl w).mono fun e w' ⟨q1,q2⟩ => ⟨by rw [q1,decide_eq_true hS0],q2⟩
          have HN:Hid (qe8 D.now f kind (k+1)=(false,nx,dl)):=by show _=_;rw [hnx.out,if_neg smp,if_pos hS0]
          clear hbl hS0;go_wp2_with (first | (refine qb8 rfl (x:=.tmp 7) rfl rfl hb4b Tryz.underlying205 Hi.out hsl.out (by rw [List.drop_zero,List.take_of_length_le (by rw [hsl.out];omega)]) ?_) | (go_at_call 164;(with_reducible refine (hbl' _).mono ?_);rintro e w5 ⟨rfl,hb5⟩) | fail "no arm");go_roundw
          case rel =>
            have f1:=o4'.out.below hb5 nlr;have f2:=H4.out.below hb5;have f3:qi9 w5 gj ga kind nx:=Blk.below HJ4.out hb5 HJ4.out.lt;have f4:=S4.trans (Step.of_below hb5 (by have:=S4.size;omega));have e1:Value.bool false=.bool (qe8 D.now f kind (k+1)).1:=by rw [HN.out]
            have e2:Ow iv w5 w.heap.size 3 B N c (qe8 D.now f kind (k+1)).2.2:=by rw [HN.out];exact f1
            have e3:qi9 w5 gj ga kind (qe8 D.now f kind (k+1)).2.1:=by rw [HN.out];exact f3
            have f5:qt9 w w5 gj:=fun g cs hne hb => (ot4.out g cs hne hb).below hb5 (ot4.out g cs hne hb).lt
            first
              | exact ⟨k+1,B,N,c,omg,by go_num,e1,rfl,e2,f2,e3,f4,f5⟩
              | ((repeat apply Exists.intro);exact ⟨⟨k+1,B,N,c,omg,by go_num,e1,rfl,e2,f2,e3,f4,f5⟩,rfl⟩)
          case measure => simp [intOf];omega
        · have hbl':∀ w,Calls Tryz.prog 164 #[.agg SV.toArray] w fun e w' => e=.returned (.bool false)∧Below w.heap.size w w':=fun w => (hbl w).mono fun e w' ⟨q1,q2⟩ => ⟨by rw [q1,decide_eq_false hS0],q2⟩
          have HN:Hid (qe8 D.now f kind (k+1)=(false,nx,dl ++ [(k:Int)])):=by show _=_;rw [hnx.out,if_neg smp,if_neg hS0]
          have hszw:=S4.size;clear hbl hS0;go_wp2_with (first | (refine qb8 rfl (x:=.tmp 7) rfl rfl hb4b Tryz.underlying205 Hi.out hsl.out (by rw [List.drop_zero,List.take_of_length_le (by rw [hsl.out];omega)]) ?_) | ((go_at_call 164;(with_reducible refine (hbl' _).mono ?_);rintro e w5 ⟨rfl,hb5⟩);have o5:=o4'.out.below hb5 nlr;have b5s:=hb5.size) | (at_builtin;refine qc7 rfl rfl qk2 qt6 (s:=.tmp 62) (N:=N+1) (L:=dl ++ [(k:Int)]) rfl (o5.below (b:=w5.heap.size) gwn szz) rfl (k:=[(k:Int)]) (Rd.of_block (l:=[(k:Int)]) (qd3 _ _ smp) rfl) rfl (rfl) uml omg szz ?_;intro A6 c6 w6 hown6 hg6 hat6 hb6) | fail "no arm");go_roundw
          case rel =>
            have o5a:=o5.below (b:=w5.heap.size) ((Below.refl w5.heap.size w5).alloc nlr (.cells #[.int .i64 (k:Int)] 3)) nlr;have bA:Below w5.heap.size w5 (w5.alloc (.cells #[.int .i64 (k:Int)] 3)):=(Below.refl w5.heap.size w5).alloc nlr _;have f2:=((H4.out.below hb5).below bA).grown o5a hg6 dcd;have f3:qi9 w6 gj ga kind nx:=Blk.grown (Blk.below (Blk.below HJ4.out hb5 HJ4.out.lt) bA (by have:=HJ4.out.lt;omega)) hg6 (o5a.ne_ (Blk.below (Blk.below HJ4.out hb5 HJ4.out.lt) bA (by have:=HJ4.out.lt;omega)) dcd);have f4:=((S4.trans (Step.of_below hb5 omg)).trans (Step.of_below bA omg)).then_below hb6 hs;have e1:Value.bool false=.bool (qe8 D.now f kind (k+1)).1:=by rw [HN.out]
            have e2:Ow iv w6 w.heap.size 3 A6 (N+1) c6 (qe8 D.now f kind (k+1)).2.2:=by rw [HN.out];exact hown6
            have e3:qi9 w6 gj ga kind (qe8 D.now f kind (k+1)).2.1:=by rw [HN.out];exact f3
            have f5:qt9 w w6 gj:=fun g cs hne hb => (by
              have q:=((ot4.out g cs hne hb).below hb5 (ot4.out g cs hne hb).lt);have q2:=q.below bA q.lt;exact Blk.grown q2 hg6 (o5a.ne_ q2 dcd))
            first
              | exact ⟨k+1,A6,N+1,c6,omg,by go_num,e1,rfl,e2,f2,e3,f4,f5⟩
              | ((repeat apply Exists.intro);exact ⟨⟨k+1,A6,N+1,c6,omg,by go_num,e1,rfl,e2,f2,e3,f4,f5⟩,rfl⟩)
          case measure => simp [intOf];omega
      | true =>
        cases ho:qs0 S kind with
        | false =>
          have her:er=53:=by rw [herr.out,ho];rfl
          subst her
          by_cases hS0:S=qa3
          · have hbl':∀ w,Calls Tryz.prog 164 #[.agg SV.toArray] w fun e w' => e=.returned (.bool true)∧Below w.heap.size w w':=fun w => (hbl w).mono fun e w' ⟨q1,q2⟩ => ⟨by rw [q1,decide_eq_true hS0],q2⟩
            have HN:Hid (qe8 D.now f kind (k+1)=(false,nx,dl)):=by show _=_;rw [hnx.out,if_neg (by rw [hrec.out,ho];simp),if_pos hS0]
            clear hbl hS0;go_wp2_with (first | (refine qb8 rfl (x:=.tmp 7) rfl rfl hb4b Tryz.underlying205 Hi.out hsl.out (by rw [List.drop_zero,List.take_of_length_le (by rw [hsl.out];omega)]) ?_) | (go_at_call 164;(with_reducible refine (hbl' _).mono ?_);rintro e w5 ⟨rfl,hb5⟩) | fail "no arm");go_roundw
            case rel =>
              have f1:=o4'.out.below hb5 nlr;have f2:=H4.out.below hb5;have f3:qi9 w5 gj ga kind nx:=Blk.below HJ4.out hb5 HJ4.out.lt;have f4:=S4.trans (Step.of_below hb5 (by have:=S4.size;omega));have e1:Value.bool false=.bool (qe8 D.now f kind (k+1)).1:=by rw [HN.out]
              have e2:Ow iv w5 w.heap.size 3 B N c (qe8 D.now f kind (k+1)).2.2:=by rw [HN.out];exact f1
              have e3:qi9 w5 gj ga kind (qe8 D.now f kind (k+1)).2.1:=by rw [HN.out];exact f3
              have f5:qt9 w w5 gj:=fun g cs hne hb => (ot4.out g cs hne hb).below hb5 (ot4.out g cs hne hb).lt
              first
                | exact ⟨k+1,B,N,c,omg,by go_num,e1,rfl,e2,f2,e3,f4,f5⟩
                | ((repeat apply Exists.intro);exact ⟨⟨k+1,B,N,c,omg,by go_num,e1,rfl,e2,f2,e3,f4,f5⟩,rfl⟩)
            case measure => simp [intOf];omega
          · have hbl':∀ w,Calls Tryz.prog 164 #[.agg SV.toArray] w fun e w' => e=.returned (.bool false)∧Below w.heap.size w w':=fun w => (hbl w).mono fun e w' ⟨q1,q2⟩ => ⟨by rw [q1,decide_eq_false hS0],q2⟩
            have HN:Hid (qe8 D.now f kind (k+1)=(false,nx,dl ++ [(k:Int)])):=by show _=_;rw [hnx.out,if_neg (by rw [hrec.out,ho];simp),if_neg hS0]
            have hszw:=S4.size;clear hbl hS0;go_wp2_with (first | (refine qb8 rfl (x:=.tmp 7) rfl rfl hb4b Tryz.underlying205 Hi.out hsl.out (by rw [List.drop_zero,List.take_of_length_le (by rw [hsl.out];omega)]) ?_) | ((go_at_call 164;(with_reducible refine (hbl' _).mono ?_);rintro e w5 ⟨rfl,hb5⟩);have o5:=o4'.out.below hb5 nlr;have b5s:=hb5.size) | (at_builtin;refine qc7 rfl rfl qk2 qt6 (s:=.tmp 62) (N:=N+1) (L:=dl ++ [(k:Int)]) rfl (o5.below (b:=w5.heap.size) gwn szz) rfl (k:=[(k:Int)]) (Rd.of_block (l:=[(k:Int)]) (qd3 _ _ smp) rfl) rfl (rfl) uml omg szz ?_;intro A6 c6 w6 hown6 hg6 hat6 hb6) | fail "no arm");go_roundw
            case rel =>
              have o5a:=o5.below (b:=w5.heap.size) ((Below.refl w5.heap.size w5).alloc nlr (.cells #[.int .i64 (k:Int)] 3)) nlr;have bA:Below w5.heap.size w5 (w5.alloc (.cells #[.int .i64 (k:Int)] 3)):=(Below.refl w5.heap.size w5).alloc nlr _;have f2:=((H4.out.below hb5).below bA).grown o5a hg6 dcd;have f3:qi9 w6 gj ga kind nx:=Blk.grown (Blk.below (Blk.below HJ4.out hb5 HJ4.out.lt) bA (by have:=HJ4.out.lt;omega)) hg6 (o5a.ne_ (Blk.below (Blk.below HJ4.out hb5 HJ4.out.lt) bA (by have:=HJ4.out.lt;omega)) dcd);have f4:=((S4.trans (Step.of_below hb5 omg)).trans (Step.of_below bA omg)).then_below hb6 hs;have e1:Value.bool false=.bool (qe8 D.now f kind (k+1)).1:=by rw [HN.out]
              have e2:Ow iv w6 w.heap.size 3 A6 (N+1) c6 (qe8 D.now f kind (k+1)).2.2:=by rw [HN.out];exact hown6
              have e3:qi9 w6 gj ga kind (qe8 D.now f kind (k+1)).2.1:=by rw [HN.out];exact f3
              have f5:qt9 w w6 gj:=fun g cs hne hb => (by
                have q:=((ot4.out g cs hne hb).below hb5 (ot4.out g cs hne hb).lt);have q2:=q.below bA q.lt;exact Blk.grown q2 hg6 (o5a.ne_ q2 dcd))
              first
                | exact ⟨k+1,A6,N+1,c6,omg,by go_num,e1,rfl,e2,f2,e3,f4,f5⟩
                | ((repeat apply Exists.intro);exact ⟨⟨k+1,A6,N+1,c6,omg,by go_num,e1,rfl,e2,f2,e3,f4,f5⟩,rfl⟩)
            case measure => simp [intOf];omega
        | true =>
          have her:er=0:=by rw [herr.out,ho];rfl
          have hnn:Nn=sg (qg0 S):=by rw [hnum.out,ho];rfl
          subst her
          by_cases hN:Nn=(k:Int)
          · have HN:Hid (qe8 D.now f kind (k+1)=(true,nx+1,dl)):=by show _=_;rw [hnx.out,if_pos ⟨rfl,by rw [hrec.out,ho,← hnn,hN];simp⟩]
            have hNB:(Nn == (k:Int))=true:=by rw [hN];simp
            clear hN hnn ho;go_wp2;go_roundw
            case rel =>
              have hset:qi9 (w4.setCell ⟨gj,2,none⟩ (.int .i64 ((nx:Int)+1))) gj ga kind (nx+1):=Blk.set_ HJ4.out 2 _;have st:Step mutJ base p w4 (w4.setCell ⟨gj,2,none⟩ (.int .i64 ((nx:Int)+1))):=Step.one (qb5 _) HJ4.out (List.mem_cons_self ..) hg (by have:=S4.size;omega);have f1:=Ow.setFar o4'.out HJ4.out dcd 2 (.int .i64 ((nx:Int)+1));have f2:qa5 (w4.setCell ⟨gj,2,none⟩ (.int .i64 ((nx:Int)+1))) base p (rdK D (k+1)):=by
                obtain ⟨A9,c9,h9⟩:=H4.out;exact ⟨A9,c9,h9.keep (F:=(·=gj)) (Keep.one (qb5 _)) (fun g hf e => by
                  subst e;rcases h9.foot_ty HJ4.out hf with q | q | q | q | q <;> exact absurd q dcd)⟩
              have e1:Value.bool true=.bool (qe8 D.now f kind (k+1)).1:=by rw [HN.out]
              have e2:Ow iv (w4.setCell ⟨gj,2,none⟩ (.int .i64 ((nx:Int)+1))) w.heap.size 3 B N c (qe8 D.now f kind (k+1)).2.2:=by rw [HN.out];exact f1
              have e3:qi9 (w4.setCell ⟨gj,2,none⟩ (.int .i64 ((nx:Int)+1))) gj ga kind (qe8 D.now f kind (k+1)).2.1:=by rw [HN.out];exact hset
              first
                | exact ⟨k+1,B,N,c,omg,by go_num,e1,rfl,e2,f2,e3,S4.trans st,fun g cs hne hb => Blk.far (ot4.out g cs hne hb) (show g≠gj from hne) _⟩
                | ((repeat apply Exists.intro);exact ⟨⟨k+1,B,N,c,omg,by go_num,e1,rfl,e2,f2,e3,S4.trans st,fun g cs hne hb => Blk.far (ot4.out g cs hne hb) (show g≠gj from hne) _⟩,rfl⟩)
            case measure => simp [intOf];omega
          · have hNB:(Nn == (k:Int))=false:=by rw [beq_eq_false_iff_ne];exact hN
            have hc:¬ ((true=true)∧recB S kind k=true):=by rw [hrec.out,ho,← hnn,decide_eq_false hN];simp
            have HC:=hdd hc;clear hN hnn ho hc
            by_cases hS0:S=qa3
            · have hbl':∀ w,Calls Tryz.prog 164 #[.agg SV.toArray] w fun e w' => e=.returned (.bool true)∧Below w.heap.size w w':=fun w => (hbl w).mono fun e w' ⟨q1,q2⟩ => ⟨by rw [q1,decide_eq_true hS0],q2⟩
              have HN:Hid (qe8 D.now f kind (k+1)=(false,nx,dl)):=by show _=_;rw [hnx.out,if_neg (HC.out),if_pos hS0]
              clear hbl hS0;go_wp2_with (first | (refine qb8 rfl (x:=.tmp 7) rfl rfl hb4b Tryz.underlying205 Hi.out hsl.out (by rw [List.drop_zero,List.take_of_length_le (by rw [hsl.out];omega)]) ?_) | (go_at_call 164;(with_reducible refine (hbl' _).mono ?_);rintro e w5 ⟨rfl,hb5⟩) | fail "no arm");go_roundw
              case rel =>
                have f1:=o4'.out.below hb5 nlr;have f2:=H4.out.below hb5;have f3:qi9 w5 gj ga kind nx:=Blk.below HJ4.out hb5 HJ4.out.lt;have f4:=S4.trans (Step.of_below hb5 (by have:=S4.size;omega));have e1:Value.bool false=.bool (qe8 D.now f kind (k+1)).1:=by rw [HN.out]
                have e2:Ow iv w5 w.heap.size 3 B N c (qe8 D.now f kind (k+1)).2.2:=by rw [HN.out];exact f1
                have e3:qi9 w5 gj ga kind (qe8 D.now f kind (k+1)).2.1:=by rw [HN.out];exact f3
                have f5:qt9 w w5 gj:=fun g cs hne hb => (ot4.out g cs hne hb).below hb5 (ot4.out g cs hne hb).lt
                first
                  | exact ⟨k+1,B,N,c,omg,by go_num,e1,rfl,e2,f2,e3,f4,f5⟩
                  | ((repeat apply Exists.intro);exact ⟨⟨k+1,B,N,c,omg,by go_num,e1,rfl,e2,f2,e3,f4,f5⟩,rfl⟩)
              case measure => simp [intOf];omega
            · have hbl':∀ w,Calls Tryz.prog 164 #[.agg SV.toArray] w fun e w' => e=.returned (.bool false)∧Below w.heap.size w w':=fun w => (hbl w).mono fun e w' ⟨q1,q2⟩ => ⟨by rw [q1,decide_eq_false hS0],q2⟩
              have HN:Hid (qe8 D.now f kind (k+1)=(false,nx,dl ++ [(k:Int)])):=by show _=_;rw [hnx.out,if_neg (HC.out),if_neg hS0]
              have hszw:=S4.size;clear hbl hS0;go_wp2_with (first | (refine qb8 rfl (x:=.tmp 7) rfl rfl hb4b Tryz.underlying205 Hi.out hsl.out (by rw [List.drop_zero,List.take_of_length_le (by rw [hsl.out];omega)]) ?_) | ((go_at_call 164;(with_reducible refine (hbl' _).mono ?_);rintro e w5 ⟨rfl,hb5⟩);have o5:=o4'.out.below hb5 nlr;have b5s:=hb5.size) | (at_builtin;refine qc7 rfl rfl qk2 qt6 (s:=.tmp 62) (N:=N+1) (L:=dl ++ [(k:Int)]) rfl (o5.below (b:=w5.heap.size) gwn szz) rfl (k:=[(k:Int)]) (Rd.of_block (l:=[(k:Int)]) (qd3 _ _ smp) rfl) rfl (rfl) uml omg szz ?_;intro A6 c6 w6 hown6 hg6 hat6 hb6) | fail "no arm");go_roundw
              case rel =>
                have o5a:=o5.below (b:=w5.heap.size) ((Below.refl w5.heap.size w5).alloc nlr (.cells #[.int .i64 (k:Int)] 3)) nlr;have bA:Below w5.heap.size w5 (w5.alloc (.cells #[.int .i64 (k:Int)] 3)):=(Below.refl w5.heap.size w5).alloc nlr _;have f2:=((H4.out.below hb5).below bA).grown o5a hg6 dcd;have f3:qi9 w6 gj ga kind nx:=Blk.grown (Blk.below (Blk.below HJ4.out hb5 HJ4.out.lt) bA (by have:=HJ4.out.lt;omega)) hg6 (o5a.ne_ (Blk.below (Blk.below HJ4.out hb5 HJ4.out.lt) bA (by have:=HJ4.out.lt;omega)) dcd);have f4:=((S4.trans (Step.of_below hb5 omg)).trans (Step.of_below bA omg)).then_below hb6 hs;have e1:Value.bool false=.bool (qe8 D.now f kind (k+1)).1:=by rw [HN.out]
                have e2:Ow iv w6 w.heap.size 3 A6 (N+1) c6 (qe8 D.now f kind (k+1)).2.2:=by rw [HN.out];exact hown6
                have e3:qi9 w6 gj ga kind (qe8 D.now f kind (k+1)).2.1:=by rw [HN.out];exact f3
                have f5:qt9 w w6 gj:=fun g cs hne hb => (by
                  have q:=((ot4.out g cs hne hb).below hb5 (ot4.out g cs hne hb).lt);have q2:=q.below bA q.lt;exact Blk.grown q2 hg6 (o5a.ne_ q2 dcd))
                first
                  | exact ⟨k+1,A6,N+1,c6,omg,by go_num,e1,rfl,e2,f2,e3,f4,f5⟩
                  | ((repeat apply Exists.intro);exact ⟨⟨k+1,A6,N+1,c6,omg,by go_num,e1,rfl,e2,f2,e3,f4,f5⟩,rfl⟩)
              case measure => simp [intOf];omega
    · have hk9:k=m:=omg;subst hk9;have HDk:=hdd hdk;have HJk:=hdd hjk;have HS:=hdd hst;clear hdk hjk hst;go_wp2;rw [Exit.noGoto_ret];go_ret2;exact ⟨B,N,c,rfl,hown,HDk.out,HJk.out,HS.out,hot⟩
theorem jread_off (h:qi9 w gj ga kind 0) (hd:qa5 w base p D) (hs:base≤w.heap.size) (ha:qa8 w ga p.d f m) (hm:1≤m) (hfm:f+m≤D.many) (hoff:D.off=true) (hok:D.Ok) :
    Calls Tryz.prog 293 #[.pointer (some ⟨gj,0,none⟩)] w fun e w' => e=.returned (.tuple #[.slice none 0 0,.int .i64 50])∧qa5 w' base p D∧Step mutD base p w w':=by
  have c0:w.cell? ⟨gj,0,none⟩=some (.pointer (some ⟨ga,0,none⟩)):=Blk.cell h 0;have hmany:=qo9 ha;have hz:=(zero_of_info qe1).1;have Hi:=hdd (zero_of_info qe1).2;have hlz:Hid ((qa3.map bv).length=128):=by show _=_;simp [qc0]
  have HZm:=hdd (qk1 (l:=qa3));have hm4:f+m≤4096:=by have:=hok.many1;omega
  have hon:qb4 D f m 0=(D,qa3,50):=by
    have hmay:mayV D ((f:Int)+0)=50:=by unfold mayV;rw [hoff];rfl
    unfold qb4 qt2;rw [if_neg omg,hmay,if_pos smp]
  have hrd:=vj8 hd hs ha hfm 0;rw [hon] at hrd;simp only at hrd;clear h hd ha hok hon;unfold aggB at *;generalize qa3.map bv=Z at *;go_enter Tryz.func293,Tryz.ntmps293;go_wp2_with fail;go_step3;go_wp2_with fail;go_step3;go_wp2_with (first | (go_at_call 113;(with_reducible refine (hmany).mono ?_);rintro e w1 ⟨rfl,rfl⟩) | fail "no arm");go_loopw [4,5,6,7,8,9,10,11,17] (fun _ _ _ _ _ _ _ _ i wr => i=.int .i64 0∧wr=w) (fun _ _ _ _ _ _ _ _ i _ => m - (intOf i).toNat)
  case atStart => exact ⟨rfl,rfl⟩
  case round =>
    obtain ⟨rfl,rfl⟩:=hrel;have hmI:(0:Int)<m:=omg;go_wp2_with (first | ((go_at_call 162;(with_reducible refine (hrd).mono ?_);rintro e w2 ⟨rfl,h2,s2⟩);have H2:=hdd h2;clear h2) | (refine qb2 rfl (x:=.tmp 7) (y:=.tmp 27) rfl rfl rfl (t:=205) (cs:=Z) (xs:=Z) (Blk.top _ rfl rfl) Hi.out hlz.out (by rw [hlz.out];omega) HZm.out ?_;intro w3 hb3 hg3 hs3;rw [qc1 _ _ rfl] at hb3;have b3:Below w2.heap.size w2 w3:=qb6 ((Below.refl w2.heap.size w2).alloc nlr _) hg3 szz szz) | fail "no arm");rw [Exit.noGoto_ret];go_ret2;exact ⟨rfl,H2.out.below b3,s2.trans (Step.of_below b3 (by have:=s2.size;omega))⟩
theorem Step.noJrn {w1:World} (hb:Below w.heap.size w w1) (h:Step mutJ base p w1 w') (ho:qt9 w1 w' gj) (hg:w.heap.size≤gj) (hs:base≤w.heap.size):Step mutD base p w w':=by
  obtain ⟨h1,F,hF,tF⟩:=h;refine ⟨(hb.mono hs).trans h1,fun g => F g∧∀ cs,¬ Blk w1 g 363 cs,⟨hF.os.trans hb.os,hF.tape.trans hb.tape,hF.output.trans hb.output,Nat.le_trans hb.size hF.size,fun k hk hn => ?_⟩,fun g t cs e hbk => ?_⟩
  · have e0:=hb.block k hk
    by_cases hfk:F k
    · have:∃ cs,Blk w1 k 363 cs:=by
        apply Classical.byContradiction;intro hno;exact hn ⟨hfk,fun cs hc => hno ⟨cs,hc⟩⟩
      obtain ⟨cs,hc⟩:=this;have:=ho k cs omg hc;unfold Blk at this hc;rw [this,← hc];exact e0
    · rw [← e0];exact hF.block k (by have:=hb.size;omega) hfk
  · have hb1:=hbk.below hb hbk.lt;rcases tF g t cs e.1 hb1 with q | q
    · rcases List.mem_cons.1 q with q | q
      · subst q;exact absurd hb1 (e.2 cs)
      · exact .inl q
    · exact .inr q
end
end Go.Proofs.YtmeebofhlilcmaaGreat
