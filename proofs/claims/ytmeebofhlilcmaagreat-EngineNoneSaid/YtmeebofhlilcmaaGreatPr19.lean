/- Parts: SlotA. -/
import Derived.Test.YtmeebofhlilcmaaGreatPr02
import Derived.Test.YtmeebofhlilcmaaGreatPr18
import Derived.Deep.RegionHeld3
set_option linter.unusedVariables false
set_option linter.unusedSimpArgs false
set_option maxRecDepth 100000
set_option maxHeartbeats 40000000
namespace Go.Proofs.YtmeebofhlilcmaaGreat
open Go.RowKit
theorem RB.same {w w':World} {g o n:Nat} {t:TypeId} {cs:List Value} {l:List UInt8} (h:RB w (some ⟨g,o,none⟩) n l) (hb:Blk w g t cs) (hb':Blk w' g t cs) (hs:w.heap.size≤w'.heap.size):RB w' (some ⟨g,o,none⟩) n l :=
  ⟨h.1,h.2.sameB hs (fun b e _ => by
    simp only [Option.map_some,Option.some.injEq] at e;subst e;exact Eq.trans hb' (Eq.symm hb))⟩
theorem RB.piece {w:World} {g o n:Nat} {l:List UInt8} (h:RB w (some ⟨g,o,none⟩) n l) (L m:Nat) (hm:L+m≤n):RB w (some ⟨g,o+L,none⟩) m ((l.drop L).take m):=by
  refine ⟨by rw [List.length_take,List.length_drop,h.1];omega,fun h0 => ?_⟩;obtain ⟨b,o',e,hb,hc⟩:=h.2 omg;injection e with e;injection e with e1 e2 _;subst e1 e2;refine ⟨_,_,rfl,hb,fun i hi => ?_⟩;have:=hc (L+i) omg;rw [Nat.add_assoc,this];unfold qa4;simp [List.getD_eq_getElem?_getD,hi]
theorem equal_any (g1 o1 g2 o2 n c d:Nat) (l k:List UInt8) (w:World) (h1:RB w (some ⟨g1,o1,none⟩) n l) (h2:RB w (some ⟨g2,o2,none⟩) n k) (hn:0<n) :
    Calls Tryz.prog 283 #[.slice (some ⟨g1,o1,none⟩) n c,.slice (some ⟨g2,o2,none⟩) n d] w fun e w' => e=.returned (.bool (decide (l=k)))∧w=w':=by
  have conv:∀ (g o c:Nat) (l:List UInt8),RB w (some ⟨g,o,none⟩) n l→(convert 27 9 (.slice (some ⟨g,o,none⟩) n c)).run Tryz.prog w=.ok (.string ⟨l.toArray⟩) w:=fun g o c l h => by
    have hx:=run_convert_bytes_back (P:=Tryz.prog) w 27 9 5 ⟨g,o,none⟩ c l Tryz.underlying27 Tryz.underlying5 (by kernel_rfl) (fun j hj => by
      obtain ⟨b1,o1,hA,_,hc⟩:=h.at_ (k:=j) (by rw [← h.1];exact hj);injection hA with hA;injection hA with h1 h2 _;subst h1 h2;rw [show (⟨g,o,none⟩:Addr).add j=⟨g,o+j,none⟩ from by simp [Addr.add];try omega,hc];unfold qa4;rw [List.getD_eq_getElem?_getD,List.getElem?_eq_getElem hj]
      rfl)
    rwa [h.1] at hx
  have v1:=conv g1 o1 c l h1;have v2:=conv g2 o2 d k h2;clear conv h1 h2;go_enter Tryz.func283,Tryz.ntmps283;go_wp2;go_ret;exact ⟨qg5 (Bool.eq_iff_iff.2 (by rw [beq_iff_eq,decide_eq_true_eq])),rfl⟩
theorem vj7 (n:Nat) (w:World) (h:n≤100000):Calls Tryz.prog 282 #[.int .i64 (n:Nat)] w fun e w' => e=.returned (.int .i64 (qf4 n:Nat))∧w=w':=by
  have e:((qf4 n:Nat):Int)=((n:Int)+127) / 128:=by unfold qf4;omega
  rw [e];go_enter Tryz.func282,Tryz.ntmps282;go_wp2;go_ret;refine ⟨?_,rfl⟩
  show Ending.returned (.int .i64 (((n:Int)+128 - 1) / 128))=_
  rw [show (n:Int)+128 - 1=(n:Int)+127 by omega]
section
variable {w w':World} {base ga f m:Nat} {p:qb9} {D:qa1}
theorem take_on {n kind:Int} (h:(qe5 D f m n kind).2.2=0):D.off=false∧(qb4 D f m n).1=qj0 D:=by
  have h1:(qb4 D f m n).2.2=0:=by
    apply Classical.byContradiction;intro hc;unfold qe5 at h;rw [if_pos hc] at h;exact hc h
  unfold qb4 at h1 ⊢
  split at h1
  · exact absurd h1 smp
  · rename_i hc;rw [if_neg hc];unfold qt2 at h1 ⊢
    split at h1
    · rename_i hm;exact absurd h1 hm
    · rename_i hm;rw [if_neg hm];exact ⟨(qz9 (Decidable.of_not_not hm)).1,rfl⟩
theorem sumL_len (l:List UInt8):(sumL l).length=4:=qj4 _
theorem body_read {j:Nat} (hd:qa5 w base p (rdK D j)) (hs:base≤w.heap.size) (ha:qa8 w ga p.d f m) (hoff:D.off=false) (hfm:f+m≤D.many) (hj:1+j<m) :
    Calls Tryz.prog 162 #[.pointer (some ⟨ga,0,none⟩),.int .i64 (1+(j:Int))] w fun e w' => e=.returned (.tuple #[aggB (qf1 D.now ((f+(1+j):Nat):Int)),.int .i64 0])∧qa5 w' base p (rdK D (j+1))∧Step mutD base p w w':=by
  obtain ⟨o,eo⟩:=qo8 D j;have hon:qb4 (rdK D j) f m ((1+j:Nat):Int)=(rdK D (j+1),qf1 D.now ((f+(1+j):Nat):Int),0):=by
    rw [vn9 (by rw [eo];exact hoff) (by rw [eo];exact hfm) hj]
    show (rdK D (j+1),qf1 (rdK D j).now _,(0:Int))=_
    rw [eo]
  have crd:=vj8 hd hs ha (f:=f) (m:=m) (by rw [eo];exact hfm) ((1+j:Nat):Int);rw [hon] at crd;rw [show (1+(j:Int))=((1+j:Nat):Int) by omega];exact crd
def vm3 (w:World) (base:Nat) (p:qb9) (R:qa1 × List UInt8 × Int × Int) (e:Ending) (w':World):Prop :=
  ∃ B n d,e=.returned (.tuple #[.slice B n d,.int .i64 R.2.2.1,.int .i64 R.2.2.2])∧n≤d∧d≤maxLen∧n≤512∧qj5 w' base ⟨B,n,d⟩ R.2.1∧qa5 w' base p R.1∧Step mutD base p w w'
theorem vm3.no {z:Int} (hd:qa5 w' base p D) (st:Step mutD base p w w'):vm3 w base p (D,[],0,z) (.returned (.tuple #[.slice none 0 0,.int .i64 0,.int .i64 z])) w' :=
  ⟨none,0,0,rfl,Nat.le_refl _,by decide,omg,⟨⟨rfl,Row.nil _ _ _⟩,by decide,fun h => absurd h smp⟩,hd,st⟩
theorem whole_any (hd:qa5 w base p D) (hs:base≤w.heap.size) (ha:qa8 w ga p.d f m) (hm:5≤m) (hfm:f+m≤D.many) :
    Calls Tryz.prog 231 #[.pointer (some ⟨ga,0,none⟩)] w (vm3 w base p (qc8 D f m)):=by
  have hok:D.Ok:=by obtain ⟨A,c,h⟩:=hd;exact h.ok
  have hm4:f+m≤4096:=by have:=hok.many1;omega
  have ctk:Calls Tryz.prog 158 #[.pointer (some ⟨ga,0,none⟩),.int .i64 0,.int .i64 2] w fun e w' =>
      ∃ B k d,e=.returned (.tuple #[.int .i64 (qe5 D f m 0 2).1,.slice B k d,.int .i64 (qe5 D f m 0 2).2.2])∧OB w' w.heap.size 5 B k d (qe5 D f m 0 2).2.1∧qa5 w' base p (qb4 D f m 0).1∧Step mutD base p w w':=s_atake hd hs ha hfm 0 2
  have hon:=take_on (D:=D) (f:=f) (m:=m) (n:=0) (kind:=2);have HD:=hdd hd;have HA:=hdd ha;have HOK:=hdd hok;unfold qc8;generalize qe5 D f m 0 2=T at *;obtain ⟨N,L,er⟩:=T;generalize hD1:(qb4 D f m 0).1=D1 at *;have HD1:=hdd hD1;simp only at ctk hon ⊢;clear hd ha hok hD1
  by_cases her:er=0
  · subst her;rw [if_neg smp]
    by_cases hl:L.length=12
    · rw [if_neg (by rw [hl];simp)];have HL:=hdd hl;clear hl;obtain ⟨hN,hhN⟩:∃ hN,sg (getL (L.take 8))=hN:=⟨_,rfl⟩;have HN:=hdd hhN;rw [show qv2 L=hN from hhN];clear hhN
      by_cases hn:hN<0∨512<hN
      · rw [if_pos hn];have hc:hN<0∨(0≤hN∧512<hN):=omg;clear hn hon;rcases hc with h1 | ⟨h1,h2⟩
        all_goals
          go_enter Tryz.func231,Tryz.ntmps231;go_wp2_with (first | ((go_at_call 158;(with_reducible refine (ctk).mono ?_);rintro e w1 ⟨B,k,d,rfl,o1,d1,st1⟩);obtain rfl:k=12:=(by have e1:=o1.1;have e2:=HL.out;omega);obtain ⟨gh,oh,rfl,hbl1,_⟩:=o1.rd.2.at_ (k:=0) omg;obtain ⟨hcs,hblk⟩:=Ow.blk (enc:=bv) o1 (g:=gh) rfl;have hd12:=o1.cap;have hcut:∀ W,(Instr.slice 27 (.slice (some ⟨gh,oh,none⟩) 12 d) none (some (.int .i64 8)) none).run Tryz.prog W=.ok (.slice (some ⟨gh,oh,none⟩) 8 d) W:=vb2 qd8 (some ⟨gh,oh,none⟩) 12 d 8 omg;have cget:Calls Tryz.prog 237 #[.slice (some ⟨gh,oh,none⟩) 8 d] w1 fun e w' => e=.returned (.tuple #[.int .i64 (hN),.int .i64 0])∧w1=w':=(by have q9:=vr1 (some ⟨gh,oh,none⟩) d (L.take 8) w1 ((o1.rd.take_ omg).rb);rw [HN.out] at q9;exact q9);have HO1:=hdd o1;have D1':=hdd d1;have S1:=hdd st1;have HBK:=hdd hblk;have s1:=st1.size;clear o1 d1 st1 hblk) | (go_at_call 237;(with_reducible refine (cget).mono ?_);rintro e w2 ⟨rfl,rfl⟩) | fail "no arm");go_ret3;exact vm3.no D1'.out S1.out
      · rw [if_neg hn];obtain ⟨nn,hnn⟩:∃ nn:Nat,hN=(nn:Int):=⟨hN.toNat,omg⟩;subst hnn;have hn512:nn≤512:=omg;rw [Int.toNat_natCast];obtain ⟨hoff,hd1⟩:=hon rfl;have hK:qf4 nn≤4:=by unfold qf4;omega
        have hKn:nn≤qf4 nn * 128:=by unfold qf4;omega
        have hoff1:D1.off=false:=by rw [hd1];exact hoff
        have hfm1:f+m≤D1.many:=by rw [hd1];exact hfm
        have hnow:D.now=D1.now:=by rw [hd1];rfl
        have hok1:D1.now.length=D1.many * 128:=by rw [hd1];exact HOK.out.now
        rw [hnow];have HSE:=hdd (fun (w:World) => vj7 nn w omg);have hbl:=hdd (bodyL_len hok1 (f:=f) (qf4 nn) omg);generalize hKe:qf4 nn=K at *;generalize hRe:(if sumL ((qz2 D1.now f K).take nn)=L.drop 8 then (rdK D1 K,(qz2 D1.now f K).take nn,N,(0:Int)) else (rdK D1 K,[],0,53))=R;have HRE:=hdd hRe;clear hRe;have HSL:=hdd (fun j (hj:j<K) => ql9 hok1 (n:=((f+(1+j):Nat):Int)) omg omg);have hz:=(zero_of_info qe1).1;have Hi:=hdd (zero_of_info qe1).2;have hlz:Hid ((qa3.map bv).length=128):=by show _=_;simp [qc0]
        unfold aggB at hz;generalize qa3.map bv=Z at *;clear hKe hn hon hd1 hnow hoff hfm hok1;go_enter Tryz.func231,Tryz.ntmps231;go_wp2_with (first | ((go_at_call 158;(with_reducible refine (ctk).mono ?_);rintro e w1 ⟨B,k,d,rfl,o1,d1,st1⟩);obtain rfl:k=12:=(by have e1:=o1.1;have e2:=HL.out;omega);obtain ⟨gh,oh,rfl,hbl1,_⟩:=o1.rd.2.at_ (k:=0) omg;obtain ⟨hcs,hblk⟩:=Ow.blk (enc:=bv) o1 (g:=gh) rfl;have hd12:=o1.cap;have hcut:∀ W,(Instr.slice 27 (.slice (some ⟨gh,oh,none⟩) 12 d) none (some (.int .i64 8)) none).run Tryz.prog W=.ok (.slice (some ⟨gh,oh,none⟩) 8 d) W:=vb2 qd8 (some ⟨gh,oh,none⟩) 12 d 8 omg;have cget:Calls Tryz.prog 237 #[.slice (some ⟨gh,oh,none⟩) 8 d] w1 fun e w' => e=.returned (.tuple #[.int .i64 ((nn:Int)),.int .i64 0])∧w1=w':=(by have q9:=vr1 (some ⟨gh,oh,none⟩) d (L.take 8) w1 ((o1.rd.take_ omg).rb);rw [HN.out] at q9;exact q9);have HO1:=hdd o1;have D1':=hdd d1;have S1:=hdd st1;have HBK:=hdd hblk;have s1:=st1.size;clear o1 d1 st1 hblk) | (go_at_call 237;(with_reducible refine (cget).mono ?_);rintro e w2 ⟨rfl,rfl⟩) | (go_at_call 282;(with_reducible refine (HSE.out _).mono ?_);rintro e w2 ⟨rfl,rfl⟩) | fail "no arm");clear cget hcut;go_loopw [9,44] (fun v i wr => ∃ (j:Nat) (B2:Option Addr) (c2:Nat),j≤K∧i=.int .i64 (j:Nat)∧v=.slice B2 (j * 128) c2∧OB wr w1.heap.size 5 B2 (j * 128) c2 (qz2 D1.now f j)∧qa5 wr base p (rdK D1 j)∧Step mutD base p w1 wr∧Blk wr gh 5 hcs) (fun _ i _ => K - (intOf i).toNat)
        case atStart => exact ⟨0,none,0,omg,rfl,rfl,Ow.nil _ _ _ _,D1'.out,Step.refl _ _ _ _,HBK.out⟩
        case round =>
          obtain ⟨j,B2,c2,hj,rfl,rfl,hown,hdj,hst,hbk⟩:=hrel;have hsz:=hst.size
          by_cases hlt:j<K
          · have hjI:(j:Int)<K:=omg;have haw:qa8 wr ga p.d f m:=D1'.out.area (HD.out.area HA.out S1.out.tch dcd) hst.tch dcd;have crd:=body_read hdj omg haw hoff1 hfm1 (show 1+j<m by omega);have hsl0:=HSL.out j hlt;have hnx:Hid (qz2 D1.now f j ++ qf1 D1.now ((f+(1+j):Nat):Int)=qz2 D1.now f (j+1)):=rfl;have HOW:=hdd hown;have HDJ:=hdd hdj;have HST:=hdd hst;have HBK2:=hdd hbk;generalize qf1 D1.now ((f+(1+j):Nat):Int)=S at *;have hsl:Hid ((S.map bv).length=128):=by show _=_;rw [List.length_map];exact hsl0
            have hsm:=hdd (qk1 (l:=S));have HS0:=hdd hsl0;have HSV:Hid (S.map bv=S.map bv):=rfl;unfold aggB at crd;obtain ⟨SV,hSV⟩:∃ SV,S.map bv=SV:=⟨_,rfl⟩;rw [hSV] at crd hsl hsm;have HSV2:=hdd hSV;have hc128:=fun (g:Nat) (W:World) => qx7 (P:=Tryz.prog) (t:=205) (e:=5) (n:=128) Tryz.underlying205 (by kernel_rfl) g 0 W
            clear hown hdj hst hbk haw hsl0 hSV;go_wp2_with (first | ((go_at_call 162;(with_reducible refine (crd).mono ?_);rintro e w2 ⟨rfl,d2,st2⟩);have D2:=hdd d2;have O2:=hdd (HDJ.out.ob HOW.out st2.tch dcd);have K2:=hdd (HDJ.out.blk HBK2.out st2.tch dcd);have S2:=hdd (HST.out.trans st2);have s2:=S2.out.size;clear d2 st2) | (refine qb2 rfl (x:=.tmp 11) (y:=.tmp 52) rfl rfl rfl (t:=205) (cs:=Z) (xs:=SV) (Blk.top _ rfl rfl) Hi.out hsl.out (by rw [hlz.out];omega) hsm.out ?_;intro w3 hb3 hg3 hs3;rw [qc1 _ _ (hlz.out.trans hsl.out.symm)] at hb3;have b3:Below w2.heap.size w2 w3:=qb6 ((Below.refl w2.heap.size w2).alloc nlr _) hg3 szz szz;have O3:=O2.out.below b3 nlr;have hrd:RB w3 (some ⟨w2.heap.size,0,none⟩) 128 S:=(by have:=RB.of_block (l:=S) hb3 (by rw [HSV2.out]);rw [HS0.out] at this;exact this);have D3:=hdd (D2.out.below b3);have K3:=hdd (K2.out.below b3 K2.out.lt);have S3:=hdd (S2.out.trans (Step.of_below b3 omg));have s3:=S3.out.size;clear hb3 hg3) | (at_builtin;refine qc7 rfl rfl qd8 qf3 (s:=.tmp 57) (N:=(j+1) * 128) (L:=qz2 D1.now f (j+1)) rfl O3 rfl (k:=S) hrd.rd omg hnx.out uml omg omg ?_;intro A5 c5 w5 hown5 hg5 hat5 hb5) | fail "no arm");have D5:=hdd (D3.out.grown O3 hg5 dcd);have K5:=hdd (K3.out.grown hg5 (fun e => by have:=(O3.lt _ e).1;have:=HBK.out.lt;omega));have S5:=hdd (S3.out.then_below hb5 omg);go_roundw
            case rel => first
              | exact ⟨j+1,A5,c5,omg,by go_num,rfl,hown5,D5.out,S5.out,K5.out⟩
              | ((repeat apply Exists.intro);exact ⟨⟨j+1,A5,c5,omg,by go_num,rfl,hown5,D5.out,S5.out,K5.out⟩,rfl⟩)
            case measure => simp [intOf];omega
          · have hjK:K=j:=omg;subst hjK;have hcapn:=hown.cap;have hcutn:∀ W,(Instr.slice 27 (.slice B2 (K * 128) c2) none (some (.int .i64 (nn:Int))) none).run Tryz.prog W=.ok (.slice B2 nn c2) W:=vb2 qd8 B2 (K * 128) c2 nn omg;have hrn:RB wr B2 nn ((qz2 D1.now f K).take nn):=(hown.rd.take_ hKn).rb;have hrest:0<nn→va8 wr base 5 B2:=fun _ g hg => .inr (hown.blk hg)
            have BA:=hdd (show qj5 wr base ⟨B2,nn,c2⟩ ((qz2 D1.now f K).take nn) from ⟨hrn,by show nn≤maxLen;unfold maxLen;omega,hrest⟩);have hrh:RB w1 (some ⟨gh,oh+8,none⟩) 4 (L.drop 8):=by
              have:=HO1.out.rd.rb.piece 8 4 omg
              rwa [List.take_of_length_le (by rw [List.length_drop,HL.out];omega)] at this
            have HRH:=hdd (hrh.same HBK.out hbk hsz);have hcuth:∀ W,(Instr.slice 27 (.slice (some ⟨gh,oh,none⟩) 12 d) (some (.int .i64 8)) none none).run Tryz.prog W=.ok (.slice (some ⟨gh,oh+8,none⟩) 4 (d - 8)) W:=fun W => by
              have:=qq5 qd8 (some ⟨gh,oh,none⟩) 12 d 8 omg W;rw [if_neg omg] at this;exact this
            have hc4:=fun (g:Nat) (W:World) => qx7 (P:=Tryz.prog) (t:=358) (e:=5) (n:=4) Tryz.underlying358 (by kernel_rfl) g 0 W
            have hsum:=vl5 [(qz2 D1.now f K).take nn];have hsumc:=fun a n c w => sum_any a n c [(qz2 D1.now f K).take nn] w
            have HDJ:=hdd hdj;have HST:=hdd hst;obtain ⟨ld,hld⟩:∃ ld,(qz2 D1.now f K).take nn=ld:=⟨_,rfl⟩;rw [hld] at hrn hsum hsumc BA;have HRE2:=HRE.out;rw [hld] at HRE2;have hle4:sumL ld=le4 (qn3 [ld]):=rfl;rw [hle4] at HRE2;generalize qn3 [ld]=sm at *;have HRN:=hdd hrn;have HRE3:=hdd HRE2;clear hown hdj hst hbk hrest hrh hrn HRE2 hle4 hld
            by_cases heq:le4 sm=L.drop 8
            · have HEQ:=hdd heq;clear heq;go_wp2_with (first | (go_at_call 256;(with_reducible refine (hsumc _ _ _ _ (RBs.one (qd3 _ _ smp) (HRN.out.below (B:=wr.heap.size) gwn nlr) uml) dcd).mono ?_);rintro e w2 ⟨rfl,rfl⟩) | ((go_at_call 255;(with_reducible refine (vg0 sm _ hsum).mono ?_);rintro e w2 ⟨rfl,hb2⟩);have B2':=qa2 (a:=wr) (B:=wr.heap.size) gwn hb2 szz;have s2:=B2'.size;clear hb2) | (refine qb2 rfl (x:=.tmp 13) (y:=.tmp 67) rfl rfl rfl (t:=358) (cs:=[.int .u8 0,.int .u8 0,.int .u8 0,.int .u8 0]) (xs:=(le4 sm).map bv) (Blk.top _ rfl rfl) size4 (by simp [qj4]) smp qk1 ?_;intro w3 hb3 hg3 hs3;rw [qc1 _ _ (by simp [qj4])] at hb3;have b3:Below wr.heap.size wr w3:=qb6 (B2'.alloc s2 _) hg3 (by simp;omega) s2;have r3:RB w3 (some ⟨w2.heap.size,0,none⟩) 4 (le4 sm):=(by have:=RB.of_block (l:=le4 sm) hb3 rfl;rw [qj4] at this;exact this);have h3:=HRH.out.below b3 nlr;clear hb3 hg3) | fail "no arm");have ceq:=fun q9 => equal_any w2.heap.size 0 gh (oh+8) 4 4 (d - 8) (le4 sm) (L.drop 8) (w3.drewN q9) (r3.below (below_drewN (Below.refl w3.heap.size w3) q9) nlr) (h3.below (below_drewN (Below.refl w3.heap.size w3) q9) nlr) omg
              rw [decide_eq_true HEQ.out] at ceq;have B3:=hdd b3;clear r3 h3 b3 B2';go_quiet ((go_at_call 283;exact Calls.quiet_of_same ((ceq _).mono fun e w' ⟨h1,h2⟩ => ⟨h1,h2.symm⟩)));go_wp2;go_ret3;have b9:=below_drewN B3.out nq;have e9:=HRE3.out;rw [if_pos HEQ.out] at e9;rw [← e9];exact ⟨B2,nn,c2,rfl,omg,by omega,hn512,BA.out.below b9,HDJ.out.below b9,(S1.out.trans HST.out).trans (Step.of_below b9 omg)⟩
            · have HEQ:=hdd heq;clear heq;go_wp2_with (first | (go_at_call 256;(with_reducible refine (hsumc _ _ _ _ (RBs.one (qd3 _ _ smp) (HRN.out.below (B:=wr.heap.size) gwn nlr) uml) dcd).mono ?_);rintro e w2 ⟨rfl,rfl⟩) | ((go_at_call 255;(with_reducible refine (vg0 sm _ hsum).mono ?_);rintro e w2 ⟨rfl,hb2⟩);have B2':=qa2 (a:=wr) (B:=wr.heap.size) gwn hb2 szz;have s2:=B2'.size;clear hb2) | (refine qb2 rfl (x:=.tmp 13) (y:=.tmp 67) rfl rfl rfl (t:=358) (cs:=[.int .u8 0,.int .u8 0,.int .u8 0,.int .u8 0]) (xs:=(le4 sm).map bv) (Blk.top _ rfl rfl) size4 (by simp [qj4]) smp qk1 ?_;intro w3 hb3 hg3 hs3;rw [qc1 _ _ (by simp [qj4])] at hb3;have b3:Below wr.heap.size wr w3:=qb6 (B2'.alloc s2 _) hg3 (by simp;omega) s2;have r3:RB w3 (some ⟨w2.heap.size,0,none⟩) 4 (le4 sm):=(by have:=RB.of_block (l:=le4 sm) hb3 rfl;rw [qj4] at this;exact this);have h3:=HRH.out.below b3 nlr;clear hb3 hg3) | fail "no arm");have ceq:=fun q9 => equal_any w2.heap.size 0 gh (oh+8) 4 4 (d - 8) (le4 sm) (L.drop 8) (w3.drewN q9) (r3.below (below_drewN (Below.refl w3.heap.size w3) q9) nlr) (h3.below (below_drewN (Below.refl w3.heap.size w3) q9) nlr) omg
              rw [decide_eq_false HEQ.out] at ceq;have B3:=hdd b3;clear r3 h3 b3 B2';go_quiet ((go_at_call 283;exact Calls.quiet_of_same ((ceq _).mono fun e w' ⟨h1,h2⟩ => ⟨h1,h2.symm⟩)));go_wp2;go_ret3;have b9:=below_drewN B3.out nq;have e9:=HRE3.out;rw [if_neg HEQ.out] at e9;rw [← e9];exact vm3.no (HDJ.out.below b9) ((S1.out.trans HST.out).trans (Step.of_below b9 omg))
    · rw [if_pos hl];have HL:=hdd hl;clear hon hl;go_enter Tryz.func231,Tryz.ntmps231;go_wp2_with (first | ((go_at_call 158;(with_reducible refine (ctk).mono ?_);rintro e w1 ⟨B,k,d,rfl,o1,d1,st1⟩);have hk:((k:Int) != 12)=true:=(by rw [bne_iff_ne];have e1:=o1.1;have e2:=HL.out;omega);have D1':=hdd d1;have S1:=hdd st1;clear o1 d1 st1) | fail "no arm");go_ret3;exact vm3.no D1'.out S1.out
  · rw [if_pos her];have hne:(er != 0)=true:=by rw [bne_iff_ne];exact her
    clear her hon;go_enter Tryz.func231,Tryz.ntmps231;go_wp2_with (first | ((go_at_call 158;(with_reducible refine (ctk).mono ?_);rintro e w1 ⟨B,k,d,rfl,o1,d1,st1⟩);have D1':=hdd d1;have S1:=hdd st1;clear o1 d1 st1) | fail "no arm");go_ret3;exact vm3.no D1'.out S1.out
end
theorem padL_splice (load:List UInt8) (i:Nat):splice qa3 0 ((load.drop (i * 128)).take 128)=padL load i:=by
  unfold splice padL qa3;rw [List.take_zero,List.nil_append,Nat.zero_add,List.drop_replicate]
theorem vh2 {D:qa1} {f m i k:Nat} {load:List UInt8} (h:(qa9 D f m ((1+i:Nat):Int) (padL load i)).2≠0):qp7 D f m load i (k+1)=qa9 D f m ((1+i:Nat):Int) (padL load i):=by
  show (if _ then _ else _)=_
  rw [if_pos h]
theorem vr5 {D:qa1} {f m i k:Nat} {load:List UInt8} (h:(qa9 D f m ((1+i:Nat):Int) (padL load i)).2=0):qp7 D f m load i (k+1)=qp7 (qa9 D f m ((1+i:Nat):Int) (padL load i)).1 f m load (i+1) k:=by
  show (if _ then _ else _)=_
  rw [if_neg (by rw [h];simp)]
section
variable {w w':World} {base ga f m:Nat} {p:qb9} {D:qa1} {A:Option Addr} {n c:Nat} {load:List UInt8}
theorem fill_any (hd:qa5 w base p D) (hs:base≤w.heap.size) (ha:qa8 w ga p.d f m) (hm:5≤m) (hfm:f+m≤D.many) (hl:qj5 w base ⟨A,n,c⟩ load) (hc:n≤c) (hcm:c≤maxLen) (hn:n≤512) (hw:D.waits.length<900000) :
    Calls Tryz.prog 296 #[.pointer (some ⟨ga,0,none⟩),.slice A n c] w fun e w' => e=.returned (.int .i64 (qn1 D f m load).2)∧qa5 w' base p (qn1 D f m load).1∧Step mutD base p w w':=by
  have hlen:load.length=n:=hl.1.1;have hsec:=vj7 n w omg;unfold qn1;rw [hlen];have hK:qf4 n≤4:=by unfold qf4;omega
  have hKn:∀ j,j<qf4 n→j * 128<n:=fun j hj => by unfold qf4 at hj;omega
  have HKN:=hdd hKn;generalize qf4 n=K at *;have hz:=(zero_of_info qe1).1;have Hi:=hdd (zero_of_info qe1).2;have hlz:Hid ((qa3.map bv).length=128):=by show _=_;simp [qc0]
  have HD:=hdd hd;have HA:=hdd ha;have HL:=hdd hl;unfold aggB at hz;obtain ⟨Z,hZ⟩:∃ Z,qa3.map bv=Z:=⟨_,rfl⟩;rw [hZ] at hz hlz;have HZ:=hdd hZ;generalize hFe:qp7 D f m load 0 K=FK;have HFK:=hdd hFe;have hc128:=fun (g:Nat) (W:World) => qx7 (P:=Tryz.prog) (t:=205) (e:=5) (n:=128) Tryz.underlying205 (by kernel_rfl) g 0 W
  unfold maxLen at hcm;obtain ⟨GR,hGR⟩:∃ GR,(if FK.2≠0 then FK else qb0 FK.1)=GR:=⟨_,rfl⟩;rw [hGR];have HGR:=hdd hGR;clear hd ha hl hlen hKn hZ hFe hGR;go_enter Tryz.func296,Tryz.ntmps296;go_wp2_with (first | (go_at_call 282;(with_reducible refine (hsec).mono ?_);rintro e w1 ⟨rfl,rfl⟩) | fail "no arm");go_loopw [11] (fun i wr => ∃ (j t:Nat) (Dj:qa1),Hid (K=j+t)∧j≤K∧i=.int .i64 (j:Nat)∧Hid (FK=qp7 Dj f m load j t)∧Dj.many=D.many∧Dj.waits.length≤D.waits.length+j∧qa5 wr base p Dj∧Step mutD base p w wr) (fun i _ => K - (intOf i).toNat)
  case atStart => exact ⟨0,K,D,hdd omg,omg,rfl,hdd HFK.out.symm,rfl,omg,HD.out,Step.refl _ _ _ _⟩
  case round =>
    obtain ⟨j,t,Dj,hjt,hjK,rfl,hfk,hmj,hwj,hdj,hst⟩:=hrel;have hsz:=hst.size;have haw:qa8 wr ga p.d f m:=HD.out.area HA.out hst.tch dcd;have hlw:qj5 wr base ⟨A,n,c⟩ load:=HL.out.step HD.out hst dcd
    by_cases hlt:j<K
    · have hjI:(j:Int)<K:=omg;obtain ⟨t',rfl⟩:∃ t',t=t'+1:=⟨t - 1,by have:=hjt.out;omega⟩;have hjn:=HKN.out j hlt;obtain ⟨A',hA'⟩:∃ A',(if c=j * 128 then A else A.map (·.add (j * 128 * 1)))=A':=⟨_,rfl⟩;have hcutL:∀ W,(Instr.slice 27 (.slice A n c) (some (.int .i64 ((j:Int) * 128))) none none).run Tryz.prog W=.ok (.slice A' (n - j * 128) (c - j * 128)) W:=fun W => by
        have h:=qq5 qd8 A n c (j * 128) omg W;rw [hA'] at h;exact h
      have hrL:RB wr A' (n - j * 128) (load.drop (j * 128)):=by
        have hll:load.length=n:=hlw.1.1;have h1:RB wr A n load:=hlw.1;refine ⟨by rw [List.length_drop,hll],?_⟩;rw [← hA',Nat.mul_one];exact (Row.cut h1.2 omg hc).congr fun i hi => by
          unfold qa4;rw [List.getD_eq_getElem?_getD,List.getD_eq_getElem?_getD,List.getElem?_drop]
      have hwr:IntKind.i64.wrap ((j:Int) * 128)=(j:Int) * 128:=by go_arith
      have HRL:=hdd hrL;have caw:=fun {W:World} (h:qa5 W base p Dj) (hs:base≤W.heap.size) (ha:qa8 W ga p.d f m) => s_awrite h hs ha (by rw [hmj];exact hfm) ((1+j:Nat):Int) (padL load j) (vq7 load j) omg
      have hmw:=qj9 Dj f m ((1+j:Nat):Int) (padL load j);have hstop:=hdd (fun h => hfk.out.trans (vh2 (k:=t') h));have hgo:=hdd (fun h => hfk.out.trans (vr5 (k:=t') h));have hsl:Hid (((padL load j).map bv).length=128):=by show _=_;rw [List.length_map,vq7]
      have hsp:=hdd (padL_splice load j);generalize padL load j=S at *;have HSV:Hid (S.map bv=S.map bv):=rfl;unfold aggB at caw;generalize qa9 Dj f m ((1+j:Nat):Int) S=P at *;obtain ⟨Dn,z⟩:=P;have HMW:=hdd hmw;have HDJ:=hdd hdj;have HST:=hdd hst;have HAW:=hdd haw;have HHM:=hdd hmj;clear hdj hst haw hlw hrL hmw hA';rw [show ((1+j:Nat):Int)=1+(j:Int) by omega] at caw;go_wp2_with fail;have bA:Below wr.heap.size wr (wr.alloc (.cells Z.toArray 205)):=(Below.refl _ _).alloc nlr _;have RLD:=hdd (HRL.out.below (bA.drew) nlr);have HBZ:=hdd (show Blk ((wr.alloc (.cells Z.toArray 205)).drew) wr.heap.size 205 (qa3.map bv) from by rw [HZ.out];exact Blk.drew (Blk.top wr rfl rfl));go_region_held3 (fun _ => True) (trivial) (first | (refine qq4 rfl (d:=.tmp 14) (s:=.tmp 18) rfl qd8 qf3 (g:=wr.heap.size) (off:=0) (dLen:=128) (dCap:=128) (l:=qa3) (k:=load.drop (j * 128)) (L:=S) rfl rfl (fun _ => rfl) HBZ.out RLD.out.rd (by rw [qc0];omega) hsp.out ?_;intro w3 hb3 hg3 hs3) | fail "no arm");have b3:Below wr.heap.size wr w3:=qb6 bA.drew hg3 szz nlr;have D3:=hdd (HDJ.out.below b3);have A3:=hdd (show qa8 w3 ga p.d f m from Blk.below HAW.out b3 (Blk.lt HAW.out));have S3:=hdd (HST.out.trans (Step.of_below b3 omg));have s3:=b3.size;have hb3':Blk w3 wr.heap.size 205 (S.map bv):=hb3;obtain ⟨SV,hSV⟩:∃ SV,S.map bv=SV:=⟨_,rfl⟩;rw [hSV] at hb3' hsl caw;clear hb3 hg3 hs3 bA hSV hsp
      by_cases hz0:z=0
      · subst hz0;have hfk2:=hgo.out rfl;have HF2:=hdd hfk2;clear hfk2 hstop hgo;go_wp2_with (first | (refine qb8 rfl (x:=.tmp 6) rfl rfl hb3' Tryz.underlying205 Hi.out hsl.out (by rw [List.drop_zero,List.take_of_length_le (by rw [hsl.out];omega)]) ?_) | ((go_at_call 200;(with_reducible refine (caw D3.out omg A3.out).mono ?_);rintro e w4 ⟨rfl,d4,st4⟩);have D4:=hdd d4;have S4:=hdd (S3.out.trans st4);clear d4 st4) | fail "no arm");go_roundw
        case rel =>
          have m1:=HMW.out
          first
            | exact ⟨j+1,t',Dn,hdd (by have:=hjt.out;omega),omg,by go_num,HF2,omg,by omega,D4.out,S4.out⟩
            | ((repeat apply Exists.intro);exact ⟨⟨j+1,t',Dn,hdd (by have:=hjt.out;omega),omg,by go_num,HF2,omg,by omega,D4.out,S4.out⟩,rfl⟩)
        case measure => simp [intOf];omega
      · have hfk2:=hstop.out hz0;have HF2:=hdd hfk2;have HZN:=hdd hz0;have hne:(z != 0)=true:=by rw [bne_iff_ne];exact hz0
        clear hfk2 hstop hgo hz0;go_wp2_with (first | (refine qb8 rfl (x:=.tmp 6) rfl rfl hb3' Tryz.underlying205 Hi.out hsl.out (by rw [List.drop_zero,List.take_of_length_le (by rw [hsl.out];omega)]) ?_) | ((go_at_call 200;(with_reducible refine (caw D3.out omg A3.out).mono ?_);rintro e w4 ⟨rfl,d4,st4⟩);have D4:=hdd d4;have S4:=hdd (S3.out.trans st4);clear d4 st4) | fail "no arm")
        try rw [Exit.noGoto_ret]
        go_ret;have e9:=HGR.out;rw [HF2.out,if_pos HZN.out] at e9;rw [← e9];exact ⟨rfl,D4.out,S4.out⟩
    · have ht0:t=0:=by have:=hjt.out;omega
      subst ht0;have hfk2:FK=(Dj,0):=hfk.out;have HF2:=hdd hfk2;have cfl:=qx6 hdj omg haw;have HST:=hdd hst;have hjK2:K=j:=omg;have HG:=hdd (show (if FK.2≠0 then FK else qb0 FK.1)=qb0 Dj from by rw [hfk2,if_neg smp]);have HG2:=hdd (HGR.out.symm.trans HG.out);clear HG HGR;generalize qb0 Dj=FV at *;obtain ⟨Df,z⟩:=FV;clear hfk2 hdj hst haw hlw;go_wp2_with (first | (go_at_call 116;(with_reducible refine (cfl).mono ?_);rintro e w3 ⟨rfl,h3,s3⟩) | fail "no arm")
      try rw [Exit.noGoto_ret]
      go_ret;rw [HG2.out];exact ⟨rfl,h3,HST.out.trans s3⟩
end
end Go.Proofs.YtmeebofhlilcmaaGreat
