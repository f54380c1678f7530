/- Parts: EngW, EngH. -/
import Derived.Test.YtmeebofhlilcmaaGreatPr02
import Derived.Test.YtmeebofhlilcmaaGreatPr41
import Derived.Test.YtmeebofhlilcmaaGreatPr18
set_option linter.unusedVariables false
set_option linter.unusedSimpArgs false
set_option maxRecDepth 100000
set_option maxHeartbeats 40000000
namespace Go.Proofs.YtmeebofhlilcmaaGreat
open Go.RowKit
theorem vp3 (now:List UInt8) (f a:Nat):∀ k,(qj2 now f a k).length≤k:=by
  intro k
  induction k with
  | zero => exact Nat.le_refl _
  | succ k ih =>
    unfold qj2
    split
    · omega
    · rw [List.length_append,List.length_singleton];omega
section
variable {w w':World} {base ga f m:Nat} {p:qb9} {D:qa1}
theorem wipe_off (ha:qa8 w ga p.d f m) (hd:qa5 w base p D) (hs:base≤w.heap.size) (hfm:f+m≤D.many) (hoff:D.off=true) (a k:Nat) (h0:0<k) (hak:a+k≤m) :
    Calls Tryz.prog 111 #[.pointer (some ⟨ga,0,none⟩),.int .i64 (a:Nat),.int .i64 ((a+k:Nat):Int)] w fun e w' => e=.returned (.int .i64 50)∧qa5 w' base p D∧Step mutD base p w w':=by
  have hm4:f+m≤4096:=by have:=hd.many0;omega
  have hon:qb4 D f m (a:Int)=(D,qa3,50):=by
    have hmay:mayV D ((f:Int)+(a:Int))=50:=by unfold mayV;rw [hoff];rfl
    unfold qb4 qt2;rw [if_neg omg,hmay,if_pos smp]
  have hrd:=vj8 hd hs ha hfm (a:Int);rw [hon] at hrd;simp only at hrd;have hz:=(zero_of_info qe1).1;have Hi:=hdd (zero_of_info qe1).2;have hlz:Hid ((qa3.map bv).length=128):=by show _=_;simp [qc0]
  have HZm:=hdd (qk1 (l:=qa3));have hlt:(a:Int)<((a+k:Nat):Int):=omg;clear hd ha hon;unfold aggB at *;generalize qa3.map bv=Z at *;generalize a+k=b at *;go_enter Tryz.func111,Tryz.ntmps111;go_wp2_with fail;go_loopw [7,8] (fun _ i wr => i=.int .i64 (a:Nat)∧wr=w) (fun _ i _ => b - (intOf i).toNat)
  case atStart => exact ⟨rfl,rfl⟩
  case round =>
    obtain ⟨rfl,rfl⟩:=hrel;go_wp2_with (first | ((go_at_call 162;(with_reducible refine (hrd).mono ?_);rintro e w2 ⟨rfl,h2,s2⟩);have H2:=hdd h2;clear h2) | (refine qb2 rfl (x:=.tmp 9) (y:=.tmp 24) rfl rfl rfl (t:=205) (cs:=Z) (xs:=Z) (Blk.top _ rfl rfl) Hi.out hlz.out (by rw [hlz.out];omega) HZm.out ?_;intro w3 hb3 hg3 hs3;rw [qc1 _ _ rfl] at hb3;have b3:Below w2.heap.size w2 w3:=qb6 ((Below.refl w2.heap.size w2).alloc nlr _) hg3 szz szz) | fail "no arm");go_ret;exact ⟨rfl,H2.out.below b3,s2.trans (Step.of_below b3 (by have:=s2.size;omega))⟩
theorem wipe_on (ha:qa8 w ga p.d f m) (hd:qa5 w base p D) (hs:base≤w.heap.size) (hfm:f+m≤D.many) (hoff:D.off=false) (a k:Nat) (hak:a+k≤m) (hwt:D.waits.length<700000) :
    Calls Tryz.prog 111 #[.pointer (some ⟨ga,0,none⟩),.int .i64 (a:Nat),.int .i64 ((a+k:Nat):Int)] w fun e w' => e=.returned (.int .i64 (qi0 D f m a k).2)∧qa5 w' base p (qi0 D f m a k).1∧Step mutD base p w w':=by
  have hm4:f+m≤4096:=by have:=hd.many0;omega
  have hok:D.now.length=D.many * 128:=by obtain ⟨A,c,h⟩:=hd;exact h.ok.now
  have hz:=(zero_of_info qe1).1;have Hi:=hdd (zero_of_info qe1).2;have hlz:Hid ((qa3.map bv).length=128):=by show _=_;simp [qc0]
  have HFIN:=hdd (show qi0 D f m a k=wipeW (qj2 D.now f a k) (qm2 (rdK D k) f m (qj2 D.now f a k)) by unfold qi0;rw [if_neg (by rw [hoff];simp)]);generalize qi0 D f m a k=FIN at *;have HD:=hdd hd;have HA:=hdd ha;have HOK:=hdd hok;clear ha hd hok;unfold aggB at *;generalize hZ:qa3.map bv=Z at *;have HZ:=hdd hZ;clear hZ;obtain ⟨b,hb⟩:∃ b,a+k=b:=⟨_,rfl⟩;have HB:=hdd hb;have hb4:b≤4096:=omg;rw [hb];clear hb;go_enter Tryz.func111,Tryz.ntmps111;go_wp2_with fail;go_loopw [7,8] (fun v i wr => ∃ (j:Nat) (B:Option Addr) (N c:Nat) (n:Nat),j≤k∧Hid (n=a+j)∧i=.int .i64 (n:Nat)∧v=.slice B N c∧Ow iv wr w.heap.size 3 B N c (qj2 D.now f a j)∧qa5 wr base p (rdK D j)∧Step mutD base p w wr) (fun _ i _ => b - (intOf i).toNat)
  case atStart => exact ⟨0,none,0,0,a,omg,hdd rfl,rfl,rfl,Ow.nil _ _ _ _,HD.out,Step.refl _ _ _ _⟩
  case round =>
    obtain ⟨j,B,N,c,n,hj,hn,rfl,rfl,hown,hdj,hst⟩:=hrel;have hst0:=hdd hst;have hsz:=hst.size;have haj:=HD.out.area HA.out hst.tch dcd;have hNl:=hown.1;have hdl:=vp3 D.now f a j;have hnn:=hn.out;have hbb:=HB.out
    by_cases hlt:n<b
    · have hjk:j<k:=omg;obtain ⟨o,eo⟩:=qo8 D j;have hon:qb4 (rdK D j) f m (n:Int)=(rdK D (j+1),qf1 D.now ((f+(a+j):Nat):Int),0):=by
        rw [vn9 (by rw [eo];exact hoff) (by rw [eo];exact hfm) omg,hnn]
        show (rdK D (j+1),qf1 (rdK D j).now _,(0:Int))=_
        rw [eo]
      have hrd:=vj8 hdj omg haj (by rw [eo];exact hfm) (n:Int);rw [hon] at hrd;simp only at hrd;have hsl0:(qf1 D.now ((f+(a+j):Nat):Int)).length=128:=ql9 HOK.out omg omg;have hbl:=fun w => blank_any (qf1 D.now ((f+(a+j):Nat):Int)) w hsl0
      have hnx:Hid (qj2 D.now f a (j+1)=if qf1 D.now ((f+(a+j):Nat):Int)=qa3 then qj2 D.now f a j else qj2 D.now f a j ++ [((a+j:Nat):Int)]):=rfl;generalize qf1 D.now ((f+(a+j):Nat):Int)=S at *;generalize qj2 D.now f a j=dl at *;have hsl:Hid ((S.map bv).length=128):=by show _=_;rw [List.length_map];exact hsl0
      have hsm:=hdd (qk1 (l:=S));have HDk:=hdd hdj;have Hown:=hdd hown;unfold aggB at hrd hbl;have HSV:Hid (S.map bv=S.map bv):=rfl;generalize S.map bv=SV at *;have hltI:(n:Int)<(b:Int):=omg;clear hdj hown hsl0 hon eo hst hnn hbb
      by_cases hS0:S=qa3
      · have hbl':∀ w,Calls Tryz.prog 164 #[.agg SV.toArray] w fun e w' => e=.returned (.bool true)∧Below w.heap.size w w':=fun w => (hbl w).mono fun e w' ⟨q1,q2⟩ => ⟨by rw [q1,decide_eq_true hS0],q2⟩
        have HN:Hid (qj2 D.now f a (j+1)=dl):=by show _=_;rw [hnx.out,if_pos hS0]
        clear hbl hS0 hnx; go_upto_region 8 with (first | ((go_at_call 162; (with_reducible refine (hrd).mono ?_); rintro e w2 ⟨rfl, h2, s2⟩); have H2 := hdd h2; have o2 := hdd (HDk.out.ow Hown.out s2.tch dcd); have sz2 := s2.size; clear h2) | (refine qb2 rfl (x := .tmp 9) (y := .tmp 24) rfl rfl rfl (t := 205) (cs := Z) (xs := SV) (Blk.top _ rfl rfl) Hi.out hsl.out (by rw [hlz.out]; omega) hsm.out ?_; intro w3 hb3 hg3 hs3; rw [qc1 _ _ (hlz.out.trans hsl.out.symm)] at hb3; have b3 : Below w2.heap.size w2 w3 := qb6 ((Below.refl w2.heap.size w2).alloc nlr _) hg3 szz szz; have H3 := hdd (H2.out.below b3); have o3 := hdd (o2.out.below b3 nlr); have sz3 := b3.size) | fail "no arm"); go_upto_region 9 with (first | (refine qb8 rfl (x := .tmp 9) rfl rfl hb3 Tryz.underlying205 Hi.out hsl.out (by rw [List.drop_zero, List.take_of_length_le (by rw [hsl.out]; omega)]) ?_) | (go_at_call 164; (with_reducible refine (hbl' _).mono ?_); rintro e w5 ⟨rfl, hb5⟩) | fail "no arm"); go_roundw
        case rel =>
          exact ⟨j+1,B,N,c,n+1,omg,hdd (by rw [hn.out];rfl),by go_num,rfl,by rw [HN.out];exact o3.out.below hb5 nlr,H3.out.below hb5,(hst0.out.trans (s2.trans (Step.of_below b3 (by have:=s2.size;omega)))).trans (Step.of_below hb5 (by have:=s2.size;have:=b3.size;omega))⟩
        case measure => simp [intOf];omega
      · have hbl':∀ w,Calls Tryz.prog 164 #[.agg SV.toArray] w fun e w' => e=.returned (.bool false)∧Below w.heap.size w w':=fun w => (hbl w).mono fun e w' ⟨q1,q2⟩ => ⟨by rw [q1,decide_eq_false hS0],q2⟩
        have HN:Hid (dl ++ [(n:Int)]=qj2 D.now f a (j+1)):=by show _=_;rw [hnx.out,if_neg hS0,hn.out]
        clear hbl hS0 hnx; go_upto_region 8 with (first | ((go_at_call 162; (with_reducible refine (hrd).mono ?_); rintro e w2 ⟨rfl, h2, s2⟩); have H2 := hdd h2; have o2 := hdd (HDk.out.ow Hown.out s2.tch dcd); have sz2 := s2.size; clear h2) | (refine qb2 rfl (x := .tmp 9) (y := .tmp 24) rfl rfl rfl (t := 205) (cs := Z) (xs := SV) (Blk.top _ rfl rfl) Hi.out hsl.out (by rw [hlz.out]; omega) hsm.out ?_; intro w3 hb3 hg3 hs3; rw [qc1 _ _ (hlz.out.trans hsl.out.symm)] at hb3; have b3 : Below w2.heap.size w2 w3 := qb6 ((Below.refl w2.heap.size w2).alloc nlr _) hg3 szz szz; have H3 := hdd (H2.out.below b3); have o3 := hdd (o2.out.below b3 nlr); have sz3 := b3.size) | fail "no arm"); go_upto_region 9 with (first | (refine qb8 rfl (x := .tmp 9) rfl rfl hb3 Tryz.underlying205 Hi.out hsl.out (by rw [List.drop_zero, List.take_of_length_le (by rw [hsl.out]; omega)]) ?_) | (go_at_call 164; (with_reducible refine (hbl' _).mono ?_); rintro e w5 ⟨rfl, hb5⟩) | fail "no arm"); have o5 := o3.out.below hb5 nlr; have b5s := hb5.size; go_wp2_with (first | (at_builtin; refine qc7 rfl rfl qk2 qt6 (s := .tmp 32) (N := N + 1) (L := qj2 D.now f a (j + 1)) rfl (o5.below (b := w5.heap.size) gwn szz) rfl (k := [(n : Int)]) (Rd.of_block (l := [(n : Int)]) (qd3 _ _ smp) rfl) rfl (HN.out) uml omg szz ?_; intro A6 c6 w6 hown6 hg6 hat6 hb6) | fail "no arm"); go_roundw
        case rel =>
          have o5a:=o5.below (b:=w5.heap.size) ((Below.refl w5.heap.size w5).alloc nlr (.cells #[.int .i64 (n:Int)] 3)) nlr;have bA:Below w5.heap.size w5 (w5.alloc (.cells #[.int .i64 (n:Int)] 3)):=(Below.refl w5.heap.size w5).alloc nlr _;have f2:=((H3.out.below hb5).below bA).grown o5a hg6 dcd;have f4:=(((hst0.out.trans (s2.trans (Step.of_below b3 (by have:=s2.size;omega)))).trans (Step.of_below hb5 (by have:=s2.size;have:=b3.size;omega))).trans (Step.of_below bA (by have:=s2.size;have:=b3.size;omega))).then_below hb6 hs;exact ⟨j+1,A6,N+1,c6,n+1,omg,hdd (by rw [hn.out];rfl),by go_num,rfl,hown6,f2,f4⟩
        case measure => simp [intOf];omega
    · have hnb:n=b:=omg;have hjk:j=k:=omg;have hge:¬ ((n:Int)<(b:Int)):=omg;subst hjk;obtain ⟨o,eo⟩:=qo8 D j;have hm1:(rdK D j).many=D.many:=by rw [eo]
      have hw1:(rdK D j).waits.length=D.waits.length:=by rw [eo]
      generalize qj2 D.now f a j=dl at *;generalize rdK D j=D1 at *;have O2:=hdd hown;have H2:=hdd hdj;have HA2:=hdd haj;clear eo hown hdj hst haj hnn hbb;go_wp2_with fail;go_loopw [12,13,38] (fun _ _ i wr2 => ∃ (j2:Nat) (Dj:qa1),j2≤N∧i=.int .i64 (j2:Nat)∧Hid (qm2 D1 f m dl=qm2 Dj f m (dl.drop j2))∧Hid (Dj.many=D.many)∧Dj.waits.length≤D.waits.length+j2∧qa5 wr2 base p Dj∧Step mutD base p wr wr2) (fun _ _ i _ => N - (intOf i).toNat)
      case atStart => exact ⟨0,D1,omg,rfl,hdd rfl,hdd hm1,omg,H2.out,Step.refl _ _ _ _⟩
      case round =>
        obtain ⟨j2,Dj,hj2,rfl,hwk,hmj,hwj,hdj,hst⟩:=hrel;have hwk:=hwk.out;have hmj:=hmj.out;have hsts:=hst.size;have haj:=H2.out.area HA2.out hst.tch dcd;have hoj:=H2.out.ow O2.out hst.tch dcd;have HDJ:=hdd hdj;have HST:=hdd hst;have hN:N≤4096:=omg
        by_cases hlt:j2<N
        · obtain ⟨bb,o2,hB,hbb,hcell⟩:=hoj.rd.2.at_ hlt;have hjl:j2<dl.length:=omg;have hdr:dl.drop j2=dl[j2] :: dl.drop (j2+1):=List.drop_eq_getElem_cons hjl;have hval:wr.cell? ⟨bb,o2+j2,none⟩=some (.int .i64 dl[j2]):=by rw [hcell,qs1 dl j2 hjl];rfl
          have hwp:=s_awipe hdj omg haj (by rw [hmj];exact hfm) dl[j2] omg;obtain ⟨q1,q2⟩:=qj9 Dj f m dl[j2] qa3;rw [hdr] at hwk
          by_cases he:(qa9 Dj f m dl[j2] qa3).2=0
          · rw [qv7 he] at hwk;rw [he] at hwp;generalize (qa9 Dj f m dl[j2] qa3).1=Dn at *;generalize dl[j2]=nn at *;have HW2:=hdd hwk;have HMN:=hdd (q1.trans hmj);clear hwk hdj he hdr hoj hcell hmj q1 hst;subst hB;go_wp2_with (first | (go_at_call 198;(with_reducible refine (hwp).mono ?_);rintro e w3 ⟨rfl,h3,s3⟩) | fail "no arm");go_roundw
            case rel => first | exact ⟨⟨_,_,_,⟨j2+1,Dn,omg,by go_num,HW2,HMN,omg,h3,HST.out.trans s3⟩,rfl,rfl,rfl⟩⟩ | exact ⟨j2+1,Dn,omg,by go_num,HW2,HMN,omg,h3,HST.out.trans s3⟩
            case measure => simp [intOf];omega
          · rw [qv6 he] at hwk;have hR:=HFIN.out;unfold wipeW at hR;rw [hwk,if_pos he] at hR;clear hwk HFIN;generalize qa9 Dj f m dl[j2] qa3=P at *;obtain ⟨Dn,z⟩:=P;simp only at hwp he;subst hR;generalize dl[j2]=nn at *;have hne:(z != 0)=true:=by rw [bne_iff_ne];exact he
            clear hdj he hdr hoj hcell q1 q2 hmj hst;subst hB;go_wp2_with (first | (go_at_call 198;(with_reducible refine (hwp).mono ?_);rintro e w3 ⟨rfl,h3,s3⟩) | fail "no arm");go_ret;exact ⟨rfl,h3,(hst0.out.trans HST.out).trans s3⟩
        · have hjN:j2=N:=omg;subst hjN;have hdr:dl.drop j2=[]:=List.drop_of_length_le omg;rw [hdr] at hwk;have hR:=HFIN.out;unfold wipeW at hR;rw [hwk,show qm2 Dj f m []=(Dj,0) from rfl,if_neg smp] at hR;simp only at hR
          by_cases hd0:dl=[]
          · rw [if_pos hd0] at hR;have hj0:j2=0:=by rw [← hNl,hd0];rfl
            subst hj0 hR;clear hwk hdj hdr hoj HFIN haj hmj hst;go_wp2_with fail;go_ret;exact ⟨rfl,HDJ.out,hst0.out.trans HST.out⟩
          · rw [if_neg hd0] at hR;have hj0:0<j2:=by
              rcases Nat.eq_zero_or_pos j2 with q | q
              · exact absurd (List.eq_nil_of_length_eq_zero omg) hd0
              · exact q
            have hjz:(((j2:Nat):Int) == 0)=false:=by rw [beq_eq_false_iff_ne];omega
            have hfl:=qx6 hdj omg haj;generalize qb0 Dj=FV at *;obtain ⟨Df,z⟩:=FV;simp only at hfl;subst hR;clear hwk hdj hdr hoj HFIN haj hd0 hmj hst;go_wp2_with (first | (go_at_call 116;(with_reducible refine (hfl).mono ?_);rintro e w3 ⟨rfl,h3,s3⟩) | fail "no arm");go_ret;exact ⟨rfl,h3,(hst0.out.trans HST.out).trans s3⟩
end
section
variable {w w':World} {base ga f m:Nat} {q:qb9} {D:qa1} {p:PV} {x:PA}
theorem wipe_any (ha:qa8 w ga q.d f m) (hd:qa5 w base q D) (hs:base≤w.heap.size) (hfm:f+m≤D.many) (a k:Nat) (h0:0<k) (hak:a+k≤m) (hwt:D.waits.length<700000) :
    Calls Tryz.prog 111 #[.pointer (some ⟨ga,0,none⟩),.int .i64 (a:Nat),.int .i64 ((a+k:Nat):Int)] w fun e w' => e=.returned (.int .i64 (qi0 D f m a k).2)∧qa5 w' base q (qi0 D f m a k).1∧Step mutD base q w w':=by
  cases ho:D.off with
  | true =>
    have e:qi0 D f m a k=(D,50):=by unfold qi0;rw [if_pos ⟨ho,h0⟩]
    rw [e];exact wipe_off ha hd hs hfm ho a k h0 hak
  | false => exact wipe_on ha hd hs hfm ho a k hak hwt
theorem owned_any (hd:qa5 w base q D) (hs:base≤w.heap.size) (hash:Int) :
    Calls Tryz.prog 102 #[.pointer (some ⟨q.d,0,none⟩),.agg #[.int .i64 0,.int .i64 1],.int .i64 hash] w fun e w' => e=.returned (.int .i64 (ve9 hash (qe5 D 0 1 0 1)))∧qa5 w' base q (qb4 D 0 1 0).1∧Step mutD base q w w':=by
  have hm:=hd.many0;have hb:Below w.heap.size w (w.alloc (.cells #[.int .i64 0,.int .i64 1] 120)):=(Below.refl _ _).alloc nlr _;have hnw:=(show Calls Tryz.prog 109 #[.pointer (some ⟨q.d,0,none⟩),.agg #[.int .i64 0,.int .i64 1]] (w.alloc (.cells #[.int .i64 0,.int .i64 1] 120)) _ from s_anew (hd.below hb) (by simp;omega) 0 1 omg omg);have htk:=fun (W:World) (g1:Nat) (h1:qa5 W base q D) (h2:qa8 W g1 q.d 0 1) (h3:base≤W.heap.size) => s_atake h1 h3 h2 omg 0 1
  have BW:=hdd (Step.of_below (M:=mutD) (p:=q) hb hs);generalize qe5 D 0 1 0 1=T at *;generalize (qb4 D 0 1 0).1=D1 at *;obtain ⟨tn,tl,tz⟩:=T;unfold ve9;simp only at htk ⊢;clear hm hd hb
  by_cases h53:tz=53
  · subst h53;rw [if_pos rfl];go_enter Tryz.func102,Tryz.ntmps102;go_wp2_with (first | ((go_at_call 109;(with_reducible refine (hnw).mono ?_);rintro e w2 ⟨g2,rfl,a2,gl2,d2,s2⟩);have b2:=s2.size;simp at b2;have htk2:=htk w2 g2 d2 a2 omg;clear a2 d2) | ((go_at_call 158;(with_reducible refine (htk2).mono ?_);rintro e w3 ⟨B3,k3,c3,rfl,o3,d3,s3⟩);have X3:=hdd d3;clear d3) | fail "no arm");go_ret;exact ⟨rfl,X3.out,BW.out.trans (s2.trans s3)⟩
  rw [if_neg h53];have b53:(tz == 53)=false:=by rw [beq_eq_false_iff_ne];exact h53
  by_cases hz:tz=0
  · subst hz;rw [if_neg smp]
    by_cases hh:tn=hash
    · subst hh;rw [if_neg smp];have bh:(tn != tn)=false:=by simp
      clear h53;go_enter Tryz.func102,Tryz.ntmps102;go_wp2_with (first | ((go_at_call 109;(with_reducible refine (hnw).mono ?_);rintro e w2 ⟨g2,rfl,a2,gl2,d2,s2⟩);have b2:=s2.size;simp at b2;have htk2:=htk w2 g2 d2 a2 omg;clear a2 d2) | ((go_at_call 158;(with_reducible refine (htk2).mono ?_);rintro e w3 ⟨B3,k3,c3,rfl,o3,d3,s3⟩);have X3:=hdd d3;clear d3) | fail "no arm");go_ret;exact ⟨rfl,X3.out,BW.out.trans (s2.trans s3)⟩
    · rw [if_pos hh];have bh:(tn != hash)=true:=by rw [bne_iff_ne];exact hh
      clear h53 hh;go_enter Tryz.func102,Tryz.ntmps102;go_wp2_with (first | ((go_at_call 109;(with_reducible refine (hnw).mono ?_);rintro e w2 ⟨g2,rfl,a2,gl2,d2,s2⟩);have b2:=s2.size;simp at b2;have htk2:=htk w2 g2 d2 a2 omg;clear a2 d2) | ((go_at_call 158;(with_reducible refine (htk2).mono ?_);rintro e w3 ⟨B3,k3,c3,rfl,o3,d3,s3⟩);have X3:=hdd d3;clear d3) | fail "no arm");go_ret;exact ⟨rfl,X3.out,BW.out.trans (s2.trans s3)⟩
  · rw [if_pos hz];have bz:(tz != 0)=true:=by rw [bne_iff_ne];exact hz
    clear h53 hz;go_enter Tryz.func102,Tryz.ntmps102;go_wp2_with (first | ((go_at_call 109;(with_reducible refine (hnw).mono ?_);rintro e w2 ⟨g2,rfl,a2,gl2,d2,s2⟩);have b2:=s2.size;simp at b2;have htk2:=htk w2 g2 d2 a2 omg;clear a2 d2) | ((go_at_call 158;(with_reducible refine (htk2).mono ?_);rintro e w3 ⟨B3,k3,c3,rfl,o3,d3,s3⟩);have X3:=hdd d3;clear d3) | fail "no arm");go_ret;exact ⟨rfl,X3.out,BW.out.trans (s2.trans s3)⟩
end
end Go.Proofs.YtmeebofhlilcmaaGreat
