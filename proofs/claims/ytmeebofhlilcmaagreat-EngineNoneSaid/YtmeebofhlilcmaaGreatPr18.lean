/- Parts: PlainSlots, JrnC, PlainArea, DiskO, JrnD, Lists. -/
import Derived.Test.YtmeebofhlilcmaaGreatPr02
import Derived.Test.YtmeebofhlilcmaaGreatPr17
import Derived.Test.YtmeebofhlilcmaaGreatPr16
import Derived.Test.YtmeebofhlilcmaaGreatPr15
import Derived.Test.YtmeebofhlilcmaaGreatPr01
set_option linter.unusedVariables false
set_option linter.unusedSimpArgs false
set_option maxRecDepth 100000
set_option maxHeartbeats 40000000
namespace Go.Proofs.YtmeebofhlilcmaaGreat
open Go.RowKit
def sumL (l:List UInt8):List UInt8:=le4 (qn3 [l])
def qf4 (n:Nat):Nat:=(n+127) / 128
def qz2 (now:List UInt8) (f:Nat):Nat→List UInt8
  | 0 => []
  | k+1 => qz2 now f k ++ qf1 now ((f+(1+k):Nat):Int)
theorem bodyL_len {now:List UInt8} {s f:Nat} (h:now.length=s * 128):∀ k,f+(1+k)≤s→(qz2 now f k).length=k * 128:=by
  intro k
  induction k with
  | zero => intro _;rfl
  | succ k ih =>
    intro hk;unfold qz2;rw [List.length_append,ih omg,ql9 h omg omg];omega
def qv2 (L:List UInt8):Int:=sg (getL (L.take 8))
def qc8 (D:qa1) (f m:Nat):qa1 × List UInt8 × Int × Int :=
  if (qe5 D f m 0 2).2.2≠0 then ((qb4 D f m 0).1,[],0,(qe5 D f m 0 2).2.2)
  else if (qe5 D f m 0 2).2.1.length≠12 then ((qb4 D f m 0).1,[],0,53)
  else if qv2 (qe5 D f m 0 2).2.1<0∨512<qv2 (qe5 D f m 0 2).2.1 then ((qb4 D f m 0).1,[],0,53)
  else if sumL ((qz2 D.now f (qf4 (qv2 (qe5 D f m 0 2).2.1).toNat)).take (qv2 (qe5 D f m 0 2).2.1).toNat)=(qe5 D f m 0 2).2.1.drop 8
  then (rdK (qb4 D f m 0).1 (qf4 (qv2 (qe5 D f m 0 2).2.1).toNat),(qz2 D.now f (qf4 (qv2 (qe5 D f m 0 2).2.1).toNat)).take (qv2 (qe5 D f m 0 2).2.1).toNat,(qe5 D f m 0 2).1,0)
  else (rdK (qb4 D f m 0).1 (qf4 (qv2 (qe5 D f m 0 2).2.1).toNat),[],0,53)
structure SlV3 where
  now:Nat
  number:Int
  load:List UInt8
def qf7 (D:qa1) (fl ml fr mr:Nat):qa1 × SlV3 × Int :=
  if (qc8 D fl ml).2.2.2≠0∧(qc8 D fl ml).2.2.2≠53 then ((qc8 D fl ml).1,⟨2,0,[]⟩,(qc8 D fl ml).2.2.2)
  else if (qc8 (qc8 D fl ml).1 fr mr).2.2.2≠0∧(qc8 (qc8 D fl ml).1 fr mr).2.2.2≠53 then ((qc8 (qc8 D fl ml).1 fr mr).1,⟨2,0,[]⟩,(qc8 (qc8 D fl ml).1 fr mr).2.2.2)
  else if (qc8 D fl ml).2.2.2=0∧((qc8 (qc8 D fl ml).1 fr mr).2.2.2≠0∨(qc8 (qc8 D fl ml).1 fr mr).2.2.1≤(qc8 D fl ml).2.2.1) then ((qc8 (qc8 D fl ml).1 fr mr).1,⟨0,(qc8 D fl ml).2.2.1,(qc8 D fl ml).2.1⟩,0)
  else if (qc8 (qc8 D fl ml).1 fr mr).2.2.2=0 then ((qc8 (qc8 D fl ml).1 fr mr).1,⟨1,(qc8 (qc8 D fl ml).1 fr mr).2.2.1,(qc8 (qc8 D fl ml).1 fr mr).2.1⟩,0)
  else ((qc8 (qc8 D fl ml).1 fr mr).1,⟨2,0,[]⟩,0)
def padL (load:List UInt8) (i:Nat):List UInt8:=(load.drop (i * 128)).take 128 ++ List.replicate (128 - ((load.drop (i * 128)).take 128).length) 0
theorem vq7 (load:List UInt8) (i:Nat):(padL load i).length=128:=by
  unfold padL;rw [List.length_append,List.length_replicate,List.length_take];omega
def qp7 (D:qa1) (f m:Nat) (load:List UInt8):Nat→Nat→qa1 × Int
  | _,0 => (D,0)
  | i,k+1 => if (qa9 D f m ((1+i:Nat):Int) (padL load i)).2≠0 then qa9 D f m ((1+i:Nat):Int) (padL load i) else qp7 (qa9 D f m ((1+i:Nat):Int) (padL load i)).1 f m load (i+1) k
def qn1 (D:qa1) (f m:Nat) (load:List UInt8):qa1 × Int :=
  if (qp7 D f m load 0 (qf4 load.length)).2≠0 then qp7 D f m load 0 (qf4 load.length) else qb0 (qp7 D f m load 0 (qf4 load.length)).1
def qm3 (load:List UInt8):List UInt8:=putL (un load.length) ++ sumL load
def qn7 (D:qa1) (f m:Nat) (number:Int) (load:List UInt8):qa1 × Int :=
  if (qa9 D f m 0 qa3).2≠0 then qa9 D f m 0 qa3
  else if (qb0 (qa9 D f m 0 qa3).1).2≠0 then qb0 (qa9 D f m 0 qa3).1
  else if (qn1 (qb0 (qa9 D f m 0 qa3).1).1 f m load).2≠0 then qn1 (qb0 (qa9 D f m 0 qa3).1).1 f m load
  else if (qh1 (qn1 (qb0 (qa9 D f m 0 qa3).1).1 f m load).1 f m 0 2 number (qm3 load)).2≠0 then qh1 (qn1 (qb0 (qa9 D f m 0 qa3).1).1 f m load).1 f m 0 2 number (qm3 load)
  else qb0 (qh1 (qn1 (qb0 (qa9 D f m 0 qa3).1).1 f m load).1 f m 0 2 number (qm3 load)).1
def qf6 (D:qa1) (fl ml fr mr:Nat) (s:SlV3) (load:List UInt8):qa1 × SlV3 × Int :=
  if 512<load.length∨s.number=9223372036854775807 then (D,s,3)
  else if (qn7 D (if s.now=0 then fr else fl) (if s.now=0 then mr else ml) (s.number+1) load).2≠0 then ((qn7 D (if s.now=0 then fr else fl) (if s.now=0 then mr else ml) (s.number+1) load).1,s,(qn7 D (if s.now=0 then fr else fl) (if s.now=0 then mr else ml) (s.number+1) load).2)
  else ((qn7 D (if s.now=0 then fr else fl) (if s.now=0 then mr else ml) (s.number+1) load).1,⟨if s.now=0 then 1 else 0,s.number+1,load⟩,0)
theorem writeV_many (D:qa1) (n:Int) (b:List UInt8):(qk3 D n b).1.many=D.many∧(qk3 D n b).1.waits.length≤D.waits.length+1:=by
  unfold qk3
  split
  · exact ⟨rfl,by simp⟩
  · split
    · exact ⟨rfl,by simp⟩
    · exact ⟨rfl,by simp [qo3,putD]⟩
theorem qj9 (D:qa1) (f m:Nat) (n:Int) (b:List UInt8):(qa9 D f m n b).1.many=D.many∧(qa9 D f m n b).1.waits.length≤D.waits.length+1:=by
  unfold qa9
  split
  · exact ⟨rfl,by simp⟩
  · exact writeV_many _ _ _
def qm2 (D:qa1) (f m:Nat):List Int→qa1 × Int
  | [] => (D,0)
  | n :: l => if (qa9 D f m n qa3).2≠0 then qa9 D f m n qa3 else qm2 (qa9 D f m n qa3).1 f m l
def qp0 (D:qa1) (f m:Nat) (kind:Int):qa1 × Int:=qm2 (rdK D m) f m (qe8 D.now f kind m).2.2
def qb7 (D:qa1) (f m:Nat) (kind:Int):qa1 × Nat × Int :=
  if kind<1∨255<kind then (D,0,2)
  else if D.off=true then (D,0,50)
  else if (qp0 D f m kind).2≠0 then ((qp0 D f m kind).1,0,(qp0 D f m kind).2)
  else if (qe8 D.now f kind m).2.2=[] then ((qp0 D f m kind).1,(qe8 D.now f kind m).2.1,0)
  else if (qb0 (qp0 D f m kind).1).2≠0 then ((qb0 (qp0 D f m kind).1).1,0,(qb0 (qp0 D f m kind).1).2)
  else ((qb0 (qp0 D f m kind).1).1,(qe8 D.now f kind m).2.1,0)
def qu7 (w:World) (base ga:Nat) (kind:Int) (p:qb9) (R:qa1 × Nat × Int) (e:Ending) (w':World):Prop :=
  ∃ P,e=.returned (.tuple #[.pointer P,.int .i64 R.2.2])∧(R.2.2≠0→P=none)∧(R.2.2=0→∃ gj,P=some ⟨gj,0,none⟩∧w.heap.size≤gj∧qi9 w' gj ga kind R.2.1)∧qa5 w' base p R.1∧Step mutD base p w w'
theorem qu7.no {w w':World} {base ga:Nat} {kind z:Int} {p:qb9} {D:qa1} (hz:z≠0) (hd:qa5 w' base p D) (hs:Step mutD base p w w'):qu7 w base ga kind p (D,0,z) (.returned (.tuple #[.pointer none,.int .i64 z])) w' :=
  ⟨none,rfl,fun _ => rfl,fun e => absurd e hz,hd,hs⟩
theorem qu7.yes {w w':World} {base ga gj next:Nat} {kind:Int} {p:qb9} {D:qa1} (hg:w.heap.size≤gj) (hj:qi9 w' gj ga kind next) (hd:qa5 w' base p D) (hs:Step mutD base p w w'):qu7 w base ga kind p (D,next,0) (.returned (.tuple #[.pointer (some ⟨gj,0,none⟩),.int .i64 0])) w' :=
  ⟨_,rfl,fun e => absurd rfl e,fun _ => ⟨gj,rfl,hg,hj⟩,hd,hs⟩
section
variable {w w':World} {base ga f m:Nat} {kind:Int} {p:qb9} {D:qa1}
theorem jopen_kind (ha:qa8 w ga p.d f m) (hm:1≤m) (hd:qa5 w base p D) (h:kind<1∨255<kind):Calls Tryz.prog 253 #[.pointer (some ⟨ga,0,none⟩),.int .i64 kind] w (qu7 w base ga kind p (D,0,2)):=by
  have hmany:=qo9 ha;have hc:kind<1∨(1≤kind∧255<kind):=omg;have hmz:((m:Int) == 0)=false:=by rw [beq_eq_false_iff_ne];omega
  have HD:=hdd hd;clear h hd ha;rcases hc with h1 | ⟨h1,h2⟩
  all_goals
    go_enter Tryz.func253,Tryz.ntmps253;go_wp2_with (first | (go_at_call 113;(with_reducible refine (hmany).mono ?_);rintro e w1 ⟨rfl,rfl⟩) | fail "no arm");go_ret2;exact qu7.no smp HD.out (Step.refl _ _ _ _)
theorem jrn_new (w:World) (ga:Nat) (kind:Int):qi9 (w.alloc (.cells #[.pointer (some ⟨ga,0,none⟩),.int .i64 kind,.int .i64 0] 363)) w.heap.size ga kind 0:=Blk.top _ rfl rfl
theorem jopen_off (ha:qa8 w ga p.d f m) (hm:1≤m) (hd:qa5 w base p D) (hs:base≤w.heap.size) (h1:1≤kind) (h2:kind≤255) (hfm:f+m≤D.many) (hoff:D.off=true) (hok:D.Ok) :
    Calls Tryz.prog 253 #[.pointer (some ⟨ga,0,none⟩),.int .i64 kind] w (qu7 w base ga kind p (D,0,50)):=by
  have hmany:=qo9 ha;have hmz:((m:Int) == 0)=false:=by rw [beq_eq_false_iff_ne];omega
  have bA:Below w.heap.size w (w.alloc (.cells #[.pointer (some ⟨ga,0,none⟩),.int .i64 kind,.int .i64 0] 363)):=(Below.refl _ _).alloc nlr _;have hrd:=jread_off (jrn_new w ga kind) (hd.below bA) (by have:=bA.size;omega) (ha.below bA) hm hfm hoff hok;have BA:=hdd bA;clear ha hd hok bA;go_enter Tryz.func253,Tryz.ntmps253;go_wp2_with (first | (go_at_call 113;(with_reducible refine (hmany).mono ?_);rintro e w1 ⟨rfl,rfl⟩) | ((go_at_call 293;(with_reducible refine (hrd).mono ?_);rintro e w2 ⟨rfl,h2,s2⟩)) | fail "no arm");go_ret2;exact qu7.no smp h2 ((Step.of_below BA.out hs).trans s2)
theorem qv7 {D:qa1} {f m:Nat} {n:Int} {l:List Int} (h:(qa9 D f m n qa3).2=0):qm2 D f m (n :: l)=qm2 (qa9 D f m n qa3).1 f m l:=by
  show (if (qa9 D f m n qa3).2≠0 then _ else _)=_
  rw [if_neg omg]
theorem qv6 {D:qa1} {f m:Nat} {n:Int} {l:List Int} (h:(qa9 D f m n qa3).2≠0):qm2 D f m (n :: l)=qa9 D f m n qa3:=by
  show (if (qa9 D f m n qa3).2≠0 then _ else _)=_
  rw [if_pos h]
theorem jopen_on (ha:qa8 w ga p.d f m) (hm:1≤m) (hd:qa5 w base p D) (hs:base≤w.heap.size) (h1:1≤kind) (h2:kind≤255) (hfm:f+m≤D.many) (hoff:D.off=false) (hok:D.Ok) (hwt:D.waits.length<900000) :
    Calls Tryz.prog 253 #[.pointer (some ⟨ga,0,none⟩),.int .i64 kind] w (qu7 w base ga kind p (qb7 D f m kind)):=by
  have hmany:=qo9 ha;have hmz:((m:Int) == 0)=false:=by rw [beq_eq_false_iff_ne];omega
  have bA:Below w.heap.size w (w.alloc (.cells #[.pointer (some ⟨ga,0,none⟩),.int .i64 kind,.int .i64 0] 363)):=(Below.refl _ _).alloc nlr _;have hrd:=jread_on (jrn_new w ga kind) (hd.below bA) (by have:=bA.size;omega) hs (ha.below bA) hfm hoff hok;have hm4:f+m≤4096:=by have:=hok.many1;omega
  have hle:=vi2 D.now f kind m;have hun:qb7 D f m kind=if (qp0 D f m kind).2≠0 then ((qp0 D f m kind).1,0,(qp0 D f m kind).2)
      else if (qe8 D.now f kind m).2.2=[] then ((qp0 D f m kind).1,(qe8 D.now f kind m).2.1,0)
      else if (qb0 (qp0 D f m kind).1).2≠0 then ((qb0 (qp0 D f m kind).1).1,0,(qb0 (qp0 D f m kind).1).2)
      else ((qb0 (qp0 D f m kind).1).1,(qe8 D.now f kind m).2.1,0):=by
    unfold qb7;rw [if_neg omg,if_neg (by rw [hoff];simp)]
  unfold qp0 at hun;obtain ⟨o,eo⟩:=qo8 D m;have hm1:(rdK D m).many=D.many:=by rw [eo]
  have hw1:(rdK D m).waits.length=D.waits.length:=by rw [eo]
  generalize qb7 D f m kind=R at *;generalize qe8 D.now f kind m=sc at *;obtain ⟨op,nx,dl⟩:=sc;generalize rdK D m=D1 at *;simp only at hun hle hrd;have BA:=hdd bA;have HA:=hdd ha;have HD:=hdd hd;have HUN:=hdd hun;clear ha hd hok bA eo hun;go_enter Tryz.func253,Tryz.ntmps253;go_wp2_with (first | (go_at_call 113;(with_reducible refine (hmany).mono ?_);rintro e w1 ⟨rfl,rfl⟩) | ((go_at_call 293;(with_reducible refine (hrd).mono ?_);rintro e w2 ⟨B,N,c,rfl,o2,h2,j2,s2,t2⟩);have O2:=hdd o2;have H2:=hdd h2;have J2:=hdd j2;have S2:=hdd (Step.noJrn BA.out s2 t2 nlr hs);clear o2 h2 j2 s2 t2) | fail "no arm");have hNl:=O2.out.1;have sz2:=S2.out.size;have hA2:qa8 w2 ga p.d f m:=HD.out.area HA.out S2.out.tch dcd;have HA2:=hdd hA2;clear hA2;go_loopw [10,11,38] (fun _ _ i wr => ∃ (j:Nat) (Dj:qa1),j≤N∧i=.int .i64 (j:Nat)∧qm2 D1 f m dl=qm2 Dj f m (dl.drop j)∧Dj.many=D.many∧Dj.waits.length≤D.waits.length+j∧qa5 wr base p Dj∧Step mutD base p w2 wr) (fun _ _ i _ => N - (intOf i).toNat)
  case atStart => exact ⟨0,D1,omg,rfl,rfl,hm1,omg,H2.out,Step.refl _ _ _ _⟩
  case round =>
    obtain ⟨j,Dj,hj,rfl,hwk,hmj,hwj,hdj,hst⟩:=hrel;have hsts:=hst.size;have hjj:qi9 wr w.heap.size ga kind nx:=H2.out.blk J2.out hst.tch dcd;have haj:=H2.out.area HA2.out hst.tch dcd;have hoj:=H2.out.ow O2.out hst.tch dcd;have HWK:=hdd hwk;have HDJ:=hdd hdj;have HST:=hdd hst
    by_cases hlt:j<N
    · obtain ⟨b,o,hB,hb,hcell⟩:=hoj.rd.2.at_ hlt;have hjl:j<dl.length:=omg;have hdr:dl.drop j=dl[j] :: dl.drop (j+1):=List.drop_eq_getElem_cons hjl;have hval:wr.cell? ⟨b,o+j,none⟩=some (.int .i64 dl[j]):=by rw [hcell,qs1 dl j hjl];rfl
      have hwp:=s_awipe hdj omg haj (by rw [hmj];exact hfm) dl[j] omg;obtain ⟨q1,q2⟩:=qj9 Dj f m dl[j] qa3;rw [hdr] at hwk
      by_cases he:(qa9 Dj f m dl[j] qa3).2=0
      · rw [qv7 he] at hwk;rw [he] at hwp;generalize (qa9 Dj f m dl[j] qa3).1=Dn at *;generalize dl[j]=nn at *;have HW2:=hdd hwk;clear hwk hdj he hdr hoj hcell;subst hB;go_wp2_with (first | (go_at_call 198;(with_reducible refine (hwp).mono ?_);rintro e w3 ⟨rfl,h3,s3⟩) | fail "no arm");go_roundw
        case rel => first
          | exact ⟨j+1,Dn,omg,by go_num,HW2.out,omg,by omega,h3,HST.out.trans s3⟩
          | ((repeat apply Exists.intro);exact ⟨⟨j+1,Dn,omg,by go_num,HW2.out,omg,by omega,h3,HST.out.trans s3⟩,rfl⟩)
        case measure => simp [intOf];omega
      · rw [qv6 he] at hwk;have hR:=HUN.out;rw [hwk,if_pos he] at hR;subst hR;generalize qa9 Dj f m dl[j] qa3=P at *;obtain ⟨Dn,z⟩:=P;simp only at hwp he;generalize dl[j]=nn at *;have hne:(z != 0)=true:=by rw [bne_iff_ne];exact he
        have HE:=hdd he;clear hwk hdj he hdr hoj hcell HUN HWK q1 q2;subst hB;go_wp2_with (first | (go_at_call 198;(with_reducible refine (hwp).mono ?_);rintro e w3 ⟨rfl,h3,s3⟩) | fail "no arm");go_ret2;exact qu7.no HE.out h3 ((S2.out.trans HST.out).trans s3)
    · have hjN:j=N:=omg;subst hjN;have hdr:dl.drop j=[]:=List.drop_of_length_le omg;rw [hdr] at hwk;have hR:=HUN.out;rw [hwk,show qm2 Dj f m []=(Dj,0) from rfl,if_neg smp] at hR;simp only at hR
      by_cases hd0:dl=[]
      · rw [if_pos hd0] at hR;have hj0:j=0:=by rw [← hNl,hd0];rfl
        subst hj0 hR;have HJJ:=hdd hjj;clear hwk hdj hdr hoj HUN HWK hjj haj;go_wp2;go_ret2;exact qu7.yes nlr HJJ.out HDJ.out (S2.out.trans HST.out)
      · rw [if_neg hd0] at hR;have hj0:0<j:=by
          rcases Nat.eq_zero_or_pos j with q | q
          · exact absurd (List.eq_nil_of_length_eq_zero omg) hd0
          · exact q
        have hfl:=qx6 hdj omg haj;generalize qb0 Dj=FV at *;obtain ⟨Df,z⟩:=FV;simp only at hR hfl;have HJJ:=hdd hjj
        by_cases hz:z=0
        · subst hz;rw [if_neg smp] at hR;subst hR;clear hwk hdj hdr hoj HUN HWK hjj haj hd0;go_wp2_with (first | (go_at_call 116;(with_reducible refine (hfl).mono ?_);rintro e w3 ⟨rfl,h3,s3⟩) | fail "no arm");go_ret2;exact qu7.yes nlr (HDJ.out.blk HJJ.out s3.tch dcd) h3 ((S2.out.trans HST.out).trans s3)
        · rw [if_pos hz] at hR;subst hR;have hne:(z != 0)=true:=by rw [bne_iff_ne];exact hz
          have HZ:=hdd hz;clear hwk hdj hdr hoj HUN HWK hjj haj hd0 hz;go_wp2_with (first | (go_at_call 116;(with_reducible refine (hfl).mono ?_);rintro e w3 ⟨rfl,h3,s3⟩) | fail "no arm");go_ret2;exact qu7.no HZ.out h3 ((S2.out.trans HST.out).trans s3)
theorem jopen_any (ha:qa8 w ga p.d f m) (hm:1≤m) (hd:qa5 w base p D) (hs:base≤w.heap.size) (hfm:f+m≤D.many) (hwt:D.waits.length<900000) :
    Calls Tryz.prog 253 #[.pointer (some ⟨ga,0,none⟩),.int .i64 kind] w (qu7 w base ga kind p (qb7 D f m kind)):=by
  have hok:D.Ok:=by obtain ⟨A,c,h⟩:=hd;exact h.ok
  by_cases hk:kind<1∨255<kind
  · have:qb7 D f m kind=(D,0,2):=by unfold qb7;rw [if_pos hk]
    rw [this];exact jopen_kind ha hm hd hk
  · cases ho:D.off with
    | true =>
      have:qb7 D f m kind=(D,0,50):=by unfold qb7;rw [if_neg hk,if_pos ho]
      rw [this];exact jopen_off ha hm hd hs omg omg hfm ho hok
    | false => exact jopen_on ha hm hd hs omg omg hfm ho hok hwt
end
theorem secOf_splice {l b:List UInt8} {n k many:Nat} (hl:l.length=many * 128) (hb:b.length=128) (hn:n<many) (hk:k<many):qf1 (splice l (n * 128) b) (k:Int)=if k=n then b else qf1 l (k:Int):=by
  have h1:(qf1 (splice l (n * 128) b) (k:Int)).length=128:=ql9 (s:=many) (by rw [qj6 (by rw [hl,hb];omega),hl]) omg omg;have h2:(qf1 l (k:Int)).length=128:=ql9 (s:=many) hl omg omg;have ext:∀ {x y:List UInt8},x.length=128→y.length=128→(∀ i,i<128→qa4 x i=qa4 y i)→x=y:=by
    intro x y hx hy h;apply List.ext_getElem omg;intro i q1 q2;have:=h i omg;unfold qa4 at this;rw [List.getD_eq_getElem?_getD,List.getD_eq_getElem?_getD,List.getElem?_eq_getElem q1,List.getElem?_eq_getElem q2] at this;exact UInt8.toNat_inj.1 this
  split
  · rename_i e;subst e;refine ext h1 hb (fun i hi => ?_);rw [qq0 hi,qi4 (by rw [hl,hb];omega),if_pos (by rw [hb];omega),Nat.add_sub_cancel_left]
  · rename_i e;refine ext h1 h2 (fun i hi => ?_);rw [qq0 hi,qq0 hi,qi4 (by rw [hl,hb];omega),if_neg (by rw [hb];omega)]
theorem byte_ext {x y:List UInt8} (hx:x.length=y.length) (h:∀ i,i<y.length→qa4 x i=qa4 y i):x=y:=by
  apply List.ext_getElem omg;intro i q1 q2;have:=h i omg;unfold qa4 at this;rw [List.getD_eq_getElem?_getD,List.getD_eq_getElem?_getD,List.getElem?_eq_getElem q1,List.getElem?_eq_getElem q2] at this;exact UInt8.toNat_inj.1 this
section
variable {w w':World} {base ga gj f m next:Nat} {kind:Int} {p:qb9} {D:qa1}
theorem qi9.below (h:qi9 w gj ga kind next) (hb:Below w.heap.size w w'):qi9 w' gj ga kind next:=Blk.below h hb h.lt
theorem s_anew (h:qa5 w base p D) (hs:base≤w.heap.size) (f m:Nat) (h1:1≤m) (h2:f+m≤D.many) :
    Calls Tryz.prog 109 #[.pointer (some ⟨p.d,0,none⟩),.agg #[.int .i64 (f:Int),.int .i64 (m:Int)]] w fun e w' => ∃ ga,e=.returned (.tuple #[.pointer (some ⟨ga,0,none⟩),.int .i64 0])∧qa8 w' ga p.d f m∧w.heap.size≤ga∧qa5 w' base p D∧Step mutD base p w w':=by
  obtain ⟨A,c,h⟩:=h;exact (anew_ok h f m h1 h2).mono fun e w' ⟨ga,h1,h2,h3,h4⟩ => ⟨ga,h1,h2,h3,(h.below h4).s,Step.of_below h4 hs⟩
end
structure SlV where
  a:Option Addr
  n:Nat
  c:Nat
open Go.RowKit Go.WideShapes Go.ChangeShapes Go.Deep Go.Joins
def va8 (w:World) (base:Nat) (t:TypeId) (A:Option Addr):Prop:=∀ g,A.map (·.block)=some g→g<base∨∃ cs,Blk w g t cs
def qj5 (w:World) (base:Nat) (h:SlV) (L:List UInt8):Prop:=RB w h.a h.n L∧h.n≤maxLen∧(0<h.n→va8 w base 5 h.a)
theorem Row.sameB {w w':World} {A:Option Addr} {n:Nat} {f:Nat→Value} (h:Row w A n f) (hs:w.heap.size≤w'.heap.size) (hF:∀ b,A.map (·.block)=some b→b<w.heap.size→w'.heap[b]?=w.heap[b]?):Row w' A n f:=fun h0 => by
  obtain ⟨b,o,rfl,hb,hc⟩:=h h0;refine ⟨b,o,rfl,Nat.lt_of_lt_of_le hb hs,fun i hi => ?_⟩;rw [← hc i hi];have:=hF b rfl hb;simp only [World.cell?,this]
section
variable {M:List TypeId} {w w':World} {base:Nat} {p:qb9} {D:qa1} {t:TypeId} {A:Option Addr} {n:Nat}
theorem va8.step (h:va8 w base t A) (hd:qa5 w base p D) (k:Step M base p w w') (ht:t ∉ 4 :: M):va8 w' base t A:=fun g hg => by
  rcases h g hg with q | ⟨cs,q⟩
  · exact .inl q
  · exact .inr ⟨cs,hd.blk q k.tch ht⟩
theorem va8.heap (h:va8 w base t A) (hd:qa5 w base p D) (k:Step M base p w w') (ht:t ∉ 4 :: M):∀ b,A.map (·.block)=some b→b<w.heap.size→w'.heap[b]?=w.heap[b]?:=fun b hb _ => by
  rcases h b hb with q | ⟨cs,q⟩
  · exact k.bel.block b q
  · exact Eq.trans (hd.blk q k.tch ht) (Eq.symm q)
theorem Row.stepR {f:Nat→Value} (h:Row w A n f) (hr:0<n→va8 w base t A) (hd:qa5 w base p D) (k:Step M base p w w') (ht:t ∉ 4 :: M):Row w' A n f:=fun h0 => (h.sameB k.size ((hr h0).heap hd k ht)) h0
theorem qj5.step {h:SlV} {L:List UInt8} (H:qj5 w base h L) (hd:qa5 w base p D) (k:Step M base p w w') (ht:5 ∉ 4 :: M):qj5 w' base h L :=
  ⟨⟨H.1.1,H.1.2.stepR H.2.2 hd k ht⟩,H.2.1,fun h0 => (H.2.2 h0).step hd k ht⟩
theorem qj5.below {h:SlV} {L:List UInt8} (H:qj5 w base h L) (hb:Below w.heap.size w w'):qj5 w' base h L :=
  ⟨H.1.below hb nlr,H.2.1,fun h0 g hg => by
    rcases H.2.2 h0 g hg with q | ⟨cs,q⟩
    · exact .inl q
    · exact .inr ⟨cs,q.below hb q.lt⟩⟩
theorem Ow.blk {α:Type} {enc:α→Value} {c:Nat} {l:List α} (h:Ow enc w base t A n c l) {g:Nat} (hg:A.map (·.block)=some g):∃ cs,Blk w g t cs:=by
  rcases h.2.2 with ⟨hv,_⟩ | ⟨g',cap,cur,hv,_,hh,_⟩
  · injection hv with hv;subst hv;cases hg
  · injection hv with hv;subst hv;simp only [Option.map_some,Option.some.injEq] at hg;subst hg;exact ⟨cur.toList,by unfold Blk;rw [hh]⟩
theorem qj5.of_ob {b:Nat} {h:SlV} {L:List UInt8} (H:OB w b 5 h.a h.n h.c L):qj5 w base h L :=
  ⟨H.rd.rb,by have:=H.cap;omega,fun _ g hg => .inr (H.blk hg)⟩
theorem Rd.take_ {α:Type} {enc:α→Value} {l:List α} {m:Nat} (h:Rd enc w A n l) (hm:m≤n):Rd enc w A m (l.take m) :=
  ⟨by rw [List.length_take,h.1];omega,(h.2.take hm).congr fun i hi => by
    show (l.map enc).getD i undef=((l.take m).map enc).getD i undef
    rw [List.getD_eq_getElem?_getD,List.getD_eq_getElem?_getD,List.map_take,List.getElem?_take,if_pos hi]⟩
end
end Go.Proofs.YtmeebofhlilcmaaGreat
