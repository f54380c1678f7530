/- Parts: EngC, AreaPlanA, EngG. -/
import Derived.Test.YtmeebofhlilcmaaGreatPr02
import Derived.Test.YtmeebofhlilcmaaGreatPr40
import Derived.Test.YtmeebofhlilcmaaGreatPr00
import Derived.Test.YtmeebofhlilcmaaGreatPr16
import Derived.Test.YtmeebofhlilcmaaGreatPr18
import Derived.Test.YtmeebofhlilcmaaGreatPr38
set_option linter.unusedVariables false
set_option linter.unusedSimpArgs false
set_option maxRecDepth 100000
set_option maxHeartbeats 40000000
namespace Go.Proofs.YtmeebofhlilcmaaGreat
open Go.RowKit
def tickAt (w:World) (g:Nat):Int:=intOf ((w.cell? ⟨g,6,none⟩).getD (.int .i64 0))
theorem qv8 {w:World} {g:Nat} {t:Int} (h:w.cell? ⟨g,6,none⟩=some (.int .i64 t)):tickAt w g=t:=by unfold tickAt;rw [h];rfl
theorem replK_end {m:Nat} {p:PV} {D:qa1} {E:EgV} (h:(E.nIn:Int)≤E.tick):qp4 m p ((E.nIn:Int) - E.tick).toNat D E=(D,E,0):=by
  rw [show ((E.nIn:Int) - E.tick).toNat=0 by omega];rfl
theorem replK_stop {m:Nat} {p:PV} {D:qa1} {E:EgV} (h:E.tick<(E.nIn:Int)) (hz:(qc9 m p D E).2.2≠0):qp4 m p ((E.nIn:Int) - E.tick).toNat D E=qc9 m p D E:=by
  obtain ⟨k,hk⟩:∃ k,((E.nIn:Int) - E.tick).toNat=k+1:=⟨((E.nIn:Int) - E.tick).toNat - 1,omg⟩;rw [hk]
  show (if _ then _ else _)=_
  rw [if_pos hz]
theorem replK_go {m:Nat} {p:PV} {D:qa1} {E:EgV} (h:E.tick<(E.nIn:Int)) (hz:(qc9 m p D E).2.2=0) (hn:(qc9 m p D E).2.1.nIn=E.nIn) (ht:(qc9 m p D E).2.1.tick=E.tick+1) :
    qp4 m p ((E.nIn:Int) - E.tick).toNat D E=qp4 m p ((({ (qc9 m p D E).2.1 with replayed:=(qc9 m p D E).2.1.replayed+1 }:EgV).nIn:Int) - ({ (qc9 m p D E).2.1 with replayed:=(qc9 m p D E).2.1.replayed+1 }:EgV).tick).toNat (qc9 m p D E).1 { (qc9 m p D E).2.1 with replayed:=(qc9 m p D E).2.1.replayed+1 }:=by
  obtain ⟨k,hk⟩:∃ k,((E.nIn:Int) - E.tick).toNat=k+1:=⟨((E.nIn:Int) - E.tick).toNat - 1,omg⟩;have hk2:(((qc9 m p D E).2.1.nIn:Int) - (qc9 m p D E).2.1.tick).toNat=k:=by rw [hn,ht];omega
  rw [hk]
  show (if _ then _ else _)=qp4 m p (((qc9 m p D E).2.1.nIn:Int) - (qc9 m p D E).2.1.tick).toNat _ _
  rw [if_neg (by rw [hz];simp),hk2]
section
variable {w w':World} {base g m:Nat} {q:qb9} {D:qa1} {e:EP} {p:PV} {hash pace:Int} {E:EgV}
theorem erepl_any (h:qi1 w base q g e m p hash pace E) (ok:EgOk m p E) (G:PrgW p m) (hd:qa5 w base q D) (hs:base≤w.heap.size) (big:11+2 * m≤D.many) (hwt:D.waits.length<700000) (ht0:E.replayed=0) :
    Calls Tryz.prog 108 #[.pointer (some ⟨g,0,none⟩)] w fun e' w' => ∃ A n c,e'=.returned (.int .i64 (qo7 m p hash pace D E).2.2)∧EngS w w' base q g { e with A:=A,n:=n,c:=c } m p hash pace (qo7 m p hash pace D E).1 (qo7 m p hash pace D E).2.1:=by
  have hm2:=G.m2;have HG:=hdd G;have HF:=hdd (show vq5 p hash pace (qp4 m p ((E.nIn:Int) - E.tick).toNat D E)=qo7 m p hash pace D E from rfl);generalize qo7 m p hash pace D E=FIN at *;have S0:=hdd (EngX.done (EngX.of h hd (Step.refl mutE base q w) hs) rfl);have OK0:=hdd ok;have hni:=ok.i0;have ht00:=ok.t0;clear h hd ok G;go_enter Tryz.func108,Tryz.ntmps108;go_wp2_with fail;go_loopw [] (fun wr => ∃ (D':qa1) (E':EgV) (A:Option Addr) (n c:Nat),Hid (EngS w wr base q g { e with A:=A,n:=n,c:=c } m p hash pace D' E')∧Hid (EgOk m p E')∧Hid (vq5 p hash pace (qp4 m p ((E'.nIn:Int) - E'.tick).toNat D' E')=FIN)∧Hid (E'.nIn=E.nIn)∧D'.waits.length+(E.nIn - E'.tick).toNat≤D.waits.length+(E.nIn - E.tick).toNat∧Hid (D'.many=D.many)) (fun wr => ((E.nIn:Int) - tickAt wr g).toNat)
  case atStart => exact ⟨D,E,e.A,e.n,e.c,S0,OK0,HF,hdd rfl,Nat.le_refl _,hdd rfl⟩
  case round =>
    obtain ⟨D',E',A,n,c,S1,OK1,HF1,HN1,hw1,HM1⟩:=hrel;clear S0 OK0 HF;obtain ⟨c0,c1,c2,c3,c4,c5,c6,c7,c8,c9,c10⟩:=S1.out.i.words;have tk1:=hdd (qv8 c6);have hbs:base≤wr.heap.size:=Nat.le_trans hs S1.out.s.size;have hlen:=qw7 (S1.out.i.r.below (Below.drew (Below.refl _ _))).inn;have Xd:=hdd ((EngX.of S1.out.i S1.out.d S1.out.s hbs).below (Below.drew (Below.refl _ _)));have SD:=hdd (EngX.done Xd.out rfl)
    by_cases hlt:E'.tick<(E'.nIn:Int)
    · have hn1:=HN1.out;have hone:=one_any (hash:=hash) (pace:=pace) SD.out.i OK1.out HG.out SD.out.d Xd.out.hs (by rw [HM1.out];exact big) hlt omg;have hok:=hdd (vl0 (D:=D') OK1.out HG.out hlt);have hstop:=fun hz => replK_stop (m:=m) (p:=p) (D:=D') (E:=E') hlt hz
      have hgo:=fun hz hn ht => replK_go (m:=m) (p:=p) (D:=D') (E:=E') hlt hz hn ht
      have HF2:=HF1.out;clear hn1 HF1;have t0:=OK1.out.t0;have hru:=OK1.out.r1;have hr0:=OK1.out.r0;have hin:=OK1.out.i0;generalize qc9 m p D' E'=R at *;obtain ⟨D2,E2,z⟩:=R;simp only at hone hstop hgo
      by_cases hz:z=0
      · subst hz; rw [hgo rfl hok.out.nin (hok.out.go rfl)] at HF2; have HF3 := hdd HF2; have HT := hdd (hok.out.go rfl); have HR := hdd hok.out.rep; clear HF2 hgo hstop; go_upto_region 1 with fail; go_region_held3 (fun w' => w'.cell? ⟨g, 6, none⟩ = some (.int .i64 E'.tick) ∧ w'.cell? ⟨g, 1, none⟩ = some (.pointer (some ⟨e.gi, 0, none⟩))) (first | go_keep | (refine ⟨?_, ?_⟩ <;> assumption)) (first | (go_at_call 119; (with_reducible refine (hlen).mono ?_); rintro e' w3 ⟨rfl, rfl⟩) | fail "no arm"); go_upto_region 3 with (first | ((go_at_call 126; (with_reducible refine (hone).mono ?_); rintro e' w4 ⟨A4, n4, c4', rfl, s4⟩); have X4 := hdd s4; have hbs4 : base ≤ w4.heap.size := Nat.le_trans Xd.out.hs s4.s.size; obtain ⟨c0, c1, c2, c3, c4, c5, c6, c7, c8, c9, c10⟩ := s4.i.words; have f8 := s4.i.b.frozen 8; have gl := s4.i.b.lt; clear s4) | fail "no arm"); have X5 := hdd (EngX.of X4.out.i X4.out.d (SD.out.s.trans X4.out.s) hbs4); have r2 : 0 ≤ E2.replayed ∧ E2.replayed ≤ 1024 := by rw [HR.out]; omega
        have tk:=qv8 c6;go_wp2_with fail;go_roundw
        case rel =>
          exact ⟨D2,{ E2 with replayed:=E2.replayed+1 },A4,n4,c4',hdd (EngX.done (E:={ E2 with replayed:=E2.replayed+1 }) (X5.out.set 8 (.int .i64 (E2.replayed+1))) rfl),
            hdd ⟨hok.out.ok.i0,hok.out.ok.o0,hok.out.ok.t0,hok.out.ok.t1,hok.out.ok.p0,hok.out.ok.p1,by show 0≤E2.replayed+1;omega,by show E2.replayed+1≤E2.tick;rw [HT.out];have:=HR.out;omega,hok.out.ok.cf,hok.out.ok.c64,hok.out.ok.kl,hok.out.ok.kn⟩,HF3,hdd (hok.out.nin.trans HN1.out),by
            have h1:=hok.out.waits;have h2:=HT.out;have h3:=HN1.out;simp only at h1 h2 ⊢;omega,hdd (hok.out.many.trans HM1.out)⟩
        case measure =>
          have h6:(w4.setCell ⟨g,8,none⟩ (.int .i64 (E2.replayed+1))).cell? ⟨g,6,none⟩=some (.int .i64 E2.tick):=(X5.out.set 8 (.int .i64 (E2.replayed+1))).b.cell 6;have h7:=qv8 h6;have h8:=tk1.out;have h9:=HT.out;have h3:=HN1.out;simp only [h7,h8];omega
      · have hzb:(z != 0)=true:=by rw [bne_iff_ne];exact hz
        rw [hstop hz] at HF2;have hfin:FIN=(D2,E2,z):=by rw [← HF2];unfold vq5;rw [if_pos hz]
        subst hfin; clear HF2 hgo hstop hz; go_upto_region 1 with fail; go_region_held3 (fun w' => w'.cell? ⟨g, 6, none⟩ = some (.int .i64 E'.tick) ∧ w'.cell? ⟨g, 1, none⟩ = some (.pointer (some ⟨e.gi, 0, none⟩))) (first | go_keep | (refine ⟨?_, ?_⟩ <;> assumption)) (first | (go_at_call 119; (with_reducible refine (hlen).mono ?_); rintro e' w3 ⟨rfl, rfl⟩) | fail "no arm"); go_upto_region 3 with (first | ((go_at_call 126; (with_reducible refine (hone).mono ?_); rintro e' w4 ⟨A4, n4, c4', rfl, s4⟩); have X4 := hdd s4; have hbs4 : base ≤ w4.heap.size := Nat.le_trans Xd.out.hs s4.s.size; obtain ⟨c0, c1, c2, c3, c4, c5, c6, c7, c8, c9, c10⟩ := s4.i.words; have f8 := s4.i.b.frozen 8; have gl := s4.i.b.lt; clear s4) | fail "no arm"); have SF := hdd (show EngS w w4 base q g { e with A := A4, n := n4, c := c4' } m p hash pace D2 E2 from ⟨X4.out.d, X4.out.i, SD.out.s.trans X4.out.s⟩); go_wp2_with fail; go_ret
        first | exact ⟨A4,n4,c4',rfl,SF.out⟩ | exact ⟨rfl,A4,n4,c4',SF.out⟩
    · have hge:(E'.nIn:Int)≤E'.tick:=omg;have hfin:FIN=vk2 p hash pace (qd0 D' E'):=by
        rw [← HF1.out,replK_end hge];unfold vq5;rw [if_neg smp]
      have hfl:=qp8 (hash:=hash) (pace:=pace) SD.out.i SD.out.d Xd.out.hs;have hok:=vl1 (D:=D') OK1.out;clear HF1;have HM2:=hdd (hok.many.trans HM1.out);have hw2:(qd0 D' E').1.waits.length<800000:=by
        have h1:=hok.waits;have h3:=OK1.out.t0;omega
      have OK2:=hdd hok.ok;clear hok;generalize qd0 D' E'=R at *;obtain ⟨D2,E2,z⟩:=R;simp only at hfl hw2
      by_cases hz:z=0
      · subst hz;have hsv:=fun (W:World) (h1:qi1 W base q g { e with A:=A,n:=n,c:=c } m p hash pace E2) (h2:qa5 W base q D2) (h3:base≤W.heap.size) => esave_any (hash:=hash) (pace:=pace) h1 OK2.out HG.out h2 h3 (by rw [HM2.out];exact big) hw2
        by_cases hp:pace≤E2.passed
        · have hfin2:vk2 p hash pace (D2,E2,0)=qh3 p hash D2 E2:=by unfold vk2;rw [if_neg smp,if_pos hp]
          rw [hfin2] at hfin; clear hfin2; generalize qh3 p hash D2 E2 = V at *; obtain ⟨D3, E3, z3⟩ := V; simp only at hsv; subst hfin; go_upto_region 1 with fail; go_region_held3 (fun w' => w'.cell? ⟨g, 6, none⟩ = some (.int .i64 E'.tick) ∧ w'.cell? ⟨g, 1, none⟩ = some (.pointer (some ⟨e.gi, 0, none⟩))) (first | go_keep | (refine ⟨?_, ?_⟩ <;> assumption)) (first | (go_at_call 119; (with_reducible refine (hlen).mono ?_); rintro e' w3 ⟨rfl, rfl⟩) | fail "no arm"); go_upto_region 9 with (first | ((go_at_call 127; (with_reducible refine (hfl).mono ?_); rintro e' w4 ⟨rfl, s4⟩); have X4 := hdd s4; have hbs4 : base ≤ w4.heap.size := Nat.le_trans Xd.out.hs s4.s.size; obtain ⟨c0, c1, c2, c3, c4, c5, c6, c7, c8, c9, c10⟩ := s4.i.words; clear s4) | fail "no arm"); have X5 := hdd (EngX.done ((EngX.of X4.out.i X4.out.d X4.out.s hbs4).below (Below.drew (Below.refl _ _))) rfl); have hbs5 : base ≤ w4.drew.heap.size := hbs4; have hsv5 := hsv _ X5.out.i X5.out.d hbs5; go_upto_region 9 with fail; go_region_held3 (fun w' => w'.cell? ⟨g, 7, none⟩ = some (.int .i64 E2.passed) ∧ w'.cell? ⟨g, 5, none⟩ = some (.int .i64 pace)) (first | go_keep | (refine ⟨?_, ?_⟩ <;> assumption)) (fail); go_wp2_with (first | ((go_at_call 125; (with_reducible refine (hsv5).mono ?_); rintro e' w6 ⟨rfl, s6⟩); have X6 := hdd s6; clear s6) | fail "no arm"); go_ret
          first | exact ⟨A,n,c,rfl,X6.out.d,X6.out.i,(SD.out.s.trans X5.out.s).trans X6.out.s⟩ | exact ⟨rfl,A,n,c,X6.out.d,X6.out.i,(SD.out.s.trans X5.out.s).trans X6.out.s⟩
        · have hfin2:vk2 p hash pace (D2,E2,0)=(D2,E2,0):=by unfold vk2;rw [if_neg smp,if_neg hp]
          rw [hfin2] at hfin; subst hfin; clear hfin2 hsv; go_upto_region 1 with fail; go_region_held3 (fun w' => w'.cell? ⟨g, 6, none⟩ = some (.int .i64 E'.tick) ∧ w'.cell? ⟨g, 1, none⟩ = some (.pointer (some ⟨e.gi, 0, none⟩))) (first | go_keep | (refine ⟨?_, ?_⟩ <;> assumption)) (first | (go_at_call 119; (with_reducible refine (hlen).mono ?_); rintro e' w3 ⟨rfl, rfl⟩) | fail "no arm"); go_upto_region 9 with (first | ((go_at_call 127; (with_reducible refine (hfl).mono ?_); rintro e' w4 ⟨rfl, s4⟩); have X4 := hdd s4; have hbs4 : base ≤ w4.heap.size := Nat.le_trans Xd.out.hs s4.s.size; obtain ⟨c0, c1, c2, c3, c4, c5, c6, c7, c8, c9, c10⟩ := s4.i.words; clear s4) | fail "no arm"); have X5 := hdd (EngX.done ((EngX.of X4.out.i X4.out.d X4.out.s hbs4).below (Below.drew (Below.refl _ _))) rfl); have hbs5 : base ≤ w4.drew.heap.size := hbs4; go_upto_region 9 with fail; go_region_held3 (fun w' => w'.cell? ⟨g, 7, none⟩ = some (.int .i64 E2.passed) ∧ w'.cell? ⟨g, 5, none⟩ = some (.int .i64 pace)) (first | go_keep | (refine ⟨?_, ?_⟩ <;> assumption)) (fail); go_wp2_with fail; go_ret
          first | exact ⟨A,n,c,rfl,X5.out.d,X5.out.i,SD.out.s.trans X5.out.s⟩ | exact ⟨rfl,A,n,c,X5.out.d,X5.out.i,SD.out.s.trans X5.out.s⟩
      · have hzb:(z != 0)=true:=by rw [bne_iff_ne];exact hz
        have hfin2:vk2 p hash pace (D2,E2,z)=(D2,E2,z):=by unfold vk2;rw [if_pos hz]
        rw [hfin2] at hfin; subst hfin; clear hfin2 hz; go_upto_region 1 with fail; go_region_held3 (fun w' => w'.cell? ⟨g, 6, none⟩ = some (.int .i64 E'.tick) ∧ w'.cell? ⟨g, 1, none⟩ = some (.pointer (some ⟨e.gi, 0, none⟩))) (first | go_keep | (refine ⟨?_, ?_⟩ <;> assumption)) (first | (go_at_call 119; (with_reducible refine (hlen).mono ?_); rintro e' w3 ⟨rfl, rfl⟩) | fail "no arm"); go_wp2_with (first | ((go_at_call 127; (with_reducible refine (hfl).mono ?_); rintro e' w4 ⟨rfl, s4⟩); have X4 := hdd s4; clear s4) | fail "no arm"); go_ret
        first | exact ⟨A,n,c,rfl,X4.out.d,X4.out.i,SD.out.s.trans X4.out.s⟩ | exact ⟨rfl,A,n,c,X4.out.d,X4.out.i,SD.out.s.trans X4.out.s⟩
end
def logN (s:Int):Int:=if s > 4096∨s<13 then 0 else if (s - 11) / 2 > 1024 then 1024 else (s - 11) / 2
theorem plan_no (s:Int) (w:World) (h:s<13∨4096<s) :
    Calls Tryz.prog 66 #[.int .i64 s] w fun e w' => e=.returned (.tuple #[.agg (#[.int .i64 0,.int .i64 0,.int .i64 0,.int .i64 0,.int .i64 0,.int .i64 0,.int .i64 0,.int .i64 0,.int .i64 0,.int .i64 0]),.int .i64 2])∧Below w.heap.size w w':=by
  rcases h with h | h
  all_goals
    go_enter Tryz.func66,Tryz.ntmps66;go_wp2;exact bodyPost_ret (v:=.tuple #[.agg (#[.int .i64 0,.int .i64 0,.int .i64 0,.int .i64 0,.int .i64 0,.int .i64 0,.int .i64 0,.int .i64 0,.int .i64 0,.int .i64 0]),.int .i64 2]) (by simp [results,Tryz.results66,go_sem]) rfl ⟨rfl,by go_grown⟩
theorem plan_yes (s:Int) (w:World) (h:13≤s) (h2:s≤4096) :
    Calls Tryz.prog 66 #[.int .i64 s] w fun e w' => e=.returned (.tuple #[.agg (#[.int .i64 0,.int .i64 1,.int .i64 1,.int .i64 5,.int .i64 6,.int .i64 5,.int .i64 11,.int .i64 (logN s),.int .i64 (11+logN s),.int .i64 (logN s)]),.int .i64 0])∧Below w.heap.size w w':=by
  have hl:(logN s=(s - 11) / 2∧(s - 11) / 2≤1024)∨(logN s=1024∧1024<(s - 11) / 2):=by
    unfold logN;rw [if_neg (by omega)];split <;> omega
  rcases hl with ⟨hl,h3⟩ | ⟨hl,h3⟩
  all_goals
    rw [hl];clear hl;go_enter Tryz.func66,Tryz.ntmps66;go_wp2;refine bodyPost_ret (v:=.tuple #[.agg (#[.int .i64 0,.int .i64 1,.int .i64 1,.int .i64 5,.int .i64 6,.int .i64 5,.int .i64 11,_,_,_]),.int .i64 0]) (by simp [results,Tryz.results66,go_sem];try rfl) rfl ⟨rfl,by go_grown⟩
theorem log_any (s:Int) (w:World) :
    Calls Tryz.prog 18 #[.int .i64 s] w fun e w' => e=.returned (.int .i64 (logN s))∧w=w':=by
  have hl:(logN s=0∧s<13)∨(logN s=0∧4096<s)∨(logN s=(s - 11) / 2∧(s - 11) / 2≤1024∧13≤s∧s≤4096)∨(logN s=1024∧1024<(s - 11) / 2∧13≤s∧s≤4096):=by
    unfold logN;split;omega;split <;> omega
  rcases hl with ⟨hl,h3⟩ | ⟨hl,h3⟩ | ⟨hl,h3,h4,h5⟩ | ⟨hl,h3,h4,h5⟩
  all_goals
    rw [hl];clear hl;go_enter Tryz.func18,Tryz.ntmps18;go_wp2;go_ret;exact ⟨rfl,rfl⟩
theorem blkT {w:World} {g:Nat} {t:TypeId} {v0 v1 v2 v3 v4 v5 v6 v7 v8 v9:Value} (h:Blk w g t [v0,v1,v2,v3,v4,v5,v6,v7,v8,v9]):w.cell? ⟨g,0,none⟩=some v0∧w.cell? ⟨g,1,none⟩=some v1∧w.cell? ⟨g,2,none⟩=some v2∧w.cell? ⟨g,3,none⟩=some v3∧w.cell? ⟨g,4,none⟩=some v4∧w.cell? ⟨g,5,none⟩=some v5∧w.cell? ⟨g,6,none⟩=some v6∧w.cell? ⟨g,7,none⟩=some v7∧w.cell? ⟨g,8,none⟩=some v8∧w.cell? ⟨g,9,none⟩=some v9:=⟨h.cell 0,h.cell 1,h.cell 2,h.cell 3,h.cell 4,h.cell 5,h.cell 6,h.cell 7,h.cell 8,h.cell 9⟩
def qf5 (p:PV):Nat:=fnv (qt3 p) % 9223372036854775808
section
variable {w w':World} {base m:Nat} {q:qb9} {D:qa1} {p:PV} {x:PA}
theorem qa5.size_ (h:qa5 w base q D):Calls Tryz.prog 48 #[.pointer (some ⟨q.d,0,none⟩)] w fun e w' => e=.returned (.int .i64 (D.many:Nat))∧w=w':=by
  obtain ⟨A,c,h⟩:=h;exact size_any h
theorem qa5.many0 (h:qa5 w base q D):1≤D.many∧D.many≤4096:=by
  obtain ⟨A,c,h⟩:=h;exact ⟨h.ok.many0,h.ok.many1⟩
theorem may_nil (x:PA) (p:PV) (w:World):Calls Tryz.prog 99 #[.pointer none,.agg #[.slice x.A1 x.n1 x.c1,.slice x.A2 x.n2 x.c2,.int .i64 p.regs,.slice x.A3 x.n3 x.c3,.slice x.A4 x.n4 x.c4]] w fun e' w' => e'=.returned (.tuple #[.agg #[.int .i64 0,.int .i64 0,.int .i64 0,.int .i64 0,.int .i64 0,.int .i64 0,.int .i64 0,.int .i64 0,.int .i64 0,.int .i64 0],.int .i64 0,.int .i64 1])∧Below w.heap.size w w':=by
  have hs:=fun W => nsize_any (w:=W) (d:=none) (.inl rfl)
  go_enter Tryz.func99,Tryz.ntmps99;go_wp2_with (first | (go_at_call 48;(with_reducible refine (hs _).mono ?_);rintro e w1 ⟨rfl,rfl⟩) | fail "no arm");refine bodyPost_ret (v:=.tuple #[.agg #[.int .i64 0,.int .i64 0,.int .i64 0,.int .i64 0,.int .i64 0,.int .i64 0,.int .i64 0,.int .i64 0,.int .i64 0,.int .i64 0],.int .i64 0,.int .i64 1]) (by simp [results,Tryz.results99,go_sem ]) rfl ?_;exact ⟨rfl,gwn⟩
theorem may_plan (hd:qa5 w base q D) (hp:qg2 w x p) (hw:qk7 p) (hv:qf0 p=true) (h13:D.many<13):Calls Tryz.prog 99 #[.pointer (some ⟨q.d,0,none⟩),.agg #[.slice x.A1 x.n1 x.c1,.slice x.A2 x.n2 x.c2,.int .i64 p.regs,.slice x.A3 x.n3 x.c3,.slice x.A4 x.n4 x.c4]] w fun e' w' => e'=.returned (.tuple #[.agg #[.int .i64 0,.int .i64 0,.int .i64 0,.int .i64 0,.int .i64 0,.int .i64 0,.int .i64 0,.int .i64 0,.int .i64 0,.int .i64 0],.int .i64 0,.int .i64 2])∧Below w.heap.size w w':=by
  have hs:=fun (W:World) (hb:Below w.heap.size w W) => (hd.below hb).size_
  have hm:=hd.many0;have hvr:=fun (W:World) (hb:Below w.heap.size w W) => va9 x p W (hp.below (b:=w.heap.size) hb nlr) hw
  rw [hv] at hvr;have hpl:=fun W => plan_no (D.many:Nat) W (.inl omg)
  have hzb:(((D.many:Nat):Int) == 0)=false:=by rw [beq_eq_false_iff_ne];omega
  clear hm hd hp h13;go_enter Tryz.func99,Tryz.ntmps99;go_upto_region 7 with (first | (go_at_call 48;(with_reducible refine (hs _ gwn).mono ?_);rintro e w1 ⟨rfl,rfl⟩) | (go_at_call 48;(with_reducible refine (hs _ B1).mono ?_);rintro e w1 ⟨rfl,rfl⟩) | ((go_at_call 65;(with_reducible refine (hvr _ gwn).mono ?_);rintro e w1 ⟨rfl,hb1⟩);have B1:=qa2 (a:=w) (B:=w.heap.size) gwn hb1 szz;have s1:=B1.size;have P1:=Blk.below (w':=w1) (g:=w.heap.size+1) (t:=122) (cs:=[.int .i64 0,.int .i64 0,.int .i64 0,.int .i64 0,.int .i64 0,.int .i64 0,.int .i64 0,.int .i64 0,.int .i64 0,.int .i64 0]) blq hb1 szz) | ((go_at_call 66;(with_reducible refine (hpl _).mono ?_);rintro e w2 ⟨rfl,hb2⟩);have B2:=B1.trans (hb2.mono s1);have s2:=B2.size;have P2:=Blk.below P1 hb2 P1.lt) | fail "no arm");refine qd5 (fun W => Blk W (w.heap.size+1) 122 [.int .i64 0,.int .i64 0,.int .i64 0,.int .i64 0,.int .i64 0,.int .i64 0,.int .i64 0,.int .i64 0,.int .i64 0,.int .i64 0]∧Below w.heap.size w W) ⟨P2.alloc _,B2.alloc s2 _⟩ ?_;clear P2 P1 B2 B1 s1 s2 hb1 hb2 hs hvr hpl;rintro W ⟨P2,B2⟩;obtain ⟨x0,x1,x2,x3,x4,x5,x6,x7,x8,x9⟩:=blkT P2;have fz:=P2.frozen;have xl:=P2.lt;go_wp2_with fail;obtain ⟨r0,r1,r2,r3,r4,r5,r6,r7,r8,r9⟩:=blkT (show Blk _ (w.heap.size+1) 122 [.int .i64 0,.int .i64 0,.int .i64 0,.int .i64 0,.int .i64 0,.int .i64 0,.int .i64 0,.int .i64 0,.int .i64 0,.int .i64 0] from ((((((((((P2.set_ 0 (.int .i64 0)).set_ 1 (.int .i64 0)).set_ 2 (.int .i64 0)).set_ 3 (.int .i64 0)).set_ 4 (.int .i64 0)).set_ 5 (.int .i64 0)).set_ 6 (.int .i64 0)).set_ 7 (.int .i64 0)).set_ 8 (.int .i64 0)).set_ 9 (.int .i64 0)));refine bodyPost_ret (v:=.tuple #[.agg #[.int .i64 0,.int .i64 0,.int .i64 0,.int .i64 0,.int .i64 0,.int .i64 0,.int .i64 0,.int .i64 0,.int .i64 0,.int .i64 0],.int .i64 0,.int .i64 2]) (by simp [results,Tryz.results99,go_sem ,r0,r1,r2,r3,r4,r5,r6,r7,r8,r9]) rfl ?_;exact ⟨rfl,gwn⟩
theorem may_yes (hd:qa5 w base q D) (hp:qg2 w x p) (hw:qk7 p) (hv:qf0 p=true) (h13:13≤D.many) (hm:logN (D.many:Nat)=(m:Nat)):Calls Tryz.prog 99 #[.pointer (some ⟨q.d,0,none⟩),.agg #[.slice x.A1 x.n1 x.c1,.slice x.A2 x.n2 x.c2,.int .i64 p.regs,.slice x.A3 x.n3 x.c3,.slice x.A4 x.n4 x.c4]] w fun e' w' => e'=.returned (.tuple #[.agg #[.int .i64 0,.int .i64 1,.int .i64 1,.int .i64 5,.int .i64 6,.int .i64 5,.int .i64 11,.int .i64 (m:Nat),.int .i64 (11+(m:Nat)),.int .i64 (m:Nat)],.int .i64 (qf5 p:Nat),.int .i64 0])∧Below w.heap.size w w':=by
  have hs:=fun (W:World) (hb:Below w.heap.size w W) => (hd.below hb).size_
  have hm4:=hd.many0;have hvr:=fun (W:World) (hb:Below w.heap.size w W) => va9 x p W (hp.below (b:=w.heap.size) hb nlr) hw
  rw [hv] at hvr;have hpl:=fun W => plan_yes (D.many:Nat) W omg omg
  rw [hm] at hpl;have hdg:=fun (W:World) (hb:Below w.heap.size w W) => digof_ok x p W (hp.below (b:=w.heap.size) hb nlr) hw (qm0 hv).1
  have hzb:(((D.many:Nat):Int) == 0)=false:=by rw [beq_eq_false_iff_ne];omega
  have HHN:=hdd (show fnv (qt3 p) % 9223372036854775808=qf5 p from rfl);rw [HHN.out] at hdg;generalize qf5 p=hh at *;clear hm hm4 hd hp h13 HHN;go_enter Tryz.func99,Tryz.ntmps99;go_upto_region 9 with (first | (go_at_call 48;(with_reducible refine (hs _ gwn).mono ?_);rintro e w1 ⟨rfl,rfl⟩) | (go_at_call 48;(with_reducible refine (hs _ B1).mono ?_);rintro e w1 ⟨rfl,rfl⟩) | ((go_at_call 65;(with_reducible refine (hvr _ gwn).mono ?_);rintro e w1 ⟨rfl,hb1⟩);have B1:=qa2 (a:=w) (B:=w.heap.size) gwn hb1 szz;have s1:=B1.size;have X1:=Blk.below (w':=w1) (g:=w.heap.size) (t:=26) (cs:=progC x p) blq hb1 szz;have P1:=Blk.below (w':=w1) (g:=w.heap.size+1) (t:=122) (cs:=[.int .i64 0,.int .i64 0,.int .i64 0,.int .i64 0,.int .i64 0,.int .i64 0,.int .i64 0,.int .i64 0,.int .i64 0,.int .i64 0]) blq hb1 szz) | ((go_at_call 66;(with_reducible refine (hpl _).mono ?_);rintro e w2 ⟨rfl,hb2⟩);have B2:=B1.trans (hb2.mono s1);have s2:=B2.size;have P2:=Blk.below P1 hb2 P1.lt;have X2:=Blk.below X1 hb2 X1.lt;obtain ⟨y0,y1,y2,y3,y4⟩:=blk5 X2;have xl2:=X2.lt) | ((go_at_call 67;(with_reducible refine (hdg _ (B2.alloc s2 _)).mono ?_);rintro e w3 ⟨rfl,hb3⟩)) | fail "no arm");have B3:=(B2.alloc s2 (.cells #[.int .i64 0,.int .i64 1,.int .i64 1,.int .i64 5,.int .i64 6,.int .i64 5,.int .i64 11,.int .i64 (m:Nat),.int .i64 (11+(m:Nat)),.int .i64 (m:Nat)] 122)).trans (hb3.mono (by simp;omega));have s3:=B3.size;have P3:=Blk.below (P2.alloc (.cells #[.int .i64 0,.int .i64 1,.int .i64 1,.int .i64 5,.int .i64 6,.int .i64 5,.int .i64 11,.int .i64 (m:Nat),.int .i64 (11+(m:Nat)),.int .i64 (m:Nat)] 122)) hb3 (by have:=P2.lt;simp;omega);have Q3:Blk w3 w2.heap.size 122 [.int .i64 0,.int .i64 1,.int .i64 1,.int .i64 5,.int .i64 6,.int .i64 5,.int .i64 11,.int .i64 (m:Nat),.int .i64 (11+(m:Nat)),.int .i64 (m:Nat)]:=Blk.below (Blk.top w2 rfl rfl) hb3 smp;obtain ⟨x0,x1,x2,x3,x4,x5,x6,x7,x8,x9⟩:=blkT P3;have fz:=P3.frozen;have xl:=P3.lt;obtain ⟨z0,z1,z2,z3,z4,z5,z6,z7,z8,z9⟩:=blkT Q3;have zl:=Q3.lt;go_wp2_with fail;obtain ⟨r0,r1,r2,r3,r4,r5,r6,r7,r8,r9⟩:=blkT (show Blk _ (w.heap.size+1) 122 [.int .i64 0,.int .i64 1,.int .i64 1,.int .i64 5,.int .i64 6,.int .i64 5,.int .i64 11,.int .i64 (m:Nat),.int .i64 (11+(m:Nat)),.int .i64 (m:Nat)] from ((((((((((P3.set_ 0 (.int .i64 0)).set_ 1 (.int .i64 1)).set_ 2 (.int .i64 1)).set_ 3 (.int .i64 5)).set_ 4 (.int .i64 6)).set_ 5 (.int .i64 5)).set_ 6 (.int .i64 11)).set_ 7 (.int .i64 (m:Nat))).set_ 8 (.int .i64 (11+(m:Nat)))).set_ 9 (.int .i64 (m:Nat))));refine bodyPost_ret (v:=.tuple #[.agg #[.int .i64 0,.int .i64 1,.int .i64 1,.int .i64 5,.int .i64 6,.int .i64 5,.int .i64 11,.int .i64 (m:Nat),.int .i64 (11+(m:Nat)),.int .i64 (m:Nat)],.int .i64 hh,.int .i64 0]) (by simp [results,Tryz.results99,go_sem ,r0,r1,r2,r3,r4,r5,r6,r7,r8,r9]) rfl ?_;exact ⟨rfl,gwn⟩
end
end Go.Proofs.YtmeebofhlilcmaaGreat
