/- Parts: EngM. -/
import Derived.Test.YtmeebofhlilcmaaGreatPr02
import Derived.Test.YtmeebofhlilcmaaGreatPr45
set_option linter.unusedVariables false
set_option linter.unusedSimpArgs false
set_option maxRecDepth 100000
set_option maxHeartbeats 40000000
namespace Go.Proofs.YtmeebofhlilcmaaGreat
open Go.RowKit
def ptL (P0 P1 P2 P3:Option Addr):List Value:=[.pointer P0,.pointer P1,.pointer P2,.pointer P3]
def spL (m:Nat):List Value:=[.int .i64 11,.int .i64 (m:Nat),.int .i64 (11+(m:Nat)),.int .i64 (m:Nat),.int .i64 1,.int .i64 5,.int .i64 6,.int .i64 5]
structure PtAt (w0 W:World) (base:Nat) (q:qb9) (g gB pB lB sB m:Nat) (x:PA) (p:PV) (pace:Int) (D:qa1) (P0 P1 P2 P3:Option Addr):Prop where
  d:qa5 W base q D
  b:Blk W g 180 (engN none none none none pace)
  g0:base≤g
  bl:Blk W lB 276 (ptL P0 P1 P2 P3)
  l0:w0.heap.size≤lB
  bs:Blk W sB 120 (spL m)
  bp:Blk W pB 26 (progC x p)
  bg:Blk W gB 45 [.pointer (some ⟨g,0,none⟩)]
  pr:qk8 W base x p
  s:Step mutX base q w0 W
  h0:base≤w0.heap.size
theorem qa5.setT {w:World} {base g:Nat} {q:qb9} {D:qa1} {t:TypeId} {cs:List Value} (h:qa5 w base q D) (hb:Blk w g t cs) (ht:t ∉ 4 :: mutD) (i:Nat) (u:Value):qa5 (w.setCell ⟨g,i,none⟩ u) base q D:=by
  obtain ⟨A9,c9,h9⟩:=h;refine ⟨A9,c9,h9.keep (F:=(·=g)) (Keep.one (qb5 _)) (fun g9 hf e => ?_)⟩;subst e;rcases h9.foot_ty hb hf with q | q | q | q | q <;> exact ht (by rw [q];decide)
section
variable {w0 W W':World} {base g gB pB lB sB m:Nat} {q:qb9} {D D':qa1} {x:PA} {p:PV} {pace:Int} {P0 P1 P2 P3:Option Addr}
theorem PtAt.hs (h:PtAt w0 W base q g gB pB lB sB m x p pace D P0 P1 P2 P3):base≤W.heap.size:=Nat.le_trans h.h0 h.s.size
theorem PtAt.step (h:PtAt w0 W base q g gB pB lB sB m x p pace D P0 P1 P2 P3) (hd:qa5 W' base q D') (t:Step mutD base q W W'):PtAt w0 W' base q g gB pB lB sB m x p pace D' P0 P1 P2 P3 :=
  ⟨hd,h.d.blk h.b t.tch dcd,h.g0,h.d.blk h.bl t.tch dcd,h.l0,h.d.blk h.bs t.tch dcd,h.d.blk h.bp t.tch dcd,h.d.blk h.bg t.tch dcd,h.pr.step h.d t dcd dcd dcd,h.s.trans t.dToX,h.h0⟩
theorem PtAt.below (h:PtAt w0 W base q g gB pB lB sB m x p pace D P0 P1 P2 P3) (hb:Below W.heap.size W W'):PtAt w0 W' base q g gB pB lB sB m x p pace D P0 P1 P2 P3:=h.step (h.d.below hb) (Step.of_below hb h.hs)
theorem PtAt.setStep (h:PtAt w0 W base q g gB pB lB sB m x p pace D P0 P1 P2 P3) (i:Nat) (u:Value):Step [276] base q W (W.setCell ⟨lB,i,none⟩ u):=Step.one (qb5 _) h.bl (List.mem_cons_self ..) (Nat.le_trans h.h0 h.l0) h.hs
theorem PtAt.setL (h:PtAt w0 W base q g gB pB lB sB m x p pace D P0 P1 P2 P3) (i:Nat) (u:Value) {Q0 Q1 Q2 Q3:Option Addr} (he:(ptL P0 P1 P2 P3).set i u=ptL Q0 Q1 Q2 Q3):PtAt w0 (W.setCell ⟨lB,i,none⟩ u) base q g gB pB lB sB m x p pace D Q0 Q1 Q2 Q3:=by
  have t:=h.setStep i u;have hb:=h.bl.set_ i u;rw [he] at hb;have hbel:Below w0.heap.size W (W.setCell ⟨lB,i,none⟩ u):=(Below.refl _ _).setCell h.l0 u;exact ⟨h.d.setT h.bl dcd i u,h.d.blk h.b t.tch dcd,h.g0,hb,h.l0,h.d.blk h.bs t.tch dcd,h.d.blk h.bp t.tch dcd,h.d.blk h.bg t.tch dcd,h.pr.step h.d t dcd dcd dcd,h.s.then_below hbel h.h0,h.h0⟩
theorem PtAt.area (h:PtAt w0 W base q g gB pB lB sB m x p pace D P0 P1 P2 P3) (i:Nat) (u:Value) {a d f n:Nat} (ha:qa8 W a d f n):qa8 (W.setCell ⟨lB,i,none⟩ u) a d f n:=h.d.area ha (h.setStep i u).tch dcd
end
def PtSt (w0:World) (base:Nat) (q:qb9) (g gB pB lB sB m:Nat) (x:PA) (p:PV) (pace:Int) (D:qa1) (k:Nat) (W:World):Prop :=
  (k=0∧PtAt w0 W base q g gB pB lB sB m x p pace D none none none none) ∨
  (k=1∧∃ a0,PtAt w0 W base q g gB pB lB sB m x p pace D (some ⟨a0,0,none⟩) none none none∧qa8 W a0 q.d 11 m) ∨
  (k=2∧∃ a0 a1,PtAt w0 W base q g gB pB lB sB m x p pace D (some ⟨a0,0,none⟩) (some ⟨a1,0,none⟩) none none∧qa8 W a0 q.d 11 m∧qa8 W a1 q.d (11+m) m) ∨
  (k=3∧∃ a0 a1 a2,PtAt w0 W base q g gB pB lB sB m x p pace D (some ⟨a0,0,none⟩) (some ⟨a1,0,none⟩) (some ⟨a2,0,none⟩) none∧qa8 W a0 q.d 11 m∧qa8 W a1 q.d (11+m) m∧qa8 W a2 q.d 1 5) ∨
  (k=4∧∃ a0 a1 a2 a3,PtAt w0 W base q g gB pB lB sB m x p pace D (some ⟨a0,0,none⟩) (some ⟨a1,0,none⟩) (some ⟨a2,0,none⟩) (some ⟨a3,0,none⟩)∧qa8 W a0 q.d 11 m∧qa8 W a1 q.d (11+m) m∧qa8 W a2 q.d 1 5∧qa8 W a3 q.d 6 5)
theorem qy0 (D:qa1) (f m:Nat) (kind:Int) (ts:List Int):(qc2 D f m kind ts).1.many=D.many∧(qc2 D f m kind ts).1.waits.length≤D.waits.length+m:=by
  obtain ⟨a1,a2,_⟩:=vb6 D f m kind;obtain ⟨o,eo⟩:=vk9 (qb7 D f m kind).1 f m kind (qb7 D f m kind).2.1 ts (qb7 D f m kind).2.1;unfold qc2
  split
  · exact ⟨rfl,Nat.le_add_right _ _⟩
  split
  · exact ⟨a1,a2⟩
  split
  · rw [eo];exact ⟨a1,a2⟩
  · rw [eo];exact ⟨a1,a2⟩
structure PaOk (W:World) (base:Nat) (q:qb9) (g m:Nat) (p:PV) (pace hash:Int) (x:PA) (nIn nOut:Nat) (K:KpV):Prop where
  h:∃ gi go gk gl gs ga gb,Blk W g 180 (engN none (some ⟨gi,0,none⟩) (some ⟨go,0,none⟩) (some ⟨gk,0,none⟩) pace)∧qd1 307 W base gi gl 3 nIn p.ins∧qd1 310 W base go gs 4 nOut p.outs∧vq0 W base gk ga gb x p hash K∧qa8 W gl q.d 11 m∧qa8 W gs q.d (11+m) m∧qa8 W ga q.d 1 5∧qa8 W gb q.d 6 5
structure PaPost (w0 W:World) (base:Nat) (q:qb9) (g m:Nat) (p:PV) (pace hash:Int) (x:PA) (R:qa1 × Nat × Nat × KpV × Int):Prop where
  d:qa5 W base q R.1
  b:∃ pi po pk,Blk W g 180 (engN none pi po pk pace)
  s:Step mutX base q w0 W
  ok:R.2.2.2.2=0→PaOk W base q g m p pace hash x R.2.1 R.2.2.1 R.2.2.2.1
section
variable {w w':World} {base g m:Nat} {q:qb9} {D:qa1} {x:PA} {p:PV} {pace:Int}
theorem eparts_any (hb:Blk w g 180 (engN none none none none pace)) (hg:base≤g) (hd:qa5 w base q D) (hs:base≤w.heap.size) (hp:qk8 w base x p) (hw:qk7 p) (hv:qf0 p=true) (hm:1≤m) (big:11+m+m≤D.many) (hwt:D.waits.length<700000) :
    Calls Tryz.prog 104 #[.pointer (some ⟨g,0,none⟩),.pointer (some ⟨q.d,0,none⟩),.agg #[.int .i64 0,.int .i64 1,.int .i64 1,.int .i64 5,.int .i64 6,.int .i64 5,.int .i64 11,.int .i64 (m:Nat),.int .i64 (11+(m:Nat)),.int .i64 (m:Nat)],.agg #[.slice x.A1 x.n1 x.c1,.slice x.A2 x.n2 x.c2,.int .i64 p.regs,.slice x.A3 x.n3 x.c3,.slice x.A4 x.n4 x.c4]] w fun e w' => e=.returned (.int .i64 (qe4 m p (qf5 p:Nat) D).2.2.2.2)∧PaPost w w' base q g m p pace (qf5 p:Nat) x (qe4 m p (qf5 p:Nat) D):=by
  have hd4:=hd.many0;have hnw:∀ (W:World) (f n:Nat),1≤n→f+n≤11+m+m→qa5 W base q D→base≤W.heap.size→Calls Tryz.prog 109 #[.pointer (some ⟨q.d,0,none⟩),.agg #[.int .i64 (f:Nat),.int .i64 (n:Nat)]] W fun e w' => ∃ ga,e=.returned (.tuple #[.pointer (some ⟨ga,0,none⟩),.int .i64 0])∧qa8 w' ga q.d f n∧W.heap.size≤ga∧qa5 w' base q D∧Step mutD base q W w':=fun W f n h1 h2 h3 h4 => s_anew h3 h4 f n h1 omg
  have HB:=hdd hb;have HD:=hdd hd;have HP:=hdd hp;clear hb hd hp;go_enter Tryz.func104,Tryz.ntmps104;go_wp2_with fail;have hbel:Below w.heap.size w (((((w.alloc (.cells #[.pointer (some ⟨g,0,none⟩)] 45)).alloc (.cells #[.int .i64 0,.int .i64 1,.int .i64 1,.int .i64 5,.int .i64 6,.int .i64 5,.int .i64 11,.int .i64 (m:Nat),.int .i64 (11+(m:Nat)),.int .i64 (m:Nat)] 122)).alloc (.cells #[.slice x.A1 x.n1 x.c1,.slice x.A2 x.n2 x.c2,.int .i64 p.regs,.slice x.A3 x.n3 x.c3,.slice x.A4 x.n4 x.c4] 26)).alloc (.cells #[.pointer none,.pointer none,.pointer none,.pointer none] 276)).alloc (.cells #[.int .i64 11,.int .i64 (m:Nat),.int .i64 (11+(m:Nat)),.int .i64 (m:Nat),.int .i64 1,.int .i64 5,.int .i64 6,.int .i64 5] 120)):=gwn;have hlt:=HB.out.lt;have hst0:PtSt w base q g w.heap.size (w.heap.size+1+1) (w.heap.size+1+1+1) (w.heap.size+1+1+1+1) m x p pace D 0 (((((w.alloc (.cells #[.pointer (some ⟨g,0,none⟩)] 45)).alloc (.cells #[.int .i64 0,.int .i64 1,.int .i64 1,.int .i64 5,.int .i64 6,.int .i64 5,.int .i64 11,.int .i64 (m:Nat),.int .i64 (11+(m:Nat)),.int .i64 (m:Nat)] 122)).alloc (.cells #[.slice x.A1 x.n1 x.c1,.slice x.A2 x.n2 x.c2,.int .i64 p.regs,.slice x.A3 x.n3 x.c3,.slice x.A4 x.n4 x.c4] 26)).alloc (.cells #[.pointer none,.pointer none,.pointer none,.pointer none] 276)).alloc (.cells #[.int .i64 11,.int .i64 (m:Nat),.int .i64 (11+(m:Nat)),.int .i64 (m:Nat),.int .i64 1,.int .i64 5,.int .i64 6,.int .i64 5] 120)) :=
    .inl ⟨rfl,HD.out.below hbel,HB.out.below hbel hlt,hg,blq,omg,blq,blq,blq,HP.out.below hbel,Step.of_below hbel hs,hs⟩
  clear hbel;generalize hN1:w.heap.size+1+1=pB at *;generalize hN2:pB+1=lB at *;generalize hN3:lB+1=sB at *;go_loopw [10,12,13,24] (fun _ _ _ i wr => ∃ k:Nat,i=.int .i64 (k:Nat)∧PtSt w base q g w.heap.size pB lB sB m x p pace D k wr) (fun _ _ _ i _ => 4 - (intOf i).toNat)
  case atStart => exact ⟨0,rfl,hst0⟩
  case round =>
    clear hst0;obtain ⟨k,rfl,hst⟩:=hrel;rcases hst with ⟨rfl,h⟩ | ⟨rfl,a0,h,r0⟩ | ⟨rfl,a0,a1,h,r0,r1⟩ | ⟨rfl,a0,a1,a2,h,r0,r1,r2⟩ | ⟨rfl,a0,a1,a2,a3,h,r0,r1,r2,r3⟩
    · have s0:wr.cell? ⟨sB,0,none⟩=some (.int .i64 11):=h.bs.cell 0;have s1:wr.cell? ⟨sB,1,none⟩=some (.int .i64 (m:Nat)):=h.bs.cell 1;have hb1:Below wr.heap.size wr (wr.alloc (.cells #[.int .i64 11,.int .i64 (m:Nat)] 120)):=(Below.refl _ _).alloc nlr _;have h1:=hdd (h.below hb1);have hn:Calls Tryz.prog 109 #[.pointer (some ⟨q.d,0,none⟩),.agg #[.int .i64 11,.int .i64 (m:Nat)]] (wr.alloc (.cells #[.int .i64 11,.int .i64 (m:Nat)] 120)) (fun e w' => ∃ ga,e=.returned (.tuple #[.pointer (some ⟨ga,0,none⟩),.int .i64 0])∧qa8 w' ga q.d 11 m∧(wr.alloc (.cells #[.int .i64 11,.int .i64 (m:Nat)] 120)).heap.size≤ga∧qa5 w' base q D∧Step mutD base q (wr.alloc (.cells #[.int .i64 11,.int .i64 (m:Nat)] 120)) w'):=by
        exact hnw _ 11 m omg omg h1.out.d h1.out.hs
      clear h;go_wp2_with (first | ((go_at_call 109;(with_reducible refine (hn).mono ?_);rintro e w3 ⟨a0,rfl,r3,l3,d3,t3⟩);have H3:=hdd (h1.out.step d3 t3);have k3:w3.cell? ⟨lB,0,none⟩=some (.pointer none):=H3.out.bl.cell 0;have f3:=H3.out.bl.frozen 0;have m3:=H3.out.bl.lt) | fail "no arm");go_roundw
      case rel => first | exact ⟨1,(by first | rfl | go_num | (simp;done)),.inr (.inl ⟨rfl,a0,H3.out.setL 0 (.pointer (some ⟨a0,0,none⟩)) rfl,H3.out.area 0 (.pointer (some ⟨a0,0,none⟩)) r3⟩)⟩ | ((repeat apply Exists.intro);exact ⟨⟨1,(by first | rfl | go_num | (simp;done)),.inr (.inl ⟨rfl,a0,H3.out.setL 0 (.pointer (some ⟨a0,0,none⟩)) rfl,H3.out.area 0 (.pointer (some ⟨a0,0,none⟩)) r3⟩)⟩,rfl⟩)
      case measure => simp [intOf]
    · have s0:wr.cell? ⟨sB,2,none⟩=some (.int .i64 (11+(m:Nat))):=h.bs.cell 2;have s1:wr.cell? ⟨sB,3,none⟩=some (.int .i64 (m:Nat)):=h.bs.cell 3;have hb1:Below wr.heap.size wr (wr.alloc (.cells #[.int .i64 (11+(m:Nat)),.int .i64 (m:Nat)] 120)):=(Below.refl _ _).alloc nlr _;have h1:=hdd (h.below hb1);have q0:=hdd (show qa8 _ a0 q.d 11 m from Blk.below r0 hb1 (Blk.lt r0));have hn:Calls Tryz.prog 109 #[.pointer (some ⟨q.d,0,none⟩),.agg #[.int .i64 (11+(m:Nat)),.int .i64 (m:Nat)]] (wr.alloc (.cells #[.int .i64 (11+(m:Nat)),.int .i64 (m:Nat)] 120)) (fun e w' => ∃ ga,e=.returned (.tuple #[.pointer (some ⟨ga,0,none⟩),.int .i64 0])∧qa8 w' ga q.d (11+m) m∧(wr.alloc (.cells #[.int .i64 (11+(m:Nat)),.int .i64 (m:Nat)] 120)).heap.size≤ga∧qa5 w' base q D∧Step mutD base q (wr.alloc (.cells #[.int .i64 (11+(m:Nat)),.int .i64 (m:Nat)] 120)) w'):=by
        have:=hnw _ (11+m) m hm omg h1.out.d h1.out.hs;rw [show ((11+m:Nat):Int)=11+(m:Int) by omega] at this;exact this
      clear h r0;go_wp2_with (first | ((go_at_call 109;(with_reducible refine (hn).mono ?_);rintro e w3 ⟨a1,rfl,r3,l3,d3,t3⟩);have H3:=hdd (h1.out.step d3 t3);have k3:w3.cell? ⟨lB,1,none⟩=some (.pointer none):=H3.out.bl.cell 1;have f3:=H3.out.bl.frozen 1;have m3:=H3.out.bl.lt) | fail "no arm");go_roundw
      case rel => first | exact ⟨2,(by first | rfl | go_num | (simp;done)),.inr (.inr (.inl ⟨rfl,a0,a1,H3.out.setL 1 (.pointer (some ⟨a1,0,none⟩)) rfl,H3.out.area 1 (.pointer (some ⟨a1,0,none⟩)) (h1.out.d.area q0.out t3.tch dcd),H3.out.area 1 (.pointer (some ⟨a1,0,none⟩)) r3⟩))⟩ | ((repeat apply Exists.intro);exact ⟨⟨2,(by first | rfl | go_num | (simp;done)),.inr (.inr (.inl ⟨rfl,a0,a1,H3.out.setL 1 (.pointer (some ⟨a1,0,none⟩)) rfl,H3.out.area 1 (.pointer (some ⟨a1,0,none⟩)) (h1.out.d.area q0.out t3.tch dcd),H3.out.area 1 (.pointer (some ⟨a1,0,none⟩)) r3⟩))⟩,rfl⟩)
      case measure => simp [intOf]
    · have s0:wr.cell? ⟨sB,4,none⟩=some (.int .i64 1):=h.bs.cell 4;have s1:wr.cell? ⟨sB,5,none⟩=some (.int .i64 5):=h.bs.cell 5;have hb1:Below wr.heap.size wr (wr.alloc (.cells #[.int .i64 1,.int .i64 5] 120)):=(Below.refl _ _).alloc nlr _;have h1:=hdd (h.below hb1);have q0:=hdd (show qa8 _ a0 q.d 11 m from Blk.below r0 hb1 (Blk.lt r0));have q1:=hdd (show qa8 _ a1 q.d (11+m) m from Blk.below r1 hb1 (Blk.lt r1));have hn:Calls Tryz.prog 109 #[.pointer (some ⟨q.d,0,none⟩),.agg #[.int .i64 1,.int .i64 5]] (wr.alloc (.cells #[.int .i64 1,.int .i64 5] 120)) (fun e w' => ∃ ga,e=.returned (.tuple #[.pointer (some ⟨ga,0,none⟩),.int .i64 0])∧qa8 w' ga q.d 1 5∧(wr.alloc (.cells #[.int .i64 1,.int .i64 5] 120)).heap.size≤ga∧qa5 w' base q D∧Step mutD base q (wr.alloc (.cells #[.int .i64 1,.int .i64 5] 120)) w'):=by
        exact hnw _ 1 5 omg omg h1.out.d h1.out.hs
      clear h r0 r1;go_wp2_with (first | ((go_at_call 109;(with_reducible refine (hn).mono ?_);rintro e w3 ⟨a2,rfl,r3,l3,d3,t3⟩);have H3:=hdd (h1.out.step d3 t3);have k3:w3.cell? ⟨lB,2,none⟩=some (.pointer none):=H3.out.bl.cell 2;have f3:=H3.out.bl.frozen 2;have m3:=H3.out.bl.lt) | fail "no arm");go_roundw
      case rel => first | exact ⟨3,(by first | rfl | go_num | (simp;done)),.inr (.inr (.inr (.inl ⟨rfl,a0,a1,a2,H3.out.setL 2 (.pointer (some ⟨a2,0,none⟩)) rfl,H3.out.area 2 (.pointer (some ⟨a2,0,none⟩)) (h1.out.d.area q0.out t3.tch dcd),H3.out.area 2 (.pointer (some ⟨a2,0,none⟩)) (h1.out.d.area q1.out t3.tch dcd),H3.out.area 2 (.pointer (some ⟨a2,0,none⟩)) r3⟩)))⟩ | ((repeat apply Exists.intro);exact ⟨⟨3,(by first | rfl | go_num | (simp;done)),.inr (.inr (.inr (.inl ⟨rfl,a0,a1,a2,H3.out.setL 2 (.pointer (some ⟨a2,0,none⟩)) rfl,H3.out.area 2 (.pointer (some ⟨a2,0,none⟩)) (h1.out.d.area q0.out t3.tch dcd),H3.out.area 2 (.pointer (some ⟨a2,0,none⟩)) (h1.out.d.area q1.out t3.tch dcd),H3.out.area 2 (.pointer (some ⟨a2,0,none⟩)) r3⟩)))⟩,rfl⟩)
      case measure => simp [intOf]
    · have s0:wr.cell? ⟨sB,6,none⟩=some (.int .i64 6):=h.bs.cell 6;have s1:wr.cell? ⟨sB,7,none⟩=some (.int .i64 5):=h.bs.cell 7;have hb1:Below wr.heap.size wr (wr.alloc (.cells #[.int .i64 6,.int .i64 5] 120)):=(Below.refl _ _).alloc nlr _;have h1:=hdd (h.below hb1);have q0:=hdd (show qa8 _ a0 q.d 11 m from Blk.below r0 hb1 (Blk.lt r0));have q1:=hdd (show qa8 _ a1 q.d (11+m) m from Blk.below r1 hb1 (Blk.lt r1));have q2:=hdd (show qa8 _ a2 q.d 1 5 from Blk.below r2 hb1 (Blk.lt r2));have hn:Calls Tryz.prog 109 #[.pointer (some ⟨q.d,0,none⟩),.agg #[.int .i64 6,.int .i64 5]] (wr.alloc (.cells #[.int .i64 6,.int .i64 5] 120)) (fun e w' => ∃ ga,e=.returned (.tuple #[.pointer (some ⟨ga,0,none⟩),.int .i64 0])∧qa8 w' ga q.d 6 5∧(wr.alloc (.cells #[.int .i64 6,.int .i64 5] 120)).heap.size≤ga∧qa5 w' base q D∧Step mutD base q (wr.alloc (.cells #[.int .i64 6,.int .i64 5] 120)) w'):=by
        exact hnw _ 6 5 omg omg h1.out.d h1.out.hs
      clear h r0 r1 r2;go_wp2_with (first | ((go_at_call 109;(with_reducible refine (hn).mono ?_);rintro e w3 ⟨a3,rfl,r3,l3,d3,t3⟩);have H3:=hdd (h1.out.step d3 t3);have k3:w3.cell? ⟨lB,3,none⟩=some (.pointer none):=H3.out.bl.cell 3;have f3:=H3.out.bl.frozen 3;have m3:=H3.out.bl.lt) | fail "no arm");go_roundw
      case rel => first | exact ⟨4,(by first | rfl | go_num | (simp;done)),.inr (.inr (.inr (.inr (⟨rfl,a0,a1,a2,a3,H3.out.setL 3 (.pointer (some ⟨a3,0,none⟩)) rfl,H3.out.area 3 (.pointer (some ⟨a3,0,none⟩)) (h1.out.d.area q0.out t3.tch dcd),H3.out.area 3 (.pointer (some ⟨a3,0,none⟩)) (h1.out.d.area q1.out t3.tch dcd),H3.out.area 3 (.pointer (some ⟨a3,0,none⟩)) (h1.out.d.area q2.out t3.tch dcd),H3.out.area 3 (.pointer (some ⟨a3,0,none⟩)) r3⟩))))⟩ | ((repeat apply Exists.intro);exact ⟨⟨4,(by first | rfl | go_num | (simp;done)),.inr (.inr (.inr (.inr (⟨rfl,a0,a1,a2,a3,H3.out.setL 3 (.pointer (some ⟨a3,0,none⟩)) rfl,H3.out.area 3 (.pointer (some ⟨a3,0,none⟩)) (h1.out.d.area q0.out t3.tch dcd),H3.out.area 3 (.pointer (some ⟨a3,0,none⟩)) (h1.out.d.area q1.out t3.tch dcd),H3.out.area 3 (.pointer (some ⟨a3,0,none⟩)) (h1.out.d.area q2.out t3.tch dcd),H3.out.area 3 (.pointer (some ⟨a3,0,none⟩)) r3⟩))))⟩,rfl⟩)
      case measure => simp [intOf]
    · have hb1:Below wr.heap.size wr (wr.alloc (.cells (prtL (.pointer (some ⟨lB,0,none⟩)) (.pointer (some ⟨pB,0,none⟩)) (.pointer (some ⟨w.heap.size,0,none⟩))).toArray 61)):=(Below.refl _ _).alloc nlr _;have h1:=h.below hb1;have A0:PrAt w (wr.alloc (.cells (prtL (.pointer (some ⟨lB,0,none⟩)) (.pointer (some ⟨pB,0,none⟩)) (.pointer (some ⟨w.heap.size,0,none⟩))).toArray 61)) base q g w.heap.size pB lB wr.heap.size a0 a1 a2 a3 m x p pace D none none none :=
        ⟨h1.d,h1.b,h1.g0,Blk.below r0 hb1 (Blk.lt r0),Blk.below r1 hb1 (Blk.lt r1),Blk.below r2 hb1 (Blk.lt r2),Blk.below r3 hb1 (Blk.lt r3),h1.bl,h1.bp,h1.bg,Blk.top _ rfl rfl,h1.pr,h1.s,h1.hs⟩
      have hF:qe4 m p (qf5 p:Nat) D=if (qc2 D 11 m 3 p.ins).2.2≠0 then ((qc2 D 11 m 3 p.ins).1,0,0,qw5,(qc2 D 11 m 3 p.ins).2.2)
        else if (qc2 (qc2 D 11 m 3 p.ins).1 (11+m) m 4 p.outs).2.2≠0 then ((qc2 (qc2 D 11 m 3 p.ins).1 (11+m) m 4 p.outs).1,(qc2 D 11 m 3 p.ins).2.1,0,qw5,(qc2 (qc2 D 11 m 3 p.ins).1 (11+m) m 4 p.outs).2.2)
        else ((qj1 (qc2 (qc2 D 11 m 3 p.ins).1 (11+m) m 4 p.outs).1 1 5 6 5 p (qf5 p:Nat)).1,(qc2 D 11 m 3 p.ins).2.1,(qc2 (qc2 D 11 m 3 p.ins).1 (11+m) m 4 p.outs).2.1,(qj1 (qc2 (qc2 D 11 m 3 p.ins).1 (11+m) m 4 p.outs).1 1 5 6 5 p (qf5 p:Nat)).2.1,(qj1 (qc2 (qc2 D 11 m 3 p.ins).1 (11+m) m 4 p.outs).1 1 5 6 5 p (qf5 p:Nat)).2.2):=rfl
      obtain ⟨m1,w1⟩:=qy0 D 11 m 3 p.ins;obtain ⟨m2,w2⟩:=qy0 (qc2 D 11 m 3 p.ins).1 (11+m) m 4 p.outs;have f1:=prt1_any A0 hm big omg;have f2:(qc2 D 11 m 3 p.ins).2.2=0→∀ W,PrR1 w W base q g w.heap.size pB lB wr.heap.size a0 a1 a2 a3 m x p pace (qc2 D 11 m 3 p.ins)→Calls Tryz.prog 192 #[.pointer (some ⟨lB,0,none⟩),.pointer (some ⟨pB,0,none⟩),.pointer (some ⟨w.heap.size,0,none⟩)] W fun e w' => e=.returned (.int .i64 (qc2 (qc2 D 11 m 3 p.ins).1 (11+m) m 4 p.outs).2.2)∧PrR2 w w' base q g w.heap.size pB lB wr.heap.size a0 a1 a2 a3 m x p pace (qc2 D 11 m 3 p.ins).2.1 (qc2 (qc2 D 11 m 3 p.ins).1 (11+m) m 4 p.outs):=fun hz W ⟨P,h1,h2⟩ => by
        obtain ⟨gi,rfl,hj⟩:=h2 hz;exact prt2_any h1 hj hm omg omg
      have f3:(qc2 (qc2 D 11 m 3 p.ins).1 (11+m) m 4 p.outs).2.2=0→∀ W,PrR2 w W base q g w.heap.size pB lB wr.heap.size a0 a1 a2 a3 m x p pace (qc2 D 11 m 3 p.ins).2.1 (qc2 (qc2 D 11 m 3 p.ins).1 (11+m) m 4 p.outs)→Calls Tryz.prog 194 #[.pointer (some ⟨lB,0,none⟩),.pointer (some ⟨pB,0,none⟩),.pointer (some ⟨w.heap.size,0,none⟩)] W fun e w' => e=.returned (.int .i64 (qj1 (qc2 (qc2 D 11 m 3 p.ins).1 (11+m) m 4 p.outs).1 1 5 6 5 p (qf5 p:Nat)).2.2)∧PrR3 w w' base q g w.heap.size pB lB wr.heap.size a0 a1 a2 a3 m x p pace (qf5 p:Nat) (qc2 D 11 m 3 p.ins).2.1 (qc2 (qc2 D 11 m 3 p.ins).1 (11+m) m 4 p.outs).2.1 (qj1 (qc2 (qc2 D 11 m 3 p.ins).1 (11+m) m 4 p.outs).1 1 5 6 5 p (qf5 p:Nat)):=fun hz W ⟨gi,P,h1,hi,h2⟩ => by
        obtain ⟨go,rfl,hj⟩:=h2 hz;exact prt3_any h1 hi hj hw hv omg
      have hfst:=first_prt A0.bf (fun W h => h.elim fun P h => h.1.bf) (fun W h => h.elim fun gi h => h.elim fun P h => h.1.bf) f1 f2 (fun _ hz => f3 hz);obtain ⟨FIN,hFIN⟩:∃ FIN,qe4 m p (qf5 p:Nat) D=FIN:=⟨_,rfl⟩;have HFIN:=hdd hFIN;rw [hFIN] at hF;clear hFIN;generalize qc2 D 11 m 3 p.ins=F1 at *;generalize qc2 F1.1 (11+m) m 4 p.outs=F2 at *;generalize qj1 F2.1 1 5 6 5 p (qf5 p:Nat)=F3 at *;have HF:=hdd hF;have hfin:=hfst.mono (R':=fun e w' => e=.returned (.int .i64 FIN.2.2.2.2)∧PaPost w w' base q g m p pace (qf5 p:Nat) x FIN) (fun e w' hp => by
        have hF:=HF.out;rcases hp with ⟨n1,rfl,P,h1,h2⟩ | ⟨n1,n2,rfl,gi,P,h1,hi,h2⟩ | ⟨n1,n2,rfl,gi,go,P,h1,hi,ho,h2⟩
        · rw [if_pos n1] at hF;rw [hF];exact ⟨rfl,h1.d,⟨_,_,_,h1.b⟩,h1.s,fun e => absurd e n1⟩
        · rw [if_neg (by rw [n1];simp),if_pos n2] at hF;rw [hF];exact ⟨rfl,h1.d,⟨_,_,_,h1.b⟩,h1.s,fun e => absurd e n2⟩
        · rw [if_neg (by rw [n1];simp),if_neg (by rw [n2];simp)] at hF;rw [hF];refine ⟨rfl,h1.d,⟨_,_,_,h1.b⟩,h1.s,fun e => ?_⟩;obtain ⟨gk,rfl,hk⟩:=h2 e;exact ⟨gi,go,gk,a0,a1,a2,a3,h1.b,hi,ho,hk,h1.al,h1.as_,h1.aa,h1.ab⟩)
      clear f1 f2 f3 hF hfst h1 A0 hb1 h r0 r1 r2 r3 hnw;go_wp2_with (first | (go_at_call 100;refine hfin.mono ?_;rintro e w5 ⟨rfl,hpost⟩;have HPO:=hdd hpost;clear hpost) | fail "no arm");go_ret;rw [HFIN.out];exact ⟨rfl,HPO.out⟩
end
end Go.Proofs.YtmeebofhlilcmaaGreat
