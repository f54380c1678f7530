/- Parts. -/
import Derived.Test.YtmeebofhlilcmaaGreatPr26
set_option linter.unusedVariables false
set_option linter.unusedSimpArgs false
set_option maxRecDepth 100000
set_option maxHeartbeats 0
namespace Go.Proofs.YtmeebofhlilcmaaGreat
variable {nIn nOut:Nat} {hash:Int}
open Go.RowKit
def ptL (P0 P1 P2 P3:Option Addr):List Value:=[.pointer P0,.pointer P1,.pointer P2,.pointer P3]
def spL (m:Nat):List Value:=[I 11,I (m:Nat),I (11+(m:Nat)),I (m:Nat),I 1,I 5,I 6,I 5]
structure PtAt (w0 W:World)(base:Nat)(q:bE)(g gB pB lB sB m:Nat)(x:PA)(p:PV)(pace:Int)(D:aX)(P0 P1 P2 P3:Option Addr):Prop where
 d:be W base q D
 b:Blk W g 180 (engN none none none none pace)
 g0:base<=g
 bl:Blk W lB 276 (ptL P0 P1 P2 P3)
 l0:w0.heap.size<=lB
 bs:Blk W sB 120 (spL m)
 bp:Blk W pB 26 (progC x p)
 bg:Blk W gB 45 [.pointer (some ⟨g,0,none⟩)]
 pr:ej W base x p
 s:Step mutX base q w0 W
 h0:base<=w0.heap.size
theorem be.setT {w:World}{base g:Nat}{q:bE}{D:aX}{t:TypeId}{cs:List Value}(h:be w base q D)(hb:Blk w g t cs)(ht:t ∉ 4 :: mutD)(i:Nat)(u:Value):be (w.setCell ⟨g,i,none⟩ u) base q D:=by
 obtain⟨A9,c9,h9⟩:=h;refine⟨A9,c9,h9.keep (F:=(·=g)) (Keep.one (dw _)) (fun g9 hf e=>?_)⟩;subst e;rcases h9.foot_ty hb hf with q | q | q | q | q <;> exact ht (by rw[q];decide)
section
variable {w0 W W':World} {base g gB pB lB sB m:Nat} {q:bE} {D D':aX} {x:PA} {p:PV} {pace:Int} {P0 P1 P2 P3:Option Addr}
theorem PtAt.hs (h:PtAt w0 W base q g gB pB lB sB m x p pace D P0 P1 P2 P3):base<=W.heap.size:=ae h.h0 h.s.size
theorem PtAt.step (h:PtAt w0 W base q g gB pB lB sB m x p pace D P0 P1 P2 P3)(hd:be W' base q D')(t:Step mutD base q W W'):PtAt w0 W' base q g gB pB lB sB m x p pace D' P0 P1 P2 P3 :=
 ⟨hd,h.d.blk h.b t.tch aU,h.g0,h.d.blk h.bl t.tch aU,h.l0,h.d.blk h.bs t.tch aU,h.d.blk h.bp t.tch aU,h.d.blk h.bg t.tch aU,h.pr.step h.d t aU aU aU,h.s.trans t.dToX,h.h0⟩
theorem PtAt.below (h:PtAt w0 W base q g gB pB lB sB m x p pace D P0 P1 P2 P3)(hb:Below W.heap.size W W'):PtAt w0 W' base q g gB pB lB sB m x p pace D P0 P1 P2 P3:=h.step (h.d.below hb) (Step.of_below hb h.hs)
theorem PtAt.setStep (h:PtAt w0 W base q g gB pB lB sB m x p pace D P0 P1 P2 P3)(i:Nat)(u:Value):Step [276] base q W (W.setCell ⟨lB,i,none⟩ u):=Step.one (dw _) h.bl (aC ..) (ae h.h0 h.l0) h.hs
theorem PtAt.setL (h:PtAt w0 W base q g gB pB lB sB m x p pace D P0 P1 P2 P3)(i:Nat)(u:Value){Q0 Q1 Q2 Q3:Option Addr}(he:(ptL P0 P1 P2 P3).set i u=ptL Q0 Q1 Q2 Q3):PtAt w0 (W.setCell ⟨lB,i,none⟩ u) base q g gB pB lB sB m x p pace D Q0 Q1 Q2 Q3:=by
 have t:=h.setStep i u;have hb:=h.bl.set_ i u;rw[he] at hb;have hbel:Below w0.heap.size W (W.setCell ⟨lB,i,none⟩ u):=(Below.refl _ _).setCell h.l0 u;exact⟨h.d.setT h.bl aU i u,h.d.blk h.b t.tch aU,h.g0,hb,h.l0,h.d.blk h.bs t.tch aU,h.d.blk h.bp t.tch aU,h.d.blk h.bg t.tch aU,h.pr.step h.d t aU aU aU,h.s.then_below hbel h.h0,h.h0⟩
theorem PtAt.area (h:PtAt w0 W base q g gB pB lB sB m x p pace D P0 P1 P2 P3)(i:Nat)(u:Value){a d f n:Nat}(ha:bD W a d f n):bD (W.setCell ⟨lB,i,none⟩ u) a d f n:=h.d.area ha (h.setStep i u).tch aU
end
def PtSt (w0:World)(base:Nat)(q:bE)(g gB pB lB sB m:Nat)(x:PA)(p:PV)(pace:Int)(D:aX)(k:Nat)(W:World):Prop :=
 (k=0/\PtAt w0 W base q g gB pB lB sB m x p pace D none none none none) \/
 (k=1/\∃ a0,PtAt w0 W base q g gB pB lB sB m x p pace D (some ⟨a0,0,none⟩) none none none/\bD W a0 q.d 11 m) \/
 (k=2/\∃ a0 a1,PtAt w0 W base q g gB pB lB sB m x p pace D (some ⟨a0,0,none⟩) (some ⟨a1,0,none⟩) none none/\bD W a0 q.d 11 m/\bD W a1 q.d (11+m) m) \/
 (k=3/\∃ a0 a1 a2,PtAt w0 W base q g gB pB lB sB m x p pace D (some ⟨a0,0,none⟩) (some ⟨a1,0,none⟩) (some ⟨a2,0,none⟩) none/\bD W a0 q.d 11 m/\bD W a1 q.d (11+m) m/\bD W a2 q.d 1 5) \/
 (k=4/\∃ a0 a1 a2 a3,PtAt w0 W base q g gB pB lB sB m x p pace D (some ⟨a0,0,none⟩) (some ⟨a1,0,none⟩) (some ⟨a2,0,none⟩) (some ⟨a3,0,none⟩)/\bD W a0 q.d 11 m/\bD W a1 q.d (11+m) m/\bD W a2 q.d 1 5/\bD W a3 q.d 6 5)
theorem mO (D:aX)(f m:Nat)(kind:Int)(ts:List Int):(bS D f m kind ts).1.many=D.many/\(bS D f m kind ts).1.waits.length<=D.waits.length+m:=by
 obtain⟨a1,a2,_⟩:=mH D f m kind;obtain⟨o,eo⟩:=pJ (bP D f m kind).1 f m kind (bP D f m kind).2.1 ts (bP D f m kind).2.1;unfold bS
 split
 · exact⟨rfl,Nat.le_add_right _ _⟩
 split
 · exact⟨a1,a2⟩
 split
 · rw[eo];exact⟨a1,a2⟩
 · rw[eo];exact⟨a1,a2⟩
structure PaOk (W:World)(base:Nat)(q:bE)(g m:Nat)(p:PV)(pace hash:Int)(x:PA)(nIn nOut:Nat)(K:KpV):Prop where
 h:∃ gi go gk gl gs ga gb,Blk W g 180 (engN none (some ⟨gi,0,none⟩) (some ⟨go,0,none⟩) (some ⟨gk,0,none⟩) pace)/\cX 307 W base gi gl 3 nIn p.ins/\cX 310 W base go gs 4 nOut p.outs/\kX W base gk ga gb x p hash K/\bD W gl q.d 11 m/\bD W gs q.d (11+m) m/\bD W ga q.d 1 5/\bD W gb q.d 6 5
structure PaPost (w0 W:World)(base:Nat)(q:bE)(g m:Nat)(p:PV)(pace hash:Int)(x:PA)(R:aX × Nat × Nat × KpV × Int):Prop where
 d:be W base q R.1
 b:∃ pi po pk,Blk W g 180 (engN none pi po pk pace)
 s:Step mutX base q w0 W
 ok:R.2.2.2.2=0->PaOk W base q g m p pace hash x R.2.1 R.2.2.1 R.2.2.2.1
section
variable {w w':World} {base g m:Nat} {q:bE} {D:aX} {x:PA} {p:PV} {pace:Int}
theorem eparts_any (hb:Blk w g 180 (engN none none none none pace))(hg:base<=g)(hd:be w base q D)(hs:base<=w.heap.size)(hp:ej w base x p)(hw:eO p)(hv:dF p=true)(hm:1<=m)(big:11+m+m<=D.many)(hwt:D.waits.length<700000) :
 Ca 104 #[.pointer (some ⟨g,0,none⟩),.pointer (some ⟨q.d,0,none⟩),.agg #[I 0,I 1,I 1,I 5,I 6,I 5,I 11,I (m:Nat),I (11+(m:Nat)),I (m:Nat)],.agg #[.slice x.A1 x.n1 x.c1,.slice x.A2 x.n2 x.c2,I p.regs,.slice x.A3 x.n3 x.c3,.slice x.A4 x.n4 x.c4]] w fun e w'=>e=.returned (I (cV m p (cw p:Nat) D).2.2.2.2)/\PaPost w w' base q g m p pace (cw p:Nat) x (cV m p (cw p:Nat) D):=by
 have hd4:=hd.many0;have hnw:∀ (W:World) (f n:Nat),1<=n->f+n<=11+m+m->be W base q D->base<=W.heap.size->Ca 109 #[.pointer (some ⟨q.d,0,none⟩),.agg #[I (f:Nat),I (n:Nat)]] W fun e w'=>∃ ga,e=.returned (.tuple #[.pointer (some ⟨ga,0,none⟩),I 0])/\bD w' ga q.d f n/\W.heap.size<=ga/\be w' base q D/\Step mutD base q W w':=fun W f n h1 h2 h3 h4=>s_anew h3 h4 f n h1 aS
 have HB:=aT hb;have HD:=aT hd;have HP:=aT hp;clear hb hd hp;go_enter Tryz.func104,Tryz.ntmps104;go_wp2_with fail;have hbel:Below w.heap.size w (((((w.alloc (.cells #[.pointer (some ⟨g,0,none⟩)] 45)).alloc (.cells #[I 0,I 1,I 1,I 5,I 6,I 5,I 11,I (m:Nat),I (11+(m:Nat)),I (m:Nat)] 122)).alloc (.cells #[.slice x.A1 x.n1 x.c1,.slice x.A2 x.n2 x.c2,I p.regs,.slice x.A3 x.n3 x.c3,.slice x.A4 x.n4 x.c4] 26)).alloc (.cells #[.pointer none,.pointer none,.pointer none,.pointer none] 276)).alloc (.cells #[I 11,I (m:Nat),I (11+(m:Nat)),I (m:Nat),I 1,I 5,I 6,I 5] 120)):=bc;have hlt:=HB.out.lt;have hst0:PtSt w base q g w.heap.size (w.heap.size+1+1) (w.heap.size+1+1+1) (w.heap.size+1+1+1+1) m x p pace D 0 (((((w.alloc (.cells #[.pointer (some ⟨g,0,none⟩)] 45)).alloc (.cells #[I 0,I 1,I 1,I 5,I 6,I 5,I 11,I (m:Nat),I (11+(m:Nat)),I (m:Nat)] 122)).alloc (.cells #[.slice x.A1 x.n1 x.c1,.slice x.A2 x.n2 x.c2,I p.regs,.slice x.A3 x.n3 x.c3,.slice x.A4 x.n4 x.c4] 26)).alloc (.cells #[.pointer none,.pointer none,.pointer none,.pointer none] 276)).alloc (.cells #[I 11,I (m:Nat),I (11+(m:Nat)),I (m:Nat),I 1,I 5,I 6,I 5] 120)) :=
  .inl ⟨rfl,HD.out.below hbel,HB.out.below hbel hlt,hg,bI,aS,bI,bI,bI,HP.out.below hbel,Step.of_below hbel hs,hs⟩
 clear hbel;generalize hN1:w.heap.size+1+1=pB at *;generalize hN2:pB+1=lB at *;generalize hN3:lB+1=sB at *;go_loopw [10,12,13,24] (fun _ _ _ i wr=>∃ k:Nat,i=I (k:Nat)/\PtSt w base q g w.heap.size pB lB sB m x p pace D k wr) (fun _ _ _ i _=>4 - (intOf i).toNat)
 case atStart=>exact⟨0,rfl,hst0⟩
 case round=>
  clear hst0;obtain⟨k,rfl,hst⟩:=hrel;rcases hst with ⟨rfl,h⟩ | ⟨rfl,a0,h,r0⟩ | ⟨rfl,a0,a1,h,r0,r1⟩ | ⟨rfl,a0,a1,a2,h,r0,r1,r2⟩ | ⟨rfl,a0,a1,a2,a3,h,r0,r1,r2,r3⟩
  · have s0:=h.bs.c0;have s1:=h.bs.c1;have hb1:Below wr.heap.size wr (wr.alloc (.cells #[I 11,I (m:Nat)] 120)):=(Below.refl _ _).alloc aW _;have h1:=aT (h.below hb1);have hn:Ca 109 #[.pointer (some ⟨q.d,0,none⟩),.agg #[I 11,I (m:Nat)]] (wr.alloc (.cells #[I 11,I (m:Nat)] 120)) (fun e w'=>∃ ga,e=.returned (.tuple #[.pointer (some ⟨ga,0,none⟩),I 0])/\bD w' ga q.d 11 m/\(wr.alloc (.cells #[I 11,I (m:Nat)] 120)).heap.size<=ga/\be w' base q D/\Step mutD base q (wr.alloc (.cells #[I 11,I (m:Nat)] 120)) w'):=by
     exact hnw _ 11 m aS aS h1.out.d h1.out.hs
    clear h;go_wp2_with (first | ((go_at_call 109;(with_reducible refine (hn).mono ?_);rintro e w3 ⟨a0,rfl,r3,l3,d3,t3⟩);have H3:=aT (h1.out.step d3 t3);have k3:=H3.out.bl.c0;have f3:=H3.out.bl.frozen 0;have m3:=H3.out.bl.lt) | fail);go_roundw
    case rel=>first | exact⟨1,dU,.inr (.inl ⟨rfl,a0,H3.out.setL 0 (.pointer (some ⟨a0,0,none⟩)) rfl,H3.out.area 0 (.pointer (some ⟨a0,0,none⟩)) r3⟩)⟩ | ((repeat apply Exists.intro);exact⟨⟨1,dU,.inr (.inl ⟨rfl,a0,H3.out.setL 0 (.pointer (some ⟨a0,0,none⟩)) rfl,H3.out.area 0 (.pointer (some ⟨a0,0,none⟩)) r3⟩)⟩,rfl⟩)
    case measure=>simp[intOf]
  · have s0:=h.bs.c2;have s1:=h.bs.c3;have hb1:Below wr.heap.size wr (wr.alloc (.cells #[I (11+(m:Nat)),I (m:Nat)] 120)):=(Below.refl _ _).alloc aW _;have h1:=aT (h.below hb1);have q0:=aT (show bD _ a0 q.d 11 m from Blk.below r0 hb1 (Blk.lt r0));have hn:Ca 109 #[.pointer (some ⟨q.d,0,none⟩),.agg #[I (11+(m:Nat)),I (m:Nat)]] (wr.alloc (.cells #[I (11+(m:Nat)),I (m:Nat)] 120)) (fun e w'=>∃ ga,e=.returned (.tuple #[.pointer (some ⟨ga,0,none⟩),I 0])/\bD w' ga q.d (11+m) m/\(wr.alloc (.cells #[I (11+(m:Nat)),I (m:Nat)] 120)).heap.size<=ga/\be w' base q D/\Step mutD base q (wr.alloc (.cells #[I (11+(m:Nat)),I (m:Nat)] 120)) w'):=by
     have:=hnw _ (11+m) m hm aS h1.out.d h1.out.hs;rw[show ((11+m:Nat):Int)=11+(m:Int) by omega] at this;exact this
    clear h r0;go_wp2_with (first | ((go_at_call 109;(with_reducible refine (hn).mono ?_);rintro e w3 ⟨a1,rfl,r3,l3,d3,t3⟩);have H3:=aT (h1.out.step d3 t3);have k3:=H3.out.bl.c1;have f3:=H3.out.bl.frozen 1;have m3:=H3.out.bl.lt) | fail);go_roundw
    case rel=>first | exact⟨2,dU,.inr (.inr (.inl ⟨rfl,a0,a1,H3.out.setL 1 (.pointer (some ⟨a1,0,none⟩)) rfl,H3.out.area 1 (.pointer (some ⟨a1,0,none⟩)) (h1.out.d.area q0.out t3.tch aU),H3.out.area 1 (.pointer (some ⟨a1,0,none⟩)) r3⟩))⟩ | ((repeat apply Exists.intro);exact⟨⟨2,dU,.inr (.inr (.inl ⟨rfl,a0,a1,H3.out.setL 1 (.pointer (some ⟨a1,0,none⟩)) rfl,H3.out.area 1 (.pointer (some ⟨a1,0,none⟩)) (h1.out.d.area q0.out t3.tch aU),H3.out.area 1 (.pointer (some ⟨a1,0,none⟩)) r3⟩))⟩,rfl⟩)
    case measure=>simp[intOf]
  · have s0:=h.bs.c4;have s1:=h.bs.c5;have hb1:Below wr.heap.size wr (wr.alloc (.cells #[I 1,I 5] 120)):=(Below.refl _ _).alloc aW _;have h1:=aT (h.below hb1);have q0:=aT (show bD _ a0 q.d 11 m from Blk.below r0 hb1 (Blk.lt r0));have q1:=aT (show bD _ a1 q.d (11+m) m from Blk.below r1 hb1 (Blk.lt r1));have hn:Ca 109 #[.pointer (some ⟨q.d,0,none⟩),.agg #[I 1,I 5]] (wr.alloc (.cells #[I 1,I 5] 120)) (fun e w'=>∃ ga,e=.returned (.tuple #[.pointer (some ⟨ga,0,none⟩),I 0])/\bD w' ga q.d 1 5/\(wr.alloc (.cells #[I 1,I 5] 120)).heap.size<=ga/\be w' base q D/\Step mutD base q (wr.alloc (.cells #[I 1,I 5] 120)) w'):=by
     exact hnw _ 1 5 aS aS h1.out.d h1.out.hs
    clear h r0 r1;go_wp2_with (first | ((go_at_call 109;(with_reducible refine (hn).mono ?_);rintro e w3 ⟨a2,rfl,r3,l3,d3,t3⟩);have H3:=aT (h1.out.step d3 t3);have k3:=H3.out.bl.c2;have f3:=H3.out.bl.frozen 2;have m3:=H3.out.bl.lt) | fail);go_roundw
    case rel=>first | exact⟨3,dU,.inr (.inr (.inr (.inl ⟨rfl,a0,a1,a2,H3.out.setL 2 (.pointer (some ⟨a2,0,none⟩)) rfl,H3.out.area 2 (.pointer (some ⟨a2,0,none⟩)) (h1.out.d.area q0.out t3.tch aU),H3.out.area 2 (.pointer (some ⟨a2,0,none⟩)) (h1.out.d.area q1.out t3.tch aU),H3.out.area 2 (.pointer (some ⟨a2,0,none⟩)) r3⟩)))⟩ | ((repeat apply Exists.intro);exact⟨⟨3,dU,.inr (.inr (.inr (.inl ⟨rfl,a0,a1,a2,H3.out.setL 2 (.pointer (some ⟨a2,0,none⟩)) rfl,H3.out.area 2 (.pointer (some ⟨a2,0,none⟩)) (h1.out.d.area q0.out t3.tch aU),H3.out.area 2 (.pointer (some ⟨a2,0,none⟩)) (h1.out.d.area q1.out t3.tch aU),H3.out.area 2 (.pointer (some ⟨a2,0,none⟩)) r3⟩)))⟩,rfl⟩)
    case measure=>simp[intOf]
  · have s0:=h.bs.c6;have s1:=h.bs.c7;have hb1:Below wr.heap.size wr (wr.alloc (.cells #[I 6,I 5] 120)):=(Below.refl _ _).alloc aW _;have h1:=aT (h.below hb1);have q0:=aT (show bD _ a0 q.d 11 m from Blk.below r0 hb1 (Blk.lt r0));have q1:=aT (show bD _ a1 q.d (11+m) m from Blk.below r1 hb1 (Blk.lt r1));have q2:=aT (show bD _ a2 q.d 1 5 from Blk.below r2 hb1 (Blk.lt r2));have hn:Ca 109 #[.pointer (some ⟨q.d,0,none⟩),.agg #[I 6,I 5]] (wr.alloc (.cells #[I 6,I 5] 120)) (fun e w'=>∃ ga,e=.returned (.tuple #[.pointer (some ⟨ga,0,none⟩),I 0])/\bD w' ga q.d 6 5/\(wr.alloc (.cells #[I 6,I 5] 120)).heap.size<=ga/\be w' base q D/\Step mutD base q (wr.alloc (.cells #[I 6,I 5] 120)) w'):=by
     exact hnw _ 6 5 aS aS h1.out.d h1.out.hs
    clear h r0 r1 r2;go_wp2_with (first | ((go_at_call 109;(with_reducible refine (hn).mono ?_);rintro e w3 ⟨a3,rfl,r3,l3,d3,t3⟩);have H3:=aT (h1.out.step d3 t3);have k3:=H3.out.bl.c3;have f3:=H3.out.bl.frozen 3;have m3:=H3.out.bl.lt) | fail);go_roundw
    case rel=>first | exact⟨4,dU,.inr (.inr (.inr (.inr (⟨rfl,a0,a1,a2,a3,H3.out.setL 3 (.pointer (some ⟨a3,0,none⟩)) rfl,H3.out.area 3 (.pointer (some ⟨a3,0,none⟩)) (h1.out.d.area q0.out t3.tch aU),H3.out.area 3 (.pointer (some ⟨a3,0,none⟩)) (h1.out.d.area q1.out t3.tch aU),H3.out.area 3 (.pointer (some ⟨a3,0,none⟩)) (h1.out.d.area q2.out t3.tch aU),H3.out.area 3 (.pointer (some ⟨a3,0,none⟩)) r3⟩))))⟩ | ((repeat apply Exists.intro);exact⟨⟨4,dU,.inr (.inr (.inr (.inr (⟨rfl,a0,a1,a2,a3,H3.out.setL 3 (.pointer (some ⟨a3,0,none⟩)) rfl,H3.out.area 3 (.pointer (some ⟨a3,0,none⟩)) (h1.out.d.area q0.out t3.tch aU),H3.out.area 3 (.pointer (some ⟨a3,0,none⟩)) (h1.out.d.area q1.out t3.tch aU),H3.out.area 3 (.pointer (some ⟨a3,0,none⟩)) (h1.out.d.area q2.out t3.tch aU),H3.out.area 3 (.pointer (some ⟨a3,0,none⟩)) r3⟩))))⟩,rfl⟩)
    case measure=>simp[intOf]
  · have hb1:Below wr.heap.size wr (wr.alloc (.cells (prtL (.pointer (some ⟨lB,0,none⟩)) (.pointer (some ⟨pB,0,none⟩)) (.pointer (some ⟨w.heap.size,0,none⟩))).toArray 61)):=(Below.refl _ _).alloc aW _;have h1:=h.below hb1;have A0:PrAt w (wr.alloc (.cells (prtL (.pointer (some ⟨lB,0,none⟩)) (.pointer (some ⟨pB,0,none⟩)) (.pointer (some ⟨w.heap.size,0,none⟩))).toArray 61)) base q g w.heap.size pB lB wr.heap.size a0 a1 a2 a3 m x p pace D none none none :=
     ⟨h1.d,h1.b,h1.g0,Blk.below r0 hb1 (Blk.lt r0),Blk.below r1 hb1 (Blk.lt r1),Blk.below r2 hb1 (Blk.lt r2),Blk.below r3 hb1 (Blk.lt r3),h1.bl,h1.bp,h1.bg,Blk.top _ rfl rfl,h1.pr,h1.s,h1.hs⟩
    have hF:cV m p (cw p:Nat) D=if (bS D 11 m 3 p.ins).2.2≠0 then ((bS D 11 m 3 p.ins).1,0,0,hJ,(bS D 11 m 3 p.ins).2.2)
     else if (bS (bS D 11 m 3 p.ins).1 (11+m) m 4 p.outs).2.2≠0 then ((bS (bS D 11 m 3 p.ins).1 (11+m) m 4 p.outs).1,(bS D 11 m 3 p.ins).2.1,0,hJ,(bS (bS D 11 m 3 p.ins).1 (11+m) m 4 p.outs).2.2)
     else ((ec (bS (bS D 11 m 3 p.ins).1 (11+m) m 4 p.outs).1 1 5 6 5 p (cw p:Nat)).1,(bS D 11 m 3 p.ins).2.1,(bS (bS D 11 m 3 p.ins).1 (11+m) m 4 p.outs).2.1,(ec (bS (bS D 11 m 3 p.ins).1 (11+m) m 4 p.outs).1 1 5 6 5 p (cw p:Nat)).2.1,(ec (bS (bS D 11 m 3 p.ins).1 (11+m) m 4 p.outs).1 1 5 6 5 p (cw p:Nat)).2.2):=rfl
    obtain⟨m1,w1⟩:=mO D 11 m 3 p.ins;obtain⟨m2,w2⟩:=mO (bS D 11 m 3 p.ins).1 (11+m) m 4 p.outs;have f1:=prt1_any A0 hm big aS;have f2:(bS D 11 m 3 p.ins).2.2=0->∀ W,PrR1 w W base q g w.heap.size pB lB wr.heap.size a0 a1 a2 a3 m x p pace (bS D 11 m 3 p.ins)->Ca 192 #[.pointer (some ⟨lB,0,none⟩),.pointer (some ⟨pB,0,none⟩),.pointer (some ⟨w.heap.size,0,none⟩)] W fun e w'=>e=.returned (I (bS (bS D 11 m 3 p.ins).1 (11+m) m 4 p.outs).2.2)/\PrR2 w w' base q g w.heap.size pB lB wr.heap.size a0 a1 a2 a3 m x p pace (bS D 11 m 3 p.ins).2.1 (bS (bS D 11 m 3 p.ins).1 (11+m) m 4 p.outs):=fun hz W ⟨P,h1,h2⟩=>by
     obtain⟨gi,rfl,hj⟩:=h2 hz;exact prt2_any h1 hj hm aS aS
    have f3:(bS (bS D 11 m 3 p.ins).1 (11+m) m 4 p.outs).2.2=0->∀ W,PrR2 w W base q g w.heap.size pB lB wr.heap.size a0 a1 a2 a3 m x p pace (bS D 11 m 3 p.ins).2.1 (bS (bS D 11 m 3 p.ins).1 (11+m) m 4 p.outs)->Ca 194 #[.pointer (some ⟨lB,0,none⟩),.pointer (some ⟨pB,0,none⟩),.pointer (some ⟨w.heap.size,0,none⟩)] W fun e w'=>e=.returned (I (ec (bS (bS D 11 m 3 p.ins).1 (11+m) m 4 p.outs).1 1 5 6 5 p (cw p:Nat)).2.2)/\PrR3 w w' base q g w.heap.size pB lB wr.heap.size a0 a1 a2 a3 m x p pace (cw p:Nat) (bS D 11 m 3 p.ins).2.1 (bS (bS D 11 m 3 p.ins).1 (11+m) m 4 p.outs).2.1 (ec (bS (bS D 11 m 3 p.ins).1 (11+m) m 4 p.outs).1 1 5 6 5 p (cw p:Nat)):=fun hz W ⟨gi,P,h1,hi,h2⟩=>by
     obtain⟨go,rfl,hj⟩:=h2 hz;exact prt3_any h1 hi hj hw hv aS
    have hfst:=first_prt A0.bf (fun W h=>h.elim fun P h=>h.1.bf) (fun W h=>h.elim fun gi h=>h.elim fun P h=>h.1.bf) f1 f2 (fun _ hz=>f3 hz);obtain⟨FIN,hFIN⟩:∃ FIN,cV m p (cw p:Nat) D=FIN:=⟨_,rfl⟩;have HFIN:=aT hFIN;rw[hFIN] at hF;clear hFIN;generalize bS D 11 m 3 p.ins=F1 at *;generalize bS F1.1 (11+m) m 4 p.outs=F2 at *;generalize ec F2.1 1 5 6 5 p (cw p:Nat)=F3 at *;have HF:=aT hF;have hfin:=hfst.mono (R':=fun e w'=>e=.returned (I FIN.2.2.2.2)/\PaPost w w' base q g m p pace (cw p:Nat) x FIN) (fun e w' hp=>by
     have hF:=HF.out;rcases hp with ⟨n1,rfl,P,h1,h2⟩ | ⟨n1,n2,rfl,gi,P,h1,hi,h2⟩ | ⟨n1,n2,rfl,gi,go,P,h1,hi,ho,h2⟩
     · rw[if_pos n1] at hF;rw[hF];exact⟨rfl,h1.d,⟨_,_,_,h1.b⟩,h1.s,fun e=>absurd e n1⟩
     · rw[if_neg jz,if_pos n2] at hF;rw[hF];exact⟨rfl,h1.d,⟨_,_,_,h1.b⟩,h1.s,fun e=>absurd e n2⟩
     · rw[if_neg jz,if_neg (by rw[n2];simp)] at hF;rw[hF];refine⟨rfl,h1.d,⟨_,_,_,h1.b⟩,h1.s,fun e=>?_⟩;obtain⟨gk,rfl,hk⟩:=h2 e;exact⟨gi,go,gk,a0,a1,a2,a3,h1.b,hi,ho,hk,h1.al,h1.as_,h1.aa,h1.ab⟩)
    clear f1 f2 f3 hF hfst h1 A0 hb1 h r0 r1 r2 r3 hnw;go_wp2_with (first | (go_at_call 100;refine hfin.mono ?_;rintro e w5 ⟨rfl,hpost⟩;have HPO:=aT hpost;clear hpost) | fail);go_ret;rw[HFIN.out];exact⟨rfl,HPO.out⟩
end
structure OpAt (w0 W:World)(base:Nat)(q:bE)(g dB hB lB pB gB gf m:Nat)(x:PA)(p:PV)(hash:Int)(D:aX):Prop where
 d:be W base q D
 g0:base<=g
 bd:Blk W dB 50 [.pointer (some ⟨q.d,0,none⟩)]
 bh:Blk W hB 3 [I hash]
 bl:Blk W lB 122 [I 0,I 1,I 1,I 5,I 6,I 5,I 11,I (m:Nat),I (11+(m:Nat)),I (m:Nat)]
 bp:Blk W pB 26 (progC x p)
 bg:Blk W gB 45 [.pointer (some ⟨g,0,none⟩)]
 bf:Blk W gf 61 (opnL (.pointer (some ⟨dB,0,none⟩)) (.pointer (some ⟨pB,0,none⟩)) (.pointer (some ⟨lB,0,none⟩)) (.pointer (some ⟨hB,0,none⟩)) (.pointer (some ⟨gB,0,none⟩)) (.pointer (some ⟨g,0,none⟩)))
 pr:ej W base x p
 s:Step mutE base q w0 W
 h0:base<=w0.heap.size
section
variable {w0 W W':World} {base g dB hB lB pB gB gf m:Nat} {q:bE} {D D':aX} {x:PA} {p:PV} {hash pace:Int} {e:EP} {E:EgV}
theorem Step.xToE {w w':World}(h:Step mutX base q w w'):Step mutE base q w w':=h.mono aU
theorem OpAt.hs (h:OpAt w0 W base q g dB hB lB pB gB gf m x p hash D):base<=W.heap.size:=ae h.h0 h.s.size
theorem OpAt.step (h:OpAt w0 W base q g dB hB lB pB gB gf m x p hash D)(hd:be W' base q D')(t:Step mutE base q W W'):OpAt w0 W' base q g dB hB lB pB gB gf m x p hash D' :=
 ⟨hd,h.g0,h.d.blk h.bd t.tch aU,h.d.blk h.bh t.tch aU,h.d.blk h.bl t.tch aU,h.d.blk h.bp t.tch aU,h.d.blk h.bg t.tch aU,h.d.blk h.bf t.tch aU,h.pr.step h.d t aU aU aU,h.s.trans t,h.h0⟩
theorem OpAt.below (h:OpAt w0 W base q g dB hB lB pB gB gf m x p hash D)(hb:Below W.heap.size W W'):OpAt w0 W' base q g dB hB lB pB gB gf m x p hash D:=h.step (h.d.below hb) (Step.of_below hb h.hs)
theorem opn1_any (h:OpAt w0 W base q g dB hB lB pB gB gf m x p hash D)(hb:Blk W g 180 (engN none none none none pace)) :
 Ca 101 #[.pointer (some ⟨dB,0,none⟩),.pointer (some ⟨lB,0,none⟩),.pointer (some ⟨hB,0,none⟩)] W fun e w'=>e=.returned (I (jp hash (cP D 0 1 0 1)))/\OpAt w0 w' base q g dB hB lB pB gB gf m x p hash (bN D 0 1 0).1/\Blk w' g 180 (engN none none none none pace):=by
 have how:=owned_any h.d h.hs hash;have c0:=h.bd.c0;have c1:=h.bl.c0;have c2:=h.bl.c1;have c3:=h.bh.c0;have H:=aT h;have HB:=aT hb;generalize jp hash (cP D 0 1 0 1)=z at *;generalize (bN D 0 1 0).1=D1 at *;clear h hb;go_enter Tryz.func101,Tryz.ntmps101;go_wp2_with (first | ((go_at_call 102;(with_reducible refine (how).mono ?_);rintro e w2 ⟨rfl,d2,s2⟩);have H2:=aT (H.out.step d2 s2.dToE);have B2:=aT (H.out.d.blk HB.out s2.tch aU)) | fail);go_ret;exact⟨rfl,H2.out,B2.out⟩
theorem opn2_any (h:OpAt w0 W base q g dB hB lB pB gB gf m x p (cw p:Nat) D)(hb:Blk W g 180 (engN none none none none pace))(hw:eO p)(hv:dF p=true)(hm:1<=m)(big:11+m+m<=D.many)(hwt:D.waits.length<700000) :
 Ca 103 #[.pointer (some ⟨gB,0,none⟩),.pointer (some ⟨dB,0,none⟩),.pointer (some ⟨lB,0,none⟩),.pointer (some ⟨pB,0,none⟩)] W fun e w'=>e=.returned (I (cV m p (cw p:Nat) D).2.2.2.2)/\OpAt w0 w' base q g dB hB lB pB gB gf m x p (cw p:Nat) (cV m p (cw p:Nat) D).1 /\
  ((cV m p (cw p:Nat) D).2.2.2.2=0->PaOk w' base q g m p pace (cw p:Nat) x (cV m p (cw p:Nat) D).2.1 (cV m p (cw p:Nat) D).2.2.1 (cV m p (cw p:Nat) D).2.2.2.1):=by
 have hpa:=eparts_any hb h.g0 h.d h.hs h.pr hw hv hm big hwt;have c0:=h.bd.c0;obtain⟨l0,l1,l2,l3,l4,l5,l6,l7,l8,l9⟩:=blkT h.bl;obtain⟨p0,p1,p2,p3,p4⟩:=blk5 (show Blk W pB _ [.slice x.A1 x.n1 x.c1,.slice x.A2 x.n2 x.c2,I p.regs,.slice x.A3 x.n3 x.c3,.slice x.A4 x.n4 x.c4] from h.bp);have c2:=h.bg.c0;have H:=aT h;generalize cV m p (cw p:Nat) D=R at *;clear h hb;go_enter Tryz.func103,Tryz.ntmps103;go_wp2_with (first | ((go_at_call 104;(with_reducible refine (hpa).mono ?_);rintro e w2 ⟨rfl,r2⟩);have H2:=aT (H.out.step r2.d r2.s.xToE);have R2:=aT r2;clear r2) | fail);go_ret;exact⟨rfl,H2.out,R2.out.ok⟩
def egv0 (nIn nOut:Nat)(K:KpV):EgV:=⟨nIn,nOut,K,[],0,0,0,false,false⟩
theorem opn3_any {K:KpV}(h:OpAt w0 W base q g dB hB lB pB gB gf m x p hash D)(ho:PaOk W base q g m p pace hash x nIn nOut K)(hw:eO p)(hv:dF p=true) :
 Ca 105 #[.pointer (some ⟨pB,0,none⟩),.pointer (some ⟨gB,0,none⟩)] W fun e w'=>e=.returned (I 0)/\OpAt w0 w' base q g dB hB lB pB gB gf m x p hash D/\∃ e,cF w' base q g e m p hash pace (egv0 nIn nOut K):=by
 obtain⟨gi,go,gk,gl,gs,ga,gb,hb,hi,hou,hk,a1,a2,a3,a4⟩:=ho.h;have hbD:Below W.heap.size W W.drew:=Below.drew (Below.refl _ _);have H:=aT (h.below hbD);have hnew:=vnew_yes W.drew H.out.pr.rd hw hv;have HR:=aT (show cX 307 W.drew base gi gl 3 nIn p.ins/\cX 310 W.drew base go gs 4 nOut p.outs/\kX W.drew base gk ga gb x p hash K/\bD W.drew gl q.d 11 m/\bD W.drew gs q.d (11+m) m/\bD W.drew ga q.d 1 5/\bD W.drew gb q.d 6 5/\Blk W.drew g 180 (engN none (some ⟨gi,0,none⟩) (some ⟨go,0,none⟩) (some ⟨gk,0,none⟩) pace) from
  ⟨hi.below hbD,hou.below hbD,hk.below hbD,Blk.below a1 hbD (Blk.lt a1),Blk.below a2 hbD (Blk.lt a2),Blk.below a3 hbD (Blk.lt a3),Blk.below a4 hbD (Blk.lt a4),hb.below hbD hb.lt⟩)
 obtain⟨p0,p1,p2,p3,p4⟩:=blk5 (show Blk W pB _ [.slice x.A1 x.n1 x.c1,.slice x.A2 x.n2 x.c2,I p.regs,.slice x.A3 x.n3 x.c3,.slice x.A4 x.n4 x.c4] from h.bp);have c2:=h.bg.c0;clear h ho hb hi hou hk a1 a2 a3 a4 hbD;go_enter Tryz.func105,Tryz.ntmps105;go_upto_region 1 with fail;go_region_held3 (fun w'=>w'.cell? ⟨gB,0,none⟩=some (.pointer (some ⟨g,0,none⟩))/\w'.cell? ⟨pB,0,none⟩=some (.slice x.A1 x.n1 x.c1)/\w'.cell? ⟨pB,1,none⟩=some (.slice x.A2 x.n2 x.c2)/\w'.cell? ⟨pB,2,none⟩=some (I p.regs)/\w'.cell? ⟨pB,3,none⟩=some (.slice x.A3 x.n3 x.c3)/\w'.cell? ⟨pB,4,none⟩=some (.slice x.A4 x.n4 x.c4)) (first | go_keep | (refine⟨?_,?_,?_,?_,?_,?_⟩ <;> assumption)) (first | ((go_at_call 106;(with_reducible refine (hnew).mono ?_);rintro e w2 ⟨g2,y2,rfl,m2,b2⟩);have H2:=aT (H.out.below b2);have M2:=aT m2;have BB:=aT b2;have X2:=HR.out.2.2.2.2.2.2.2.below b2 HR.out.2.2.2.2.2.2.2.lt;have k0:=X2.c0;have f0:=X2.frozen 0;have gl2:=X2.lt;have X3:=aT X2;have c2:=H2.out.bg.c0;obtain⟨p0,p1,p2,p3,p4⟩:=blk5 (show Blk w2 pB _ [.slice x.A1 x.n1 x.c1,.slice x.A2 x.n2 x.c2,I p.regs,.slice x.A3 x.n3 x.c3,.slice x.A4 x.n4 x.c4] from H2.out.bp);have t2:=Step.engSet (q:=q) X2 H.out.g0 H2.out.hs 0 (.pointer (some ⟨g2,0,none⟩));have H3:=aT (H2.out.step (H2.out.d.engSet X2 0 (.pointer (some ⟨g2,0,none⟩))) t2.eToE);have s2:=H3.out.bg.c0;obtain⟨z0,z1,z2,z3,z4⟩:=blk5 (show Blk (w2.setCell ⟨g,0,none⟩ (.pointer (some ⟨g2,0,none⟩))) pB _ [.slice x.A1 x.n1 x.c1,.slice x.A2 x.n2 x.c2,I p.regs,.slice x.A3 x.n3 x.c3,.slice x.A4 x.n4 x.c4] from H3.out.bp);clear X2 m2 b2) | fail);go_wp2_with fail;go_ret;have b2:=BB.out;obtain⟨hi,hou,hk,a1,a2,a3,a4,hb⟩:=HR.out;have hd2:=H2.out.d;refine⟨rfl,H3.out,⟨g2,gi,go,gk,gl,gs,ga,gb,none,0,0,y2,x⟩,X3.out.set_ 0 _,H.out.g0,?_⟩;have M3:=M2.out base H.out.hs;exact⟨M3.step hd2 t2 aU aU aU aU,(hi.below b2).step hd2 t2 aU aU aU,(hou.below b2).step hd2 t2 aU aU aU,(hk.below b2).step hd2 t2 aU aU aU aU aU aU,cK.nil _ _,hd2.area (Blk.below a1 b2 (Blk.lt a1)) t2.tch aU,hd2.area (Blk.below a2 b2 (Blk.lt a2)) t2.tch aU,hd2.area (Blk.below a3 b2 (Blk.lt a3)) t2.tch aU,hd2.area (Blk.below a4 b2 (Blk.lt a4)) t2.tch aU⟩
end
theorem fOpenV_le (D:aX)(f m:Nat)(kind:Int)(ts:List Int):(bS D f m kind ts).2.1<=m:=by
 obtain⟨_,_,a3⟩:=mH D f m kind;unfold bS
 split
 · exact Nat.zero_le _
 split
 · exact Nat.zero_le _
 split
 · exact Nat.zero_le _
 · exact a3
theorem qc (m:Nat)(p:PV)(hash:Int)(D:aX):(cV m p hash D).1.many=D.many/\(cV m p hash D).1.waits.length<=D.waits.length+m+m/\(cV m p hash D).2.1<=m/\(cV m p hash D).2.2.1<=m/\((cV m p hash D).2.2.2.2=0->∃ D2,(cV m p hash D).2.2.2.1=(ec D2 1 5 6 5 p hash).2.1):=by
 obtain⟨a1,a2⟩:=mO D 11 m 3 p.ins;have a3:=fOpenV_le D 11 m 3 p.ins;obtain⟨b1,b2⟩:=mO (bS D 11 m 3 p.ins).1 (11+m) m 4 p.outs;have b3:=fOpenV_le (bS D 11 m 3 p.ins).1 (11+m) m 4 p.outs;obtain⟨_,c1,c2⟩:=oH (bS (bS D 11 m 3 p.ins).1 (11+m) m 4 p.outs).1 1 5 6 5 p hash;unfold cV prt1V
 split
 · rename_i q;exact⟨a1,by simp only;omega,Nat.zero_le _,Nat.zero_le _,fun e=>absurd e q⟩
 unfold prt2V
 split
 · rename_i q;exact⟨b1.trans a1,by simp only;omega,a3,Nat.zero_le _,fun e=>absurd e q⟩
 · exact⟨c1.trans (b1.trans a1),by show (ec _ 1 5 6 5 p hash).1.waits.length<=_;rw[c2];omega,a3,b3,fun _=>⟨_,rfl⟩⟩
theorem openE_is (m:Nat)(p:PV)(hash pace:Int)(D:aX):fh m p hash pace D =
 if jp hash (cP D 0 1 0 1)≠0 then ((bN D 0 1 0).1,noEg,jp hash (cP D 0 1 0 1))
 else if (cV m p hash (bN D 0 1 0).1).2.2.2.2≠0 then ((cV m p hash (bN D 0 1 0).1).1,noEg,(cV m p hash (bN D 0 1 0).1).2.2.2.2)
 else if ix (eR p (cV m p hash (bN D 0 1 0).1).2.1 (cV m p hash (bN D 0 1 0).1).2.2.1 (cV m p hash (bN D 0 1 0).1).2.2.2.1)≠0 then ((cV m p hash (bN D 0 1 0).1).1,noEg,ix (eR p (cV m p hash (bN D 0 1 0).1).2.1 (cV m p hash (bN D 0 1 0).1).2.2.1 (cV m p hash (bN D 0 1 0).1).2.2.2.1))
 else if (eh m p hash pace (cV m p hash (bN D 0 1 0).1).1 (eR p (cV m p hash (bN D 0 1 0).1).2.1 (cV m p hash (bN D 0 1 0).1).2.2.1 (cV m p hash (bN D 0 1 0).1).2.2.2.1)).2.2≠0 then ((eh m p hash pace (cV m p hash (bN D 0 1 0).1).1 (eR p (cV m p hash (bN D 0 1 0).1).2.1 (cV m p hash (bN D 0 1 0).1).2.2.1 (cV m p hash (bN D 0 1 0).1).2.2.2.1)).1,noEg,(eh m p hash pace (cV m p hash (bN D 0 1 0).1).1 (eR p (cV m p hash (bN D 0 1 0).1).2.1 (cV m p hash (bN D 0 1 0).1).2.2.1 (cV m p hash (bN D 0 1 0).1).2.2.2.1)).2.2)
 else eh m p hash pace (cV m p hash (bN D 0 1 0).1).1 (eR p (cV m p hash (bN D 0 1 0).1).2.1 (cV m p hash (bN D 0 1 0).1).2.2.1 (cV m p hash (bN D 0 1 0).1).2.2.2.1):=by
 unfold fh openO
 by_cases h1:jp hash (cP D 0 1 0 1)≠0
 · rw[if_pos h1,if_pos h1]
 rw[if_neg h1,if_neg h1];generalize (bN D 0 1 0).1=D1;unfold cV openF prt1V;generalize bS D1 11 m 3 p.ins=F
 by_cases h2:F.2.2≠0
 · rw[if_pos h2];simp only[if_pos h2]
 rw[if_neg h2];simp only[if_neg h2];unfold openS prt2V;generalize bS F.1 (11+m) m 4 p.outs=S
 by_cases h3:S.2.2≠0
 · rw[if_pos h3];simp only[if_pos h3]
 rw[if_neg h3];simp only[if_neg h3];unfold openK prt3V;generalize ec S.1 1 5 6 5 p hash=K
 by_cases h4:K.2.2≠0
 · rw[if_pos h4];simp only[if_pos h4]
 rw[if_neg h4];simp only[if_neg h4];unfold ix
 by_cases h5:ic (eR p F.2.1 S.2.1 K.2.1)
 · rw[if_pos h5];simp only[if_pos h5];rw[if_pos aZ]
 · rw[if_neg h5];simp only[if_neg h5];rw[if_neg (c:=(0:Int)≠0) aZ]
theorem beginV_ok {m:Nat}{p:PV}(G:PrgW p m){K:KpV}(h1:nIn<=m)(h2:nOut<=m)(hK:∃ D2,K=(ec D2 1 5 6 5 p hash).2.1)(hz:ix (eR p nIn nOut K)=0):EgOk m p (eR p nIn nOut K):=by
 obtain⟨D2,hK⟩:=hK;have hok:KpOk K:=by rw[hK];exact (oH D2 1 5 6 5 p hash).1
 have hnb:¬ ic (eR p nIn nOut K):=fun q=>by unfold ix at hz;rw[if_pos q] at hz;simp at hz
 unfold ic eR at hnb;simp only at hnb;have hfit:K.has=true->fd p K.last=true/\∀ z ∈ K.last.cells,In64 z:=fun hh=>by
  rw[hK] at hh ⊢;obtain⟨a,b,c,d⟩:=kOpenV_fits D2 1 5 6 5 p hash hh;exact⟨a,by rw[c];exact stRead_in⟩
 obtain⟨c1,c2⟩:=pO G.may G.hw;unfold eR
 cases hh:K.has with
 | false=>
   rw[hh] at hnb;exact⟨h1,h2,Int.le_refl _,by show (0:Int)<=(nIn:Int);omega,Int.le_refl _,Int.le_refl _,Int.le_refl _,Int.le_refl _,c1,c2,hok.2.2,hok.1.1⟩
 | true=>
   obtain⟨f1,f2⟩:=hfit hh;rw[hh] at hnb;simp only[if_true] at hnb;have ht:=(jF.1 f1).2.1;exact⟨h1,h2,ht,by show K.last.tick<=(nIn:Int);omega,Int.le_refl _,ht,Int.le_refl _,ht,fits_cells f1,f2,hok.2.2,hok.1.1⟩
theorem replV_ok {m:Nat}{p:PV}{pace:Int}{D:aX}{E:EgV}(G:PrgW p m)(ok:EgOk m p E):EgOk m p (eh m p hash pace D E).2.1:=by
 have key:∀ (f:Nat) (D:aX) (E:EgV),EgOk m p E->E.tick+(f:Int)=(E.nIn:Int)->EgOk m p (eD m p f D E).2.1:=by
  intro f
  induction f with
  | zero=>intro D E ok _;exact ok
  | succ f ih=>
    intro D E ok ht;have h1:=lN (D:=D) ok G aS;have hun:eD m p (f+1) D E=if (bL m p D E).2.2≠0 then bL m p D E else eD m p f (bL m p D E).1 { (bL m p D E).2.1 with replayed:=(bL m p D E).2.1.replayed+1 }:=rfl;rw[hun];generalize bL m p D E=R at *
    split
    · exact h1.ok
    · rename_i q;have hz:R.2.2=0:=by simpa using q
      have hgo:=h1.go hz;have hrep:=h1.rep;have:=ok.r0;have:=ok.r1;refine ih _ _ ⟨h1.ok.i0,h1.ok.o0,h1.ok.t0,h1.ok.t1,h1.ok.p0,h1.ok.p1,?_,?_,h1.ok.cf,h1.ok.c64,h1.ok.kl,h1.ok.kn⟩ ?_
      · show 0<=R.2.1.replayed+1;omega
      · show R.2.1.replayed+1<=R.2.1.tick;omega
      · show R.2.1.tick+(f:Int)=(R.2.1.nIn:Int);rw[h1.nin];omega
 have h1:=key ((E.nIn:Int) - E.tick).toNat D E ok (by have:=ok.t1;omega);unfold eh;generalize eD m p ((E.nIn:Int) - E.tick).toNat D E=R at *;unfold jo
 split
 · exact h1
 have h2:=(oI (D:=R.1) h1).ok;generalize cU R.1 R.2.1=F at *;unfold iK
 split
 · exact h2
 split
 · exact (mM h2).ok
 · exact h2
