/- Parts: CodeD, Ints, EqInts, CodeE, StateA, StateB, RefNumA. -/
import Derived.Test.YtmeebofhlilcmaaGreatPr04
import Derived.Test.YtmeebofhlilcmaaGreatPr02
import Derived.Test.YtmeebofhlilcmaaGreatPr01
import Derived.Deep.QuietTactic
import Derived.BigQuiet
set_option linter.unusedVariables false
set_option linter.unusedSimpArgs false
set_option maxRecDepth 100000
set_option maxHeartbeats 40000000
namespace Go.Proofs.YtmeebofhlilcmaaGreat
open Go.RowKit
theorem intAt_inj {l m:List Int} (h:l.length=m.length) (hall:∀ i,i<l.length→qa6 l i=qa6 m i):l=m:=by
  apply List.ext_getElem h;intro i h1 h2;have:=hall i h1;simpa [qa6,List.getD_eq_getElem?_getD,h1,h2] using this
theorem ints_any (A B:Option Addr) (n m c d:Nat) (l k:List Int) (w:World) (ha:RI w A n l) (hb:RI w B m k) (hn:n≤maxLen) :
    Calls Tryz.prog 95 #[.slice A n c,.slice B m d] w fun e w' => e=.returned (.bool (decide (l=k)))∧∃ q,w'=w.drewN q:=by
  unfold maxLen at hn
  by_cases hnm:n=m
  · subst hnm;have hlen:l.length=k.length:=ha.1.trans hb.1.symm;have hl:=hdd ha.1;have hk:=hdd hlen;have hnn:(((n:Nat):Int) != (n:Int))=false:=by simp
    clear hlen;generalize hz:decide (l=k)=z;have Hz:=hdd hz;clear hz;go_enter Tryz.func95,Tryz.ntmps95;go_wp2;go_loopw [5] (fun i wr => ∃ j q,j≤n∧i=.int .i64 (j:Nat)∧Hid (∀ i,i<j→qa6 l i=qa6 k i)∧wr=w.drewN q) (fun i _ => n - (intOf i).toNat)
    case atStart => exact ⟨0,0,Nat.zero_le _,rfl,fun i hi => absurd hi omg,rfl⟩
    case round =>
      obtain ⟨j,q,hj,rfl,hall,rfl⟩:=hrel
      by_cases hlt:j<n
      · obtain ⟨b0,o0,rfl,_,hc0⟩:=ha.at_ hlt;obtain ⟨b1,o1,rfl,_,hc1⟩:=hb.at_ hlt;have hlt':(j:Int)<n:=omg
        by_cases heq:qa6 l j=qa6 k j
        · have hE:=hdd heq;have hne:((qa6 l j) != (qa6 k j))=false:=by simp [heq]
          clear heq;go_wp2;go_quiet (fail);go_wp2;go_roundw
          case rel =>
            refine ⟨j+1,q+nq,omg,by go_num,fun i hi => ?_,rfl⟩;rcases Nat.lt_or_ge i j with h | h
            · exact hall.out i h
            · rw [show i=j from by omega];exact hE.out
          case measure => simp [intOf];omega
        · have hE:=hdd heq;have hne:((qa6 l j) != (qa6 k j))=true:=by
            rw [bne_iff_ne];exact heq
          clear heq;go_wp2;go_quiet (fail);go_wp2;go_ret;refine ⟨qg5 ?_,q+nq,World.drewN_drewN _ _ _⟩;rw [← Hz.out,eq_comm,decide_eq_false_iff_not];rintro rfl;exact hE.out rfl
      · go_wp2;go_ret;refine ⟨qg5 ?_,_,rfl⟩;rw [← Hz.out,eq_comm,decide_eq_true_eq];exact intAt_inj hk.out (fun i hi => hall.out i (by have:=hl.out;omega))
  · have hne:(((n:Nat):Int) != (m:Int))=true:=by rw [bne_iff_ne];omega
    have hz:decide (l=k)=false:=by
      rw [decide_eq_false_iff_not];rintro rfl;exact hnm (ha.1.symm.trans hb.1)
    rw [hz];clear hz hnm;go_enter Tryz.func95,Tryz.ntmps95;go_wp2;go_ret;exact ⟨rfl,0,rfl⟩
theorem eqFields_ints {P:Program} (w:World) {it:TypeId} (hit:P.underlying it=some (.int .i64)) (hk:P.plainKey it=true) (d:Nat) (xs ys:List Int):∀ fs:List Field,
    (∀ f ∈ fs,f.type=it∧f.name≠"_"∧f.offset<xs.length∧f.offset<ys.length) →
    (Op.eqFields (d+1) (xs.map iv).toArray (ys.map iv).toArray fs).run P w=.ok (fs.all fun f => xs.getD f.offset 0 == ys.getD f.offset 0) w:=by
  intro fs
  induction fs with
  | nil => intro _;simp [Op.eqFields]
  | cons f fs ih =>
    intro h;obtain ⟨h1,h2,h3,h4⟩:=h f smp;have e1:(xs.map iv).toArray[f.offset]?=some (iv (xs.getD f.offset 0)):=by simp [List.getD_eq_getElem?_getD,h3]
    have e2:(ys.map iv).toArray[f.offset]?=some (iv (ys.getD f.offset 0)):=by simp [List.getD_eq_getElem?_getD,h4]
    have h5:(Op.equalIn (d+1) f.type (iv (xs.getD f.offset 0)) (iv (ys.getD f.offset 0))).run P w=.ok (xs.getD f.offset 0 == ys.getD f.offset 0) w:=by
      rw [h1];exact run_equalIn_int w d it .i64 .i64 _ _ hit
    simp only [Op.eqFields,h2,ne_eq,not_false_eq_true,if_true,Sem.run_bind,run_part_plain w (h1 ▸ hk) e1,run_part_plain w (h1 ▸ hk) e2,Result.andThen_ok,h5,List.all_cons]
    cases hb:(xs.getD f.offset 0 == ys.getD f.offset 0) with
    | false => simp
    | true =>
      simp only [Bool.not_true,Bool.false_eq_true,if_false,Bool.true_and];exact ih fun g hg => h g (by simp [hg])
theorem run_eq_ints {P:Program} (w:World) {t it:TypeId} (hit:P.underlying it=some (.int .i64)) (hk:P.plainKey it=true) {fs:Array Field} (ht:P.underlying t=some (.struct fs)) (hp:P.stoodInHeld t=false) (n:Nat)
    (hfs:(fs.toList.all fun f => f.type == it && (f.name != "_" && decide (f.offset<n)))=true) (hoff:fs.toList.map (·.offset)=List.range n) (xs ys:List Int) (hx:xs.length=n) (hy:ys.length=n) :
    (Op.equalIn 10000 t (.agg (xs.map iv).toArray) (.agg (ys.map iv).toArray)).run P w=.ok (decide (xs=ys)) w:=by
  have hfo:P.fieldsOf t=fs:=by unfold Program.fieldsOf;rw [ht]
  rw [show 10000=9999+1 from rfl,run_equalIn_struct w 9999 _ _ _ (by rw [hfo];exact ht) hp,hfo,show 9999=9998+1 from rfl,
    eqFields_ints w hit hk 9998 xs ys fs.toList (fun f hf => by
      have:=List.all_eq_true.1 hfs f hf;simp only [Bool.and_eq_true,beq_iff_eq,bne_iff_ne,decide_eq_true_eq] at this;exact ⟨this.1,this.2.1,omg,omg⟩)]
  congr 1
  have:(fs.toList.all fun f => xs.getD f.offset 0 == ys.getD f.offset 0)=((fs.toList.map (·.offset)).all fun o => xs.getD o 0 == ys.getD o 0):=by rw [List.all_map];rfl
  rw [this,hoff,Bool.eq_iff_iff,decide_eq_true_eq,List.all_eq_true];constructor
  · intro h;apply List.ext_getElem omg;intro i h1 h2;have:=h i (List.mem_range.2 omg);simpa [List.getD_eq_getElem?_getD,h1,h2] using this
  · rintro rfl i _;simp
structure SV where
  tick:Int
  hash:Int
  cells:List Int
def ql2 (p:PV) (s:SV):Bool:=mayB p && ((decide (0≤s.tick) && decide (0≤s.hash)) && (decide (s.cells.length=p.cells.length) && allK p.cells.length (fun i => okAt (qh4 p.cells i).1 (qa6 s.cells i))))
theorem ql8 {p:PV} {s:SV}:ql2 p s=true ↔ mayB p=true∧0≤s.tick∧0≤s.hash∧s.cells.length=p.cells.length∧∀ i,i<p.cells.length→okAt (qh4 p.cells i).1 (qa6 s.cells i)=true:=by
  unfold ql2;simp only [Bool.and_eq_true,qr1,decide_eq_true_eq];constructor
  · rintro ⟨h1,⟨h2,h3⟩,h4,h5⟩;exact ⟨h1,h2,h3,h4,h5⟩
  · rintro ⟨h1,h2,h3,h4,h5⟩;exact ⟨h1,⟨h2,h3⟩,h4,h5⟩
theorem blk3 {w:World} {g:Nat} {t:TypeId} {v0 v1 v2:Value} (h:Blk w g t [v0,v1,v2]):w.cell? ⟨g,0,none⟩=some v0∧w.cell? ⟨g,1,none⟩=some v1∧w.cell? ⟨g,2,none⟩=some v2:=⟨h.cell 0,h.cell 1,h.cell 2⟩
theorem qx5 (x:PA) (p:PV) (tick hash:Int) (B:Option Addr) (m d:Nat) (l:List Int) (w:World) (h:qg2 w x p) (hl:RI w B m l) (hm:m≤maxLen) :
    Calls Tryz.prog 233 #[.agg #[.slice x.A1 x.n1 x.c1,.slice x.A2 x.n2 x.c2,.int .i64 p.regs,.slice x.A3 x.n3 x.c3,.slice x.A4 x.n4 x.c4],.agg #[.int .i64 tick,.int .i64 hash,.slice B m d]] w
      fun e w' => e=.returned (.bool (ql2 p ⟨tick,hash,l⟩))∧Below w.heap.size w w':=by
  have hmay:=fun w h => qy6 x p w h
  have hI:=@ql8 p ⟨tick,hash,l⟩;generalize ql2 p ⟨tick,hash,l⟩=z at *;have hsub:=h;obtain ⟨r1,r2,r3,r4,k1,k2,k3,k4⟩:=h;obtain ⟨A1,n1,c1,A2,n2,c2,A3,n3,c3,A4,n4,c4⟩:=x;obtain ⟨ins,outs,regs,cells,code⟩:=p;simp only at r1 r2 r3 r4 k1 k2 k3 k4 hmay hI ⊢;rw [r3.1,hl.1] at hI;have HI:=hdd hI;clear hI;have HF:¬ (mayB ⟨ins,outs,regs,cells,code⟩=true∧0≤tick∧0≤hash∧m=n3)→Hid (z=false):=fun h => by
    show z=false
    rw [Bool.eq_false_iff];intro hc;obtain ⟨a1,a2,a3,a4,_⟩:=HI.out.1 hc;exact h ⟨a1,a2,a3,a4⟩
  have HF:=hdd HF;have M3:n3≤9223372036854775807:=by have:=k3.1;have:=k3.2;unfold maxLen at this;omega
  have M4:m≤9223372036854775807:=by unfold maxLen at hm;omega
  clear k1 k2 k3 k4 r1 r2 r4 hm;have hp0:Blk ((w.alloc (.cells #[.slice A1 n1 c1,.slice A2 n2 c2,.int .i64 regs,.slice A3 n3 c3,.slice A4 n4 c4] 26)).alloc (.cells #[.int .i64 tick,.int .i64 hash,.slice B m d] 139)) w.heap.size 26 [.slice A1 n1 c1,.slice A2 n2 c2,.int .i64 regs,.slice A3 n3 c3,.slice A4 n4 c4]:=blq;have hs0:Blk ((w.alloc (.cells #[.slice A1 n1 c1,.slice A2 n2 c2,.int .i64 regs,.slice A3 n3 c3,.slice A4 n4 c4] 26)).alloc (.cells #[.int .i64 tick,.int .i64 hash,.slice B m d] 139)) (w.heap.size+1) 139 [.int .i64 tick,.int .i64 hash,.slice B m d]:=blq
  cases hmb:mayB ⟨ins,outs,regs,cells,code⟩ with
  | false =>
    have hz:=HF.out (by rw [hmb];simp);rw [hmb] at hmay;clear hmb HF HI hp0 hs0;go_enter Tryz.func233,Tryz.ntmps233;go_wp2_with ((go_at_call 153;(with_reducible refine (hmay _ (hsub.below (b:=w.heap.size) gwn nlr)).mono ?_);rintro e w1 ⟨rfl,hb1⟩);replace hb1:=qa2 (a:=w) (B:=w.heap.size) gwn hb1 szz;have hb1s:=hb1.size);go_ret;exact ⟨qg5 hz.out.symm,gwn⟩
  | true =>
    rw [hmb] at hmay;have Hmb:=hdd hmb;rcases (show tick<0∨(0≤tick∧hash<0)∨(0≤tick∧0≤hash∧m≠n3)∨(0≤tick∧0≤hash∧m=n3) by omega) with h | h | h | h
    case inr.inr.inr =>
      obtain ⟨h1,h2,rfl⟩:=h;have f3:(((m:Nat):Int) != (m:Int))=false:=by simp
      have HZ:Hid (z=true ↔ ∀ i,i<m→okAt (qh4 cells i).1 (qa6 l i)=true):=by
        have h9:=HI.out
        show _ ↔ _
        constructor
        · intro h;exact (h9.1 h).2.2.2.2
        · intro h;exact h9.2 ⟨Hmb.out,h1,h2,rfl,h⟩
      clear HF HI hmb;go_enter Tryz.func233,Tryz.ntmps233;go_wp2_with ((go_at_call 153;(with_reducible refine (hmay _ (hsub.below (b:=w.heap.size) gwn nlr)).mono ?_);rintro e w1 ⟨rfl,hb1⟩);have hp1:=hp0.below (w':=w1) hb1 hp0.lt;have hs1:=hs0.below (w':=w1) hb1 hs0.lt;obtain ⟨g0,g1,g2,g3,g4⟩:=blk5 hp1;obtain ⟨j0,j1,j2⟩:=blk3 hs1;replace hb1:=qa2 (a:=w) (B:=w.heap.size) gwn hb1 szz;have hb1s:=hb1.size);clear hp0 hs0;have sz1:=hs1.lt;go_loopw [32] (fun i wr => ∃ k:Nat,k≤m∧i=.int .i64 (k:Nat)∧Hid (∀ i,i<k→okAt (qh4 cells i).1 (qa6 l i)=true)∧Below w.heap.size w wr∧w.heap.size+1<wr.heap.size ∧
          Blk wr (w.heap.size+1) 139 [.int .i64 tick,.int .i64 hash,.slice B m d]) (fun i _ => m - (intOf i).toNat)
      case atStart => exact ⟨0,omg,rfl,fun i hi => absurd hi omg,hb1,sz1,hs1⟩
      case round =>
        clear hp1 hs1 g0 g1 g2 g3 g4 j0 j1 j2 hb1 hb1s sz1;obtain ⟨k,hk,rfl,hall,hbel,hsz,hblk⟩:=hrel;obtain ⟨j0,j1,j2⟩:=blk3 hblk
        by_cases hlt:k<m
        · have hne:¬ (m:Int)≤(k:Int):=omg;obtain ⟨b,o,x,rfl,hb,hx,hc⟩:=(r3.below hbel nlr).at_ qt7 omg hlt;have e0:wr.cell? ⟨b,o+k * 2,none⟩=some (.int .i64 x.1):=hc 0 omg;have e1:wr.cell? ⟨b,o+k * 2+1,none⟩=some (.int .i64 x.2):=hc 1 omg;obtain ⟨b2,o2,rfl,hb2,hc2⟩:=(hl.below hbel nlr).at_ hlt;have hxk:=hdd (qw8 hx);clear hc hx;obtain ⟨t,f⟩:=x;simp only at e0 e1
          cases hvb:okAt t (qa6 l k) with
          | true =>
            have hall':Hid (∀ i,i<k+1→okAt (qh4 cells i).1 (qa6 l i)=true):=fun i hi => by
              rcases Nat.lt_or_ge i k with h | h
              · exact hall.out i h
              · rw [show i=k from by omega,hxk.out];exact hvb
            have h12:=qt5.1 hvb;clear hvb hall
            by_cases ht:t=2
            · have h12':=h12 ht;subst ht;clear h12;rcases h12' with h9 | h9
              all_goals
                rw [h9] at hc2;clear h9;go_wp2;go_roundw
                case rel => exact ⟨k+1,omg,by go_num,hall',gwn,by simp;omega,blq⟩
                case measure => simp [intOf];omega
            · have bt:(t == 2)=false:=by rw [beq_eq_false_iff_ne];exact ht
              clear ht h12;go_wp2;go_roundw
              case rel => exact ⟨k+1,omg,by go_num,hall',gwn,by simp;omega,blq⟩
              case measure => simp [intOf];omega
          | false =>
            have hz:Hid (z=false):=by
              show z=false
              rw [Bool.eq_false_iff];intro hc;have h9:=HZ.out.1 hc k hlt;rw [hxk.out,hvb] at h9
              cases h9
            obtain ⟨h5,h6,h7⟩:=vg9.1 hvb;have b6:(qa6 l k != 0)=true:=by rw [bne_iff_ne];exact h6
            have b7:(qa6 l k != 1)=true:=by rw [bne_iff_ne];exact h7
            subst h5;clear hvb hall h6 h7;generalize qa6 l k=v at *;go_wp2;go_ret;exact ⟨qg5 hz.out.symm,gwn⟩
        · have hkn:k=m:=omg;subst hkn;have hge:(k:Int)≤(k:Int):=omg;have hz:Hid (z=true):=HZ.out.2 hall.out;clear HZ hall;go_wp2;go_ret;exact ⟨qg5 hz.out.symm,hbel⟩
    case' inl => have hz:=HF.out omg
    case' inr.inl =>
      have hz:=HF.out omg;obtain ⟨h1,h2⟩:=h
    case' inr.inr.inl =>
      have hz:=HF.out omg;obtain ⟨h1,h2,h3⟩:=h;have f3:(((m:Nat):Int) != (n3:Int))=true:=by rw [bne_iff_ne];omega
    all_goals
      clear HF HI hmb;go_enter Tryz.func233,Tryz.ntmps233;go_wp2_with ((go_at_call 153;(with_reducible refine (hmay _ (hsub.below (b:=w.heap.size) gwn nlr)).mono ?_);rintro e w1 ⟨rfl,hb1⟩);have hp1:=hp0.below (w':=w1) hb1 hp0.lt;have hs1:=hs0.below (w':=w1) hb1 hs0.lt;obtain ⟨g0,g1,g2,g3,g4⟩:=blk5 hp1;obtain ⟨j0,j1,j2⟩:=blk3 hs1;replace hb1:=qa2 (a:=w) (B:=w.heap.size) gwn hb1 szz;have hb1s:=hb1.size);go_ret;exact ⟨qg5 (by first | exact hz.out.symm | (rw [hz.out];done) | (rw [hz.out];simp;done) | (rw [hz.out];simp;omega)),gwn⟩
end Go.Proofs.YtmeebofhlilcmaaGreat
