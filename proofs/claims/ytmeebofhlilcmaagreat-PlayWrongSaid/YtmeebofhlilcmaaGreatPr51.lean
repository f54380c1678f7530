/- Parts: EqTwo, Same22, Play40, PlainRoom, PlainRoomB. -/
import Derived.Test.YtmeebofhlilcmaaGreatPr50
set_option linter.unusedVariables false
set_option linter.unusedSimpArgs false
set_option maxRecDepth 100000
set_option maxHeartbeats 0
namespace Go.Proofs.YtmeebofhlilcmaaGreat
variable {it jt:TypeId} {f n:Nat} {kind:Int}
open Go.RowKit
theorem eqFields_two {P:Program}(w:World)(hit:P.underlying it=some (.int .i64))(hk:P.plainKey it=true)(hjt:P.underlying jt=some (.int .i64))(hl:P.plainKey jt=true)(d:Nat)(xs ys:List Int):∀ fs:List Field,
 (∀ f ∈ fs,(f.type=it\/f.type=jt)/\f.name≠"_"/\f.offset<xs.length/\f.offset<ys.length) ->
 (Op.eqFields (d+1) (xs.map iv).toArray (ys.map iv).toArray fs).run P w=.ok (fs.all fun f=>xs.getD f.offset 0 == ys.getD f.offset 0) w:=by
 intro fs
 induction fs with
 | nil=>intro _;simp[Op.eqFields]
 | cons f fs ih=>
   intro h;obtain⟨h1,h2,h3,h4⟩:=h f aZ;have h0:P.underlying f.type=some (.int .i64)/\P.plainKey f.type=true:=by rcases h1 with e | e <;> rw[e] <;> constructor <;> assumption
   have e1:(xs.map iv).toArray[f.offset]?=some (iv (xs.getD f.offset 0)):=by simp[ag,h3]
   have e2:(ys.map iv).toArray[f.offset]?=some (iv (ys.getD f.offset 0)):=by simp[ag,h4]
   have h5:(Op.equalIn (d+1) f.type (iv (xs.getD f.offset 0)) (iv (ys.getD f.offset 0))).run P w=.ok (xs.getD f.offset 0 == ys.getD f.offset 0) w:=run_equalIn_int w d f.type .i64 .i64 _ _ h0.1;simp only[Op.eqFields,h2,ne_eq,not_false_eq_true,if_true,Sem.run_bind,run_part_plain w h0.2 e1,run_part_plain w h0.2 e2,Result.andThen_ok,h5,List.all_cons]
   cases hb:(xs.getD f.offset 0 == ys.getD f.offset 0) with
   | false=>simp
   | true=>
     simp only[Bool.not_true,Bool.false_eq_true,if_false,Bool.true_and];exact ih fun g hg=>h g (by simp[hg])
theorem run_eq_two {P:Program}(w:World){t:TypeId}(hit:P.underlying it=some (.int .i64))(hk:P.plainKey it=true)(hjt:P.underlying jt=some (.int .i64))(hl:P.plainKey jt=true){fs:Array Field}(ht:P.underlying t=some (.struct fs))(hp:P.stoodInHeld t=false)
 (hfs:(fs.toList.all fun f=>(f.type == it || f.type == jt) && (f.name != "_" && decide (f.offset<2)))=true) (hoff:fs.toList.map (·.offset)=List.range 2) (a b c d:Int) :
 (Op.equalIn 10000 t (.agg #[I a,I b]) (.agg #[I c,I d])).run P w=.ok (decide (a=c/\b=d)) w:=by
 have hfo:P.fieldsOf t=fs:=by unfold Program.fieldsOf;rw[ht]
 have e:=eqFields_two w hit hk hjt hl 9998 [a,b] [c,d] fs.toList (fun f hf=>by
  have:=List.all_eq_true.1 hfs f hf;simp only[av,Bool.or_eq_true,beq_iff_eq,ah,aq] at this;exact⟨this.1,this.2.1,this.2.2,this.2.2⟩)
 rw[show 10000=9999+1 from rfl,run_equalIn_struct w 9999 _ _ _ (by rw[hfo];exact ht) hp,hfo,show 9999=9998+1 from rfl];refine Eq.trans e ?_
 congr 1
 have:(fs.toList.all fun f=>[a,b].getD f.offset 0 == [c,d].getD f.offset 0)=((fs.toList.map (·.offset)).all fun o=>[a,b].getD o 0 == [c,d].getD o 0):=by rw[List.all_map];rfl
 rw[this,hoff,Bool.eq_iff_iff,aq];simp[List.range,List.range.loop]
theorem run_eq_reply (w:World)(a b c d:Int):(Op.equalIn 10000 100 (.agg #[I a,I b]) (.agg #[I c,I d])).run Tryz.prog w=.ok (decide (a=c/\b=d)) w :=
 run_eq_two w Tryz.underlying3 bE Tryz.underlying31 bE Tryz.underlying100 bE bE bE a b c d
theorem psame_any (A B:Option Addr)(n m c d:Nat)(l k:List Int)(w:World)(ha:RI w A n l)(hb:RI w B m k)(hn:n<=maxLen) :
 Ca 130 #[.slice A n c,.slice B m d] w fun e w'=>e=.returned (.bool (decide (l=k)))/\∃ q,w'=w.drewN q:=by
 unfold maxLen at hn
 by_cases hnm:n=m
 · subst hnm;have hlen:=ha.1.trans hb.1.symm;have hl:=aT ha.1;have hk:=aT hlen;have hnn:(((n:Nat):Int) != (n:Int))=false:=by simp
   clear hlen;generalize hz:decide (l=k)=z;have Hz:=aT hz;clear hz;go_enter Tryz.func130,Tryz.ntmps130;go_wp2;go_loopw [5] (fun i wr=>∃ j q,j<=n/\i=I (j:Nat)/\Hid (∀ i,i<j->bj l i=bj k i)/\wr=w.drewN q) (fun i _=>n - (intOf i).toNat)
   case atStart=>exact⟨0,0,Nat.zero_le _,rfl,fun i hi=>absurd hi aS,rfl⟩
   case round=>
    obtain⟨j,q,hj,rfl,hall,rfl⟩:=hrel
    by_cases hlt:j<n
    · obtain⟨b0,o0,rfl,_,hc0⟩:=ha.at_ hlt;obtain⟨b1,o1,rfl,_,hc1⟩:=hb.at_ hlt;have hlt':(j:Int)<n:=aS
      by_cases heq:bj l j=bj k j
      · have hE:=aT heq;have hne:((bj l j) != (bj k j))=false:=by simp[heq]
        clear heq;go_wp2;go_quiet (fail);go_wp2;go_roundw
        case rel=>
         refine⟨j+1,q+nq,aS,by go_num,fun i hi=>?_,rfl⟩;rcases az i j with h | h
         · exact hall.out i h
         · rw[show i=j from by omega];exact hE.out
        case measure=>simp[intOf];omega
      · have hE:=aT heq;have hne:((bj l j) != (bj k j))=true:=by
         rw[ah];exact heq
        clear heq;go_wp2;go_quiet (fail);go_wp2;go_ret;refine⟨dH ?_,q+nq,World.drewN_drewN _ _ _⟩;rw[<- Hz.out,eq_comm,aD];rintro rfl;exact hE.out rfl
    · go_wp2;go_ret;refine⟨dH ?_,_,rfl⟩;rw[<- Hz.out,eq_comm,aq];exact intAt_inj hk.out (fun i hi=>hall.out i (by have:=hl.out;omega))
 · have hne:(((n:Nat):Int) != (m:Int))=true:=by rw[ah];omega
   have hz:decide (l=k)=false:=by
    rw[aD];rintro rfl;exact hnm (ha.1.symm.trans hb.1)
   rw[hz];clear hz hnm;go_enter Tryz.func130,Tryz.ntmps130;go_wp2;go_ret;exact⟨rfl,0,rfl⟩
theorem rowssame_any (B C:Option Addr)(n m c d:Nat)(l a:List (List Int))(w:World)(hl:iO w B n l)(ha:iO w C m a)(hn:n<=maxLen)(hm:m<=maxLen) :
 Ca 36 #[.slice B n c,.slice C m d] w fun e w'=>e=.returned (.bool (decide (l=a)))/\Below w.heap.size w w':=by
 have hln:=hl.1;have han:=ha.1;unfold maxLen at hn hm
 by_cases hnm:n=m
 · subst hnm;go_enter Tryz.func36,Tryz.ntmps36;go_wp2;go_loopw [5] (fun i wr=>∃ k:Nat,k<=n/\i=I (k:Nat)/\l.take k=a.take k/\Below w.heap.size w wr) (fun i _=>n - (intOf i).toNat)
   case atStart=>exact⟨0,aS,rfl,rfl,Below.refl _ _⟩
   case round=>
    obtain⟨k,hk,rfl,htk,hbel⟩:=hrel
    by_cases hlt:k<n
    · obtain⟨_,hs,hrd,hcell⟩:=hl.below hbel aX;obtain⟨_,ks,krd,kcell⟩:=ha.below hbel aX;have hsl:k<hs.length:=by rw[hrd.1];exact hlt
      have ksl:k<ks.length:=by rw[krd.1];omega
      have hll:k<l.length:=aS;have hal:k<a.length:=aS;obtain⟨r1,x1⟩:=hcell k _ _ (ap hsl) (ap hll);obtain⟨r2,x2⟩:=kcell k _ _ (ap ksl) (ap hal);obtain⟨b1,o1,hB1,hb1,c1⟩:=hrd.2.at_ hlt;obtain⟨b2,o2,hB2,hb2,c2⟩:=krd.2.at_ (show k<n by omega);rw[gZ hs k hsl] at c1;rw[gZ ks k ksl] at c2;have e1:Hid (l.take (k+1)=l.take k ++ [l[k]]):=aP hll;have e2:Hid (a.take (k+1)=a.take k ++ [a[k]]):=aP hal;have e3:Hid (l[k]?=some l[k]):=ap hll;have e4:Hid (a[k]?=some a[k]):=ap hal;generalize hs[k]=h1 at *;generalize ks[k]=h2 at *;generalize l[k]=L1 at *;generalize a[k]=L2 at *;obtain⟨A1,n1,d1⟩:=h1;obtain⟨A2,n2,d2⟩:=h2;simp only[slV] at c1 c2 r1 x1 r2 x2;have hsame:=psame_any A1 A2 n1 n2 d1 d2 L1 L2 wr.drew r1 r2 x1;have HT:=aT htk;have HL:=aT hlt;clear hcell kcell hrd krd htk;subst hB1 hB2
      by_cases hee:L1=L2
      · have hbn:=am hee;rw[hbn] at hsame;go_wp2;go_region_held3 (fun w'=>w'.cell? ⟨b1,o1+k,none⟩=some (.slice A1 n1 d1)/\w'.cell? ⟨b2,o2+k,none⟩=some (.slice A2 n2 d2)) (first | go_keep | (refine⟨?_,?_⟩ <;> assumption)) (first | (go_at_call 130;(with_reducible refine (hsame).mono ?_);rintro e w2 ⟨rfl,q2,rfl⟩) | fail);have hnx:Hid (l.take (k+1)=a.take (k+1)):=by show _=_;rw[e1.out,e2.out,HT.out,hee]
        clear hee;go_wp2;go_roundw
        case rel=>first
         | exact⟨k+1,aS,by go_num,hnx.out,below_drewN hbel _⟩
         | ((repeat apply Exists.intro);exact⟨⟨k+1,aS,by go_num,hnx.out,below_drewN hbel _⟩,rfl⟩)
        case measure=>simp[intOf];omega
      · have hbn:=aj hee;have hno:Hid (decide (l=a)=false):=by
         show decide (l=a)=false
         rw[aD];intro e;have h0:l[k]?=a[k]?:=by rw[e]
         rw[e3.out,e4.out] at h0;injection h0 with h0;exact hee h0
        rw[hbn] at hsame;clear hee;go_wp2;go_region_held3 (fun w'=>w'.cell? ⟨b1,o1+k,none⟩=some (.slice A1 n1 d1)/\w'.cell? ⟨b2,o2+k,none⟩=some (.slice A2 n2 d2)) (first | go_keep | (refine⟨?_,?_⟩ <;> assumption)) (first | (go_at_call 130;(with_reducible refine (hsame).mono ?_);rintro e w2 ⟨rfl,q2,rfl⟩) | fail);go_wp2;go_ret;exact⟨dH hno.out.symm,below_drewN hbel _⟩
    · have hk9:k=n:=aS;have hyes:Hid (decide (l=a)=true):=by
       show decide (l=a)=true
       rw[decide_eq_true_iff];rw[au aS,au aS] at htk;exact htk
      subst hk9;clear htk;go_wp2;go_ret;exact⟨dH hyes.out.symm,hbel⟩
 · have hno:Hid (decide (l=a)=false):=by
    show decide (l=a)=false
    rw[aD];rintro rfl;exact hnm (hln.symm.trans han)
   have hne:(((n:Nat):Int) != (m:Int))=true:=by rw[ah];omega
   clear hl ha;go_enter Tryz.func36,Tryz.ntmps36;go_wp2;go_ret;exact⟨dH hno.out.symm,Below.refl _ _⟩
def evs40:List DoW:=[⟨1,0,[4],[]⟩,⟨2,1,[],[]⟩,⟨5,-1,[],[]⟩]
def J40 (base gy:Nat)(q:bB)(x:PA)(k:Nat)(rs:List (Int × Int))(W:World):Prop :=
 ∃ st,PlSt W base gy q x du 10 (2000+2000 * k) 2 31 st/\(k=0->rs=[]/\∃ r,st=.on false [] 0 r)/\(k=1->rs=[(0,0)]/\∃ r,st=.on false [[4]] 0 r) /\
   (k=2->rs=[(0,0),(0,1)]/\∃ r,st=.on false [[4]] 1 r)/\(k=3->∃ v,rs=[(0,0),(0,1),(0,v)]/\st=.on false [[4]] 1 v)
section
variable {w:World} {base gy bi be:Nat} {q:bB} {x:PA} {rep:Int}
theorem all40 (h:PlSt w base gy q x du 10 2000 2 31 (.on false [] 0 rep))(hi:Blk w bi 3 [I 4])
 (he:Blk w be 98 [I 1,I 0,.slice (some ⟨bi,0,none⟩) 1 1,.slice none 0 0,I 2,I 1,.slice none 0 0,.slice none 0 0,I 5,I (-1),.slice none 0 0,.slice none 0 0]) :
 Ca 52 #[.pointer (some ⟨gy,0,none⟩),.slice (some ⟨be,0,none⟩) 3 3] w fun e w'=>∃ A' c' v,e=.returned (.slice A' 3 c')/\OwS 2 rpE w' w.heap.size 100 A' 3 c' [(0,0),(0,1),(0,v)]/\PlSt w' base gy q x du 10 8000 2 31 (.on false [[4]] 1 v)/\Step mutP base q w w':=by
 have V:Env du 10 2 31:=lp aS aS rfl aS aS;have f4:cI du.ins [4]=true:=by decide +kernel
 obtain⟨D,hd⟩:=h.disk;have hs:=h.hs;have hI:∀ W,Step mutP base q w W->RI W (some ⟨bi,0,none⟩) 1 [4]:=fun W s=>(Rd.of_block (enc:=iv) (l:=[4]) (hd.blk hi s.tch aU) rfl).ri
 have hE:∀ W,Step mutP base q w W->Blk W be 98 _:=fun W s=>hd.blk he s.tch aU
 have nI:∀ W,RI W none 0 []:=fun W=>⟨rfl,Row.nil _ _ _⟩
 have nB:∀ W,RB W none 0 []:=fun W=>⟨rfl,Row.nil _ _ _⟩
 have i0:eE []:=fun i hi=>by simp at hi
 have i4:eE [4]:=fun i hi=>by
  have:i=0:=by simpa using hi
  subst this
  show -9223372036854775808<=(4:Int)/\(4:Int)<=9223372036854775807
  omega
 have nC:0<0->∀ g,(none:Option Addr).map (·.block)=some g->g<base:=fun h=>absurd h aS
 refine (plall_any (evs:=evs40) (J:=J40 base gy q x) (n:=3) aS rfl ⟨_,h,fun _=>⟨rfl,rep,rfl⟩,aS,by omega,aS⟩ (fun k rs W ⟨st,hst,_⟩=>⟨hst.hs,hst.disk⟩)
  (fun k rs W W' ⟨st,hst,h2⟩ s hD=>⟨st,hst.stepM s hD aU aU aU,h2⟩) ?_).mono fun e w' ⟨A',c',rs,he,ho,⟨st,hst,_,_,_,h3⟩,s⟩=>?_
 · intro k y hy;have hk:k=0\/k=1\/k=2:=by
    have:=List.getElem?_eq_some_iff.1 hy;obtain⟨hl,_⟩:=this;simp[evs40] at hl;omega
   rcases hk with rfl | rfl | rfl
   · obtain rfl:y=⟨1,0,[4],[]⟩:=by simpa [evs40] using hy.symm
     refine⟨be,0,some ⟨bi,0,none⟩,1,1,none,0,0,rfl,fun W s=>⟨(hE W s).lt,(hE W s).c0,(hE W s).c1,(hE W s).c2,(hE W s).c3⟩,fun W rs ⟨st,hst,k0,_⟩ s=>?_⟩;obtain⟨rfl,r,rfl⟩:=k0 rfl;refine (do_st V hst aU (hI W s) bU i4 (fun W' _=>nB W') nC aS aU aS).mono fun e w1 ⟨v,z,he,s1,st',hp,h1⟩=>⟨v,z,he,s1,st',h1,aS,fun _=>?_,aS,aS⟩
     rcases hp with ⟨_,⟨_,_,h9,_⟩ | ⟨_,_,_,h9,_⟩ | ⟨rfl,rfl,_,_,rfl⟩ | ⟨_,_,_,_,h9,_⟩⟩ | ⟨h9,_⟩ | ⟨h9,_⟩ | ⟨h9,_⟩ | ⟨h9,_⟩
     · rw[f4] at h9;exact absurd h9 aU
     · exact absurd h9 aU
     · exact⟨rfl,r,rfl⟩
     · exact absurd h9 aU
     all_goals exact absurd h9 aU
   · obtain rfl:y=⟨2,1,[],[]⟩:=by simpa [evs40] using hy.symm
     refine⟨be,0,none,0,0,none,0,0,rfl,fun W s=>⟨(hE W s).lt,(hE W s).c4,(hE W s).c5,(hE W s).c6,(hE W s).c7⟩,fun W rs ⟨st,hst,_,k0,_⟩ s=>?_⟩;obtain⟨rfl,r,rfl⟩:=k0 rfl;refine (do_st V hst aU (nI W) aS i0 (fun W' _=>nB W') nC aS aU aS).mono fun e w1 ⟨v,z,he,s1,st',hp,h1⟩=>⟨v,z,he,s1,st',h1,aS,by omega,fun _=>?_,aS⟩
     rcases hp with ⟨h9,_⟩ | ⟨_,⟨rfl,hv,rfl⟩ | ⟨_,_,_,h9,_⟩⟩ | ⟨h9,_⟩ | ⟨h9,_⟩ | ⟨h9,_⟩
     · exact absurd h9 aU
     · have hv1:v=1:=by rw[hv];decide
       subst hv1;exact⟨rfl,r,rfl⟩
     all_goals exact absurd h9 aU
   · obtain rfl:y=⟨5,-1,[],[]⟩:=by simpa [evs40] using hy.symm
     refine⟨be,0,none,0,0,none,0,0,rfl,fun W s=>⟨(hE W s).lt,(hE W s).c8,(hE W s).c9,(hE W s).cell 10,(hE W s).cell 11⟩,fun W rs ⟨st,hst,_,_,k0,_⟩ s=>?_⟩;obtain⟨rfl,r,rfl⟩:=k0 rfl;refine (do_st V hst aU (nI W) aS i0 (fun W' _=>nB W') nC aS aU aS).mono fun e w1 ⟨v,z,he,s1,st',hp,h1⟩=>⟨v,z,he,s1,st',h1,aS,by omega,aS,fun _=>?_⟩
     rcases hp with ⟨h9,_⟩ | ⟨h9,_⟩ | ⟨h9,_⟩ | ⟨h9,_⟩ | ⟨_,⟨nx,rfl,n1,n2,_,_,rfl⟩ | ⟨_,_,h9,_⟩⟩
     · exact absurd h9 aU
     · exact absurd h9 aU
     · exact absurd h9 aU
     · exact absurd h9 aU
     · obtain rfl:nx=1:=by simp at n1 n2;omega
       exact⟨v,rfl,rfl⟩
     · exact absurd h9 aU
 · obtain⟨v,rfl,rfl⟩:=h3 rfl;exact⟨A',c',v,he,ho,hst,s⟩
theorem rowsLit {W:World}{g1 g2:Nat}(h1:Blk W g1 3 [I 0])(h2:Blk W g2 22 [.slice (some ⟨g1,0,none⟩) 1 1]):iO W (some ⟨g2,0,none⟩) 1 [[0]] :=
 ⟨rfl,[⟨some ⟨g1,0,none⟩,1,1⟩],Rd.of_block (enc:=slV) (l:=[(⟨some ⟨g1,0,none⟩,1,1⟩:SlV)]) h2 rfl,fun k h L q1 q2=>by
  have hk:k=0:=by
   obtain⟨hl,_⟩:=List.getElem?_eq_some_iff.1 q1;simpa using hl
  subst hk;obtain rfl:(⟨some ⟨g1,0,none⟩,1,1⟩:SlV)=h:=by simpa using q1
  obtain rfl:([0]:List Int)=L:=by simpa using q2
  exact⟨(Rd.of_block (enc:=iv) (l:=[0]) h1 rfl).ri,by show 1<=maxLen;unfold maxLen;omega⟩⟩
theorem replies40 {W:World}{A:Option Addr}{v:Int}(h:RdS 2 rpE W A 3 [(0,0),(0,1),(0,v)]):∃ b o,A=some ⟨b,o,none⟩/\b<W.heap.size/\W.cell? ⟨b,o+2,none⟩=some (I 0)/\W.cell? ⟨b,o+3,none⟩=some (I 1)/\W.cell? ⟨b,o+4,none⟩=some (I 0):=by
 obtain⟨b,o,y1,rfl,hbl,hy1,hc1⟩:=h.at_ mA aS (k:=1) aS;obtain⟨b2,o2,y2,e2,_,hy2,hc2⟩:=h.at_ mA aS (k:=2) aS;obtain⟨rfl,rfl⟩:b=b2/\o=o2:=by simpa using e2
 obtain rfl:((0,1):Int × Int)=y1:=by simpa using hy1
 obtain rfl:((0,v):Int × Int)=y2:=by simpa using hy2
 exact⟨b,o,rfl,hbl,hc1 0 aS,hc1 1 aS,hc2 0 aS⟩
theorem awake40 (w:World):Ca 44 #[] w fun e w'=>e=.returned (.bool true)/\Below w.heap.size w w':=by
 have V:Env du 10 2 31:=lp aS aS rfl aS aS;have cD:=fun (W:World)=>om W
 have cN:=fun {W:World} {x:PA} (hx:∀ W',Below W.heap.size W W'->dG W' W.heap.size x du)=>(show Ca 45 #[.agg #[.slice x.A1 x.n1 x.c1,.slice x.A2 x.n2 x.c2,I du.regs,.slice x.A3 x.n3 x.c3,.slice x.A4 x.n4 x.c4],.agg #[I 31,I 31,I 2]] W fun e w'=>
  ∃ q gy rep,e=.returned (.tuple #[.pointer (some ⟨gy,0,none⟩),I 0])/\PlSt w' W.heap.size gy q x du 10 2000 2 31 (.on false [] 0 rep)/\Below W.heap.size W w' from t_plnew (w:=W) (x:=x) V aU aU hx)
 have cA:=fun {W:World} {base gy bi be:Nat} {q:bB} {x:PA} {rep:Int} (h:PlSt W base gy q x du 10 2000 2 31 (.on false [] 0 rep)) (hi:Blk W bi 3 [I 4]) (he:Blk W be 98 [I 1,I 0,.slice (some ⟨bi,0,none⟩) 1 1,.slice none 0 0,I 2,I 1,.slice none 0 0,.slice none 0 0,I 5,I (-1),.slice none 0 0,.slice none 0 0])=>all40 h hi he
 have g0:cQ du [[4]] 1=[[0]]:=by decide +kernel
 have cO:=fun {W:World} {base gy:Nat} {q:bB} {x:PA} {v:Int} (h:PlSt W base gy q x du 10 8000 2 31 (.on false [[4]] 1 v))=>(show Ca 61 #[.pointer (some ⟨gy,0,none⟩)] W fun e w'=>∃ A c,e=.returned (.tuple #[.slice A 1 c,I 0])/\eT w' W.heap.size A 1 c [[0]]/\Step mutE base q W w'/\∃ D,bc W base q D from by
  obtain⟨g,h1,h2⟩:=h;refine (ploutputs_any V h1 h2).mono fun e w' ⟨A,c,he,hr,ho,s⟩=>⟨A,c,he,?_,s,h2.disk⟩
  rwa [g0] at hr)
 have heq:=fun (a b c d:Int) W=>run_eq_reply W a b c d
 clear V g0;generalize du=P at *;go_enter Tryz.func44,Tryz.ntmps44;go_upto_region 2 with (first | ((go_at_call 26;(with_reducible refine (cD _).mono ?_);rintro e w1 ⟨x1,rfl,px1,bx1⟩);have B1:=aT bx1;have P1:=aT px1;clear px1 bx1) | ((go_at_call 45;(with_reducible refine (cN (fun W' hb=>(P1.out _).below hb)).mono ?_);rintro e w2 ⟨q,gy,rep,rfl,h2,b2⟩);have H2:=aT h2;have B2:=aT (B1.out.trans (b2.mono B1.out.size));clear h2 b2) | fail);go_upto_region 3 with (first | ((go_at_call 52;(with_reducible refine (cA (H2.out.below (w':=(w2.alloc (.cells #[I 4] 3)).alloc (.cells #[I 1,I 0,.slice (some ⟨w2.heap.size,0,none⟩) 1 1,.slice none 0 0,I 2,I 1,.slice none 0 0,.slice none 0 0,I 5,I (-1),.slice none 0 0,.slice none 0 0] 98)) ba) (bi:=w2.heap.size) (be:=w2.heap.size+1) bH bH).mono ?_);rintro e w3 ⟨A3,c3,v,rfl,o3,h3,s3⟩);have H3:=aT h3;have O3:=aT o3;have B3:=aT (B2.out.trans (((show Below w2.heap.size w2 _ from ba).mono B2.out.size).trans (s3.bel.mono B1.out.size)));clear o3 h3 s3) | fail);go_upto_region 4 with (first | ((go_at_call 61;(with_reducible refine (cO H3.out).mono ?_);rintro e w4 ⟨A4,c4,rfl,r4,s4,D4,d4⟩);have R4:=aT r4.rd;have O4:=aT (d4.owS O3.out s4.eToP.tch aU);have B4:=aT (B3.out.trans (s4.bel.mono B1.out.size));clear r4 s4 d4) | fail);obtain⟨b,o,rfl,hbl,r2,r3,r4⟩:=replies40 O4.out.rd;have F5:∀ W,W=(w4.alloc (.cells #[I 0] 3)).alloc (.cells #[.slice (some ⟨w4.heap.size,0,none⟩) 1 1] 22)->Below w4.heap.size w4 W/\iO W (some ⟨w4.heap.size+1,0,none⟩) 1 [[0]]:=by
  rintro W rfl;exact⟨ba,rowsLit (g1:=w4.heap.size) bH bH⟩
 have R5:=aT (R4.out.below (F5 _ rfl).1 aX);have L5:=aT (F5 _ rfl).2;have B5:=aT (B4.out.trans ((F5 _ rfl).1.mono B4.out.size));clear F5;have cS:=fun (W:World) (B C:Option Addr) (c d:Nat) (hl:iO W B 1 [[0]]) (ha:iO W C 1 [[0]])=>(show Ca 36 #[.slice B 1 c,.slice C 1 d] W fun e w'=>e=.returned (.bool true)/\Below W.heap.size W w' from by
  have:=rowssame_any B C 1 1 c d [[0]] [[0]] W hl ha aU aU
  rwa [am rfl] at this)
 go_wp2_with (first | ((go_at_call 36;(with_reducible refine (cS _ _ _ _ _ R5.out L5.out).mono ?_);rintro e w5 ⟨rfl,b5⟩);have B6:=aT (B5.out.trans (b5.mono B5.out.size));clear b5) | fail);go_ret;exact⟨rfl,B6.out⟩
end
section
variable {D:aW} {p:PV} {H m:Nat} {pace:Int}
theorem openV_zeros (kind:Int)(hk:1<=kind):eh br kind=(0,[],53):=by
 unfold eh;rw[if_neg];intro h;have:=(ko h).2.1;exact absurd this aU
theorem mB (D:aW)(k:Nat):(rdK D k).now=D.now/\(rdK D k).off=D.off/\(rdK D k).many=D.many/\(rdK D k).waits=D.waits/\(rdK D k).cut=D.cut/\(rdK D k).might=D.might/\(rdK D k).room=D.room:=by
 obtain⟨o,e⟩:=gg D k;rw[e];exact⟨rfl,rfl,rfl,rfl,rfl,rfl,rfl⟩
theorem jopen_blank (k1:1<=kind)(k2:kind<=255)(hoff:D.off=false)(hz:∀ n,n<m->bT D.now ((f+n:Nat):Int)=br):bP D f m kind=(rdK D m,0,0):=by
 have hs:(bZ D.now f kind m).2=(0,[]):=by
  have:=(scan_clean (now:=D.now) (f:=f) (nx:=0) (m:=m) (kind:=kind) (fun n h=>by omega) (fun n _ h=>hz n h) m aX).1
  rwa [Nat.min_zero] at this
 have hj:eb D f m kind=(rdK D m,0):=by
  unfold eb;rw[hs]
  rfl
 unfold bP;rw[if_neg aS,if_neg (by rw[hoff];simp),hj,if_neg aZ,hs,if_pos rfl]
theorem pY {ts:List Int}(hr:dj ts=true)(k1:1<=kind)(k2:kind<=255)(hoff:D.off=false)(hz:∀ n,n<m->bT D.now ((f+n:Nat):Int)=br):bS D f m kind ts=(rdK D m,0,0):=by
 have hj:=jopen_blank k1 k2 hoff hz;unfold bS;rw[if_neg (by rw[hr];simp),hj,if_neg aZ]
 rfl
theorem pZ (hoff:D.off=false)(hf:f+n<=D.many)(hn:1<=n)(hz:bT D.now (f:Int)=br):cd D f n=(cw D,[],0,53):=by
 have hr:bN D f n 0=(cw D,br,0):=by
  have:=jo (D:=D) (f:=f) (m:=n) (k:=0) hoff hf aS;rw[Nat.add_zero,hz] at this;exact this
 have ht:cL D f n 0 2=(0,[],53):=by
  unfold cL;rw[hr,if_neg aZ];exact openV_zeros 2 aS
 unfold cd;rw[ht,hr,if_pos aZ]
theorem kopen_blank {H:Int}(hv:dw p=true)(hoff:D.off=false)(hm:11<=D.many)(h1:bT D.now 1=br)(h6:bT D.now 6=br):dE D 1 5 6 5 p H=(cw (cw D),⟨⟨2,0,[]⟩,fg,false⟩,0):=by
 have hl:=pZ (f:=1) (n:=5) hoff aS aS h1;have hr:=pZ (D:=cw D) (f:=6) (n:=5) hoff (by show 6+5<=D.many;omega) aS h6;have ho:dc D 1 5 6 5=(cw (cw D),⟨2,0,[]⟩,0):=by
  unfold dc;rw[hl,hr];simp
 unfold dE;rw[if_neg (by rw[hv];simp),ho,if_neg aZ];unfold jL;simp
theorem open_blank (G:Prg p H m pace)(hoff:D.off=false)(big:11+m+m<=D.many)(root:bT D.now 0=bQ 1 H [])(hz:∀ k:Nat,1<=k->k<11+m+m->bT D.now (k:Int)=br):(eG m p (H:Int) pace D).2.2=0/\(eG m p (H:Int) pace D).1.many=D.many:=by
 have hm1:=G.m1;have hH:=G.h63;have hp:=G.pc;have hrd:bN D 0 1 0=(cw D,bQ 1 H [],0):=by
  have:=jo (D:=D) (f:=0) (m:=1) (k:=0) hoff aS aS;rw[Nat.add_zero] at this;rw[<- root];exact this
 have htk:cL D 0 1 0 1=((H:Int),[],0):=by
  obtain⟨o1,o2,o3⟩:=lN (kind:=1) (n:=H) (load:=[]) aS aS hH aZ;rw[show (1:Int).toNat=1 from rfl] at o1 o2 o3;unfold cL;rw[hrd,if_neg aZ]
  show eh (bQ 1 H []) 1=_
  unfold eh;rw[if_pos o1,o2,o3];unfold sg;rw[if_pos hH]
 have f1:bS (cw D) 11 m 3 p.ins=(rdK (cw D) m,0,0):=pY G.ins aS aS hoff (fun n hn=>hz (11+n) aS aS);obtain⟨n1,n2,n3,_⟩:=mB (cw D) m;have f2:bS (rdK (cw D) m) (11+m) m 4 p.outs=(rdK (rdK (cw D) m) m,0,0):=pY G.outs aS aS (n2.trans hoff) (fun n hn=>by rw[n1];exact hz (11+m+n) aS aS);obtain⟨q1,q2,q3,_⟩:=mB (rdK (cw D) m) m;have k1:dE (rdK (rdK (cw D) m) m) 1 5 6 5 p (H:Int)=(cw (cw (rdK (rdK (cw D) m) m)),⟨⟨2,0,[]⟩,fg,false⟩,0):=kopen_blank G.hv (q2.trans (n2.trans hoff)) (by rw[q3,n3];show 11<=D.many;omega) (by rw[q1,n1];exact hz 1 aS aS) (by rw[q1,n1];exact hz 6 aS aS);unfold eG;rw[htk,hrd];unfold openO;rw[if_neg (by unfold iL;simp),f1];unfold openF;rw[if_neg aZ]
 show (openS m p (H:Int) pace 0 (bS (rdK (cw D) m) (11+m) m 4 p.outs)).2.2=0/\(openS m p (H:Int) pace 0 (bS (rdK (cw D) m) (11+m) m 4 p.outs)).1.many=D.many
 rw[f2];unfold openS;rw[if_neg aZ]
 show (openK m p (H:Int) pace 0 0 (dE (rdK (rdK (cw D) m) m) 1 5 6 5 p (H:Int))).2.2=0/\(openK m p (H:Int) pace 0 0 (dE (rdK (rdK (cw D) m) m) 1 5 6 5 p (H:Int))).1.many=D.many
 rw[k1];have hmany:(cw (cw (rdK (rdK (cw D) m) m))).many=D.many:=q3.trans n3;generalize cw (cw (rdK (rdK (cw D) m) m))=D3 at hmany ⊢;have hb:¬ gu (dP p 0 0 ⟨⟨2,0,[]⟩,fg,false⟩):=by
  unfold gu dP;simp
 have hr:ee m p (H:Int) pace D3 (dP p 0 0 ⟨⟨2,0,[]⟩,fg,false⟩)=(D3,dP p 0 0 ⟨⟨2,0,[]⟩,fg,false⟩,0):=by
  unfold ee;have:((((dP p 0 0 ⟨⟨2,0,[]⟩,fg,false⟩).nIn:Int) - (dP p 0 0 ⟨⟨2,0,[]⟩,fg,false⟩).tick).toNat)=0:=by unfold dP;simp
  rw[this];unfold et iK;rw[if_neg aZ];unfold cR;rw[if_pos (by unfold dP;rfl)];unfold gU;rw[if_neg aZ,if_neg (by unfold dP;show ¬ pace<=0;omega)]
 unfold openK;rw[if_neg aZ,if_neg hb,hr,if_neg aZ];exact⟨rfl,hmany⟩
end
section
variable {D:aW}
theorem dirty_blank (now:List UInt8)(f a:Nat):∀ k,(∀ j,j<k->bT now ((f+(a+j):Nat):Int)=br)->dZ now f a k=[]:=by
 intro k
 induction k with
 | zero=>intro _;rfl
 | succ k ih=>
   intro h;unfold dZ;rw[if_pos (h k aS)];exact ih fun j hj=>h j aS
theorem p6 {m a k:Nat}(hoff:D.off=false)(hz:∀ j,j<k->bT D.now ((f+(a+j):Nat):Int)=br):cC D f m a k=(rdK D k,0):=by
 unfold cC;rw[if_neg (by rw[hoff];simp),dirty_blank _ _ _ _ hz]
 rfl
theorem ot {k:Nat}(hk:k<n):bT (List.replicate (n * 128) (0:UInt8)) (k:Int)=br:=by
 unfold bT;rw[List.drop_replicate,List.take_replicate];rw[show min 128 (n * 128 - (k:Int).toNat * 128)=128 by omega]
 rfl
theorem ox {M H:Nat}{r:Int}(hn:1<=n)(hM:1<=M)(hMn:M<=n)(hH:H<9223372036854775808) :
 (r=0->(fd M (H:Int) (newV n r)).2=52/\(fd M (H:Int) (newV n r)).1.many=n) /\
 (r≠0->(fd M (H:Int) (newV n r)).2=0/\(fd M (H:Int) (newV n r)).1.off=false/\(fd M (H:Int) (newV n r)).1.many=n/\(fd M (H:Int) (newV n r)).1.waits=[] /\
  bT (fd M (H:Int) (newV n r)).1.now 0=bQ 1 H []/\∀ k:Nat,1<=k->k<n->bT (fd M (H:Int) (newV n r)).1.now (k:Int)=br):=by
 have hnow:(newV n r).now=List.replicate (n * 128) 0:=rfl;have w1:cC (newV n r) 0 M 0 1=(rdK (newV n r) 1,0):=p6 rfl (fun j hj=>by rw[hnow];exact ot aS);obtain⟨a1,a2,a3,a4,a5,a6,a7⟩:=mB (newV n r) 1;have w2:cC (rdK (newV n r) 1) 0 M 1 (M - 1)=(rdK (rdK (newV n r) 1) (M - 1),0):=p6 a2 (fun j hj=>by rw[a1,hnow];exact ot aS);obtain⟨b1,b2,b3,b4,b5,b6,b7⟩:=mB (rdK (newV n r) 1) (M - 1);generalize rdK (rdK (newV n r) 1) (M - 1)=D2 at *;have hnow2:D2.now=List.replicate (n * 128) 0:=b1.trans a1;have hoff2:D2.off=false:=b2.trans a2;have hmany2:D2.many=n:=b3.trans a3;have hcut2:D2.cut=-1:=b5.trans a5;have hwaits2:D2.waits=[]:=b4.trans a4;have hmight2:D2.might=List.replicate n false:=b6.trans a6;have hroom2:D2.room=r:=b7.trans a7;have hmk:fA 1 (H:Int) []=(bQ 1 H [],0):=by
  unfold fA;rw[if_neg aZ]
  rfl
 have hput:cx D2 0 M 0 1 (H:Int) []=if ij D2 0=true then (D2,52) else (dn (putD D2 0 (bQ 1 H [])) 2,0):=by
  unfold cx;rw[hmk,if_neg aZ];unfold bJ;rw[if_neg aS];unfold eD;have:mayV D2 ((0:Nat)+0:Int)=0:=by
   unfold mayV;rw[hoff2,hmany2];simp;omega
  rw[if_neg (by rw[this];simp),hcut2];simp
 have hfull:ij D2 0=(r == 0):=by
  unfold ij;rw[hmight2,hroom2];have:eR (List.replicate n false)=0:=by unfold eR;simp
  rw[this];have h0:(List.replicate n false).getD (0:Int).toNat false=false:=by
   simp only[ag,List.getElem?_replicate]
   split <;> rfl
  rw[h0];simp
 have hF:fd M (H:Int) (newV n r)=formD (cx D2 0 M 0 1 (H:Int) []):=by
  unfold fd;rw[w1];unfold formB;rw[if_neg aZ]
  show formC M (H:Int) (cC (rdK (newV n r) 1) 0 M 1 (M - 1))=_
  rw[w2];unfold formC;rw[if_neg aZ]
 rw[hF,hput,hfull];refine⟨fun h0=>?_,fun h0=>?_⟩
 · rw[if_pos (by rw[h0];rfl)];unfold formD;rw[if_pos aZ];exact⟨rfl,hmany2⟩
 · rw[if_neg (by simpa using h0)];unfold formD;rw[if_neg aZ];have hg:dn (putD D2 0 (bQ 1 H [])) 2={ putD D2 0 (bQ 1 H []) with off:=false,cut:=-1,ops:=mAdd D2.ops 2 1 }:=by
    unfold dn;have:(putD D2 0 (bQ 1 H [])).cut=-1:=hcut2;rw[this]
    rfl
   show (bG (dn (putD D2 0 (bQ 1 H [])) 2)).2=0/\_
   have hfl:bG (dn (putD D2 0 (bQ 1 H [])) 2)=(ik (dn (dn (putD D2 0 (bQ 1 H [])) 2) 3),0):=by
    unfold bG;have h1:mayV (dn (putD D2 0 (bQ 1 H [])) 2) 0=0:=by
     rw[hg];unfold mayV
     show (if false=true then _ else if (0:Int)<0\/((D2.many:Nat):Int)<=0 then 51 else 0)=(0:Int)
     rw[hmany2,if_neg aZ,if_neg aS]
    rw[if_neg (by rw[h1];simp),if_neg (by rw[hg];show ¬ (-1:Int)=0;omega)]
   rw[hfl];have hlen:D2.now.length=n * 128:=by rw[hnow2];simp
   have hs:(bQ 1 H []).length=128:=by
    have:=makeL_len 1 (H:Int) []
    rwa [hmk] at this
   have hN:(ik (dn (dn (putD D2 0 (bQ 1 H [])) 2) 3)).now=splice D2.now (0 * 128) (bQ 1 H []):=rfl;refine⟨rfl,?_,hmany2,rfl,?_,fun k k1 k2=>?_⟩
   · rw[hg]
     show (dn { putD D2 0 (bQ 1 H []) with off:=false,cut:=-1,ops:=mAdd D2.ops 2 1 } 3).off=false
     rfl
   · rw[hN];have:=nG (n:=0) (k:=0) hlen hs aS aS;rw[if_pos rfl] at this;exact this
   · rw[hN];have:=nG (n:=0) (k:=k) hlen hs aS k2;rw[if_neg aS,hnow2,ot k2] at this;rw[hnow2];exact this
end
end Go.Proofs.YtmeebofhlilcmaaGreat
