/- Parts. -/
import Derived.Test.YtmeebofhlilcmaaGreatPr08
set_option linter.unusedVariables false
set_option linter.unusedSimpArgs false
set_option maxRecDepth 100000
set_option maxHeartbeats 0
namespace Go.Proofs.YtmeebofhlilcmaaGreat
variable {P:Program} {w w':World} {dT sT e t t':TypeId} {size n c c' g g' base base' d:Nat} {cs xs:List Value} {p:bE} {A:Option Addr} {D:aX} {x1 x2:Value}
open Go.RowKit
section
theorem run_copy_all {ty:TypeId}(hu:P.underlying dT=some (.slice e))(hs:(P.info? e).map (·.size)=some size)
 (hg:Blk w g t cs) (hx:Blk w g' t' xs) (hl:cs.length=n * size) (hlx:xs.length=n * size) (h1:∀ v ∈ xs,v.oneCell'=true) :
 ∃ w',(Builtin.copy_ #[dT,sT] ty #[.slice (some ⟨g,0,none⟩) n c,.slice (some ⟨g',0,none⟩) n c']).run P w=.ok (goInt n) w'/\Blk w' g t xs/\w.grownBy w' (some g)/\w'.heap.size=w.heap.size:=by
 have hld:=run_loadCells_list (P:=P) w ⟨g',0,none⟩ xs (fun j v hv=>by
  have hadd:(⟨g',0,none⟩:Addr).add j=⟨g',j,none⟩:=by unfold Addr.add;split <;> simp_all
  rw[hadd,hx.cell];exact hv)
 have hst:=run_storeCells_at P g 0 t xs 0 cs.toArray w hg cR h1;refine⟨w.setRow g (splice cs 0 xs).toArray,?_,?_,mZ _,by simp⟩
 · cases hq:P.info? e with
   | none=>simp[hq] at hs
   | some i=>
     have hi:i.size=size:=by simpa [hq] using hs
     rw[hlx] at hld;have hst':(storeCells ⟨g,0,none⟩ xs).run P w=.ok () (w.setRow g (splice cs 0 xs).toArray):=by simpa [splice] using hst
     simp[Builtin.copy_,run_underlying hu,Builtin.lenOf,Builtin.firstCells,sizeOf,typeInfo,hq,hi,hld,hst']
 · have:=hg.setRow (splice cs 0 xs);have e:=dS cs xs (hl.trans hlx.symm);rw[e] at this ⊢;exact this
theorem mm {ops:Array Oper}{o:Oper}{a:Act}{K:Act->World->Prop}{Q:Exit->Act->World->Prop}{E:Prop}{d s:Operand}(hgd:o.guard=none)
 (ho:o.op=.call { callee:=.builtin .copy,args:=#[d,s],argTypes:=#[dT,sT] }) (hu:P.underlying dT=some (.slice e)) (hs:(P.info? e).map (·.size)=some size)
 (hd:a.eval d=.slice (some ⟨g,0,none⟩) n c) (hsv:a.eval s=.slice (some ⟨g',0,none⟩) n c')
 (hg:Blk w g t cs) (hx:Blk w g' t' xs) (hl:cs.length=n * size) (hlx:xs.length=n * size) (h1:∀ v ∈ xs,v.oneCell'=true)
 (h:∀ w',Blk w' g t xs->w.grownBy w' (some g)->w'.heap.size=w.heap.size->K (a.put o.dst (goInt n)) w') :
 if Region.wanted o (yielded ops a.tmps)=true then Oper.wp P o a w K Q else E:=by
 have hw:Region.wanted o (yielded ops a.tmps)=true:=by simp[Region.wanted,hgd]
 rw[if_pos hw];obtain⟨w',hrun,h2,h3,h4⟩:=run_copy_all (P:=P) (sT:=sT) (ty:=o.type) (c:=c) (c':=c') hu hs hg hx hl hlx h1;unfold Oper.wp;simp[execOp,ho,resolve,invoke,builtin,hd,hsv,hrun,Result.andThen];exact h w' h2 h3 h4
variable {w:World} {base:Nat} {p:bE} {A:Option Addr} {c:Nat} {D:aX}
theorem mem_boolV {l:List Bool}:∀ v ∈ l.map iD,v.oneCell'=true:=by
 intro v hv;obtain⟨x,_,rfl⟩:=List.mem_map.1 hv;rfl
theorem pF (hu:P.underlying t=some (.array n e))(hs:(P.info? e).map (·.size)=some 1)(g o:Nat)(m:Nat)(hn:m<=n)(W:World) :
 (Instr.sliceAt t (.pointer (some ⟨g,o,none⟩)) none (some (I (m:Int))) none).run P W=.ok (.slice (some ⟨g,o,none⟩) m n) W:=by
 have e1:P.arrayLen t=n:=by unfold Program.arrayLen;rw[hu]
 have e2:P.elem t=e:=by unfold Program.elem;rw[hu]
 cases hq:P.info? e with
 | none=>simp[hq] at hs
 | some i=>
   have hsz:i.size=1:=by simpa [hq] using hs
   rw[run_sliceAt_array_h W t ⟨g,o,none⟩ (by rw[e1,e2];exact hu) .i64 _ aS (by rw[e1];omega),e2,e1];have hso:(sizeOf e).run P W=.ok 1 W:=by simp[sizeOf,typeInfo,hq,hsz]
   have hadd:(⟨g,o,none⟩:Addr).add 0=⟨g,o,none⟩:=by simp[Addr.add]
   rw[hso];simp[slicedAt,hadd]
theorem RB.keepB {F:Nat->Prop}{B:Option Addr}{l:List UInt8}(h:RB w B n l)(k:Keep F w w')(hF:∀ b,B.map (·.block)=some b->¬ F b):RB w' B n l :=
 ⟨h.1,fun hn=>by
  obtain⟨b,o,e,hb,hc⟩:=h.2 hn;have hs:=k.size;refine⟨b,o,e,aS,fun i hi=>?_⟩;rw[<- hc i hi];have hbk:=k.block b hb (hF b (by rw[e];rfl));unfold World.cell?;simp only[hbk]⟩
theorem set_same {l:List Bool}{m:Nat}{b:Bool}(hm:m<l.length)(h:l.getD m false=b):l.set m b=l:=by
 rw[ah,ap hm] at h;have:l[m]=b:=h;rw[<- this];exact List.set_getElem_self hm
theorem pieceRd {V:List Value}{v:Value}{bs:List UInt8}{cz:Nat}(h:Blk w g t V)(hV:V=v :: bs.map bv)(hc:cz<=bs.length):Rd bv w (some ⟨g,1,none⟩) cz (bs.take cz) :=
 ⟨by rw[aA];omega,fun _=>⟨g,1,rfl,h.lt,fun i hi=>by
  rw[h.cell,hV,Nat.add_comm,List.getElem?_cons_succ]
  show (bs.map bv)[i]?=some (((bs.take cz).map bv).getD i undef)
  rw[ah,List.map_take,aL,if_pos hi,List.getElem?_map,ap aS];rfl⟩⟩
def crD (D:aX)(cs:List UInt8)(k:Nat):aX:={ D with kept:=(fV D.waits cs (D.kept,D.inuse) k).1,inuse:=(fV D.waits cs (D.kept,D.inuse) k).2 }
def CrPost (w:World)(base:Nat)(p:bE)(A:Option Addr)(D':aX)(e:Ending)(w':World):Prop:=e=.returned (.tuple #[])/\eA w base p A D' w'
theorem CrPost.mk {cs:List UInt8}{k:Nat}(hk:k=min D.waits.length cs.length)(h:bC w' base p none 0 { D with kept:=(fV D.waits cs (D.kept,D.inuse) k).1,inuse:=(fV D.waits cs (D.kept,D.inuse) k).2,waits:=[],off:=false,cut:=-1,now:=(fV D.waits cs (D.kept,D.inuse) k).1,might:=(fV D.waits cs (D.kept,D.inuse) k).2 })(kp:Keep (foot p A) w w') :
 CrPost w base p A (fP D cs) (.returned (.tuple #[])) w':=by
 subst hk;exact⟨rfl,none,0,h,kp,fun g e=>by cases e⟩
theorem crash_any (h:bC w base p A c D)(B:Option Addr)(n d:Nat)(cs:List UInt8)(hl:RB w B n cs)(hB:0<n->∀ g,foot p A g->B.map (·.block)≠some g)(hnm:n<=maxLen) :
 Ca 43 #[.pointer (some ⟨p.d,0,none⟩),.slice B n d] w (CrPost w base p A (fP D cs)):=by
 have his:=isd h;have c4:=h.cells.2.2.2.2.1;have hle:=h.ok.few;have HD:=aT h.ok;have H0:=aT h;have hz:=(zero_of_info mj).1;have HiP:=aT (zero_of_info mj).2;have Hi:=aT (zero_of_info dy).2;have HiB:Hid ((Tryz.prog.info? 4).map (·.size)=some 1):=by show _=_;kernel_rfl
 have hZl:Hid ((ez (0,bw)).length=129):=lC _ dI;have hlen:=aT hl.1;unfold maxLen at hnm;clear h;generalize ez (0,bw)=Zp at *;go_enter Tryz.func43,Tryz.ntmps43;go_wp2_with (first | (go_at_call 131;go_call (his) as e w1 ⟨rfl,rfl⟩) | fail);go_loopw [4,5,6,15] (fun _ _ _ i wr=>∃ k:Nat,k<=D.waits.length/\k<=n/\i=I (k:Nat)/\bC wr base p A c (crD D cs k)/\Keep (foot p A) w wr) (fun _ _ _ i _=>D.waits.length - (intOf i).toNat)
 case atStart=>exact⟨0,aS,by omega,rfl,H0.out,Keep.refl _ _⟩
 case round=>
  obtain⟨k,hk,hkn,rfl,hX,kw⟩:=hrel
  by_cases hlt:k<D.waits.length
  · obtain⟨x1,x2⟩:=lA HD.out hlt;obtain⟨ga,cur,hA,hcur,htake,hfoot⟩:=hX.pieces (by show 0<D.waits.length;omega);have hxat:=aT (piece_at (W:=D.waits) htake (fun p hp=>(HD.out.waits p hp).2) hlt);have hVone:=aT (nS (cY D.waits k));have hVl:=aT (lC (cY D.waits k) x2);have hVS:Hid (ez (cY D.waits k)=I ((cY D.waits k).1:Int) :: (cY D.waits k).2.map bv):=rfl;have hnx:Hid (crD D cs (k+1)={ crD D cs k with kept:=splice (crD D cs k).kept ((cY D.waits k).1 * 128) ((cY D.waits k).2.take (min (bx cs k) 128)),inuse:=if 0<bx cs k then (crD D cs k).inuse.set (cY D.waits k).1 true else (crD D cs k).inuse }):=rfl;have hm1:(crD D cs k).many=D.many:=rfl;have hl1:=hX.st.lt;have hfl:=fun g hg=>hX.lt g hg
    have HX:=aT hX;have hks:=kw.size;clear hX htake;rw[<- hm1] at x1;have HM:=aT hm1;clear hm1;subst hA
    by_cases hkn':k<n
    · have hB:=hB aS;obtain⟨cb,co,hBe,hcb,hcc⟩:=hl.at_ hkn';have hby:=ij cs k;have hsm:Hid (((cY D.waits k).2.map bv).length=128):=by show _=_;rw[az];exact x2
      generalize hV:ez (cY D.waits k)=V at *;generalize hxx:cY D.waits k=x at *;obtain⟨m,bs⟩:=x;simp only at x1 x2 hVS hnx hsm;have hcrl:Hid ((crD D cs k).waits=D.waits):=rfl;generalize crD D cs k=F at *;generalize hyy:bx cs k=y at *;obtain⟨cz,hcz⟩:∃ cz,min y 128=cz:=⟨_,rfl⟩;rw[hcz] at hnx;have hcz1:cz<=128:=aS;have hczy:(0<cz ↔ 0<y):=aS;have hmin:∀ w:World,(Builtin.min_ #[3,3] 3 #[I (y:Int),I 128]).run Tryz.prog w=.ok (I (cz:Int)) w:=fun w=>(run_min_int2 (P:=Tryz.prog) (w:=w) _ _ _ _ _ _).trans (by rw[show (if (128:Int)<(y:Int) then (128:Int) else (y:Int))=(cz:Int) from by split <;> omega])
      have hmI:(m:Int)<F.many:=aS;have hk2:(k:Int)<(n:Int):=aS;have hb2l:=aT x2;have hbfar:=fun g hg=>hB g hg
      have hY:=aT hyy;have hCZ:=aT hczy;clear x2 hxx hV hyy hcz hczy c4;have hcut1:=fun o=>pF (P:=Tryz.prog) Tryz.underlying205 bM p.gk o cz hcz1
      have hcut2:=fun o=>pF (P:=Tryz.prog) Tryz.underlying205 bM wr.heap.size o cz hcz1
      go_wp2_with (first | (refine nT rfl (x:=.tmp 18) rfl rfl hcur Tryz.underlying207 HiP.out hVl.out hxat.out ?_) | (refine eu rfl (x:=.tmp 5) (y:=.tmp 19) rfl rfl rfl (t:=207) (cs:=Zp) (xs:=V) (Blk.top _ rfl rfl) HiP.out hVl.out (by rw[hZl.out];omega) hVone.out ?_;intro w2 hb2 hg2 hs2;rw[dS _ _ (hZl.out.trans hVl.out.symm)] at hb2;have H2:=aT ((HX.out.alloc (.cells Zp.toArray 207)).keep (F:=(·=wr.heap.size)) (Keep.one hg2) (fun g hg e=>by have:=hfl g hg;omega));have kw2:=aT (show Keep (foot p (some ⟨ga,0,none⟩)) w w2 from ((kw.alloc (.cells Zp.toArray 207)).trans (G:=(·=wr.heap.size)) (Keep.one hg2) (fun g hg e=>by omega)));have HB2:=aT hb2;have cch:w2.cell? ⟨cb,co+k,none⟩=some (.int .u8 (y:Int)):=(by obtain⟨cb',co',e1,e2,e3⟩:=(hl.keepB kw2.out (fun b e hf=>hB b hf e)).at_ hkn';rw[hBe] at e1;injection e1 with e1;injection e1 with e4 e5 _;subst e4 e5;rw[e3,hY.out]);clear hb2) | fail);obtain⟨e0,-,-,-,-,-,-,-,-⟩:=H2.out.cells;have t0:w2.cell? ⟨wr.heap.size,0,none⟩=some (I (m:Int)):=by rw[HB2.out.cell,hVS.out];rfl
      have hgt1:wr.heap.size≠p.gk:=fun e=>by have:=hfl p.gk (.inr (.inl rfl));omega
      have hgt2:wr.heap.size≠p.gi:=fun e=>by have:=hfl p.gi (.inr (.inr (.inr (.inl rfl))));omega
      clear hcur hxat
      refine wp_region_held_drew (S:=fun w'=>w'.cell? ⟨p.d,0,none⟩=some (.slice (some ⟨p.gk,0,none⟩) F.many F.many)/\w'.cell? ⟨wr.heap.size,0,none⟩=some (I (m:Int))) bM ⟨e0,t0⟩ (fun hHeld=>?_);clear e0 t0;refine aV 0 ?_;refine aV 1 ?_;refine aV 2 ?_;refine aV 3 ?_ (hy:=Or.inl ⟨by rfl,dh⟩);refine aV 4 ?_;refine aV 5 ?_ (hy:=Or.inl ⟨by rfl,dh⟩);refine aV 6 ?_;refine aV 7 ?_;refine aV 8 ?_ (hy:=Or.inl ⟨by rfl,by (exact nt)⟩);refine aV 9 ?_;refine aV 10 ?_;refine aV 11 ?_ (hy:=Or.inl ⟨by rfl,by (exact nt)⟩);refine bR 12 (fun K hK=>?_);have hD2:bC w2.drew base p (some ⟨ga,0,none⟩) c F:=H2.out.drewN 1;have hfit:m * 128+min cz cz<=F.kept.length:=by rw[H2.out.ok.kept];omega
      refine lf rfl rfl cH dg (g:=p.gk) (off:=m * 128) (dLen:=cz) (n:=cz) rfl rfl (fun _=>rfl) hD2.bk (pieceRd HB2.out.drew hVS.out (by rw[hb2l.out];exact hcz1)) hfit rfl ?_;intro w3 hb3 hg3 hs3;have e33:splice F.kept (m * 128) ((bs.take cz).take cz)=splice F.kept (m * 128) (bs.take cz):=by rw[au (by rw[aA];omega)]
      rw[e33] at hb3;have h3:=hD2.turnKept (w':=w3) (Keep.one hg3) hb3 (by rw[ji (by rw[H2.out.ok.kept,aA,hb2l.out];omega)];exact H2.out.ok.kept);have H3:=aT h3;have hbx3:=aT (Blk.grown (w':=w3) HB2.out.drew hg3 (fun e=>by injection e with e;exact hgt1 e.symm));have K3:=aT (show Keep (foot p (some ⟨ga,0,none⟩)) w w3 from kw2.out.drewD.trans (Keep.one hg3) (fun g _ e=>.inr (.inl e)));obtain⟨r0,-,r2,-,-,-,-,-,-⟩:=h3.cells;simp only at r0 r2;have rt:w3.cell? ⟨wr.heap.size,0,none⟩=some (I (m:Int)):=by rw[hbx3.out.cell,hVS.out];rfl
      have hcm:m<F.inuse.length:=by rw[HX.out.ok.inuse];exact x1
      have em3:=j5 h3.bi m hcm;have fm3:=h3.bi.frozen m;simp only at em3;clear h3 hD2 hfit hb3;refine hK.out _ _ (⟨r0,rt⟩) (fun hHeld=>?_);clear hK K;refine bJ ?_;refine wpAnyH_done bT ?_ _;clear r0 cch hcut1 hcut2 hmin;have hczc:0<cz\/cz=0:=aS;generalize hib:F.inuse.getD m false=ib at *
      cases ib with
      | true=>
        have hin:Hid (F.inuse.set m true=if 0<y then F.inuse.set m true else F.inuse):=by
         show _=_
         split
         · rfl
         · exact set_same hcm hib
        clear hib hczc;go_wp2;refine wp_region_held_drew (S:=fun w'=>w'.cell? ⟨p.d,2,none⟩=some (.slice (some ⟨p.gi,0,none⟩) F.many F.many)/\w'.cell? ⟨wr.heap.size,0,none⟩=some (I (m:Int))) bM ⟨r2,rt⟩ (fun hHeld=>?_);refine aV 0 ?_;refine aV 1 ?_;refine aV 2 ?_;refine aV 3 ?_ (hy:=Or.inl ⟨by rfl,dh⟩);refine aV 4 ?_;refine aV 5 ?_ (hy:=Or.inl ⟨by rfl,dh⟩);refine aV 6 ?_;refine aV 7 ?_;refine aV 8 ?_;refine aV 9 ?_ (hy:=Or.inl ⟨by rfl,dh⟩);refine aV 10 ?_;refine aV 11 ?_ (hy:=Or.inl ⟨by rfl,dh⟩);refine aV 12 ?_;refine bR 13 (fun K hK=>?_);go_simp;refine hK.out _ _ (hHeld) (fun hHeld=>?_);clear hK K;refine bJ ?_;refine aV 14 ?_;refine bB 15 ?_;refine bB 16 ?_;refine aV 17 ?_;refine aV 18 ?_;refine bR 19 (fun K hK=>?_);go_simp;have h8:=H3.out.setIn m true;have hbx8:Blk (w3.setCell ⟨p.gi,m,none⟩ (.bool true)) wr.heap.size 207 V:=hbx3.out.far (by exact hgt2) _;obtain⟨-,-,u2,-⟩:=h8.cells;simp only at u2;have ut:(w3.setCell ⟨p.gi,m,none⟩ (.bool true)).cell? ⟨wr.heap.size,0,none⟩=some (I (m:Int)):=by rw[hbx8.cell,hVS.out];rfl
        have H8:=aT h8;clear h8;refine hK.out _ _ (⟨u2,ut⟩) (fun hHeld=>?_);clear hK K;refine bJ ?_;refine wpAnyH_done bT ?_ _;go_wp2;go_roundw
        case rel=>
         have hfin:bC (w3.drew.setCell ⟨p.gi,m,none⟩ (.bool true)) base p (some ⟨ga,0,none⟩) c (crD D cs (k+1)):=by
          have:=H8.out.drewN 1;rw[hnx.out];rw[hin.out] at this;exact this
         have kfin:Keep (foot p (some ⟨ga,0,none⟩)) w (w3.drew.setCell ⟨p.gi,m,none⟩ (.bool true)):=K3.out.drewD.set_ _ (.inr (.inr (.inr (.inl rfl))));have r0:k+1<=D.waits.length:=aS;have r1:k+1<=n:=aS;have r2:I ((k:Int)+1)=I ((k+1:Nat):Int):=by go_num
         first
          | exact⟨k+1,r0,r1,r2,hfin,kfin⟩
          | exact⟨_,_,_,_,⟨k+1,r0,r1,r2,hfin,kfin⟩,rfl,rfl,rfl,rfl⟩
        case measure=>simp[intOf];omega
      | false=>
        rcases hczc with hcp | hc0
        · have hin:Hid (F.inuse.set m true=if 0<y then F.inuse.set m true else F.inuse):=by
           show _=_
           rw[if_pos (hCZ.out.mp hcp)]
          have hcpi:(0:Int)<(cz:Int):=aS;clear hib;go_wp2;refine wp_region_held_drew (S:=fun w'=>w'.cell? ⟨p.d,2,none⟩=some (.slice (some ⟨p.gi,0,none⟩) F.many F.many)/\w'.cell? ⟨wr.heap.size,0,none⟩=some (I (m:Int))) bM ⟨r2,rt⟩ (fun hHeld=>?_);refine aV 0 ?_;refine aV 1 ?_;refine aV 2 ?_;refine aV 3 ?_ (hy:=Or.inl ⟨by rfl,dh⟩);refine aV 4 ?_;refine aV 5 ?_ (hy:=Or.inl ⟨by rfl,dh⟩);refine aV 6 ?_;refine aV 7 ?_;refine aV 8 ?_;refine aV 9 ?_ (hy:=Or.inl ⟨by rfl,dh⟩);refine aV 10 ?_;refine aV 11 ?_ (hy:=Or.inl ⟨by rfl,dh⟩);refine aV 12 ?_;refine bR 13 (fun K hK=>?_);go_simp;refine hK.out _ _ (hHeld) (fun hHeld=>?_);clear hK K;refine bJ ?_;refine aV 14 ?_;refine aV 15 ?_;refine aV 16 ?_;refine aV 17 ?_;refine aV 18 ?_;refine bR 19 (fun K hK=>?_);go_simp;have h8:=H3.out.setIn m true;have hbx8:Blk (w3.setCell ⟨p.gi,m,none⟩ (.bool true)) wr.heap.size 207 V:=hbx3.out.far (by exact hgt2) _;obtain⟨-,-,u2,-⟩:=h8.cells;simp only at u2;have ut:(w3.setCell ⟨p.gi,m,none⟩ (.bool true)).cell? ⟨wr.heap.size,0,none⟩=some (I (m:Int)):=by rw[hbx8.cell,hVS.out];rfl
          have H8:=aT h8;clear h8;refine hK.out _ _ (⟨u2,ut⟩) (fun hHeld=>?_);clear hK K;refine bJ ?_;refine wpAnyH_done bT ?_ _;go_wp2;go_roundw
          case rel=>
           have hfin:bC (w3.drew.setCell ⟨p.gi,m,none⟩ (.bool true)) base p (some ⟨ga,0,none⟩) c (crD D cs (k+1)):=by
            have:=H8.out.drewN 1;rw[hnx.out];rw[hin.out] at this;exact this
           have kfin:Keep (foot p (some ⟨ga,0,none⟩)) w (w3.drew.setCell ⟨p.gi,m,none⟩ (.bool true)):=K3.out.drewD.set_ _ (.inr (.inr (.inr (.inl rfl))));have r0:k+1<=D.waits.length:=aS;have r1:k+1<=n:=aS;have r2:I ((k:Int)+1)=I ((k+1:Nat):Int):=by go_num
           first
            | exact⟨k+1,r0,r1,r2,hfin,kfin⟩
            | exact⟨_,_,_,_,⟨k+1,r0,r1,r2,hfin,kfin⟩,rfl,rfl,rfl,rfl⟩
          case measure=>simp[intOf];omega
        · have hin:Hid (F.inuse.set m false=if 0<y then F.inuse.set m true else F.inuse):=by
           show _=_
           rw[if_neg (fun q=>by have:=hCZ.out.mpr q;omega)];exact set_same hcm hib
          clear hib;subst hc0;go_wp2;refine wp_region_held_drew (S:=fun w'=>w'.cell? ⟨p.d,2,none⟩=some (.slice (some ⟨p.gi,0,none⟩) F.many F.many)/\w'.cell? ⟨wr.heap.size,0,none⟩=some (I (m:Int))) bM ⟨r2,rt⟩ (fun hHeld=>?_);refine aV 0 ?_;refine aV 1 ?_;refine aV 2 ?_;refine aV 3 ?_ (hy:=Or.inl ⟨by rfl,dh⟩);refine aV 4 ?_;refine aV 5 ?_ (hy:=Or.inl ⟨by rfl,dh⟩);refine aV 6 ?_;refine aV 7 ?_;refine aV 8 ?_;refine aV 9 ?_ (hy:=Or.inl ⟨by rfl,dh⟩);refine aV 10 ?_;refine aV 11 ?_ (hy:=Or.inl ⟨by rfl,dh⟩);refine aV 12 ?_;refine bR 13 (fun K hK=>?_);go_simp;refine hK.out _ _ (hHeld) (fun hHeld=>?_);clear hK K;refine bJ ?_;refine aV 14 ?_;refine aV 15 ?_;refine aV 16 ?_;refine aV 17 ?_;refine aV 18 ?_;refine bR 19 (fun K hK=>?_);go_simp;have h8:=H3.out.setIn m false;have hbx8:Blk (w3.setCell ⟨p.gi,m,none⟩ (.bool false)) wr.heap.size 207 V:=hbx3.out.far (by exact hgt2) _;obtain⟨-,-,u2,-⟩:=h8.cells;simp only at u2;have ut:(w3.setCell ⟨p.gi,m,none⟩ (.bool false)).cell? ⟨wr.heap.size,0,none⟩=some (I (m:Int)):=by rw[hbx8.cell,hVS.out];rfl
          have H8:=aT h8;clear h8;refine hK.out _ _ (⟨u2,ut⟩) (fun hHeld=>?_);clear hK K;refine bJ ?_;refine wpAnyH_done bT ?_ _;go_wp2;go_roundw
          case rel=>
           have hfin:bC (w3.drew.setCell ⟨p.gi,m,none⟩ (.bool false)) base p (some ⟨ga,0,none⟩) c (crD D cs (k+1)):=by
            have:=H8.out.drewN 1;rw[hnx.out];rw[hin.out] at this;exact this
           have kfin:Keep (foot p (some ⟨ga,0,none⟩)) w (w3.drew.setCell ⟨p.gi,m,none⟩ (.bool false)):=K3.out.drewD.set_ _ (.inr (.inr (.inr (.inl rfl))));have r0:k+1<=D.waits.length:=aS;have r1:k+1<=n:=aS;have r2:I ((k:Int)+1)=I ((k+1:Nat):Int):=by go_num
           first
            | exact⟨k+1,r0,r1,r2,hfin,kfin⟩
            | exact⟨_,_,_,_,⟨k+1,r0,r1,r2,hfin,kfin⟩,rfl,rfl,rfl,rfl⟩
          case measure=>simp[intOf];omega
    · have hkk:Hid (k=min D.waits.length cs.length):=by show _=_;have:=hlen.out;omega
      generalize hV:ez (cY D.waits k)=V at *;clear hV hVS hnx x1 x2 HM;go_wp2_with (first | (refine nT rfl (x:=.tmp 18) rfl rfl hcur Tryz.underlying207 HiP.out hVl.out hxat.out ?_) | (refine eu rfl (x:=.tmp 5) (y:=.tmp 19) rfl rfl rfl (t:=207) (cs:=Zp) (xs:=V) (Blk.top _ rfl rfl) HiP.out hVl.out (by rw[hZl.out];omega) hVone.out ?_;intro w2 hb2 hg2 hs2;have h2:=((HX.out.alloc (.cells Zp.toArray 207)).keep (F:=(·=wr.heap.size)) (Keep.one hg2) (fun g hg e=>by have:=hfl g hg;omega));have kw2:Keep (foot p (some ⟨ga,0,none⟩)) w w2:=((kw.alloc (.cells Zp.toArray 207)).trans (G:=(·=wr.heap.size)) (Keep.one hg2) (fun g hg e=>by omega));clear c4;have f4:=(h2).st.frozen 4;have f6:=(h2).st.frozen 6;have f7:=(h2).st.frozen 7;obtain⟨-,-,-,-,c4,-,c6,c7,-⟩:=(h2).cells;have h9:=((bC.noWaits (h2)).setOff false).setCut (-1) aS;have H9:=aT h9;have k9:Keep (foot p (some ⟨ga,0,none⟩)) w (((w2.setCell ⟨p.d,4,none⟩ (.slice none 0 0)).setCell ⟨p.d,7,none⟩ (.bool false)).setCell ⟨p.d,6,none⟩ (I (-1))):=((((kw2).set_ _ (.inl rfl)).set_ _ (.inl rfl)).set_ _ (.inl rfl));have K9:=aT k9;obtain⟨q0,q1,-,-,-,-,-,-,-⟩:=h9.cells;clear h9 k9;generalize hW9:((w2.setCell ⟨p.d,4,none⟩ (.slice none 0 0)).setCell ⟨p.d,7,none⟩ (.bool false)).setCell ⟨p.d,6,none⟩ (I (-1))=w9 at *;have HW9:=aT hW9;clear hW9;clear h2) | fail);rw[HW9.out];refine wp_region_held_drew (S:=fun w'=>w'.cell? ⟨p.d,0,none⟩=some (.slice (some ⟨p.gk,0,none⟩) D.many D.many)/\w'.cell? ⟨p.d,1,none⟩=some (.slice (some ⟨p.gn,0,none⟩) D.many D.many)) bM ⟨q0,q1⟩ (fun hHeld=>?_);refine aV 0 ?_;refine aV 1 ?_;refine aV 2 ?_;refine aV 3 ?_ (hy:=Or.inl ⟨by rfl,dh⟩);refine aV 4 ?_;refine aV 5 ?_;refine aV 6 ?_;refine aV 7 ?_ (hy:=Or.inl ⟨by rfl,dh⟩);refine bR 8 (fun K hK=>?_);have H9d:=aT (H9.out.drewN 1:bC w9.drew base p none 0 _);have hkl:((fV D.waits cs (D.kept,D.inuse) k).1.map bv).length=D.many * 128:=by rw[az];exact H9.out.ok.kept
      refine mm rfl rfl Tryz.underlying195 Hi.out (c:=D.many) (c':=D.many) rfl rfl H9d.out.bn H9d.out.bk (by rw[az];exact H9.out.ok.now) hkl ew ?_;intro w10 hb10 hg10 hs10;have h10:=H9d.out.turnNow (w':=w10) (Keep.one hg10) hb10 H9.out.ok.kept;have H10:=aT h10;have K10:=K9.out.drewD.trans (Keep.one hg10) (fun g _ e=>.inr (.inr (.inl e)));obtain⟨r0,r1,r2,r3,-,-,-,-,-⟩:=h10.cells;clear h10 hHeld;refine hK.out _ _ (⟨r0,r1⟩) (fun hHeld=>?_);clear hK K;refine bJ ?_;refine wpAnyH_done bT ?_ _;clear hHeld q0 q1;go_wp2;refine wp_region_held_drew (S:=fun w'=>w'.cell? ⟨p.d,2,none⟩=some (.slice (some ⟨p.gi,0,none⟩) D.many D.many)/\w'.cell? ⟨p.d,3,none⟩=some (.slice (some ⟨p.gm,0,none⟩) D.many D.many)) bM ⟨r2,r3⟩ (fun hHeld=>?_);refine aV 0 ?_;refine aV 1 ?_;refine aV 2 ?_;refine aV 3 ?_ (hy:=Or.inl ⟨by rfl,dh⟩);refine aV 4 ?_;refine aV 5 ?_;refine aV 6 ?_;refine aV 7 ?_ (hy:=Or.inl ⟨by rfl,dh⟩);refine bR 8 (fun K hK=>?_);have H10d:=aT (H10.out.drewN 1:bC w10.drew base p none 0 _);refine mm rfl rfl Tryz.underlying149 HiB.out (c:=D.many) (c':=D.many) rfl rfl H10d.out.bm H10d.out.bi (by rw[az,Nat.mul_one];exact H10.out.ok.might) (by rw[az,Nat.mul_one];exact H10.out.ok.inuse) mem_boolV ?_;intro w11 hb11 hg11 hs11;have h11:=H10d.out.turnMight (w':=w11) (Keep.one hg11) hb11 H10.out.ok.inuse;have H11:=aT h11;have K11:=K10.drewD.trans (Keep.one hg11) (fun g _ e=>.inr (.inr (.inr (.inr (.inl e)))));obtain⟨-,-,v2,v3,-,-,-,-,-⟩:=h11.cells;clear h11;refine hK.out _ _ (⟨v2,v3⟩) (fun hHeld=>?_);clear hK K;refine bJ ?_;refine wpAnyH_done bT ?_ _;go_wp2;go_end0;exact CrPost.mk hkk.out H11.out K11
  · have hkk:Hid (k=min D.waits.length cs.length):=by show _=_;have:=hlen.out;omega
    have f4:=(hX).st.frozen 4;have f6:=(hX).st.frozen 6;have f7:=(hX).st.frozen 7;obtain⟨-,-,-,-,c4,-,c6,c7,-⟩:=(hX).cells;have h9:=((bC.noWaits (hX)).setOff false).setCut (-1) aS;have H9:=aT h9;have k9:Keep (foot p A) w (((wr.setCell ⟨p.d,4,none⟩ (.slice none 0 0)).setCell ⟨p.d,7,none⟩ (.bool false)).setCell ⟨p.d,6,none⟩ (I (-1))):=((((kw).set_ _ (.inl rfl)).set_ _ (.inl rfl)).set_ _ (.inl rfl));have K9:=aT k9;obtain⟨q0,q1,-,-,-,-,-,-,-⟩:=h9.cells;clear h9 k9;generalize hW9:((wr.setCell ⟨p.d,4,none⟩ (.slice none 0 0)).setCell ⟨p.d,7,none⟩ (.bool false)).setCell ⟨p.d,6,none⟩ (I (-1))=w9 at *;have HW9:=aT hW9;clear hW9;clear hX;go_wp2;rw[HW9.out];refine wp_region_held_drew (S:=fun w'=>w'.cell? ⟨p.d,0,none⟩=some (.slice (some ⟨p.gk,0,none⟩) D.many D.many)/\w'.cell? ⟨p.d,1,none⟩=some (.slice (some ⟨p.gn,0,none⟩) D.many D.many)) bM ⟨q0,q1⟩ (fun hHeld=>?_);refine aV 0 ?_;refine aV 1 ?_;refine aV 2 ?_;refine aV 3 ?_ (hy:=Or.inl ⟨by rfl,dh⟩);refine aV 4 ?_;refine aV 5 ?_;refine aV 6 ?_;refine aV 7 ?_ (hy:=Or.inl ⟨by rfl,dh⟩);refine bR 8 (fun K hK=>?_);have H9d:=aT (H9.out.drewN 1:bC w9.drew base p none 0 _);have hkl:((fV D.waits cs (D.kept,D.inuse) k).1.map bv).length=D.many * 128:=by rw[az];exact H9.out.ok.kept
    refine mm rfl rfl Tryz.underlying195 Hi.out (c:=D.many) (c':=D.many) rfl rfl H9d.out.bn H9d.out.bk (by rw[az];exact H9.out.ok.now) hkl ew ?_;intro w10 hb10 hg10 hs10;have h10:=H9d.out.turnNow (w':=w10) (Keep.one hg10) hb10 H9.out.ok.kept;have H10:=aT h10;have K10:=K9.out.drewD.trans (Keep.one hg10) (fun g _ e=>.inr (.inr (.inl e)));obtain⟨r0,r1,r2,r3,-,-,-,-,-⟩:=h10.cells;clear h10 hHeld;refine hK.out _ _ (⟨r0,r1⟩) (fun hHeld=>?_);clear hK K;refine bJ ?_;refine wpAnyH_done bT ?_ _;clear hHeld q0 q1;go_wp2;refine wp_region_held_drew (S:=fun w'=>w'.cell? ⟨p.d,2,none⟩=some (.slice (some ⟨p.gi,0,none⟩) D.many D.many)/\w'.cell? ⟨p.d,3,none⟩=some (.slice (some ⟨p.gm,0,none⟩) D.many D.many)) bM ⟨r2,r3⟩ (fun hHeld=>?_);refine aV 0 ?_;refine aV 1 ?_;refine aV 2 ?_;refine aV 3 ?_ (hy:=Or.inl ⟨by rfl,dh⟩);refine aV 4 ?_;refine aV 5 ?_;refine aV 6 ?_;refine aV 7 ?_ (hy:=Or.inl ⟨by rfl,dh⟩);refine bR 8 (fun K hK=>?_);have H10d:=aT (H10.out.drewN 1:bC w10.drew base p none 0 _);refine mm rfl rfl Tryz.underlying149 HiB.out (c:=D.many) (c':=D.many) rfl rfl H10d.out.bm H10d.out.bi (by rw[az,Nat.mul_one];exact H10.out.ok.might) (by rw[az,Nat.mul_one];exact H10.out.ok.inuse) mem_boolV ?_;intro w11 hb11 hg11 hs11;have h11:=H10d.out.turnMight (w':=w11) (Keep.one hg11) hb11 H10.out.ok.inuse;have H11:=aT h11;have K11:=K10.drewD.trans (Keep.one hg11) (fun g _ e=>.inr (.inr (.inr (.inr (.inl e)))));obtain⟨-,-,v2,v3,-,-,-,-,-⟩:=h11.cells;clear h11;refine hK.out _ _ (⟨v2,v3⟩) (fun hHeld=>?_);clear hK K;refine bJ ?_;refine wpAnyH_done bT ?_ _;go_wp2;go_end0;exact CrPost.mk hkk.out H11.out K11
end
theorem pG {z:Value}{bytes:Nat}(ht:P.underlying t=some (.slice e))(hi:(P.info? e).map (fun i=>(i.zero,i.size,i.bytes))=some (some z,size,bytes))(n:Nat)(hb:bytes * n<=281474976710656)(h63:n<=9223372036854775807)(W:World) :
 (Instr.makeSlice t (I (n:Int)) (I (n:Int))).run P W=.ok (.slice (some ⟨W.heap.size,0,none⟩) n n) (W.alloc (.cells (madeCells z.cells (n * size)) e)):=by
 obtain⟨i,h1,hz,hs,hby⟩:=info_parts hi;have h:(i.bytes:Int) * (n:Int)<=281474976710656:=by
  rw[hby];have:((bytes * n:Nat):Int)<=281474976710656:=aS
  rwa [Int.natCast_mul] at this
 have hr:=run_make (P:=P) W t e i z ht h1 hz .i64 .i64 n n aS aS h aS;simp only[ax,hs] at hr;exact hr
theorem made_rep (v:Value)(m N:Nat)(hm:0<m):(madeCells (List.replicate m v).toArray N).toList=List.replicate N v:=by
 unfold madeCells;apply List.ext_getElem
 · simp
 · intro i h1 h2;have hi:i % m<m:=Nat.mod_lt _ hm;simp[hi]
theorem infoRow:(Tryz.prog.info? 205).map (fun i=>(i.zero,i.size,i.bytes))=some (some (aggB bw),128,128):=by kernel_rfl
theorem infoBool:(Tryz.prog.info? 4).map (fun i=>(i.zero,i.size,i.bytes))=some (some (.bool false),1,1):=by kernel_rfl
theorem zeros_rep:bw.map bv=List.replicate 128 (bv 0):=by unfold bw;rw[List.map_replicate]
theorem eb.drewD {l:List Int}(h:eb w g l):eb w.drew g l:=h
def NwPost (w:World)(D:aX)(e:Ending)(w':World):Prop:=∃ p,e=.returned (.tuple #[.pointer (some ⟨p.d,0,none⟩),I 0])/\bC w' w.heap.size p none 0 D/\Below w.heap.size w w'
theorem nw_end {w1 W:World}{s:Nat}{room:Int}{R F:List Value}(hm:eb w1 w.heap.size [0,0,0,0,0,0])(hb1:Below w.heap.size w w1)(sz1:w.heap.size<w1.heap.size)(hz1:w1.heap.size=w.heap.size+1)(hR:R=(List.replicate (s * 128) (0:UInt8)).map bv)(hF:F=(List.replicate s false).map iD)
 (h0:1<=s) (h1:s<=4096) (r0:0<=room) (r1:room<=s) (gk gn gi gm:Nat) (n1:gk≠gn) (n2:gi≠gm) (nb:w.heap.size<=gk/\w.heap.size<=gn/\w.heap.size<=gi/\w.heap.size<=gm)
 (bd:Blk W w1.heap.size 198 [.slice (some ⟨gk,0,none⟩) s s,.slice (some ⟨gn,0,none⟩) s s,.slice (some ⟨gi,0,none⟩) s s,.slice (some ⟨gm,0,none⟩) s s,.slice none 0 0,I room,I (-1),.bool false,.pointer (some ⟨w.heap.size,0,none⟩)])
 (bk:Blk W gk 205 R) (bn:Blk W gn 205 R) (bi:Blk W gi 4 F) (bm:Blk W gm 4 F) (hbel:Below w.heap.size w W) (hm2:eb W w.heap.size [0,0,0,0,0,0]) :
 NwPost w (newV s room) (.returned (.tuple #[.pointer (some ⟨w1.heap.size,0,none⟩),I 0])) W:=by
 subst hR hF;refine⟨⟨w1.heap.size,gk,gn,gi,gm,w.heap.size⟩,rfl,⟨newV_ok h0 h1 r0 r1,bd,bk,bn,bi,bm,hm2,World.ownsRow_nil _ _ _ _,n1,n2,fun g hg=>?_⟩,hbel⟩;rcases hg with e | e | e | e | e | e | e
 · simp only at e;omega
 · simp only at e;omega
 · simp only at e;omega
 · simp only at e;omega
 · simp only at e;omega
 · simp only at e;omega
 · cases e
theorem new_ok (s:Nat)(room:Int)(w:World)(h0:1<=s)(h1:s<=4096)(r0:0<=room)(r1:room<=s) :
 Ca 28 #[I (s:Int),I room] w (NwPost w (newV s room)):=by
 have hm1:∀ W:World,(Instr.makeSlice 195 (I (s:Int)) (I (s:Int))).run Tryz.prog W=.ok (.slice (some ⟨W.heap.size,0,none⟩) s s) (W.alloc (.cells (List.replicate (s * 128) (bv 0)).toArray 205)):=fun W=>by
  have:=pG (P:=Tryz.prog) Tryz.underlying195 infoRow s aS aS W;rw[show (aggB bw).cells=(List.replicate 128 (bv 0)).toArray from by unfold aggB;rw[zeros_rep];rfl] at this;have e:=made_rep (bv 0) 128 (s * 128) aS;rw[show madeCells (List.replicate 128 (bv 0)).toArray (s * 128)=(List.replicate (s * 128) (bv 0)).toArray from by rw[<- e]] at this;exact this
 have hm2:∀ W:World,(Instr.makeSlice 149 (I (s:Int)) (I (s:Int))).run Tryz.prog W=.ok (.slice (some ⟨W.heap.size,0,none⟩) s s) (W.alloc (.cells (List.replicate s (Value.bool false)).toArray 4)):=fun W=>by
  have:=pG (P:=Tryz.prog) Tryz.underlying149 infoBool s aS aS W;have e:=made_rep (Value.bool false) 1 (s * 1) aS;rw[show (Value.bool false).cells=(List.replicate 1 (Value.bool false)).toArray from rfl,show madeCells (List.replicate 1 (Value.bool false)).toArray (s * 1)=(List.replicate s (Value.bool false)).toArray from by rw[Nat.mul_one] at e ⊢;rw[<- e]] at this;exact this
 have hR:Hid (List.replicate (s * 128) (bv 0)=(List.replicate (s * 128) (0:UInt8)).map bv):=by show _=_;rw[List.map_replicate]
 have hF:Hid (List.replicate s (Value.bool false)=(List.replicate s false).map iD):=by show _=_;rw[List.map_replicate];rfl
 have hb0:∀ k:Nat,Hid (List.replicate (s * 128) (bv 0)=List.replicate (s * 128) (bv 0)):=fun _=>rfl
 clear hb0;generalize List.replicate (s * 128) (bv 0)=R at *;generalize List.replicate s (Value.bool false)=F at *;have hs1:(1:Int)<=(s:Int):=aS;have hs2:(s:Int)<=4096:=aS;go_enter Tryz.func28,Tryz.ntmps28;go_wp2_with (first | ((go_at_call 117;go_call (newmeter_any _) as e w1 ⟨rfl,hm1',hb1,hsz1⟩);have HM:=aT hm1';have HZ1:=aT hsz1;have sz1:w.heap.size<w1.heap.size:=aS;clear hm1' hsz1) | fail);have HMo:=HM.out;refine wp_region_held_drew (S:=fun _=>True) bM trivial (fun hHeld=>?_);refine aV 0 ?_;refine aV 1 ?_;refine aV 2 ?_;refine aV 4 ?_;refine wpAnyH_ready (rs:=[3,5]) bT aZ ?_;refine AllReadyH.cons rfl (fun K hK=>?_) (AllReadyH.cons rfl (fun K hK=>?_) AllReadyH.nil);go_simp;refine hK.out _ _ (trivial) (fun hHeld=>?_);clear hK K;refine bJ ?_;refine aV 6 ?_;refine aV 7 ?_;refine wpAnyH_ready (rs:=[5,8]) bT aZ ?_;refine AllReadyH.cons rfl (fun K hK=>?_) (AllReadyH.cons rfl (fun K hK=>?_) AllReadyH.nil);go_simp;refine hK.out _ _ (trivial) (fun hHeld=>?_);clear hK K;refine bJ ?_;refine bR 8 (fun K hK=>?_);go_simp;refine hK.out _ _ (trivial) (fun hHeld=>?_);clear hK K;refine bJ ?_;refine aV 9 ?_;refine aV 10 ?_;refine bR 11 (fun K hK=>?_);go_simp;refine hK.out _ _ (trivial) (fun hHeld=>?_);clear hK K;refine bJ ?_;refine wpAnyH_done bT ?_ _;rotate_left 1;go_simp;refine hK.out _ _ (trivial) (fun hHeld=>?_);clear hK K;refine bJ ?_;refine bR 5 (fun K hK=>?_);go_simp;refine hK.out _ _ (trivial) (fun hHeld=>?_);clear hK K;refine bJ ?_;refine aV 9 ?_;refine aV 10 ?_;refine bR 11 (fun K hK=>?_);go_simp;refine hK.out _ _ (trivial) (fun hHeld=>?_);clear hK K;refine bJ ?_;refine wpAnyH_done bT ?_ _;rotate_left 1;go_simp;refine hK.out _ _ (trivial) (fun hHeld=>?_);clear hK K;refine bJ ?_;refine bR 3 (fun K hK=>?_);go_simp;refine hK.out _ _ (trivial) (fun hHeld=>?_);clear hK K;refine bJ ?_;refine aV 6 ?_;refine aV 7 ?_;refine bR 8 (fun K hK=>?_);go_simp;refine hK.out _ _ (trivial) (fun hHeld=>?_);clear hK K;refine bJ ?_;refine aV 9 ?_;refine aV 10 ?_;refine bR 11 (fun K hK=>?_);go_simp;refine hK.out _ _ (trivial) (fun hHeld=>?_);clear hK K;refine bJ ?_;refine wpAnyH_done bT ?_ _
 all_goals
  go_wp2;refine wp_region_held_drew (S:=fun _=>True) bM trivial (fun hHeld=>?_);refine aV 0 ?_;refine aV 1 ?_;refine aV 2 ?_;refine aV 4 ?_;refine wpAnyH_ready (rs:=[3,5]) bT aZ ?_;refine AllReadyH.cons rfl (fun K hK=>?_) (AllReadyH.cons rfl (fun K hK=>?_) AllReadyH.nil);go_simp;refine hK.out _ _ (trivial) (fun hHeld=>?_);clear hK K;refine bJ ?_;refine aV 6 ?_;refine aV 7 ?_;refine wpAnyH_ready (rs:=[5,8]) bT aZ ?_;refine AllReadyH.cons rfl (fun K hK=>?_) (AllReadyH.cons rfl (fun K hK=>?_) AllReadyH.nil);go_simp;refine hK.out _ _ (trivial) (fun hHeld=>?_);clear hK K;refine bJ ?_;refine bR 8 (fun K hK=>?_);go_simp;refine hK.out _ _ (trivial) (fun hHeld=>?_);clear hK K;refine bJ ?_;refine aV 9 ?_;refine aV 10 ?_;refine bR 11 (fun K hK=>?_);go_simp;refine hK.out _ _ (trivial) (fun hHeld=>?_);clear hK K;refine bJ ?_;refine wpAnyH_done bT ?_ _;rotate_left 1;go_simp;refine hK.out _ _ (trivial) (fun hHeld=>?_);clear hK K;refine bJ ?_;refine bR 5 (fun K hK=>?_);go_simp;refine hK.out _ _ (trivial) (fun hHeld=>?_);clear hK K;refine bJ ?_;refine aV 9 ?_;refine aV 10 ?_;refine bR 11 (fun K hK=>?_);go_simp;refine hK.out _ _ (trivial) (fun hHeld=>?_);clear hK K;refine bJ ?_;refine wpAnyH_done bT ?_ _;rotate_left 1;go_simp;refine hK.out _ _ (trivial) (fun hHeld=>?_);clear hK K;refine bJ ?_;refine bR 3 (fun K hK=>?_);go_simp;refine hK.out _ _ (trivial) (fun hHeld=>?_);clear hK K;refine bJ ?_;refine aV 6 ?_;refine aV 7 ?_;refine bR 8 (fun K hK=>?_);go_simp;refine hK.out _ _ (trivial) (fun hHeld=>?_);clear hK K;refine bJ ?_;refine aV 9 ?_;refine aV 10 ?_;refine bR 11 (fun K hK=>?_);go_simp;refine hK.out _ _ (trivial) (fun hHeld=>?_);clear hK K;refine bJ ?_;refine wpAnyH_done bT ?_ _
  all_goals
   go_wp2;go_ret2
   first
    | (refine nw_end HM.out hb1 sz1 HZ1.out hR.out hF.out h0 h1 r0 r1 (w1.heap.size+1) (w1.heap.size+1+1) (w1.heap.size+1+1+1) (w1.heap.size+1+1+1+1) aS aS aS ?_ ?_ ?_ ?_ ?_ ?_ ?_ <;> ((repeat' (first | (with_reducible assumption) | (with_reducible refine Blk.top _ lU rfl) | (with_reducible refine Blk.alloc ?_ _) | (with_reducible refine Blk.drew ?_) | (with_reducible refine eb.drewD ?_) | (with_reducible refine eb.alloc ?_ _) | (with_reducible exact Below.refl _ _) | (with_reducible refine Below.drew ?_) | (with_reducible refine Below.alloc ?_ ?_ _) | omega | (simp;done) | (simp;omega)));done))
    | (refine nw_end HM.out hb1 sz1 HZ1.out hR.out hF.out h0 h1 r0 r1 (w1.heap.size+1) (w1.heap.size+1+1) (w1.heap.size+1+1+1+1) (w1.heap.size+1+1+1) aS aS aS ?_ ?_ ?_ ?_ ?_ ?_ ?_ <;> ((repeat' (first | (with_reducible assumption) | (with_reducible refine Blk.top _ lU rfl) | (with_reducible refine Blk.alloc ?_ _) | (with_reducible refine Blk.drew ?_) | (with_reducible refine eb.drewD ?_) | (with_reducible refine eb.alloc ?_ _) | (with_reducible exact Below.refl _ _) | (with_reducible refine Below.drew ?_) | (with_reducible refine Below.alloc ?_ ?_ _) | omega | (simp;done) | (simp;omega)));done))
    | (refine nw_end HM.out hb1 sz1 HZ1.out hR.out hF.out h0 h1 r0 r1 (w1.heap.size+1+1) (w1.heap.size+1) (w1.heap.size+1+1+1) (w1.heap.size+1+1+1+1) aS aS aS ?_ ?_ ?_ ?_ ?_ ?_ ?_ <;> ((repeat' (first | (with_reducible assumption) | (with_reducible refine Blk.top _ lU rfl) | (with_reducible refine Blk.alloc ?_ _) | (with_reducible refine Blk.drew ?_) | (with_reducible refine eb.drewD ?_) | (with_reducible refine eb.alloc ?_ _) | (with_reducible exact Below.refl _ _) | (with_reducible refine Below.drew ?_) | (with_reducible refine Below.alloc ?_ ?_ _) | omega | (simp;done) | (simp;omega)));done))
    | (refine nw_end HM.out hb1 sz1 HZ1.out hR.out hF.out h0 h1 r0 r1 (w1.heap.size+1+1) (w1.heap.size+1) (w1.heap.size+1+1+1+1) (w1.heap.size+1+1+1) aS aS aS ?_ ?_ ?_ ?_ ?_ ?_ ?_ <;> ((repeat' (first | (with_reducible assumption) | (with_reducible refine Blk.top _ lU rfl) | (with_reducible refine Blk.alloc ?_ _) | (with_reducible refine Blk.drew ?_) | (with_reducible refine eb.drewD ?_) | (with_reducible refine eb.alloc ?_ _) | (with_reducible exact Below.refl _ _) | (with_reducible refine Below.drew ?_) | (with_reducible refine Below.alloc ?_ ?_ _) | omega | (simp;done) | (simp;omega)));done))
    | fail
theorem bC.belowK (h:bC w base p A c D)(k:Keep (foot p A) w w')(hb:base<=w.heap.size):Below base w w':=k.below h.bs hb
section
variable {w:World} {base:Nat} {p:bE} {A:Option Addr} {c:Nat} {D:aX}
theorem nU (hu:P.underlying t=some (.array n e))(hs:(P.info? e).map (·.size)=some 1)(g o:Nat)(W:World) :
 (Instr.sliceAt t (.pointer (some ⟨g,o,none⟩)) none none none).run P W=.ok (.slice (some ⟨g,o,none⟩) n n) W:=by
 have e1:P.arrayLen t=n:=by unfold Program.arrayLen;rw[hu]
 have e2:P.elem t=e:=by unfold Program.elem;rw[hu]
 cases hq:P.info? e with
 | none=>simp[hq] at hs
 | some i=>
   have hsz:i.size=1:=by simpa [hq] using hs
   rw[run_sliceAt_array_all W t ⟨g,o,none⟩ (by rw[e1,e2];exact hu),e2,e1];have hso:(sizeOf e).run P W=.ok 1 W:=by simp[sizeOf,typeInfo,hq,hsz]
   have hadd:(⟨g,o,none⟩:Addr).add 0=⟨g,o,none⟩:=by simp[Addr.add]
   rw[hso];simp[slicedAt,hadd]
end
section
variable {w w':World} {base:Nat} {p:bE} {A:Option Addr} {c:Nat} {D:aX}
theorem bC.foot_ty (h:bC w base p A c D)(hb:Blk w g t cs)(hg:foot p A g):t=198\/t=205\/t=4\/t=300\/t=207:=by
 have ty:∀ {t':TypeId} {cs':List Value},Blk w g t' cs'->t=t':=fun h'=>by
  unfold Blk at hb h';rw[hb] at h';injection h' with h';injection h' with _ ht
 rcases hg with rfl | rfl | rfl | rfl | rfl | rfl | hg
 · exact .inl (ty h.st)
 · exact .inr (.inl (ty h.bk))
 · exact .inr (.inl (ty h.bn))
 · exact .inr (.inr (.inl (ty h.bi)))
 · exact .inr (.inr (.inl (ty h.bm)))
 · exact .inr (.inr (.inr (.inl (ty h.mt.2))))
 · rcases h.wa.2 with ⟨hv,_⟩ | ⟨g',cap,cur,hv,_,hh,_⟩
   · injection hv with hv;subst hv;cases hg
   · injection hv with hv;subst hv;simp only[Option.map_some,Option.some.injEq] at hg;subst hg;exact .inr (.inr (.inr (.inr (ty (cs':=cur.toList) (by unfold Blk;rw[hh])))))
end
def be (w:World)(base:Nat)(p:bE)(D:aX):Prop:=∃ A c,bC w base p A c D
theorem eA.s (h:eA w base p A D w'):be w' base p D:=by
 obtain⟨A',c',h,_⟩:=h;exact⟨A',c',h⟩
theorem bC.rebase (h:bC w base p A c D)(hb:base'<=base):bC w base' p A c D :=
 ⟨h.ok,h.st,h.bk,h.bn,h.bi,h.bm,h.mt,(h.waS.rebase hb).2,h.ne1,h.ne2,fun g hg=>ae hb (h.bs g hg)⟩
theorem bC.s (h:bC w base p A c D):be w base p D:=⟨A,c,h⟩
theorem be.below (h:be w base p D)(hb:Below w.heap.size w w'):be w' base p D:=by
 obtain⟨A,c,h⟩:=h;exact⟨A,c,h.below hb⟩
theorem be.rebase (h:be w base p D)(hb:base'<=base):be w base' p D:=by
 obtain⟨A,c,h⟩:=h;exact⟨A,c,h.rebase hb⟩
def bD (w:World)(ga d f m:Nat):Prop:=Blk w ga 289 [.pointer (some ⟨d,0,none⟩),I (f:Int),I (m:Int)]
def eW (D:aX)(n:Int):aX × List UInt8 × Int:=if mayV D n≠0 then (D,bw,mayV D n) else (dZ D,ch D.now n,0)
theorem nV (h:D.Ok)(n:Int):(eW D n).2.1.length=128:=by
 unfold eW
 split
 · exact dI
 · rename_i hm;obtain⟨_,h0,h1⟩:=kT (D:=D) (n:=n) aS;exact iC h.now h0 h1
section
variable {w w':World} {base ga f m:Nat} {p:bE} {A:Option Addr} {c:Nat} {D:aX}
theorem bD.below (h:bD w ga d f m)(hb:Below w.heap.size w w'):bD w' ga d f m:=Blk.below h hb h.lt
theorem bD.keep {F:Nat->Prop}(h:bD w ga d f m)(k:Keep F w w')(hF:¬ F ga):bD w' ga d f m:=Blk.keep h k hF
theorem bD.notFoot (h:bD w ga d f m)(hd:bC w base p A c D):¬ foot p A ga:=fun e=>by
 rcases hd.foot_ty h e with q | q | q | q | q <;> exact absurd q aU
theorem bD.spares (h:bD w ga d f m)(hd:bC w base p A c D)(k:Keep (foot p A) w w'):bD w' ga d f m:=h.keep k (h.notFoot hd)
theorem dread_any (h:bC w base p A c D)(n:Int):Ca 236 #[.pointer (some ⟨p.d,0,none⟩),I n] w fun e w'=>
 e=.returned (.tuple #[aggB (eW D n).2.1,I (eW D n).2.2])/\bC w' base p A c (eW D n).1/\Keep (foot p A) w w':=by
 unfold eW
 by_cases hn:mayV D n=0
 · rw[if_neg aS];exact read_yes h n hn
 · rw[if_pos hn];exact (read_no h n hn).mono fun e w' ⟨h1,h2⟩=>⟨h1,h.below h2,Keep.of_below h2⟩
theorem iE (h:bD w ga d f m):Ca 113 #[.pointer (some ⟨ga,0,none⟩)] w fun e w'=>e=.returned (I (m:Nat))/\w=w':=by
 have c2:=h.c2;clear h;go_enter Tryz.func113,Tryz.ntmps113;go_wp2;go_ret;exact⟨rfl,rfl⟩
/-! 'at' within the area: what the closure does at the disk's sector. -/
theorem at_read {R:Int->World->Prop}(h:bD w ga d f m)(n:Int)(h0:0<=n)(h1:n<m)(hfm:f+m<=4096)
 (hF:Ca 235 #[I ((f:Int)+n),x1,x2] w (fun e w'=>∃ z,e=.returned (I z)/\R z w')) :
 Ca 234 #[.pointer (some ⟨ga,0,none⟩),I n,.func (.func 235) #[] #[x1,x2]] w fun e w'=>∃ z,e=.returned (I z)/\R z w':=by
 have c0:=h.c0;have c1:=h.c1;have c2:=h.c2;clear h;go_enter Tryz.func234,Tryz.ntmps234;go_wp2_with (first | ((go_at_call 235;go_call (hF) as e w2 ⟨z,rfl,hR⟩)) | fail);go_ret;exact⟨z,rfl,hR⟩
theorem at_write {R:Int->World->Prop}(h:bD w ga d f m)(n:Int)(h0:0<=n)(h1:n<m)(hfm:f+m<=4096)
 (hF:Ca 257 #[I ((f:Int)+n),x1,x2] w (fun e w'=>∃ z,e=.returned (I z)/\R z w')) :
 Ca 234 #[.pointer (some ⟨ga,0,none⟩),I n,.func (.func 257) #[] #[x1,x2]] w fun e w'=>∃ z,e=.returned (I z)/\R z w':=by
 have c0:=h.c0;have c1:=h.c1;have c2:=h.c2;clear h;go_enter Tryz.func234,Tryz.ntmps234;go_wp2_with (first | ((go_at_call 257;go_call (hF) as e w2 ⟨z,rfl,hR⟩)) | fail);go_ret;exact⟨z,rfl,hR⟩
theorem at_out {k:Nat}{caps:Array Value}(h:bD w ga d f m)(n:Int)(hn:n<0\/(m:Int)<=n) :
 Ca 234 #[.pointer (some ⟨ga,0,none⟩),I n,.func (.func k) #[] caps] w fun e w'=>e=.returned (I 51)/\w=w':=by
 have c0:=h.c0;have c2:=h.c2;clear h;have hc:n<0\/(0<=n/\(m:Int)<=n):=aS;clear hn;rcases hc with h1 | ⟨h1,h2⟩
 all_goals
  go_enter Tryz.func234,Tryz.ntmps234;go_wp2;go_ret;exact⟨rfl,rfl⟩
end
