/- Lemmas (part 25). -/
import Derived.Test.YtinkbgeckjbnbaaGreatZw24
namespace Go.Proofs.YtinkbgeckjbnbaaGreat
open Go.RowKit Go.Proofs.Tryz
set_option autoImplicit true
set_option relaxedAutoImplicit true
set_option linter.unusedVariables false
set_option linter.unusedSimpArgs false
set_option maxRecDepth 100000
set_option maxHeartbeats 32000000
theorem RdE.routW {w:World} {a:Option Addr} {n c:Nat} {l:List KeyL} (h:RdE KeyL.cells 2 w a n c l) (hf:ROut O w w') (ho:l≠[]->∀ b o sp,a=some ⟨b,o,sp⟩->O b % 8≠2):RdE KeyL.cells 2 w' a n c l:=h.frmW hf ho
theorem xaf (O:Own) (B:RA) (r:Nat) (c:CfgM) (S:CS) (s q h sq wk ep:Int) (l:List KeyL) (en:Bool) (a:Option Addr) (cc:Nat) (ns wn:Nat) (b:Int) (w:World) (hw:RW w O B r c S) (hm:mayC c=true) (hz:c.short) (hr:RdE KeyL.cells 2 w a l.length cc l) (CH:l≠[]->∀ b o sp,a=some ⟨b,o,sp⟩->O b % 8≠2) (hx:∀ x∈l,x.2.size<=1000000)
  (CL:S.OK ns b) (CJ:(ns:Int)=shardsC c) (C5:b<=800000) (CO:c.sl=(S.L.length:Int)) (CR:S.tm.length<=24) (CI:∀ (j i:Nat),S.L[j]?=some i->i≠0->∀ s,ns<=s->s < 6->hasL (6 * (j:Int)+(s:Nat)) S.tm=false) (CT:c.wk=(wn:Int)) (CU:wn<=5):
  Calls prog 99 #[.pointer (some ⟨r,0,none⟩),.agg #[s,q,h,sq,wk,ep,.slice a l.length cc,.bool en]] w (RreE O B r c (S.rep ns wn s q h sq wk ep l en) w):=by
 have ⟨R,F⟩:=gn (S.rep ns wn s q h sq wk ep l en);rw [F];unfold CS.rep CS.repOK at F;have HR:=Hy F;clear F;have ⟨O0,BM⟩:=gn (O.upd w.heap.size 0);have y:=Hy (by rw [<- BM];exact AgO.upd _ _ _:AgO w.heap.size O O0);have NG:=Hy (show ∀ k,w.heap.size<=k->¬ (O0 k % 8=2) from fun k BQ=>by rw [<- BM,Own.upd_ge BQ];decide);have NA:=Hy (show l≠[]->∀ b o sp,a=some ⟨b,o,sp⟩->O0 b % 8≠2 from fun Dx b o sp e=>by by_cases hl:b < w.heap.size;(rw [y.o b hl];exact CH Dx b o sp e);exact NG.o b (by omega));clear BM CH;have ⟨W,hW⟩:=gn (w.alloc (.cells #[s,q,h,sq,wk,ep,.slice a l.length cc,.bool en] 65))
 have C6:Below w.heap.size w W:=by rw [<- hW];exact (bf _ w).alloc (nl _) _
 have G:=Hy (by rw [<- hW];exact hn_ w _:Blk W.drew w.heap.size 65 [s,q,h,sq,wk,ep,.slice a l.length cc,.bool en]);have HB:=Hy (C6.drew);have HC:=Hy (show RW W.drew O0 B r c S from hw.below HB.o y.o);have HI:=Hy (show RdE KeyL.cells 2 W.drew a l.length cc l from hr.below HB.o rfl);have Df:=Hy hm;have HZ:=Hy hz;have Cx:=Hy hx;have At:=Hy CL;have Cn:=Hy CJ;have Bz:=Hy C5;have Dl:=Hy CO;have Cw:=Hy CR;have Dh:=Hy CI;have Do:=Hy CT
 have Dg:=Hy (Zf hm);have AO:=xe c;have CK:ns<=6:=by omega
 obtain ⟨ac,DG,CB⟩:=hw.cc;have De:=Hy (by rw [CB];exact ⟨rfl,fun _=>rfl⟩:S.c.cp=c.cp/\∀ h,copN S.c h=copN c h);clear CB AO CJ C6 hw hr hm hz hx CL C5 CO CR CI CT;have ⟨M,hM⟩:=gn (replyB s q h sq wk ep l);have HM:=Hy hM;have BS:=qT s q h sq wk ep l en a cc W.drew HI.o Cx.o;rw [hM] at BS;have Af:=Hy BS;clear hM BS;have ⟨LN,C1⟩:=gn S.L.length;have Aq:=Hy C1;clear C1;have Dz:=fun b V=>YQ b V;have Dy:=fun V=>ZQ V;have Ar:=Hy (fun (V:World) (hV:RW V O0 B r c S)=>show V.cell? ⟨r,4,none⟩=some (.int .i64 (LN:Nat)) from by have q:Ci V r 4 c.sl:=hV.cell 4;rw [Dl.o,Aq.o] at q;exact q)
 go_in;have ⟨bx,Bc⟩:=gn w.heap.size;have AX:=Hy Bc;rw [Bc] at G;go_upto_region 10 with (first | rw [hW] | (rw [hW];rw [Bc]));clear hW Bc;cases M
 ·skip
  let BB:World->Prop:=fun w'=>Ci w' bx 0 s/\Ci w' bx 1 q/\Ci w' bx 2 h/\Ci w' bx 3 sq/\Ci w' bx 4 wk/\Ci w' bx 5 ep/\Cl w' bx 6 (.slice a l.length cc)/\Cl w' bx 7 (.bool en);have N:=Hy (show BB W.drew from ⟨G.o.cell 0,G.o.cell 1,G.o.cell 2,G.o.cell 3,G.o.cell 4,G.o.cell 5,G.o.cell 6,G.o.cell 7⟩);refine rg BB fun A=>?_
  refine tk 0 ?_;refine rdy 1 fun K I=>?_;go_simp;refine Af.o.mono ?_;rintro e w1 ⟨rfl,E⟩;clear Af;have H:=Hy (HC.o.below E (AgO.refl _ _));have C:=Hy (G.o.below E G.o.lt);have A2:=Hy (HI.o.below E rfl);have Ae:=Hy (HB.o.trans (E.mono HB.o.size));clear E;have U:=Hy (show BB w1 from ⟨C.o.cell 0,C.o.cell 1,C.o.cell 2,C.o.cell 3,C.o.cell 4,C.o.cell 5,C.o.cell 6,C.o.cell 7⟩);go_wp2_with fail;refine hk I fun A=>?_;clear I K
  (iterate 37 first | refine tq 2 ?_ | refine tr 2 ?_);refine dn ?_;clear A N U;go_wp2_with fail;go_ret;have F:=HR.o;rw [HM.o] at F;rw [if_pos (by simp)] at F;subst F;exact RGoE.none H.o y.o (ROut.below Ae.o)
 have hM:=HM.o;unfold replyB placeB at hM;simp only [Bool.and_eq_true,decide_eq_true_eq] at hM;obtain ⟨⟨⟨⟨-,DP⟩,⟨⟨CN,DR⟩,CD⟩,DM⟩,-⟩,-⟩:=hM;obtain ⟨j,rfl⟩:=Int.eq_ofNat_of_zero_le CN;obtain ⟨hn,rfl⟩:=Int.eq_ofNat_of_zero_le CD;clear CN CD;have DO:LN<=4:=by rw [<- Aq.o];exact At.sl.len.2
 have j0:(0:Int)<=(j:Int):=by omega
 have AU:=Hy (show atF S.L (j:Int)=(match S.L[j]? with | some x=>if x=0 then none else some (x:Int) | none=>none) from by unfold atF;rw [if_pos j0,Int.toNat_natCast];rfl)
 by_cases Du:LN<=j
 ·have d1:decide ((LN:Int)<=(j:Int))=true:=by simp;omega
  have d2:decide (LN<=j)=true:=by simp;omega
  have Dt:(LN:Int)<=(j:Int):=by omega
  let BC:World->Prop:=fun w'=>Ci w' r 4 (LN:Nat)/\Ci w' bx 0 (j:Nat)/\Ci w' bx 1 q/\Ci w' bx 2 (hn:Nat)/\Ci w' bx 3 sq/\Ci w' bx 4 wk/\Ci w' bx 5 ep/\Cl w' bx 6 (.slice a l.length cc)/\Cl w' bx 7 (.bool en);have N:=Hy (show BC W.drew from ⟨Ar.o _ HC.o,G.o.cell 0,G.o.cell 1,G.o.cell 2,G.o.cell 3,G.o.cell 4,G.o.cell 5,G.o.cell 6,G.o.cell 7⟩);refine rg BC fun A=>?_
  refine tk 0 ?_;refine rdy 1 fun K I=>?_;go_simp;refine Af.o.mono ?_;rintro e w1 ⟨rfl,E⟩;clear Af;have H:=Hy (HC.o.below E (AgO.refl _ _));have C:=Hy (G.o.below E G.o.lt);have A2:=Hy (HI.o.below E rfl);have Ae:=Hy (HB.o.trans (E.mono HB.o.size));clear E;have U:=Hy (show BC w1 from ⟨Ar.o _ H.o,C.o.cell 0,C.o.cell 1,C.o.cell 2,C.o.cell 3,C.o.cell 4,C.o.cell 5,C.o.cell 6,C.o.cell 7⟩);go_wp2_with fail;refine I.out _ _ (by first | with_reducible exact N.o | with_reducible exact U.o) (fun A=>?_)
  clear I K;(iterate 37 first | refine tq 2 ?_ | refine tr 2 ?_);refine dn ?_;clear A N U;go_wp2_with fail;go_ret;have F:=HR.o;rw [AU.o,List.getElem?_eq_none (by rw [Aq.o];exact Du)] at F;rw [if_pos (by simp)] at F;subst F;exact RGoE.none H.o y.o (ROut.below Ae.o)
 have Dt:(j:Int) < (LN:Int):=by omega
 have Dv:¬ ((LN:Int)<=(j:Int)):=by omega
 have d1:decide ((LN:Int)<=(j:Int))=false:=by simp;omega
 have d2:decide (LN<=j)=false:=by simp;omega
 have j4:(j:Int) < 4:=by omega
 have As:j < 4:=by omega
 by_cases D:S.L.getD j 0=0
 ·skip
  let BD:World->Prop:=fun w'=>Ci w' r 4 (LN:Nat)/\Cl w' r (16+j) (.pointer none)/\Ci w' bx 0 (j:Nat)/\Ci w' bx 1 q/\Ci w' bx 2 (hn:Nat)/\Ci w' bx 3 sq/\Ci w' bx 4 wk/\Ci w' bx 5 ep/\Cl w' bx 6 (.slice a l.length cc)/\Cl w' bx 7 (.bool en);have N:=Hy (show BD W.drew from ⟨Ar.o _ HC.o,HC.qcell0 D As,G.cell 0,G.cell 1,G.cell 2,G.cell 3,G.cell 4,G.cell 5,G.cell 6,G.cell 7⟩)
  refine rg BD fun A=>?_;refine tk 0 ?_;refine rdy 1 fun K I=>?_;go_simp;refine Af.o.mono ?_;rintro e w1 ⟨rfl,E⟩;clear Af;have H:=Hy (HC.o.below E (AgO.refl _ _));have C:=Hy (G.o.below E G.o.lt);have A2:=Hy (HI.o.below E rfl);have Ae:=Hy (HB.o.trans (E.mono HB.o.size));clear E;have U:=Hy (show BD w1 from ⟨Ar.o _ H.o,H.o.qcell0 D As,C.o.cell 0,C.o.cell 1,C.o.cell 2,C.o.cell 3,C.o.cell 4,C.o.cell 5,C.o.cell 6,C.o.cell 7⟩)
  go_wp2_with fail;refine hk I fun A=>?_;clear I K;(iterate 37 first | refine tq 2 ?_ | refine tr 2 ?_);refine dn ?_;clear A N U;go_wp2_with fail;go_ret;have F:=HR.o;rw [AU.o,show S.L[j]?=some 0 from by have CF:j < S.L.length:=(by rw [Aq.o];omega);rw [List.getD_eq_getElem?_getD,List.getElem?_eq_getElem CF] at D;rw [List.getElem?_eq_getElem CF];exact congrArg some D] at F;rw [if_pos (by simp)] at F;subst F;exact RGoE.none H.o y.o (ROut.below Ae.o)
 have hg:=Xk D;have ⟨id,CE⟩:=gn (S.L.getD j 0);rw [CE] at hg D;have HJ:=Hy hg;have An:=Hy (show atF S.L (j:Int)=some (id:Int) from by rw [AU.o,hg];show (if id=0 then none else some (id:Int))=_;rw [if_neg D]);have Ah:=Hy (lm hg);clear hg CE AU
 by_cases hq:(id:Int)=q
 rotate_left 1
 ·have C8:((id:Int) != q)=true:=by simp [hq]
  have Dj:=Hy hq;clear hq;let BE:World->Prop:=fun w'=>Ci w' r 4 (LN:Nat)/\Cp w' r (16+j) (B.q id)/\Cp w' r 14 B.sl/\Cl w' B.sl 0 (.slice (some ⟨B.sf,0,none⟩) LN LN)/\Ci w' B.sf j (id:Nat)/\Ci w' bx 0 (j:Nat)/\Ci w' bx 1 q/\Ci w' bx 2 (hn:Nat)/\Ci w' bx 3 sq/\Ci w' bx 4 wk/\Ci w' bx 5 ep/\Cl w' bx 6 (.slice a l.length cc)/\Cl w' bx 7 (.bool en)
  have N:=Hy (show BE W.drew from ⟨Ar.o _ HC.o,HC.o.qcell HJ.o D As,HC.o.cell 14,by have q:=(HC.o.scell HJ.o).1;rw [Aq.o] at q;exact q,(HC.o.scell HJ.o).2,G.o.cell 0,G.o.cell 1,G.o.cell 2,G.o.cell 3,G.o.cell 4,G.o.cell 5,G.o.cell 6,G.o.cell 7⟩);refine rg BE fun A=>?_;refine tk 0 ?_;refine rdy 1 fun K I=>?_;go_simp;refine Af.o.mono ?_;rintro e w1 ⟨rfl,E⟩;clear Af;have H:=Hy (HC.o.below E (AgO.refl _ _));have C:=Hy (G.o.below E G.o.lt);have A2:=Hy (HI.o.below E rfl);have Ae:=Hy (HB.o.trans (E.mono HB.o.size));clear E;have U:=Hy (show BE w1 from ⟨Ar.o _ H.o,H.o.qcell HJ.o D As,H.o.cell 14,by have q:=(H.o.scell HJ.o).1;rw [Aq.o] at q;exact q,(H.o.scell HJ.o).2,C.o.cell 0,C.o.cell 1,C.o.cell 2,C.o.cell 3,C.o.cell 4,C.o.cell 5,C.o.cell 6,C.o.cell 7⟩)
  go_wp2_with fail;refine hk I fun A=>?_;clear I K;(iterate 37 refine tq 2 ?_);refine dn ?_;clear A N U;go_wp2_with fail;go_ret;have F:=HR.o;rw [An.o] at F;rw [if_pos (by have:=Dj.o;simp [this])] at F;subst F;exact RGoE.none H.o y.o (ROut.below Ae.o)
 subst hq;have C8:((id:Int) != (id:Int))=false:=by simp
 let BF:World->Prop:=fun w'=>Ci w' r 4 (LN:Nat)/\Cp w' r (16+j) (B.q id)/\Cp w' r 14 B.sl/\Cl w' B.sl 0 (.slice (some ⟨B.sf,0,none⟩) LN LN)/\Ci w' B.sf j (id:Nat)/\Ci w' bx 0 (j:Nat)/\Ci w' bx 1 (id:Nat)/\Ci w' bx 2 (hn:Nat)/\Ci w' bx 3 sq/\Ci w' bx 4 wk/\Ci w' bx 5 ep/\Cl w' bx 6 (.slice a l.length cc)/\Cl w' bx 7 (.bool en)
 have N:=Hy (show BF W.drew from ⟨Ar.o _ HC.o,HC.o.qcell HJ.o D As,HC.o.cell 14,by have q:=(HC.o.scell HJ.o).1;rw [Aq.o] at q;exact q,(HC.o.scell HJ.o).2,G.o.cell 0,G.o.cell 1,G.o.cell 2,G.o.cell 3,G.o.cell 4,G.o.cell 5,G.o.cell 6,G.o.cell 7⟩);refine rg BF fun A=>?_;refine tk 0 ?_;refine rdy 1 fun K I=>?_;go_simp;refine Af.o.mono ?_;rintro e w1 ⟨rfl,E⟩;clear Af;have H:=Hy (HC.o.below E (AgO.refl _ _));have C:=Hy (G.o.below E G.o.lt);have A2:=Hy (HI.o.below E rfl);have Ae:=Hy (HB.o.trans (E.mono HB.o.size));clear E;have U:=Hy (show BF w1 from ⟨Ar.o _ H.o,H.o.qcell HJ.o D As,H.o.cell 14,by have q:=(H.o.scell HJ.o).1;rw [Aq.o] at q;exact q,(H.o.scell HJ.o).2,C.o.cell 0,C.o.cell 1,C.o.cell 2,C.o.cell 3,C.o.cell 4,C.o.cell 5,C.o.cell 6,C.o.cell 7⟩)
 go_wp2_with fail;refine hk I fun A=>?_;clear I K;(iterate 37 refine tq 2 ?_);refine dn ?_;clear A N U;have ⟨kp,Be⟩:=gn (has (copiesC c (hn:Nat)) wk)
 have Bt:(decide ((hn:Int) < ns)&&has (copN S.c hn) wk)=kp:=by
  by_cases Av:(hn:Int) < ns
  ·rw [decide_eq_true Av,Bool.true_and,De.2,<- Be,Yf (by unfold inB;rw [<- Cn.o];simp;omega)];rfl
  ·rw [decide_eq_false Av,Bool.false_and,<- Be,xA (by unfold inB;rw [<- Cn.o];simp;omega)];rfl
 have F:=HR.o;rw [HM.o,An.o,decide_eq_true (show some (id:Int)=some (id:Int) from rfl),Bool.true_and,Bool.true_and,Int.toNat_natCast,Int.toNat_natCast,Bt] at F;clear HR;have HR:=Hy F;clear F Bt;have ⟨cl,Bd⟩:=gn (copiesC c (hn:Nat));have ⟨n,Bf⟩:=gn cl.length;have DQ:n<=3:=by rw [<- Bf,<- Bd];have h1:=Dg.o;unfold copiesC;split;(rw [List.length_map,List.length_range];omega);exact nz _
 have B6:=Hy Bf;have Ce:=Hy (by have q:=Yr c (hn:Nat) w1.drew (H.below (below_drewN (bf _ w1) 1) (AgO.refl _ _)).cf.ok HZ.o Df.o (by omega) (by omega);rw [Bd,Bf] at q;exact q:Calls prog 146 #[.agg #[.slice c.aw c.nw c.cw,.slice c.ac c.nc c.cc,c.wk,c.cp,c.sl,c.ba,c.le,c.he,c.fi,c.ca,c.ji,c.ne],(hn:Nat)] w1.drew fun e w'=>∃ ao cap,e=.returned (.slice ao n cap)/\w'.ownsRow w1.drew.heap.size 3 1 (.slice ao n cap) n (ints cl)/\Below w1.drew.heap.size w1.drew w')
 have Cm:=Hy (by rw [<- Be,Bd];unfold has;rw [Bool.eq_iff_iff];simp [List.any_eq_true]:cl.any (fun x=>decide (x=wk))=kp);clear Be Bd Bf;have f:=Hy (show RW w1.drew O0 B r c S from H.below (below_drewN (bf _ w1) 1) (AgO.refl _ _));have Ac:=Hy (show Blk w1.drew bx 65 [(j:Nat),(id:Nat),(hn:Nat),sq,wk,ep,.slice a l.length cc,.bool en] from C.o);have Cg:=Hy (show RdE KeyL.cells 2 w1.drew a l.length cc l from A2.o);have Bw:=Hy (show Below w.heap.size w w1.drew from Ae.drew)
 clear HC G HI HB H C A2 Ae HM An C8 Dz Dy d1 d2 Dv;go_upto_region 49 with fail;let BG:World->Prop:=fun w'=>Cl w' r 0 (.slice c.aw c.nw c.cw)/\Cl w' r 1 (.slice c.ac c.nc c.cc)/\Ci w' r 2 c.wk/\Ci w' r 3 c.cp/\Ci w' r 4 c.sl/\Ci w' r 5 c.ba/\Ci w' r 6 c.le/\Ci w' r 7 c.he/\Ci w' r 8 c.fi/\Ci w' r 9 c.ca/\Ci w' r 10 c.ji/\Ci w' r 11 c.ne/\Ci w' bx 0 (j:Nat)/\Ci w' bx 1 (id:Nat)/\Ci w' bx 2 (hn:Nat)/\Ci w' bx 3 sq/\Ci w' bx 4 wk/\Ci w' bx 5 ep/\Cl w' bx 6 (.slice a l.length cc)/\Cl w' bx 7 (.bool en)
 have N:=Hy (show BG w1.drew from ⟨f.o.cell 0,f.o.cell 1,f.o.cell 2,f.o.cell 3,f.o.cell 4,f.o.cell 5,f.o.cell 6,f.o.cell 7,f.o.cell 8,f.o.cell 9,f.o.cell 10,f.o.cell 11,Ac.o.cell 0,Ac.o.cell 1,Ac.o.cell 2,Ac.o.cell 3,Ac.o.cell 4,Ac.o.cell 5,Ac.o.cell 6,Ac.o.cell 7⟩);refine rg BG fun A=>?_;(iterate 6 refine tq 0 ?_);refine rdy 6 fun K I=>?_
 go_simp;refine Ce.mono ?_;clear Ce;rintro e w3 ⟨ka,kc,rfl,Bv,hb⟩;have g:=Hy (f.below hb (AgO.refl _ _));have z:=Hy (Ac.below hb Ac.lt);have Ch:=Hy (Cg.below hb rfl);have Bx:=Hy (Bw.trans (hb.mono Bw.size));have Cr:=Hy (Yc Bv);clear Bv hb;have U:=Hy (show BG w3 from ⟨g.cell 0,g.cell 1,g.cell 2,g.cell 3,g.cell 4,g.cell 5,g.cell 6,g.cell 7,g.cell 8,g.cell 9,g.cell 10,g.cell 11,z.cell 0,z.cell 1,z.cell 2,z.cell 3,z.cell 4,z.cell 5,z.cell 6,z.cell 7⟩)
 go_wp2_with fail;refine hk I fun A=>?_;clear I K;refine tk 7 ?_;refine dn ?_;clear A N U f Ac Cg Bw;go_wp2_with fail;go_loopw [5,7] (fun v1 v2 wr=>RkpR wk cl w3 n v1 v2 wr) (fun _ v2 _=>n - (intOf v2).toNat)
 case atStart=>exact ⟨0,nz _,by rw [List.take_zero];rfl,rfl,bf _ _⟩
 case round=>
  obtain ⟨k,BQ,rfl,rfl,Ab⟩:=hrel
  by_cases Av:k < n
  ·have e1:(k:Int) < (n:Int):=by omega
   have e0:(0:Int)<=(k:Int):=by omega
   obtain ⟨kb,ko,BR,Dw,CG⟩:=Cr.2.2.2.2 k Av;obtain ⟨x,hx⟩:∃ x,cl[k]?=some x:=⟨cl[k]'(by rw [B6.o];exact Av),le_ _⟩;have AL:w3.cell? ⟨kb,ko+k,none⟩=some (.int .i64 x):=by rw [CG];unfold ints;rw [List.getElem?_map,hx];rfl
   have d:=Hy (show Below w3.heap.size w3 wr.drew from Ab.drew);have Au:=Hy (z.below d.o z.lt);have AE:=Hy (xM (fun x=>decide (x=wk)) cl k x hx);have ⟨ta,CP⟩:=gn ((cl.take k).any (fun x=>decide (x=wk)));rw [CP] at AE ⊢;let BH:World->Prop:=fun w'=>Ci w' kb (ko+k) x/\Ci w' bx 4 wk;have N:=Hy (show BH wr.drew from ⟨(d.cell (cell?_lt AL)).trans AL,Au.cell 4⟩);have DT:(x == wk)=decide (x=wk):=by rw [Bool.eq_iff_iff];simp
   subst BR;clear Dw CG AL hx CP Au;go_upto_region 62 with fail;cases ta
   focus
    skip
    refine rg BH fun A=>?_;(iterate 11 refine tq 0 ?_)
   rotate_left
   focus
    skip
    refine rg BH fun A=>?_;(iterate 11 first | refine tq 0 ?_ | refine tr 0 ?_)
   all_goals
    refine dn ?_;clear A;go_wp2_with fail;go_roundw
    case rel=>exact ⟨k+1,by omega,by have h:=AE.o;simp only [Bool.false_or,Bool.true_or] at h;rw [h],by first | rfl | go_num,d.o⟩
    case measure=>first | (simp [intOf];done) | (simp [intOf];omega)
  obtain rfl:k=n:=by omega
  rw [show (cl.take k)=cl from List.take_of_length_le (by rw [B6.o];exact Nat.le_refl _),Cm.o];clear Cm Cr B6;have A9:=Hy (g.below Ab.o (AgO.refl _ _));have Au:=Hy (z.below Ab.o z.lt);have Cj:=Hy (Ch.below Ab.o rfl);have AW:=Hy (Bx.trans (Ab.mono Bx.size));clear g z Ch Bx Ab;have HQ:=Hy (At.q id Ah.o D);have Bs:id<=S.told.length/\S.told.length<=1000000:=⟨At.sl.le id Ah.o,by have h1:=At.tl;have h2:=Bz.o;omega⟩;obtain ⟨i,hi⟩:∃ i,id=i+1:=⟨id - 1,by omega⟩;have BU:=HQ.told;rw [show id - 1=i by omega] at BU
  obtain ⟨tb,CQ,Bh⟩:=A9.tcell BU;have Aw:=Hy (fun (V:World) (hV:Below wr.heap.size wr V)=>show Calls prog 136 #[.pointer (some ⟨r,0,none⟩),(id:Nat)] V fun e w'=>e=.returned (.int .i64 (i:Nat))/\V=w' from by have q:=xL i V (A9.below hV (AgO.refl _ _)) (by omega) Bs.2;rw [show ((i:Int)+1)=(id:Int) by omega] at q;exact q);have AR:wr.cell? ⟨r,20,none⟩=some (.slice B.aa S.told.length B.ac):=A9.cell 20;rw [CQ] at AR;have ⟨TL,C2⟩:=gn S.told.length;rw [C2] at AR Bs;have i1:(i:Int) < (TL:Int):=by omega
  have i0:(0:Int)<=(i:Int):=by omega
  have t1:Ct wr tb (i * 7+1) ((S.Q id).q):=Bh 1 (by omega);have t2:Ci wr tb (i * 7+1+1) ((S.Q id).k):=Bh 2 (by omega);have t3:Ci wr tb (i * 7+1+2) ((S.Q id).n):=Bh 3 (by omega);have b1:Ci wr bx 1 (id:Nat):=Au.cell 1;let C0:World->Prop:=fun w'=>Cl w' r 20 (.slice (some ⟨tb,0,none⟩) TL B.ac)/\Ct w' tb (i * 7+1) ((S.Q id).q)/\Ci w' tb (i * 7+1+1) ((S.Q id).k)/\Ci w' tb (i * 7+1+2) ((S.Q id).n)/\Ci w' bx 1 (id:Nat)
  have Ba:=Hy (fun (V:World) (hV:Below wr.heap.size wr V)=>show C0 V from ⟨(hV.cell (cell?_lt AR)).trans AR,(hV.cell (cell?_lt t1)).trans t1,(hV.cell (cell?_lt t2)).trans t2,(hV.cell (cell?_lt t3)).trans t3,(hV.cell (cell?_lt b1)).trans b1⟩);have HI:=Hy hi;clear hi BU CQ Bh C2 AR t1 t2 t3 b1;go_upto_region 72 with fail;have J:Below wr.heap.size wr wr.drew:=below_drewN (bf wr.heap.size wr) 1;have Cs:=Hy (Ba.o _ J);have Bj:=Hy (Aw.o _ J);have Ca:=Hy J;clear J;have J:Below wr.heap.size wr (wr.alloc (.cells #[.string ⟨#[]⟩,(),()] 40)).drew:=((bf wr.heap.size wr).alloc (nl _) (.cells #[.string ⟨#[]⟩,(),()] 40)).drew
  have Cu:=Hy (Ba.o _ J);have Bk:=Hy (Aw.o _ J);have Cb:=Hy J;clear J;have J:Below wr.heap.size wr (wr.alloc (.cells #[.string (S.Q id).q,.int .i64 (S.Q id).k,.int .i64 (S.Q id).n] 40)).drew:=((bf wr.heap.size wr).alloc (nl _) (.cells #[.string (S.Q id).q,.int .i64 (S.Q id).k,.int .i64 (S.Q id).n] 40)).drew;have Cv:=Hy (Ba.o _ J);have An:=Hy (Aw.o _ J);have Bl:=Hy J;clear J;refine rg C0 fun A=>?_;(iterate 7 refine tq 0 ?_);refine wpAnyH_ready (rs:=[7,11]) (by kernel_rfl) (by simp) ?_;refine AllReadyH.cons rfl (fun K I=>?_) (AllReadyH.cons rfl (fun K I=>?_) AllReadyH.nil)
  focus
   go_simp
   refine Bj.o.mono ?_;rintro e w' ⟨rfl,rfl⟩;go_wp2_with fail;refine hk I fun A=>?_;clear I K;(iterate 3 refine tq 8 ?_);refine rdy 11 fun K I=>?_
   go_simp
   go_wp2_with fail;refine hk I fun A=>?_;clear I K
  rotate_left
  focus
   go_simp
   go_wp2_with fail;refine hk I fun A=>?_;clear I K
   refine rdy 7 fun K I=>?_
   go_simp
   refine Bk.o.mono ?_;rintro e w' ⟨rfl,rfl⟩;go_wp2_with fail;refine hk I fun A=>?_;clear I K;(iterate 3 refine tq 8 ?_)
  all_goals
   refine rdy 12 fun K I=>?_
   go_simp
   go_wp2_with fail;refine hk I fun A=>?_;clear I K
   refine dn ?_;clear A;have Bg:Blk (wr.alloc (.cells #[.string (S.Q id).q,.int .i64 (S.Q id).k,.int .i64 (S.Q id).n] 40)).drew wr.heap.size 40 [.string (S.Q id).q,.int .i64 (S.Q id).k,.int .i64 (S.Q id).n]:=hn_ wr _;have J:=Bl.o;clear Cs Cu Cv Bj Bk An Ca Cb Bl Ba Aw;have ⟨qb,AN⟩:=gn wr.heap.size;have D6:=Hy (by rw [<- AN];exact AW.size:w.heap.size<=qb);have ⟨W5,C4⟩:=gn ((wr.alloc (.cells #[.string (S.Q id).q,.int .i64 (S.Q id).k,.int .i64 (S.Q id).n] 40)).drew);rw [C4] at Bg J ⊢
   clear C4;have Cd:=Hy (A9.below J (AgO.refl _ _));have Aj:=Hy (Au.below J Au.lt);have B2:=Hy (Cj.below J rfl);have By:=Hy (AW.trans (J.mono AW.size));rw [AN] at Bg ⊢;have B9:=Hy Bg;clear Bg J AN A9 Au Cj AW;go_wp2_with fail;go_loopw [5,9] (fun v1 v2 wr=>RfaR kp (S.Q id).k l W5 v1 v2 wr) (fun _ v2 _=>l.length - (intOf v2).toNat)
   case atStart=>exact ⟨0,kp,nz _,rfl,rfl,(by rw [List.take_zero];unfold Hid;simp),bf _ _⟩
   case round=>
    obtain ⟨k,b1,BQ,rfl,rfl,HV,Ab⟩:=hrel
    by_cases Av:k < l.length
    ·have e1:(k:Int) < (l.length:Int):=by omega
     have e0:(0:Int)<=(k:Int):=by omega
     obtain ⟨x,hx⟩:∃ x,l[k]?=some x:=⟨l[k],le_ Av⟩;have BK:Cl wr bx 6 (.slice a l.length cc):=(Aj.below Ab.o Aj.lt).cell 6;obtain ⟨b2,AP,BR,C7,hc⟩:=B2.2.2.2.2 k x hx;have BO:Ci W5 b2 (AP+k * 2) x.1:=hc 0 (by decide);have d:=Hy (show Below W5.heap.size W5 wr.drew from Ab.drew);have u:=Hy (Aj.below d.o Aj.lt);have Cq:=Hy (B9.below d.o B9.lt);have AE:=Hy (xG (farK (S.Q id).k) l k x hx);have ⟨K,I⟩:=gn ((S.Q id).k);subst BR;let BI:World->Prop:=fun w'=>Cl w' bx 6 (.slice (some ⟨b2,AP,none⟩) l.length cc)/\Ci w' b2 (AP+k * 2) x.1/\Ci w' qb 1 ((S.Q id).k)
     have N:=Hy (show BI wr.drew from ⟨u.cell 6,(d.cell (cell?_lt BO)).trans BO,Cq.cell 1⟩);have Cf:=Hy (by unfold farK;rw [Bool.eq_iff_iff];simp:farK (S.Q id).k x=!(decide (x.1<=(S.Q id).k)));clear C7 hc BO hx u Cq I;go_upto_region 90 with fail;clear BK;cases b1
     ·skip
      refine rg BI fun A=>?_;(iterate 13 first | refine tq 0 ?_ | refine tr 0 ?_);refine dn ?_;clear A;go_wp2_with fail;go_roundw
      case rel=>exact ⟨k+1,false,by omega,rfl,by first | rfl | go_num,Hy (show (false)=(kp&&!((l.take (k+1)).any (farK (S.Q id).k))) from by have h:=HV.o;rw [AE.o,Cf.o];revert h;cases kp <;> cases (l.take k).any (farK (S.Q id).k) <;> cases decide (x.1<=(S.Q id).k) <;> simp),d.o⟩
      case measure=>first | (simp [intOf];done) | (simp [intOf];omega)
     skip
     refine rg BI fun A=>?_;(iterate 13 refine tq 0 ?_);refine dn ?_;clear A;go_wp2_with fail;go_roundw
     case rel=>exact ⟨k+1,decide (x.1<=(S.Q id).k),by omega,rfl,by first | rfl | go_num,Hy (show (decide (x.1<=(S.Q id).k))=(kp&&!((l.take (k+1)).any (farK (S.Q id).k))) from by have h:=HV.o;rw [AE.o,Cf.o];revert h;cases kp <;> cases (l.take k).any (farK (S.Q id).k) <;> cases decide (x.1<=(S.Q id).k) <;> simp),d.o⟩
     case measure=>first | (simp [intOf];done) | (simp [intOf];omega)
    obtain rfl:k=l.length:=by omega
    have BA:=Hy (by have h:=HV.o;rw [List.take_length] at h;exact h:b1=(kp&&!(l.any (farK (S.Q id).k))));have BK:wr.cell? ⟨bx,6,none⟩=some (.slice a l.length cc):=(Aj.below Ab.o Aj.lt).cell 6;have d:=Hy (show Below W5.heap.size W5 wr.drew from Ab.drew);have A0:=Hy (Cd.below d.o (AgO.refl _ _));have u:=Hy (Aj.below d.o Aj.lt);have B3:=Hy (B2.below d.o rfl);have A8:=Hy (By.trans (d.mono By.size));clear HV Ab Cd Aj B2 By d B9;have AC:=Hy (xaw A0.o At.t wk ep)
    go_upto_region 102 with fail;clear BK;let A3:World->Prop:=fun w'=>Cp w' r 13 B.le/\Ci w' r 12 S.now/\Ci w' bx 0 (j:Nat)/\Ci w' bx 1 (id:Nat)/\Ci w' bx 2 (hn:Nat)/\Ci w' bx 3 sq/\Ci w' bx 4 wk/\Ci w' bx 5 ep/\Cl w' bx 6 (.slice a l.length cc)/\Cl w' bx 7 (.bool en);have N:=Hy (show A3 wr.drew from ⟨A0.cell 13,A0.cell 12,u.cell 0,u.cell 1,u.cell 2,u.cell 3,u.cell 4,u.cell 5,u.cell 6,u.cell 7⟩)
    cases b1
    ·skip
     refine rg A3 fun A=>?_;(iterate 18 first | refine tq 0 ?_ | refine tr 0 ?_);refine dn ?_;go_wp2_with fail;go_ret;have F:=HR.o;have hv:=BA.o;cases kp
     ·(first | rw [if_pos rfl] at F | rw [if_pos trivial] at F);subst F;exact RGoE.none A0.o y.o (ROut.below A8.o)
     have hf:l.any (farK (S.Q id).k)=true:=by revert hv;cases l.any (farK (S.Q id).k) <;> simp
     rw [if_neg (by decide),if_pos hf] at F;subst F;exact RGoE.none A0.o y.o (ROut.below A8.o)
    have hv:=BA.o;obtain ⟨rfl,hf⟩:kp=true/\l.any (farK (S.Q id).k)=false:=by revert hv;cases kp <;> cases l.any (farK (S.Q id).k) <;> simp
    have F:=HR.o;rw [if_neg (by decide),if_neg (by rw [hf];decide)] at F;clear HR hv hf BA;have ⟨sb,AO⟩:=gn ((S.t.seen wk ep S.now).2);have Dk:=Hy AO;rw [AO] at AC F;have HR:=Hy F;clear AO F;cases sb
    ·skip
     refine rg A3 fun A=>?_;(iterate 15 refine tq 0 ?_);refine rdy 15 fun K I=>?_;go_simp;refine AC.o.mono ?_;rintro e w7 ⟨rfl,AJ,Ak⟩;clear AC;have Ao:=Hy AJ;have P:=Hy (u.o.frm Ak (NG.o _ (by rw [AX.o];exact nl _)));have B4:=Hy (B3.o.routW Ak NA.o);have AZ:=Hy (ROut.trans (ROut.below (O:=O) A8.o) Ak y.o);clear AJ Ak;have U:=Hy (show A3 w7 from ⟨Ao.o.cell 13,Ao.o.cell 12,P.o.cell 0,P.o.cell 1,P.o.cell 2,P.o.cell 3,P.o.cell 4,P.o.cell 5,P.o.cell 6,P.o.cell 7⟩)
     go_wp2_with fail;refine hk I fun A=>?_;clear I K;refine tk 16 ?_;refine tk 17 ?_;refine dn ?_;go_wp2_with fail;go_ret;have F:=HR.o
     first | rw [if_pos rfl] at F | rw [if_pos trivial] at F
     subst F;exact RGoE.none (by have q:=Ao.o;unfold CS.seenS at q;rw [Z6 Dk.o] at q;exact q:RW w7 O0 B r c S) y.o AZ.o
    refine rg A3 fun A=>?_;(iterate 15 refine tq 0 ?_);refine rdy 15 fun K I=>?_;go_simp;refine AC.o.mono ?_;rintro e w7 ⟨rfl,AJ,Ak⟩;clear AC;have Ao:=Hy AJ;have P:=Hy (u.o.frm Ak (NG.o _ (by rw [AX.o];exact nl _)));have B4:=Hy (B3.o.routW Ak NA.o);have AZ:=Hy (ROut.trans (ROut.below (O:=O) A8.o) Ak y.o);clear AJ Ak;have U:=Hy (show A3 w7 from ⟨Ao.o.cell 13,Ao.o.cell 12,P.o.cell 0,P.o.cell 1,P.o.cell 2,P.o.cell 3,P.o.cell 4,P.o.cell 5,P.o.cell 6,P.o.cell 7⟩)
    go_wp2_with fail;refine hk I fun A=>?_;clear I K;refine tk 16 ?_;refine tk 17 ?_;refine dn ?_;clear A N U A0 u B3 A8;have F:=HR.o;rw [if_neg (by decide)] at F;clear HR;have Dn:=Hy (show ∀ x∈(S.Q id).S,0<=x.seq/\x.seq<=1000000 from fun x hx=>by have h1:=HQ.o.seq x hx;have h2:=Bz.o;omega);obtain ⟨⟨pr,S'⟩,BT⟩:∃ x,putP (S.Q id).n (S.Q id).S (S.Q id).T (hn:Int) sq l en=x:=⟨_,rfl⟩;have B7:=Hy BT;rw [BT] at F;have HR:=Hy F;clear F BT
    have AY:=Hy (show RW w7.drew O0 B r c (S.seenS wk ep) from Ao.below (below_drewN (bf _ w7) 1) (AgO.refl _ _));have Ad:=Hy (show Blk w7.drew bx 65 [(j:Nat),(id:Nat),(hn:Nat),sq,wk,ep,.slice a l.length cc,.bool en] from P.o);have Ck:=Hy (show RdE KeyL.cells 2 w7.drew a l.length cc l from B4.o);have B0:=Hy (show ROut O w w7.drew from Frm.drew AZ.o);clear Ao P B4 AZ;have B8:=Hy (zaS AY.o Ah.o D (hn:Int) sq l en pr S' a l.length cc Ck.o Cx.o Dn.o (by omega) B7.o)
    unfold yaJ at B8;go_upto_region 120 with fail;let AG:World->Prop:=fun w'=>Cp w' r (16+j) (B.q id)/\Cp w' (B.q id) 0 (B.m id)/\Ci w' bx 0 (j:Nat)/\Ci w' bx 1 (id:Nat)/\Ci w' bx 2 (hn:Nat)/\Ci w' bx 3 sq/\Ci w' bx 4 wk/\Ci w' bx 5 ep/\Cl w' bx 6 (.slice a l.length cc)/\Cl w' bx 7 (.bool en);have N:=Hy (show AG w7.drew from ⟨AY.qcell HJ.o D As,AY.mcell Ah.o D,Ad.cell 0,Ad.cell 1,Ad.cell 2,Ad.cell 3,Ad.cell 4,Ad.cell 5,Ad.cell 6,Ad.cell 7⟩)
    refine rg AG fun A=>?_;(iterate 18 refine tq 0 ?_);refine rdy 18 fun K I=>?_;go_simp;refine B8.o.mono ?_;rintro e w9 ⟨rfl,C9,BP⟩;clear B8;have A1:=Hy C9;have Z:=Hy (Ad.o.frm BP (NG.o _ (by rw [AX.o];exact nl _)));have B1:=Hy (ROut.trans B0.o BP y.o);clear C9 BP;have U:=Hy (show AG w9 from ⟨A1.o.qcell HJ.o D As,A1.o.mcell Ah.o D,Z.o.cell 0,Z.o.cell 1,Z.o.cell 2,Z.o.cell 3,Z.o.cell 4,Z.o.cell 5,Z.o.cell 6,Z.o.cell 7⟩)
    go_wp2_with fail;refine hk I fun A=>?_;clear I K;refine tk 19 ?_;refine dn ?_;clear A N U;have AT:=Hy (show AgO w.heap.size O (O0.upd w7.drew.heap.size (rt (7+2 * id))) from fun b hb=>((AgO.upd' B0.o.size (rt (7+2 * id)) O0) b hb).trans (y.o b hb));have ⟨O9,BN⟩:=gn (O0.upd w7.drew.heap.size (rt (7+2 * id)));rw [BN] at A1 AT;have Dp:=Hy (by rw [<- BN,Own.upd_lt Ad.o.lt];exact NG.o _ (by rw [AX.o];exact nl _):¬ (O9 bx % 8=2))
    clear BN AY Ad Ck B0;cases pr
    ·skip
     go_wp2_with fail;go_ret;have F:=HR.o
     first | rw [if_pos rfl] at F | rw [if_pos trivial] at F
     subst F;exact RGoE.none (by have q:=A1.o;rw [Q3 B7.o] at q;have e:=yI (S.seenS wk ep) id;exact cast (congrArg (RW w9 O9 B r c) e) q:RW w9 O9 B r c (S.seenS wk ep)) AT.o B1.o
    have F:=HR.o;rw [if_neg (by decide)] at F;clear HR;have AM:=Y2 (qR At.o wk ep) Ah.o D (hn:Int) sq l en true S' B7.o;have ⟨S9,AI⟩:=gn ((S.seenS wk ep).put1 id (hn:Int) S');rw [AI] at AM;try simp only at F
    rw [AI] at F;subst F;have Bm:=Hy (At.slots HJ.o D);have B5:=Hy (show S9.L=S.L/\S9.tm=cancelL (6 * (j:Int)+(hn:Nat)) S.tm from by rw [<- AI];refine ⟨rfl,?_⟩;show cancelL (6 * ((S.Q id).slot:Int)+(hn:Nat)) S.tm=_;rw [Bm.o]);have Co:=Hy AM;clear AM;have Ax:=Hy (A1.below (below_drewN (bf _ w9) 1) (AgO.refl _ _));rw [show w9.drewN 1=w9.drew from rfl] at Ax;have Y:=Hy (show Blk w9.drew bx 65 [(j:Nat),(id:Nat),(hn:Nat),sq,wk,ep,.slice a l.length cc,.bool en] from Z.o)
    have AA:=Hy (show ROut O w w9.drew from Frm.drew B1.o);have AD:=Hy (YB Ax.o Cw.o (6 * (j:Int)+(hn:Nat)));unfold Zas at AD;clear A1 Z B1;have ew:IntKind.i64.wrap (6 * (j:Int))=6 * (j:Int):=IntWalk.i64_in _ (by omega);have Dr:IntKind.i64.wrap (6 * (j:Int)+(hn:Int))=6 * (j:Int)+(hn:Int):=IntWalk.i64_in _ (by omega);go_upto_region 140 with fail;let AH:World->Prop:=fun w'=>Cp w' r 15 B.ti/\Ci w' bx 0 (j:Nat)/\Ci w' bx 1 (id:Nat)/\Ci w' bx 2 (hn:Nat)/\Ci w' bx 3 sq/\Ci w' bx 4 wk/\Ci w' bx 5 ep/\Cl w' bx 6 (.slice a l.length cc)/\Cl w' bx 7 (.bool en)
    have N:=Hy (show AH w9.drew from ⟨Ax.o.cell 15,Y.o.cell 0,Y.o.cell 1,Y.o.cell 2,Y.o.cell 3,Y.o.cell 4,Y.o.cell 5,Y.o.cell 6,Y.o.cell 7⟩);refine rg AH fun A=>?_;(iterate 10 refine tq 0 ?_);refine rdy 10 fun K I=>?_;go_simp;refine AD.o.mono ?_;rintro e Bi ⟨rfl,Bp,AK⟩;clear AD;have Ay:=Hy Bp;have p:=Hy (Y.o.frm AK Dp.o);have AB:=Hy (ROut.trans AA.o AK AT.o);clear Bp AK;have U:=Hy (show AH Bi from ⟨Ay.o.cell 15,p.o.cell 0,p.o.cell 1,p.o.cell 2,p.o.cell 3,p.o.cell 4,p.o.cell 5,p.o.cell 6,p.o.cell 7⟩)
    go_wp2_with fail;refine hk I fun A=>?_;clear I K
    refine dn ?_;clear A N U ew Dr;have A7:=Hy (show AgO w.heap.size O (O9.upd w9.drew.heap.size (rt 3)) from fun b hb=>((AgO.upd' AA.size (rt 3) O9) b hb).trans (AT.o b hb));have ⟨Cz,Bn⟩:=gn (O9.upd w9.drew.heap.size (rt 3));rw [Bn] at Ay A7;clear Bn Ax Y AA;have Cc:=Hy (by have q:=Ay.o;rw [<- AI];unfold CS.put1;rw [show ((S.seenS wk ep).Q id).slot=j from Bm.o];exact q:RW Bi Cz B r c S9);clear Ay;have b0:Bi.cell? ⟨bx,0,none⟩=some (.int .i64 (j:Nat)):=p.cell 0;have CM:=YE Cz B r c S9 j id ns wn (b+1) Bi Cc.o Co.o (by rw [B5.1];exact HJ.o) D (by rw [B5.2];exact nr (Yu _ _) Cw.o) CK (fun s h1 h2=>by rw [B5.2];exact ZI (Dh.o j id HJ.o D s h1 h2)) Do.o CU (by have:=Bz.o;omega)
    have Di:=Hy CM;clear CM AI;go_wp2_with fail;refine Di.mono ?_;rintro e D4 hh;obtain ⟨v,Dq,Dc,rfl,Bq,Bu,Bo,Br⟩:=hh;have Dd:=Hy (show RGoE O B r c (S9.goes id ns,S9.goesL id wn) w (.returned v) D4 from ⟨v,Dq,Dc,rfl,Bq,Bu.base AB.size,fun b hb=>(Bo b (nt hb AB.size)).trans (A7.o b hb),ROut.trans AB.o Br A7.o⟩);clear Bq Bu Bo Br b0;go_wp2_with fail;go_ret;exact Dd.o
end Go.Proofs.YtinkbgeckjbnbaaGreat
