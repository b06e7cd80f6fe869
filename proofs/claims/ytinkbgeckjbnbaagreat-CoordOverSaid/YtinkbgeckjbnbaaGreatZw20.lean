/- Lemmas (part 20). -/
import Derived.Test.YtinkbgeckjbnbaaGreatZw19
namespace Go.Proofs.YtinkbgeckjbnbaaGreat
open Go.RowKit Go.Proofs.Tryz
set_option autoImplicit true
set_option relaxedAutoImplicit true
set_option linter.unusedVariables false
set_option linter.unusedSimpArgs false
set_option maxRecDepth 100000
set_option maxHeartbeats 32000000
theorem RW.with_sl {c:CfgM} {S:CS} (h:RWx (fun t=>t=rt 2) w O B r c S) (hs:RSA w B.sl B.sf S.L S.told.length) (h1:O B.sl=rt 2) (A:O B.sf=rt 2):RW w O B r c S:=
 ⟨h.cf,h.cc,fun _=>h.blk (Zb (by omega)),fun _=>h.le (Zb (by omega)),fun _=>⟨⟨hs.1,h1⟩,⟨hs.2,A⟩⟩,fun _=>h.ti (Zb (by omega)),fun _=>h.told (Zb (by omega)),fun _=>h.it (Zb (by omega)),fun id h1 A _=>h.qb id h1 A (Zb (by omega)),fun id h1 A _=>h.mg id h1 A (Zb (by omega))⟩
theorem YaH (it:Nat->Option Addr×Nat) (l:List TS) (x:Nat):∀ u∈toldF it l x,u.oneCell'=true:=by
 intro u A;unfold toldF TS.cells at A;simp only [List.mem_cons,List.not_mem_nil,or_false] at A;rcases A with rfl | rfl | rfl | rfl | rfl | rfl | rfl <;> rfl
def RsuR (c:CfgM) (q:ByteArray) (k:Int) (ns:Nat) (w4:World) (v10 v11:Value) (wr:World):Prop:=∃ (j:Nat) (ao:Option Addr) (c2:Nat),j<=ns/\v11=.int .i64 j/\v10=.slice ao j c2/\Hid (wr.ownsRow w4.heap.size 3 1 (.slice ao j c2) j (ints ((List.range j).map (fun j:Nat=>leastQ c q k (j:Nat)))))/\Hid (Below w4.heap.size w4 wr)
def RSuE (O:Own) (B:RA) (r:Nat) (c:CfgM) (S:CS) (q:ByteArray) (k n:Int) (ns wn:Nat) (w:World) (e:Ending) (w':World):Prop:=∃ v O' B',e=.returned (.tuple #[.int .i64 (S.subV q k n).1,.int .i64 (S.subV q k n).2,v])/\RW w' O' B' r c (S.sub q k n ns)/\RLet O' w' w.heap.size v (S.subLs q k n ns wn)/\AgO w.heap.size O O'/\ROut O w w'
theorem Qaf (O:Own) (B:RA) (r:Nat) (c:CfgM) (S:CS) (q:ByteArray) (k n:Int) (ns wn:Nat) (b:Int) (w:World) (hw:RW w O B r c S) (g:mayC c=true) (hz:c.short) (CF:q.size<=1000000)
  (AU:S.OK ns b) (Dy:0<=b) (C1:c.cuts.length<=100) (C0:∀ x∈c.cuts,-1000<=x.1/\x.1<=1000) (CD:(ns:Int)=shardsC c) (Cw:b<=800000) (CM:S.tm.length<=24) (A7:∀ (j s:Nat),j < 4->ns<=s->s < 6->hasL (6 * (j:Int)+(s:Nat)) S.tm=false) (CO:c.wk=(wn:Int)) (CP:wn<=5):
  Calls prog 82 #[.pointer (some ⟨r,0,none⟩),.agg #[q,k,n]] w (RSuE O B r c S q k n ns wn w):=by
 obtain ⟨i0,hi,BI,BJ,AD⟩:=info_parts qf;clear hi BI BJ AD;obtain ⟨j0,hi,BI,BJ,AD⟩:=info_parts Xc;clear hi BI BJ AD;have ⟨O0,Bz⟩:=gn (O.upd w.heap.size 0);have Aq:=Hy (by rw [<- Bz];exact AgO.upd _ _ _:AgO w.heap.size O O0);have NG:=Hy (show ∀ k,w.heap.size<=k->¬ (O0 k % 8=2) from fun k E=>by rw [<- Bz,Own.upd_ge E];decide);clear Bz;have ⟨W,hW⟩:=gn (w.alloc (.cells #[q,k,n] 40));have Cx:Below w.heap.size w W:=by rw [<- hW];exact (bf _ w).alloc (nl _) _
 have HX:=Hy (by rw [<- hW];exact hn_ w _:Blk W.drew w.heap.size 40 [q,k,n]);have HB:=Hy Cx.drew;have HC:=Hy (show RW W.drew O0 B r c S from hw.below HB.o Aq.o);have DR:=Hy g;have HZ:=Hy hz;have Dg:=Hy C1;have Df:=Hy C0;clear C1 C0;have Bo:=Hy AU;have Dn:=Hy CD;have Dd:=Hy Cw;have Do:=Hy CM;have Dl:=Hy A7;have Dp:=Hy CO;have DT:=Hy (Zf g);have D2:=xe c;have CJ:1<=shardsC c:=by rw [yd g];omega
 have A8:1<=ns/\ns<=6:=by omega
 clear CJ;have CL:S.told.length<=1000000:=by have h1:=AU.tl;omega
 obtain ⟨ac,DV,Cz⟩:=hw.cc;have Dh:=Hy (show ∀ q k s,leastQ S.c q k s=leastQ c q k s from by rw [Cz];exact fun _ _ _=>rfl);clear Cz;have Ak:=RWx.sl HC.o (fun q=>q);have BE:=yaF q k n B.sl B.sf S.L S.told.length W.drew ⟨Ak.1.1,Ak.2.1⟩ AU.sl.len.2 CF CL;have f:=Hy (show O0 B.sl=rt 2/\O0 B.sf=rt 2 from ⟨Ak.1.2,Ak.2.2⟩);obtain ⟨v0,BK,s0,BF⟩:∃ a b c,subS q k n S.L S.told.length=(a,b,c):=⟨_,_,_,rfl⟩;obtain ⟨L',Al,BD⟩:∃ a b,subL q k n S.L S.told.length=(a,b):=⟨_,_,rfl⟩;rw [BF,BD] at BE;have Ch:=Hy BE;have Au:=Hy BF;have Bs:=Hy BD;clear Ak BE BF BD D2 CD Cx hw g hz AU Cw CM A7 CO
 go_in;have ⟨bx,AR⟩:=gn w.heap.size;have BT:=Hy AR;rw [AR] at HX;go_upto_region 16 with (first | rw [hW] | (rw [hW];rw [AR]));clear hW AR;let Bw:World->Prop:=fun w'=>Cp w' r 14 B.sl/\Ct w' bx 0 q/\Ci w' bx 1 k/\Ci w' bx 2 n;have Bu:=Hy (show Bw W.drew from ⟨HC.o.cell 14,HX.o.cell 0,HX.o.cell 1,HX.o.cell 2⟩);refine rg Bw fun A=>?_
 (iterate 5 refine tq 0 ?_);refine rdy 5 fun K G=>?_;go_simp;refine Ch.mono ?_;rintro e F ⟨rfl,CI,C3⟩;clear Ch;have AT:OFrm O0 (rt 2) W.drew F:=C3.mono (fun b Z _=>by rcases Z with rfl | rfl;exact f.1;exact f.2);have Ai:=Hy (RW.only HC.o 2 AT (AgO.refl _ _));have At:=Hy CI;have Q:=Hy (HX.frm (ROut.of AT) (NG.o _ (by rw [BT.o];exact nl _)));have As:=Hy (show ROut O w F from ROut.trans (ROut.below (O:=O) HB.o) (ROut.of AT) Aq.o);clear CI C3 AT;have Av:=Hy (show Bw F from ⟨(RWx.blk Ai.o (Zb (by omega))).1.cell 14,Q.cell 0,Q.cell 1,Q.cell 2⟩)
 go_wp2_with fail;refine hk G fun A=>?_;clear G K;(iterate 7 refine tq 6 ?_);refine dn ?_;clear A Bu Av HC HX HB
 by_cases g:mayQ q k n=false
 ·skip
  have e1:=Au.o;unfold subS at e1;rw [if_pos g] at e1;obtain ⟨rfl,rfl,rfl⟩:v0=1/\BK=0/\s0=0:=by simpa [eq_comm] using e1
  have e2:=Bs.o;unfold subL at e2;rw [if_pos g] at e2;obtain ⟨rfl,rfl⟩:L'=S.L/\Al=S.told.length:=by simpa [eq_comm] using e2
  clear e1 e2;have HM:=Hy g;clear g;go_wp2_with fail;go_ret3;refine ⟨.slice none 0 0,O0,B,by unfold CS.subV;rw [Au.o];rfl,?_,?_,Aq.o,As.o⟩
  ·unfold CS.sub;rw [if_pos HM.o];exact RW.with_sl Ai.o At.o f.1 f.2
  unfold CS.subLs;rw [if_pos HM.o];exact RLet.nil _ _ _
 have C8:mayQ q k n=true:=by simpa using g
 clear g;have g:=C8;clear C8;cases Aa:freeS S.L
 case none=>
  have e1:=Au.o;unfold subS at e1;rw [if_neg (by rw [g];decide),Aa] at e1;obtain ⟨rfl,rfl,rfl⟩:v0=2/\BK=0/\s0=0:=by simpa [eq_comm] using e1
  have e2:=Bs.o;unfold subL at e2;rw [if_neg (by rw [g];decide),Aa] at e2;obtain ⟨rfl,rfl⟩:L'=S.L/\Al=S.told.length:=by simpa [eq_comm] using e2
  clear e1 e2;have HM:=Hy g;clear g;have z:=Hy Aa;clear Aa;go_wp2_with fail;go_ret3;refine ⟨.slice none 0 0,O0,B,by unfold CS.subV;rw [Au.o];rfl,?_,?_,Aq.o,As.o⟩
  ·unfold CS.sub;rw [if_neg (by rw [HM.o];decide),z.o];exact RW.with_sl Ai.o At.o f.1 f.2
  unfold CS.subLs;rw [if_neg (by rw [HM.o];decide),z.o];exact RLet.nil _ _ _
 rename_i d;have e1:=Au.o;unfold subS at e1;rw [if_neg (by rw [g];decide),Aa] at e1;obtain ⟨rfl,rfl,rfl⟩:v0=3/\BK=((S.told.length+1:Nat):Int)/\s0=(d:Int):=by simpa [eq_comm] using e1
 have e2:=Bs.o;unfold subL at e2;rw [if_neg (by rw [g];decide),Aa] at e2;obtain ⟨rfl,rfl⟩:L'=S.L.set d (S.told.length+1)/\Al=S.told.length+1:=by simpa [eq_comm] using e2
 clear e1 e2;obtain ⟨C2,_⟩:=qH Aa;have BV:=Hy C2;have HM:=Hy g;have z:=Hy Aa;obtain ⟨Ea,DI,DJ,C9,CB⟩:=Y0 g;clear g Aa C2;have CN:=RWx.told Ai.o (Zb (by omega));have CG:RdE (toldF B.it S.told) 7 F B.aa S.told.length B.ac (List.range S.told.length):=Za (enc:=toldF B.it S.told) (size:=7) (Yi B.it S.told) List.length_range CN.1;have Bt:=Hy (fun (V:World) (I:Below F.heap.size F V)=>show Src prog 7 72 (.slice B.aa S.told.length B.ac) S.told.length (rowF (toldF B.it S.told) S.told.length) V from Src.ofRdE (enc:=toldF B.it S.told) (size:=7) underlying72 (Yi B.it S.told) (YaH B.it S.told) (CG.below I rfl))
 clear CG CN;have P:=Hy (RWx.blk Ai.o (Zb (by omega)));have DL:w.heap.size<=F.heap.size:=As.size;have By:Cl F r 20 (.slice B.aa S.told.length B.ac):=P.1.cell 20;let Bx:World->Prop:=fun w'=>Ct w' bx 0 q/\Ci w' bx 1 k/\Ci w' bx 2 n;have Ab:=Hy (fun (V:World) (I:Below F.heap.size F V)=>show Bx V from ⟨(Q.below I Q.lt).cell 0,(Q.below I Q.lt).cell 1,(Q.below I Q.lt).cell 2⟩);have An:=Hy (fun (V:World) (I:Below F.heap.size F V)=>show Cl V r 20 (.slice B.aa S.told.length B.ac) from (I.cell (cell?_lt By)).trans By)
 have BZ:=Hy (show bx≠r from fun e=>by have h1:=P.2;rw [<- e] at h1;exact NG.o bx (by rw [BT.o];exact nl _) (by rw [h1];exact ye 0));have BW:=Hy (fun (V:World) (I:Below F.heap.size F V)=>show V.frozen? ⟨r,20,none⟩=false from (P.1.below I P.1.lt).frozen 20);have A1:0+S.told.length<=maxLen:=by unfold maxLen;omega
 have A2:(0+S.told.length) * 72<=140737488355328:=by omega
 have A3:S.told.length+1<=maxLen:=by unfold maxLen;omega
 have A4:(S.told.length+1) * 72<=140737488355328:=by omega
 have Cs:∀ u∈([.int .i64 ((S.told.length:Int)+1),q,k,n,.slice none 0 0,false,false]:List Value),u.oneCell'=true:=by intro u hu;simp only [List.mem_cons,List.not_mem_nil,or_false] at hu;rcases hu with rfl | rfl | rfl | rfl | rfl | rfl | rfl <;> rfl
 have BY:=Hy Cs;clear Cs By;have Ag:Below F.heap.size F F.drew:=below_drewN (bf _ F) 1;have Bu:=Hy (Ab.o _ Ag);have Ce:=Hy (Bt.o _ Ag);have BR:=Hy Ag;clear Ag;have ⟨W9,Ax⟩:=gn ((F.alloc (.cells #[.int .i64 ((S.told.length:Int)+1),q,k,n,.slice none 0 0,false,false] 58)).drew);have Ap:Below F.heap.size F W9:=by rw [<- Ax];exact ((bf F.heap.size F).alloc (nl _) _).drew
 have Dq:=Hy (Ab.o _ Ap);have Br:=Hy (Bt.o _ Ap);have M:=Hy Ap;have Bm:=Hy (fun (V:World) (I:Below (F.heap.size+1) W9 V)=>show Src prog 7 72 (.slice (some ⟨F.heap.size,0,none⟩) 1 1) 1 [.int .i64 ((S.told.length:Int)+1),q,k,n,.slice none 0 0,false,false] V from Src.ofSlice _ underlying72 ⟨F.heap.size,0,none⟩ 1 1 [.int .i64 ((S.told.length:Int)+1),q,k,n,.slice none 0 0,false,false] rfl (World.news_of_block ((I.block F.heap.size (by omega)).trans (by rw [<- Ax];exact hn_ F _))) BY.o)
 clear Ap;have A5:=Hy (by rw [<- Ax];simp:W9.heap.size=F.heap.size+1);go_upto_region 28 with fail;refine rg Bx fun A=>?_;(iterate 4 refine tq 0 ?_);(iterate 3 refine tq 6 ?_);refine wpAnyH_ready (rs:=[4,9]) (by kernel_rfl) (by simp) ?_;refine AllReadyH.cons rfl (fun K G=>?_) (AllReadyH.cons rfl (fun K G=>?_) AllReadyH.nil)
 focus
  have AE:=An.o _ BR.o
  go_simp;go_wp2_with fail;clear AE;refine hk G fun A=>?_;clear G K
  refine wpAnyH_ready (rs:=[5,9]) (by kernel_rfl) (by simp) ?_;refine AllReadyH.cons rfl (fun K G=>?_) (AllReadyH.cons rfl (fun K G=>?_) AllReadyH.nil)
  focus
   refine sa (base:=F.heap.size) qf underlying72 (World.ownsRow_nil _ _ _ _) Ce.o A1 A2 (nl _) ?_;intro a1 Cr u1 C H;rw [Nat.zero_add,List.nil_append] at C;rw [Nat.zero_add];have Bn:=Hy C;have B1:=Hy ((below_drewN (bf F.heap.size F) 1).grown H (nl _) (fun k E=>by cases E));have DC:=Hy (Ab.o _ B1.o);have B3:=Hy (B1.alloc B1.size (.cells #[.int .i64 ((S.told.length:Int)+1),q,k,n,.slice none 0 0,false,false] 58));have Bv:=Hy (Ab.o _ B3.o);have Ac:=Hy (C.alloc (.cells #[.int .i64 ((S.told.length:Int)+1),q,k,n,.slice none 0 0,false,false] 58));have AK:=Hy (Src.told1 u1 [.int .i64 ((S.told.length:Int)+1),q,k,n,.slice none 0 0,false,false] rfl BY.o);clear C H
   refine hk G fun A=>?_;clear G K
   refine rdy 9 fun K G=>?_
   go_simp
   go_wp2_with fail
  rotate_left
  focus
   go_simp
   go_wp2_with (rw [Ax]);refine hk G fun A=>?_;clear G K
   refine rdy 5 fun K G=>?_
   refine sa (base:=F.heap.size) qf underlying72 (World.ownsRow_nil _ _ _ _) Br.o A1 A2 M.size ?_;intro a1 Cr u1 C H;rw [Nat.zero_add,List.nil_append] at C;rw [Nat.zero_add];have Bn:=Hy C;have B3:=Hy (M.grown H M.size (fun k E=>by cases E));have Bv:=Hy (Ab.o _ B3.o);have Ac:=Hy C;have AK:=Hy (Bm.o u1 ((bf _ W9).grown H (by rw [A5.o];exact nl _) (fun k E=>by cases E)));clear C H
 rotate_left 2
 focus
  go_simp
  go_wp2_with (rw [Ax]);refine hk G fun A=>?_;clear G K
  refine rdy 4 fun K G=>?_
  have AE:=An.o _ M.o
  go_simp;go_wp2_with fail;clear AE;refine hk G fun A=>?_;clear G K
  refine rdy 5 fun K G=>?_
  refine sa (base:=F.heap.size) qf underlying72 (World.ownsRow_nil _ _ _ _) Br.o A1 A2 M.size ?_;intro a1 Cr u1 C H;rw [Nat.zero_add,List.nil_append] at C;rw [Nat.zero_add];have Bn:=Hy C;have B3:=Hy (M.grown H M.size (fun k E=>by cases E));have Bv:=Hy (Ab.o _ B3.o);have Ac:=Hy C;have AK:=Hy (Bm.o u1 ((bf _ W9).grown H (by rw [A5.o];exact nl _) (fun k E=>by cases E)));clear C H
 all_goals
  refine hk G fun A=>?_;clear G K
  refine rdy 10 fun K G=>?_
  refine sa qf underlying72 Ac.o AK.o A3 A4 B3.size ?_;intro a2 Aw u2 A9 Bb;have B4:=Hy (B3.grown Bb B3.size (Xa Ac.o));have Dr:=Hy (Ab.o _ B4.o);have Dw:=BW.o _ B4.o;have AM:=Hy A9;have ⟨J,AC⟩:=gn (u2.setCell ⟨r,20,none⟩ (.slice a2 (S.told.length+1:Nat) Aw));have B6:=(P.1.below B4.o P.1.lt).set 20 (.slice a2 (S.told.length+1:Nat) Aw);rw [AC] at B6;have D:=Hy B6;have BH:=(Q.below B4.o Q.lt).frm ((Frm.refl (fun b=>b=r) u2).setCell ⟨r,20,none⟩ (.slice a2 (S.told.length+1:Nat) Aw) (.inl rfl)) BZ.o;rw [AC] at BH;have T:=Hy BH;have Ds:=Hy (show Bx J from ⟨T.cell 0,T.cell 1,T.cell 2⟩);clear A9 Bb B6 BH
  refine hk G fun A=>?_;clear G K;refine tk 11 ?_;refine tk 12 ?_;refine rdy 13 fun K G=>?_
  have AE:=An.o _ B4.o
  go_simp;go_wp2_with (rw [AC]);clear AE;refine hk G fun A=>?_;clear G K
  refine dn ?_;clear A Dw Dr Ds Bu Dq Ce Br M Bm A5 An BW Bt Ab BR B3 Ac AK Bv A1 A2 A3 A4 Ax;have ⟨O4,B0⟩:=gn (O0.upd F.heap.size (rt 4));have Y:AgO F.heap.size O0 O4:=by rw [<- B0];exact AgO.upd _ _ _
  have p:Frm (fun b=>b=r) u2 J:=by rw [<- AC];exact (Frm.refl _ u2).setCell _ _ (.inl rfl)
  have CH:r < F.heap.size:=P.1.lt;have Bq:=Hy (show RWx (fun t=>t=rt 0∨t=rt 2∨t=rt 4) J O4 B r c S from RWx.frm (RWx.below Ai.o B4.o Y) p (AgO.refl _ _) (fun _ q=>.inr (.inl q)) (fun b _ e=>.inl (by subst e;have ho:O4 b=rt 0:=(Y b CH).trans P.2;exact ⟨.inl ho,by rw [ho];exact ye 0⟩)));have Cj:=Hy (show Row O4 (rt 4) J 58 7 (.slice a2 (S.told.length+1) Aw) (S.told.length+1) (rowF (toldF B.it S.told) S.told.length++[.int .i64 ((S.told.length:Int)+1),.string q,.int .i64 k,.int .i64 n,.slice none 0 0,.bool false,.bool false]) from ⟨zi (za AM.o p (fun k E e=>by have:=Xa AM.o k E;omega)) (nz _),fun k E=>by rw [<- B0];exact Own.upd_ge (Xa AM.o k E)⟩)
  have Ad:=Hy (by have q:=RSA.below At.o B4.o;refine ⟨q.1.frm p (fun e=>?_),q.2.frm p (fun e=>?_)⟩;(have h1:=f.1;rw [e,P.2] at h1;exact Zb (by omega) h1);(have h1:=f.2;rw [e,P.2] at h1;exact Zb (by omega) h1):RSA J B.sl B.sf (S.L.set d (S.told.length+1)) (S.told.length+1));have AH:=Hy (show AgO w.heap.size O O4 from fun b Z=>(Y b (nt Z As.size)).trans (Aq.o b Z));have Am:=Hy (show O4 B.sl=rt 2/\O4 B.sf=rt 2/\O4 r=rt 0 from ⟨(Y _ At.1.lt).trans f.1,(Y _ At.2.lt).trans f.2,(Y _ CH).trans P.2⟩)
  have Bi:=Hy (show ROut O w J from ROut.trans (ROut.trans As.o (ROut.below (O:=O0) B4.o) Aq.o) (Frm.mono p (fun b e _=>by subst e;rw [Am.2.2];exact ye 0)) AH.o);clear Y p B0 Ai At As Q AM AC P BZ B4 Bn;have Bg:=Hy (fun (V:World) (I:Below J.heap.size J V)=>show Cl V r 0 (.slice c.aw c.nw c.cw)/\Cl V r 1 (.slice c.ac c.nc c.cc)/\Ci V r 2 c.wk/\Ci V r 3 c.cp/\Ci V r 4 c.sl/\Ci V r 5 c.ba/\Ci V r 6 c.le/\Ci V r 7 c.he/\Ci V r 8 c.fi/\Ci V r 9 c.ca/\Ci V r 10 c.ji/\Ci V r 11 c.ne from ⟨(D.below I D.lt).cell 0,(D.below I D.lt).cell 1,(D.below I D.lt).cell 2,(D.below I D.lt).cell 3,(D.below I D.lt).cell 4,(D.below I D.lt).cell 5,(D.below I D.lt).cell 6,(D.below I D.lt).cell 7,(D.below I D.lt).cell 8,(D.below I D.lt).cell 9,(D.below I D.lt).cell 10,(D.below I D.lt).cell 11⟩)
  have Bh:=Hy (fun (V:World) (I:Below J.heap.size J V)=>show CfgOK V c from (Bq.cf.ok).below I rfl);go_wp2_with fail;go_loopw [10,11] (fun D5 D6 wr=>RsuR c q k ns J D5 D6 wr) (fun _ v _=>ns - (intOf v).toNat)
  case atStart=>exact ⟨0,none,0,nz _,rfl,rfl,World.ownsRow_nil _ _ _ _,bf _ _⟩
  case round=>
   obtain ⟨j,ao,c2,hj,rfl,rfl,HO,Ar⟩:=hrel;obtain ⟨x0,x1,x2,x3,x4,x5,x6,x7,x8,x9,D7,D8⟩:=Bg.o _ Ar.o;have AW:=yl c wr (Bh.o _ Ar.o) HZ.o;unfold CfgM.val at AW;rw [<- Dn.o] at AW;have Cg:=Hy AW;clear AW;have Dt:=Hy (T.below Ar.o T.lt);go_wp2_with fail;clear x0 x1 x2 x3 x4 x5 x6 x7 x8 x9 D7 D8;refine Cg.mono ?_;clear Cg;rintro e w2 ⟨rfl,Z⟩;have Ah:=Hy (Ar.trans (Z.mono Ar.size));have AL:=Hy (Qa HO.o Z);clear Z HO Ar Dt
   by_cases D0:j < ns
   ·have e1:(j:Int) < (ns:Int):=by omega
    let Cm:World->Prop:=fun w'=>Cl w' r 1 (.slice c.ac c.nc c.cc)/\Ct w' bx 0 q;have z:=Hy (fun (V:World) (I:Below J.heap.size J V)=>show Cm V from ⟨(Bg.o V I).2.1,(T.below I T.lt).cell 0⟩);have Ag:Below J.heap.size J w2.drew:=Ah.drew;have Du:=Hy (z.o _ Ag);have Bk:=Hy (Xt q w2.drew CF);have Bf:=Hy Ag;have Ac:=Hy (show w2.drew.ownsRow J.heap.size 3 1 (.slice ao j c2) j (ints ((List.range j).map (fun j:Nat=>leastQ c q k (j:Nat)))) from AL.o);clear Ag AL Ah;have ⟨tl,BG⟩:=gn (tLen q)
    rw [BG] at Bk;have Ck:=Hy BG;clear BG;have Bl:=Hy (fun (V:World) (I:Below J.heap.size J V)=>QB c.ac c.nc c.cc c.cuts (j:Int) tl V (Bh.o V I).rk Dg.o Df.o (by have h1:=Ck.o;omega));have ⟨ld,BA⟩:=gn (leastN c.cuts (j:Int) tl);rw [BA] at Bl;have Dk:=Hy BA;clear BA;go_upto_region 50 with fail;refine rg Cm fun A=>?_;(iterate 8 refine tq 0 ?_);refine rdy 8 fun K G=>?_;go_simp;refine Bk.o.mono ?_;rintro e w6 ⟨rfl,B7⟩;clear Bk;have A0:=Hy (Bf.o.trans (B7.mono Bf.o.size));have Av:=Hy (z.o _ A0.o);have Cb:=Hy (Qa Ac.o B7);have AX:=Hy (Bl.o _ A0.o);clear B7;go_wp2_with fail;refine hk G fun A=>?_;clear G K
    refine rdy 9 fun K G=>?_;go_simp;refine AX.o.mono ?_;rintro e w' ⟨rfl,rfl⟩;clear AX;go_wp2_with fail;refine hk G fun A=>?_;clear G K;refine tk 10 ?_;refine dn ?_;clear A Du Av Bl z Bf Ac;have b1:w6.cell? ⟨bx,1,none⟩=some (.int .i64 k):=(T.o.below A0.o T.o.lt).cell 1;have A1:j+1<=maxLen:=by unfold maxLen;omega
    have A2:(j+1) * 8<=140737488355328:=by omega
    have AD:=A0.size;have BU:=Hy (by unfold leastQ;rw [Ck.o,Dk.o]:leastQ c q k (j:Int)=if k < ld then -1 else ld)
    by_cases C6:k < ld
    focus
     have Bp:=Hy (by rw [BU.o,if_pos C6]:leastQ c q k (j:Int)= -1)
    rotate_left
    focus
     have Bp:=Hy (by rw [BU.o,if_neg C6]:leastQ c q k (j:Int)=ld)
    all_goals
     go_wp2_with (at_builtin;refine wa Xc underlying26 (Cb.alloc _) (Src.one' underlying26 w6 _ 3 rfl) A1 A2 (by simp;omega) ?_;intro Co Cq w5 AA C5;have Cc:=Hy AA;have BS:=Hy ((A0.alloc AD _).grown C5 (by simp;omega) (fun b Z=>(Cb.lt b Z).1));clear AA C5);go_roundw
     case rel=>first | exact ⟨j+1,Co,Cq,by omega,by first | rfl | go_num,rfl,(by unfold Hid;rw [List.range_succ,List.map_append,List.map_cons,List.map_nil,Bp.o,Yd];exact Cc.o),BS.o⟩ | ((repeat apply Exists.intro);exact ⟨⟨j+1,Co,Cq,by omega,by first | rfl | go_num,rfl,(by unfold Hid;rw [List.range_succ,List.map_append,List.map_cons,List.map_nil,Bp.o,Yd];exact Cc.o),BS.o⟩,rfl⟩)
     case measure=>first | (simp [intOf];done) | (simp [intOf];omega)
   obtain rfl:j=ns:=by omega
   clear D0 hj;have Av:=Hy (T.below Ah.o T.lt);have b2:w2.cell? ⟨bx,2,none⟩=some (.int .i64 n):=Av.cell 2;have Ca:=Hy (ZB ao j c2 ((List.range j).map (fun j:Nat=>leastQ c q k (j:Nat))) n w2 (Yc AL.o) A8.1 A8.2 C9 CB);go_wp2_with fail;clear b2;refine Ca.mono ?_;clear Ca;rintro e w7 ⟨rfl,BB,Z⟩;have ⟨mp,AS⟩:=gn w2.heap.size;rw [AS] at BB ⊢;have CK:J.heap.size<=mp:=by rw [<- AS];exact Ah.size
   have DK:mp<=w7.heap.size:=by rw [<- AS];exact Z.size
   have ⟨O5,AP⟩:=gn (O4.upd mp (rt (7+2 * (S.told.length+1))));have Ba:AgO J.heap.size O4 O5:=by rw [<- AP];exact AgO.upd' CK _ _
   have Ak:S.c=c∨True:=.inr trivial;have CC:(S.newQ q k n d j).S=((List.range j).map (fun j:Nat=>leastQ c q k (j:Nat))).map newPS:=by show ((List.range j).map (fun j:Nat=>leastQ S.c q k (j:Nat))).map newPS=_;rw [show (fun j:Nat=>leastQ S.c q k (j:Nat))=(fun j:Nat=>leastQ c q k (j:Nat)) from funext fun x=>Dh.o q k (x:Nat)]
   have BX:=Hy (show RMo O5 (rt (7+2 * (S.told.length+1))) w7 mp n (S.newQ q k n d j).S [] from by rw [CC];obtain ⟨qs,cq,R,sp,ta,tc,h1,h2,rfl,h4⟩:=BB;have A7:∀ k,¬ Xb none R k:=(fun k E=>by rcases E with ⟨o,s,e⟩ | ⟨i,m,o,s,e1,e2⟩;cases e;rw [h4 i m e1] at e2;cases e2);exact ⟨qs,cq,R,sp,none,tc,h1,fun k E=>absurd E (A7 k),(by show (0:Int)<=n;omega),(by rw [<- AP];exact Own.upd_ge (nl _)),(by rw [<- AP];exact Own.upd_ge h2),fun k E=>absurd E (A7 k)⟩);have AI:=Hy (show Below J.heap.size J w7 from Ah.trans (Z.mono Ah.size));clear BB Z AS AP Ak CC Ah AL Av
   have ⟨W7,AQ⟩:=gn (w7.alloc (.cells #[.pointer (some ⟨mp,0,none⟩),(),(),(),false,(),(),(),false,(),(),(),false,(),(),(),false,(),(),(),false,(),(),(),false] 181));have B8:Below w7.heap.size w7 W7:=by rw [<- AQ];exact (bf _ w7).alloc (nl _) _
   have ⟨O6,B2⟩:=gn (O5.upd w7.heap.size (rt (6+2 * (S.told.length+1))));have Ao:AgO w7.heap.size O5 O6:=by rw [<- B2];exact AgO.upd _ _ _
   have BC:BlkO O6 (rt (6+2 * (S.told.length+1))) W7 w7.heap.size 181 ((S.newQ q k n d j).rcells mp):=⟨by rw [<- AQ];exact hn_ w7 _,by rw [<- B2];exact Own.upd_ge (nl _)⟩;have U:Below J.heap.size J W7:=AI.trans (B8.mono AI.size);have Aj:AgO J.heap.size O4 O6:=fun b Z=>(Ao b (nt Z AI.size)).trans (Ba b Z);have Cf:=Hy (show RSA J B.sl B.sf (S.L.set d (S.told.length+1)) (S.told.length+1)/\Blk J B.sl 183 [.slice (some ⟨B.sf,0,none⟩) S.L.length S.L.length,(S.told.length+1:Nat)] from ⟨Ad.o,by have q:=Ad.1;rw [List.length_set] at q;exact q⟩)
   have AO:=D.below U D.lt;have Bd:d < S.L.length:=(lg BV.o).1;have Bc:d < 4:=by have:=Bo.sl.len;omega
   obtain ⟨xv,CR⟩:∃ x,((S.rcells c B).set 20 (.slice a2 (S.told.length+1:Nat) Aw))[16+d]?=some x:=⟨_,le_ (by rw [List.length_set];show 16+d < 21;omega)⟩;have Dz:W7.cell? ⟨r,16+d,none⟩=some xv:=(AO.cell (16+d)).trans CR;have fz:W7.frozen? ⟨r,16+d,none⟩=false:=AO.frozen _;have ⟨qb,AB⟩:=gn w7.heap.size;rw [AB] at BC Ao;have ⟨W8,B5⟩:=gn (W7.setCell ⟨r,16+d,none⟩ (.pointer (some ⟨qb,0,none⟩)));have N:Frm (fun b=>b=r) W7 W8:=by rw [<- B5];exact (Frm.refl _ W7).setCell _ _ (.inl rfl)
   have D1:r < J.heap.size:=D.lt;have l:O6 r=rt 0:=(Aj r D1).trans Am.2.2;have y:∀ i,i≠0->∀ b,b < W7.heap.size->O6 b=rt i->¬ (b=r):=fun i hi b _ ho e=>by subst e;rw [l] at ho;exact Zb (fun h=>hi h.symm) ho
   have CQ:RWx (fun t=>t=rt 0∨t=rt 2∨t=rt 4) W8 O6 B r c S:=RWx.frm (RWx.below Bq.o U Aj) N (AgO.refl _ _) (fun _ q=>q) (fun b _ e=>.inl (by subst e;exact ⟨.inl l,by rw [l];exact ye 0⟩));have AZ:=RW.added (q:=q) (k:=k) (n:=n) (ns:=j) CQ Bd Bc Bo.sl ⟨by rw [<- B5];exact AO.set _ _,l⟩ ⟨BlkO.frm ⟨Cf.2.below U Ad.1.lt,(Aj _ Ad.1.lt).trans Am.1⟩ N (y 2 (by omega)) (AgO.refl _ _),BlkO.frm ⟨Ad.2.below U Ad.2.lt,(Aj _ Ad.2.lt).trans Am.2.1⟩ N (y 2 (by omega)) (AgO.refl _ _)⟩ (Row.frm (Row.frm Cj.o (Frm.below (S:=fun _=>False) U) (fun _ _ _ q=>q) Aj) N (y 4 (by omega)) (AgO.refl _ _)) (BlkO.frm BC N (y _ (by omega)) (AgO.refl _ _)) (RMo.frm (RMo.frm BX.o (Frm.below (S:=fun _=>False) B8) (fun _ _ _ q=>q) (by rw [AB];exact Ao)) N (y _ (by omega)) (AgO.refl _ _))
   have Dc:=Hy AZ;have Be:=Hy (show AgO w.heap.size O O6 from fun b Z=>(Aj b (nt Z Bi.size)).trans (AH.o b Z));have Bj:=Hy (show ROut O w W8 from ROut.trans (ROut.trans Bi.o (ROut.below (O:=O4) U) AH.o) (Frm.mono N (fun b e _=>by subst e;rw [l];exact ye 0)) Be.o);have Cd:=Hy (YE O6 (B.add S.told.length a2 Aw qb mp) r c (S.add q k n d j) d (S.told.length+1) j wn (b+1) W8 Dc.o (yM Bo.o HM.o BV.o Dy) (by show (S.L.set d _)[d]?=_;exact List.getElem?_set_self Bd) (Nat.succ_ne_zero _) Do.o A8.2 (fun s h1 h2=>Dl.o d s Bc h1 h2) Dp.o CP (by have:=Dd.o;omega))
   have s1:(0:Int)<=(d:Int):=by omega
   have s2:(d:Int) < 4:=by omega
   clear AZ CQ y BC AO CR N U Aj Ba Ao B2 l B8 Bq Cj Ad BX AI D Bi AH Bg Bh T;go_wp2_with (first | (rw [AQ];rw [AB]) | rw [AQ] | rw [B5]);refine Cd.mono ?_;clear Cd Dz fz;rintro e w9 ⟨v,O9,B9,rfl,Cy,C7,Cv,C4⟩;have De:=Hy Cy;have Dj:=Hy (C7.base Bj.size);have Db:=Hy (show AgO w.heap.size O O9 from fun b Z=>(Cv b (nt Z Bj.size)).trans (Be.o b Z));have Di:=Hy (ROut.trans Bj.o C4 Be.o);clear Cy C7 Cv C4;go_wp2_with fail;go_ret3;refine ⟨v,O9,B9,by unfold CS.subV;rw [Au.o];rfl,?_,?_,Db.o,Di.o⟩
   ·unfold CS.sub;rw [if_neg (by rw [HM.o];decide),z.o];exact De.o
   unfold CS.subLs;rw [if_neg (by rw [HM.o];decide),z.o];exact Dj.o
def RNeE (O:Own) (c:CfgM) (w:World) (e:Ending) (w':World):Prop:=∃ (r:Nat) (B:RA) (O':Own),e=.returned (.tuple #[.pointer (some ⟨r,0,none⟩),()])/\(∀ ac cc,RW w' O' B r c (CS.init (c.own ac cc)))/\AgO w.heap.size O O'/\Frm (fun _=>False) w w'
def ownR (O:Own) (n0 r le p g ti:Nat):Own:=fun b=>if b < n0 then O b else if b=r then rt 0 else if b=le then rt 1 else if b=p∨b=g then rt 2 else if b=ti then rt 3 else 0
theorem yF (n:Nat) (q:Nat->Nat) (i:Nat):rqV (List.replicate n 0) q i=.pointer none:=by
 unfold rqV;rw [if_pos];rw [List.getD_eq_getElem?_getD,List.getElem?_replicate];split <;> rfl
theorem qap (O:Own) (c:CfgM) (w:World) (h:CfA O w c) (hz:c.short) (hm:mayC c=true) (A4:1<=c.le/\c.le<=1000):
  Calls prog 36 #[c.val] w (RNeE O c w):=by
 unfold CfgM.val;have ⟨W,hW⟩:=gn (w.alloc (.cells #[.slice c.aw c.nw c.cw,.slice c.ac c.nc c.cc,c.wk,c.cp,c.sl,c.ba,c.le,c.he,c.fi,c.ca,c.ji,c.ne] 25));have E:Below w.heap.size w W:=by rw [<- hW];exact (bf _ w).alloc (nl _) _
 have A:Blk W w.heap.size 25 [.slice c.aw c.nw c.cw,.slice c.ac c.nc c.cc,c.wk,c.cp,c.sl,c.ba,c.le,c.he,c.fi,c.ca,c.ji,c.ne]:=by rw [<- hW];exact hn_ w _
 have k0:Cl W w.heap.size 0 (.slice c.aw c.nw c.cw):=A.cell 0;have k1:W.cell? ⟨w.heap.size,1,none⟩=some (.slice c.ac c.nc c.cc):=A.cell 1;have k2:W.cell? ⟨w.heap.size,2,none⟩=some (.int .i64 c.wk):=A.cell 2;have k3:W.cell? ⟨w.heap.size,3,none⟩=some (.int .i64 c.cp):=A.cell 3;have k4:W.cell? ⟨w.heap.size,4,none⟩=some (.int .i64 c.sl):=A.cell 4;have k5:W.cell? ⟨w.heap.size,5,none⟩=some (.int .i64 c.ba):=A.cell 5;have k6:W.cell? ⟨w.heap.size,6,none⟩=some (.int .i64 c.le):=A.cell 6;have k7:W.cell? ⟨w.heap.size,7,none⟩=some (.int .i64 c.he):=A.cell 7;have k8:W.cell? ⟨w.heap.size,8,none⟩=some (.int .i64 c.fi):=A.cell 8
 have k9:Ci W w.heap.size 9 c.ca:=A.cell 9;have k:W.cell? ⟨w.heap.size,10,none⟩=some (.int .i64 c.ji):=A.cell 10;have l:W.cell? ⟨w.heap.size,11,none⟩=some (.int .i64 c.ne):=A.cell 11;have Y:=zQ c W (h.ok.below E rfl) hz;unfold CfgM.val at Y;rw [hm] at Y;have Aq:=Hy Y;have HB:=Hy E;have HK:=Hy A;have AN:=Hy h;have N:=Hy (Zf hm);clear Y E A h hm;go_in;have ⟨bx,V⟩:=gn w.heap.size;have Bc:=Hy V;rw [V] at HK k0 k1 k2 k3 k4 k5 k6 k7 k8 k9 k l;go_wp2_with (first | rw [hW] | (rw [hW];rw [V]))
 clear hW V k0 k1 k2 k3 k4 k5 k6 k7 k8 k9 k l;refine Aq.mono ?_;clear Aq;rintro e z ⟨rfl,Ae⟩;have K:=Hy (HK.below Ae HK.lt);have J:=Hy (HB.trans (Ae.mono HB.size));clear Ae HK HB;obtain ⟨k0,k1,k2,k3,k4,k5,k6,k7,k8,k9,k,l⟩:=c12 K.o;have ⟨w2,C⟩:=gn (z.alloc (.cells ([.slice c.aw c.nw c.cw,.slice c.ac c.nc c.cc,c.wk,c.cp,c.sl,c.ba,c.le,c.he,c.fi,c.ca,c.ji,c.ne,(),.pointer none,.pointer none,.pointer none,.pointer none,.pointer none,.pointer none,.pointer none,.slice none 0 0]:List Value).toArray 159))
 have Af:Below z.heap.size z w2:=by rw [<- C];exact (bf _ z).alloc (nl _) _
 have Ag:Blk w2 z.heap.size 159 [.slice c.aw c.nw c.cw,.slice c.ac c.nc c.cc,c.wk,c.cp,c.sl,c.ba,c.le,c.he,c.fi,c.ca,c.ji,c.ne,(),.pointer none,.pointer none,.pointer none,.pointer none,.pointer none,.pointer none,.pointer none,.slice none 0 0]:=by rw [<- C];exact hn_ z _
 have Z:w2.heap.size=z.heap.size+1:=by rw [<- C];simp
 have M:=Hy (K.below Af K.lt);have AW:w2.cell? ⟨bx,2,none⟩=some (.int .i64 c.wk):=M.cell 2;have AY:w2.cell? ⟨bx,6,none⟩=some (.int .i64 c.le):=M.cell 6;have Ao:=Hy (XaE w2 c.wk c.le (by have:=N.o;omega) (by have:=N.o;omega) A4.1 A4.2);have AM:=Hy (J.trans (Af.mono J.size));have ⟨r,hr⟩:=gn z.heap.size;rw [hr] at Ag Z;have Ar:=Hy Ag;have Q:=Hy (by rw [<- hr];exact ⟨J.size,K.lt⟩:w.heap.size<=r/\bx < r);have At:=Hy Z;clear Af Ag J Z;go_wp2_with (first | (rw [C];rw [hr]) | rw [C] | rw [hr])
 clear C hr AW AY k0 k1 k2 k3 k4 k5 k6 k7 k8 k9 k l;refine Ao.mono ?_;clear Ao;rintro e w3 ⟨rfl,a,R⟩;have ⟨le,B⟩:=gn w2.heap.size;rw [B] at a At ⊢;unfold RB at a;have Ap:=Hy B;clear B;have An:=Hy R;have Av:=Hy a;have Aa:=Hy (Ar.below R Ar.lt);have AO:=Hy (M.below R M.lt);clear a R;have AS:w3.cell? ⟨r,13,none⟩=some (.pointer none):=Aa.cell 13;have A0:w3.frozen? ⟨r,13,none⟩=false:=Aa.frozen 13;have ⟨w4,d⟩:=gn (w3.setCell ⟨r,13,none⟩ (.pointer (some ⟨le,0,none⟩)))
 have F:Frm (fun b=>b=r) w3 w4:=by rw [<- d];exact (Frm.refl _ w3).setCell _ _ (.inl rfl)
 have v:=Hy (by rw [<- d];exact Aa.set 13 (.pointer (some ⟨le,0,none⟩)):Blk w4 r 159 _);have D:=Hy (AO.frm F (by have:=Q.o;omega));have n:=Hy F;clear F;have AX:w4.cell? ⟨bx,4,none⟩=some (.int .i64 c.sl):=D.cell 4;have Au:=Hy (Za8 c.sl w4 (by have:=N.o;omega) (by have:=N.o;omega));go_wp2_with (rw [d]);clear AX d AS A0;refine Au.mono ?_;clear Au;rintro e w5 ⟨p,g,rfl,A6,Bi,Bg,T⟩;have AK:=Hy T;have P:=Hy A6;have Ab:=Hy (v.below T v.lt);have AP:=Hy (D.below T D.lt)
 clear A6 T;have AT:w5.cell? ⟨r,14,none⟩=some (.pointer none):=Ab.cell 14;have A1:w5.frozen? ⟨r,14,none⟩=false:=Ab.frozen 14;have ⟨m,f⟩:=gn (w5.setCell ⟨r,14,none⟩ (.pointer (some ⟨p,0,none⟩)));have G:Frm (fun b=>b=r) w5 m:=by rw [<- f];exact (Frm.refl _ w5).setCell _ _ (.inl rfl)
 have y:=Hy (by rw [<- f];exact Ab.set 14 (.pointer (some ⟨p,0,none⟩)):Blk m r 159 _);have u:=Hy (AP.frm G (by have:=Q.o;omega));have q:=Hy G;clear G;have Ax:=Hy (xaQ 24 m (by decide) (by decide));go_wp2_with (rw [f]);clear f AT A1;refine Ax.mono ?_;clear Ax;rintro e w7 ⟨rfl,Ai⟩;have U:Below m.heap.size m w7:=by rw [Ai];exact (bf _ m).alloc (nl _) _
 have Aw:=Hy (by rw [Ai];exact hn_ m _:Blk w7 m.heap.size 209 [.slice none 0 0,.int .i64 24]);clear Ai;have ⟨I,Ah⟩:=gn m.heap.size;have AR:=Hy Ah;have AL:=Hy U;have Ac:=Hy (y.below U y.lt);have AQ:=Hy (u.below U u.lt);rw [Ah] at Aw ⊢;clear U Ah;have c15:w7.cell? ⟨r,15,none⟩=some (.pointer none):=Ac.cell 15;have A2:w7.frozen? ⟨r,15,none⟩=false:=Ac.frozen 15;have ⟨w8,j⟩:=gn (w7.setCell ⟨r,15,none⟩ (.pointer (some ⟨I,0,none⟩)));have H:Frm (fun b=>b=r) w7 w8:=by rw [<- j];exact (Frm.refl _ w7).setCell _ _ (.inl rfl)
 have As:=Hy (by rw [<- j];exact Ac.set 15 (.pointer (some ⟨I,0,none⟩)):Blk w8 r 159 _);have AZ:=Hy (AQ.frm H (by have:=Q.o;omega));have s:=Hy H;clear H;go_wp2_with (rw [j]);clear j c15 A2;go_ret2;have Ad:Frm (fun b=>b=r) w5 w8:=(q.trans (Frm.below AL.o) (fun i e _=>e)).trans s.o (fun i e _=>e);have Az:Frm (fun b=>b=r) w3 w8:=(n.trans (Frm.below AK.o) (fun i e _=>e)).trans Ad (fun i e _=>e);have Ay:Frm (fun b=>b=r) w w8:=((Frm.below AM.o).trans (Frm.below An.o) (fun i e _=>e)).trans Az (fun i e _=>e)
 have hp:=P.1.lt;have hg:=P.2.lt;have Bj:=Q.o;have Be:=n.size;have Bd:=An.size;have Bf:=q.size;have Bk:=AR.o;have Bh:=Av.lt;have Z:=At.o;have B:=Ap.o;have Ba:le < w4.heap.size:=by omega
 have o0:∀ b,b < w.heap.size->ownR O w.heap.size r le p g I b=O b:=fun b E=>by unfold ownR;rw [if_pos E]
 have or:ownR O w.heap.size r le p g I r=rt 0:=by unfold ownR;rw [io,if_pos rfl]
 have ol:ownR O w.heap.size r le p g I le=rt 1:=by unfold ownR;rw [io,io,if_pos rfl]
 have op:ownR O w.heap.size r le p g I p=rt 2:=by unfold ownR;rw [io,io,io,if_pos (.inl rfl)]
 have og:ownR O w.heap.size r le p g I g=rt 2:=by unfold ownR;rw [io,io,io,if_pos (.inr rfl)]
 have ot:ownR O w.heap.size r le p g I I=rt 3:=by unfold ownR;rw [io,io,io,io,if_pos rfl]
 refine ⟨r,⟨le,p,g,I,none,0,fun _=>0,fun _=>0,fun _=>(none,0)⟩,ownR O w.heap.size r le p g I,rfl,fun ac cc=>?_,fun b E=>o0 b E,Ay.mono (fun b e E=>by omega)⟩;refine ⟨AN.frm Ay (fun b E=>o0 b E) (fun b E e=>by omega),⟨ac,cc,rfl⟩,fun _=>⟨?_,or⟩,fun _=>⟨Av.frm Az (by omega),ol⟩,fun _=>?_,fun _=>⟨none,0,⟨Aw.frm s.o (by omega),ot⟩,Row.nil _ _ _ _ _⟩,fun _=>Row.nil _ _ _ _ _,fun _ i t hi=>(by cases hi),fun id h1 h2 _=>absurd (List.eq_of_mem_replicate h1) h2,fun id h1 h2 _=>absurd (List.eq_of_mem_replicate h1) h2⟩
 ·unfold CS.rcells;rw [show (CS.init (c.own ac cc)).L=List.replicate c.sl.toNat 0 from rfl,yF,yF,yF,yF];exact As.o
 rw [show (CS.init (c.own ac cc)).L=List.replicate c.sl.toNat 0 from rfl];exact ⟨⟨P.1.frm Ad (by omega),op⟩,⟨P.2.frm Ad (by omega),og⟩⟩
structure CS.TI (S:CS) (ns:Nat):Prop where
 ids:∀ x∈S.tm,∃ (j s id:Nat),S.L[j]?=some id/\id≠0/\s < ns/\x.2=6 * (j:Int)+(s:Nat)
 len:S.tm.length<=24
 nod:idsOK S.tm
 wk:S.t.workers=S.c.wk
theorem CS.TI.no {S:CS} {ns:Nat} (h:S.TI ns) (A:ns<=6) (j s:Nat) (h1:ns<=s) (h2:s < 6):hasL (6 * (j:Int)+(s:Nat)) S.tm=false:=by
 unfold hasL;rw [List.any_eq_false];intro x B e;obtain ⟨E,s',id,_,_,C,D⟩:=h.ids x B;have:x.2=6 * (j:Int)+(s:Nat):=by simpa using e
 omega
theorem CS.TI.cancel {S S':CS} {ns:Nat} (h:S.TI ns) (id:Int) (hL:S'.L=S.L) (ht:S'.tm=Go.Proofs.YtinkbgeckjbnbaaGreat.cancelL id S.tm) (hw:S'.t.workers=S'.c.wk):S'.TI ns:=
 ⟨fun x A=>by rw [ht] at A;rw [hL];exact h.ids x (List.mem_of_mem_eraseP A),by rw [ht];exact nr (Yu _ _) h.len,by rw [ht];exact YA h.nod,hw⟩
theorem CS.TI.same {S S':CS} {ns:Nat} (h:S.TI ns) (hL:S'.L=S.L) (ht:S'.tm=S.tm) (hw:S'.t.workers=S'.c.wk):S'.TI ns:=
 ⟨fun x A=>by rw [ht] at A;rw [hL];exact h.ids x A,by rw [ht];exact h.len,by rw [ht];exact h.nod,hw⟩
theorem XM {tm:List One} (h:idsOK tm) (A:Nat):∀ n,idsOK (cancelS tm A n)/\∀ x∈cancelS tm A n,x∈tm/\∀ s,s < n->x.2≠6 * (A:Int)+(s:Nat)
 | 0=>⟨h,fun x C=>⟨C,fun s F=>by omega⟩⟩
 | n+1=>by
  obtain ⟨h1,h2⟩:=XM h A n
  rw [Yg]
  refine ⟨YA h1,fun x C=>?_⟩
  have B:=List.mem_of_mem_eraseP C
  refine ⟨(h2 x B).1,fun s F=>?_⟩
  by_cases e:s=n
  ·subst e
   intro E
   have D:=Qr (id:=6 * (A:Int)+(s:Nat)) _ h1
   unfold hasL at D
   rw [List.any_eq_false] at D
   exact D x C (by simpa using E)
  ·exact (h2 x B).2 s (by omega)
theorem CS.TI.over {S:CS} {ns:Nat} (h:S.TI ns) {j id:Nat} (hj:S.L[j]?=some id) (h0:id≠0) (hs:(S.Q id).slot=j) (ho:SlOK S.L S.told.length):(S.over id ns).TI ns:=by
 obtain ⟨h1,D⟩:=XM h.nod j ns;have A:(S.over id ns).tm=cancelS S.tm j ns:=by show cancelS S.tm (S.Q id).slot ns=_;rw [hs]
 have H:(S.over id ns).L=S.L.set j 0:=by show freeL S.L (id:Int)=_;exact qO ho hj h0
 refine ⟨fun x C=>?_,by rw [A];exact nr (YI _ _ _) h.len,by rw [A];exact h1,h.wk⟩;rw [A] at C;obtain ⟨G,s',i,I,J,E,F⟩:=h.ids x (D x C).1;have B:j≠G:=fun e=>(D x C).2 s' E (by rw [F,e]);exact ⟨G,s',i,by rw [H,List.getElem?_set_ne B];exact I,J,E,F⟩
theorem QaM (t:Tab) (v life now:Int):(t.hello v life now).1.workers=t.workers:=by
 unfold Tab.hello;split
 ·split <;> rfl
 rfl
theorem Xa2 (t:Tab) (v ep now:Int):(t.seen v ep now).1.workers=t.workers:=by unfold Tab.seen;split <;> rfl
structure CS.Fit (S:CS) (C:CfgM) (ns sl:Nat) (b:Int):Prop where
 ok:S.OK ns b
 ti:S.TI ns
 c:S.c=C
 L:S.L.length=sl
 it:∀ t∈S.told,t.items.length<=10/\t.q.size<=100
 und:∀ (i:Nat) (t:TS),S.told[i]?=some t->t.done=false->t.canc=false->i+1∈S.L
 z:(S.Q 0).slot=0
theorem CS.Fit.mono {S:CS} {C:CfgM} {ns sl:Nat} {b b':Int} (h:S.Fit C ns sl b) (hb:b<=b'):S.Fit C ns sl b':=⟨h.ok.mono hb,h.ti,h.c,h.L,h.it,h.und,h.z⟩
theorem Zaz (L:List Nat) (id:Int):(freeL L id).length=L.length:=by unfold freeL;split <;> simp
theorem CS.Fit.hello {S:CS} {C:CfgM} {ns sl:Nat} {b:Int} (h:S.Fit C ns sl b) (v life:Int):(S.hello v life).Fit C ns sl b:=
 ⟨yac h.ok v life,h.ti.same rfl rfl (by show (S.t.hello v life S.now).1.workers=_;rw [QaM];exact h.ti.wk),h.c,h.L,h.it,h.und,h.z⟩
theorem CS.Fit.seenS {S:CS} {C:CfgM} {ns sl:Nat} {b:Int} (h:S.Fit C ns sl b) (v ep:Int):(S.seenS v ep).Fit C ns sl b:=
 ⟨qR h.ok v ep,h.ti.same rfl rfl (by show (S.t.seen v ep S.now).1.workers=_;rw [Xa2];exact h.ti.wk),h.c,h.L,h.it,h.und,h.z⟩
theorem CS.Fit.tick {S:CS} {C:CfgM} {ns sl:Nat} {b:Int} (h:S.Fit C ns sl b):S.tick.Fit C ns sl (b+1):=
 ⟨Xa3 h.ok,h.ti.same rfl rfl h.ti.wk,h.c,h.L,h.it,h.und,h.z⟩
theorem zS {S:CS} {id i:Nat} {t:TS} (ht:(S.tell id).told[i]?=some t):S.told[i]?=some t∨(i=id - 1/\t={S.tof id with items:=(S.tof id).items++(S.tellR id).1}):=by
 have A:(S.told.set (id - 1) {S.tof id with items:=(S.tof id).items++(S.tellR id).1})[i]?=some t:=ht
 by_cases e:i=id - 1
 ·subst e
  by_cases B:id - 1 < S.told.length
  ·rw [List.getElem?_set_self B] at A;exact .inr ⟨rfl,(Option.some.inj A).symm⟩
  rw [List.getElem?_eq_none (by rw [List.length_set];omega)] at A;cases A
 rw [List.getElem?_set_ne (fun q=>e q.symm)] at A;exact .inl A
theorem CS.Fit.tell {S:CS} {C:CfgM} {ns sl:Nat} {b:Int} (h:S.Fit C ns sl b) {id:Nat} (hm:id∈S.L) (h0:id≠0):(S.tell id).Fit C ns sl b:=by
 have q:=h.ok.q id hm h0;have A:=yu (S:=(S.Q id).S) q.tn;obtain ⟨l,B,D⟩:=Y7 (S.Q id).n ((S.Q id).n.toNat - (S.Q id).T.length) (S.Q id).S (S.Q id).T [];have F:(S.tellR id).1=l:=B;have G:(S.tellR id).2.2=(S.Q id).T++l:=D
 have H:((S.Q id).T++l).length<=10:=by
  have h1:=A.2.1;rw [show (tellP (S.Q id).n (S.Q id).S (S.Q id).T).2.2=(S.Q id).T++l from G] at h1;have:=q.n;omega
 refine ⟨yax h.ok hm h0,h.ti.same rfl rfl h.ti.wk,h.c,h.L,fun t E=>?_,fun i t E hd I=>?_,by rw [qS S id 0 (fun e=>h0 e.symm)];exact h.z⟩
 ·obtain ⟨i,hi⟩:=List.getElem?_of_mem E
  rcases zS hi with h1 | ⟨_,rfl⟩
  ·exact h.it t (lm h1)
  rw [q.tof,F]
  exact ⟨H,(h.it _ (lm q.told)).2⟩
 rcases zS E with h1 | ⟨rfl,_⟩
 ·exact h.und i t h1 hd I
 show id - 1+1∈S.L
 rw [show id - 1+1=id by omega];exact hm
theorem CS.Fit.over {S S':CS} {C:CfgM} {ns sl:Nat} {b:Int} (h:S.Fit C ns sl b) {id:Nat} (hm:id∈S.L) (h0:id≠0) (t':TS) (hS:S'=S.setT (id - 1) t') (hd:t'.done=true∨t'.canc=true) (hi:t'.items.length<=10/\t'.q.size<=100):(S'.over id ns).Fit C ns sl b:=by
 subst hS;obtain ⟨j,G⟩:=List.getElem?_of_mem hm;have H:=h.ok.sl.le id hm
 have B:∀ (i:Nat) (t:TS),(S.told.set (id - 1) t')[i]?=some t->(i≠id - 1/\S.told[i]?=some t)∨(i=id - 1/\t=t'):=fun i t A=>by
  by_cases e:i=id - 1
  ·subst e;rw [List.getElem?_set_self (by omega)] at A;exact .inr ⟨rfl,(Option.some.inj A).symm⟩
  ·rw [List.getElem?_set_ne (fun q=>e q.symm)] at A;exact .inl ⟨e,A⟩
 refine ⟨qaw h.ok hm h0 rfl rfl rfl (by show (S.told.set _ _).length=_;rw [List.length_set]) (fun j e=>rfl) (fun j h1 e=>by show (S.told.set (id - 1) _)[j - 1]?=_;rw [List.getElem?_set_ne (by omega)]),?_,h.c,?_,fun t A=>?_,fun i t A E D=>?_,h.z⟩
 ·have A:(S.setT (id - 1) t').TI ns:=h.ti.same rfl rfl h.ti.wk
  exact A.over G h0 (h.ok.slots G h0) (by rw [show (S.setT (id - 1) t').told.length=S.told.length from List.length_set];exact h.ok.sl)
 ·show (freeL S.L (id:Int)).length=sl;rw [Zaz];exact h.L
 ·obtain ⟨i,F⟩:=List.getElem?_of_mem A
  rcases B i t F with ⟨_,h1⟩ | ⟨_,rfl⟩
  ·exact h.it t (lm h1)
  exact hi
 rcases B i t A with ⟨hne,h1⟩ | ⟨_,rfl⟩
 ·exact (Qt h.ok.sl hm h0 (i+1) (by omega)).2 ⟨h.und i t h1 E D,by omega⟩
 rcases hd with e | e
 ·rw [e] at E;cases E
 rw [e] at D;cases D
theorem CS.Fit.goes {S:CS} {C:CfgM} {ns sl:Nat} {b:Int} (h:S.Fit C ns sl b) {id:Nat} (hm:id∈S.L) (h0:id≠0):(S.goes id ns).Fit C ns sl b:=by
 have A:=h.tell hm h0;unfold CS.goes;split
 ·have q:=A.ok.q id hm h0
  have hi:=A.it _ (lm q.told);refine A.over (S':=(S.tell id).fin id) hm h0 {(S.tell id).tof id with done:=true} rfl (.inl rfl) ?_;rw [q.tof];exact hi
 exact A
theorem CS.Fit.cancel {S:CS} {C:CfgM} {ns sl:Nat} {b:Int} (h:S.Fit C ns sl b) (id:Int):(S.cancel id ns).Fit C ns sl b:=by
 unfold CS.cancel;split
 ·rename_i A
  unfold CS.has at A;simp only [decide_eq_true_eq] at A;have q:=h.ok.q id.toNat A.2 (by omega);have hi:=h.it _ (lm q.told);refine h.over (S':=S.stop id.toNat) A.2 (by omega) {S.tof id.toNat with canc:=true} rfl (.inr rfl) ?_;rw [q.tof];exact hi
 exact h
theorem CS.Fit.add {S:CS} {C:CfgM} {ns sl:Nat} {b:Int} (h:S.Fit C ns sl b) {q:ByteArray} {k n:Int} (hm:mayQ q k n=true) (hq:q.size<=100) {s:Nat} (hs:S.L[s]?=some 0) (hb:0<=b):(S.add q k n s ns).Fit C ns sl (b+1):=by
 have D:s < S.L.length:=(lg hs).1
 have G:∀ (i:Nat) (t:TS),(S.told++[⟨q,k,n,[],false,false⟩])[i]?=some t->S.told[i]?=some t∨(i=S.told.length/\t=⟨q,k,n,[],false,false⟩):=fun i t A=>by
  by_cases e:i < S.told.length
  ·rw [List.getElem?_append_left e] at A;exact .inl A
  ·rw [List.getElem?_append_right (by omega)] at A
   have H:i - S.told.length=0:=by have:=(lg A).1;simp at this;omega
   rw [H] at A;exact .inr ⟨by omega,(Option.some.inj A).symm⟩
 have B:∀ x,x∈S.L->x≠0->x∈S.L.set s (S.told.length+1):=fun x E h0=>by
  obtain ⟨i,hi⟩:=List.getElem?_of_mem E
  by_cases e:i=s
  ·subst e;rw [hs] at hi;exact absurd (Option.some.inj hi).symm h0
  ·exact lm (i:=i) (by rw [List.getElem?_set_ne (fun q=>e q.symm)];exact hi)
 refine ⟨yM h.ok hm hs hb,⟨fun x E=>?_,h.ti.len,h.ti.nod,h.ti.wk⟩,h.c,by show (S.L.set s _).length=sl;rw [List.length_set];exact h.L,fun t A=>?_,fun i t A hd K=>?_,by show (if 0=S.told.length+1 then S.newQ q k n s ns else S.Q 0:QS).slot=0;rw [io];exact h.z⟩
 ·obtain ⟨j,s',id,h1,F,I,J⟩:=h.ti.ids x E
  refine ⟨j,s',id,?_,F,I,J⟩;show (S.L.set s _)[j]?=_;rw [List.getElem?_set_ne (fun e=>by subst e;rw [hs] at h1;exact F (Option.some.inj h1).symm)];exact h1
 ·obtain ⟨i,hi⟩:=List.getElem?_of_mem A
  rcases G i t hi with h1 | ⟨_,rfl⟩
  ·exact h.it t (lm h1)
  exact ⟨nz _,hq⟩
 rcases G i t A with h1 | ⟨rfl,_⟩
 ·exact B _ (h.und i t h1 hd K) (by omega)
 exact lm (List.getElem?_set_self D)
theorem CS.Fit.sub {S:CS} {C:CfgM} {ns sl:Nat} {b:Int} (h:S.Fit C ns sl b) (hb:0<=b) (q:ByteArray) (k n:Int) (hq:q.size<=100):(S.sub q k n ns).Fit C ns sl (b+1):=by
 unfold CS.sub;split
 ·exact h.mono (by omega)
 rename_i B
 split
 ·exact h.mono (by omega)
 rename_i s D
 have A:=qau D;refine (h.add (by simpa using B) hq A hb).goes ?_ (by omega);show _∈S.L.set s (S.told.length+1);exact lm (List.getElem?_set_self (lg A).1)
theorem CS.Fit.put1 {S:CS} {C:CfgM} {ns sl:Nat} {b:Int} (h:S.Fit C ns sl b) {id:Nat} (hm:id∈S.L) (h0:id≠0) (i seq:Int) (l:List KeyL) (e r:Bool) (S':List PS) (hp:putP (S.Q id).n (S.Q id).S (S.Q id).T i seq l e=(r,S')):(S.put1 id i S').Fit C ns sl (b+1):=
 ⟨Y2 h.ok hm h0 i seq l e r S' hp,h.ti.cancel (6 * ((S.Q id).slot:Int)+i) rfl rfl h.ti.wk,h.c,h.L,h.it,h.und,by show (if 0=id then {S.Q id with S:=S',T:=(S.Q id).T} else S.Q 0:QS).slot=0;rw [if_neg (fun e=>h0 e.symm)];exact h.z⟩
theorem CS.Fit.rep {S:CS} {C:CfgM} {ns sl wn:Nat} {b:Int} (h:S.Fit C ns sl b) (s q i sq wk ep:Int) (l:List KeyL) (en:Bool):(S.rep ns wn s q i sq wk ep l en).1.Fit C ns sl (b+1):=by
 have A:=h.mono (b':=b+1) (by omega);unfold CS.rep;split
 ·exact A
 rename_i B
 split
 ·exact A
 split
 ·exact A
 split
 ·exact A.seenS wk ep
 unfold CS.repOK at B
 rw [Bool.not_eq_false] at B;simp only [Bool.and_eq_true,decide_eq_true_eq] at B;obtain ⟨j,id,_,rfl,h0,E⟩:=X9 B.1.1.2;rw [Int.toNat_natCast];have D:=lm E;exact ((h.seenS wk ep).put1 D h0 i sq l en _ _ rfl).goes D h0
theorem QaT {L:List One} {id a:Int} {x:One} (h:x∈(setL 24 L id a).2):x∈L∨x.2=id:=by
 unfold setL at h;split at h
 ·exact .inl h
 split at h
 ·rcases List.mem_cons.1 ((zf (a,id) (cancelL id L)).mem_iff.1 h) with rfl | h1
  ·exact .inr rfl
  exact .inl (List.mem_of_mem_eraseP h1)
 split at h
 ·exact .inl h
 rcases List.mem_cons.1 ((zf (a,id) L).mem_iff.1 h) with rfl | h1
 ·exact .inr rfl
 exact .inl h1
theorem xaT {L:List One} {id a:Int} (h:idsOK L):idsOK (setL 24 L id a).2:=by
 unfold setL;split
 ·exact h
 split
 ·exact qav (YA h) (Qr L h)
 split
 ·exact h
 rename_i _ A _
 exact qav h (by simpa using A)
theorem CS.TI.setH {S:CS} {ns:Nat} (h:S.TI ns) (id s:Nat) (y:SH):(S.setH id s y).TI ns:=h.same rfl rfl h.wk
theorem CS.TI.tset {S:CS} {ns:Nat} (h:S.TI ns) {id j s:Nat} (hj:S.L[j]?=some id) (h0:id≠0) (B:(S.Q id).slot=j) (hs:s < ns) (t A:Int):(S.tset id s t A).TI ns:=by
 refine ⟨fun x C=>?_,yaT (L:=S.tm) h.len _ _,xaT h.nod,h.wk⟩;rcases QaT (L:=S.tm) C with h1 | h1
 ·exact h.ids x h1
 exact ⟨j,s,id,hj,h0,hs,by rw [h1];unfold CS.tid;rw [B]⟩
theorem CS.TI.look {S:CS} {ns:Nat} (h:S.TI ns) {id j s:Nat} (hj:S.L[j]?=some id) (h0:id≠0) (B:(S.Q id).slot=j) (hs:s < ns) (A:Int):(S.look id s A).1.TI ns:=by
 have C:∀ y,((S.setH id s y).Q id).slot=j:=fun y=>by rw [Xm];exact B
 unfold CS.look;split
 ·exact (h.setH id s _).tset hj h0 (C _) hs _ _
 split
 ·exact (h.setH id s _).tset hj h0 (C _) hs _ _
 split
 ·exact h.setH id s _
 exact h
theorem Lk.slot {S:CS} (h:Lk S S') (i:Nat):(S'.Q i).slot=(S.Q i).slot:=by obtain ⟨sh,e⟩:=h.Q i;rw [e]
theorem CS.TI.lookN {S:CS} {ns:Nat} (h:S.TI ns) {id j:Nat} (hj:S.L[j]?=some id) (h0:id≠0) (D:(S.Q id).slot=j) (A:Int) (l:List Int) (C:∀ s∈l,s.toNat < ns):(S.lookN id A l).1.TI ns:=by
 revert C;refine zu (P:=fun l=>(∀ s∈l,s.toNat < ns)->(S.lookN id A l).1.TI ns) (fun _=>h) (fun l s F C=>?_) l;rw [Xf];have B:=Zx S id A l;exact (F (fun x E=>C x (by simp [E]))).look (by rw [B.L];exact hj) h0 ((B.slot id).trans D) (C s (by simp)) A
theorem CS.TI.wakeN {S:CS} {ns:Nat} {b:Int} (h:S.TI ns) (ho:S.OK ns b) (D:S.c.cp<=3) (hb:3<=b) (F:ns<=6) (A:Int) (k:Nat):(S.wakeN A k).1.TI ns:=by
 induction k with
 | zero=>exact h
 | succ k G=>
  rw [Zi];unfold CS.wakeA;split
  ·exact G
  ·rename_i B
   have C:=(qy ho A D hb F k).1;have E:=Xk B;have H:=lm E;have q:=C.q _ H B;refine G.lookN E B (C.slots E B) A _ (fun s I=>?_);obtain ⟨i,rfl,hi⟩:=xas I;rw [q.len] at hi;exact hi
theorem CS.Fit.wake {S:CS} {C:CfgM} {ns sl:Nat} {b:Int} (h:S.Fit C ns sl b) (F:C.cp<=3) (hb:3<=b) (E:ns<=6) (G:C.sl=(sl:Int)) (H:sl<=4) (A:Int):(S.wake A).1.Fit C ns sl (b+24):=by
 have D:S.c.cp<=3:=by rw [h.c];exact F
 unfold CS.wake;have B:=yG S A S.c.sl.toNat;have I:S.c.sl.toNat<=4:=by rw [h.c,G];omega
 exact ⟨(qy h.ok A D hb E _).1.mono (by omega),h.ti.wakeN h.ok D hb E A _,by rw [B.c];exact h.c,by rw [B.L];exact h.L,by rw [B.told];exact h.it,by rw [B.told,B.L];exact h.und,by rw [B.slot 0];exact h.z⟩
theorem CS.Fit.init {c:CfgM} {ns sl:Nat} {b:Int} (h:mayC c=true) (A:1<=c.le/\c.le<=1000) (hb:0<=b) (B:c.sl=(sl:Int)):(CS.init c).Fit c ns sl b:=
 ⟨XZ h A ns hb,⟨fun x D=>(by cases D),nz _,List.nodup_nil,rfl⟩,rfl,by show (List.replicate c.sl.toNat 0).length=sl;rw [List.length_replicate,B];omega,fun t C=>(by cases C),fun i t C=>(by simp [CS.init] at C),rfl⟩
section
structure JN (w0 w:World) (O:Own) (A:CA) (p:Nat) (S:CS) (B:RA) (r:Nat) (c:CfgM) (R:CS):Prop where
 cw:CW w O A p S
 rw:RW w O B r c R
 old:∀ b,b < w0.heap.size->O b=3
 bel:Below w0.heap.size w0 w
section
variable {w0 w w2:World} {O O2:Own} {A A2:CA} {p r:Nat} {S S2 R R2:CS} {B B2:RA} {c:CfgM}
theorem JN.outC (h:JN w0 w O A p S B r c R) (hf:COut O w w2):Below w0.heap.size w0 w2:=hf.to_below h.bel (fun b C=>by rw [h.old b C];decide)
theorem ROut.to_below {w0:World} (hf:ROut O w w2) (hb:Below w0.heap.size w0 w) (ho:∀ b,b < w0.heap.size->O b=3):Below w0.heap.size w0 w2:=
 ⟨hf.os.trans hb.os,hf.tape.trans hb.tape,hf.output.trans hb.output,nr hb.size hf.size,fun k A=>(hf.block k (nt A hb.size) (by rw [ho k A];decide)).trans (hb.block k A)⟩
theorem JN.cstep (h:JN w0 w O A p S B r c R) (hc:CW w2 O2 A2 p S2) (ha:AgO w.heap.size O O2) (hf:COut O w w2):JN w0 w2 O2 A2 p S2 B r c R:=
 ⟨hc,h.rw.cout hf ha,fun b C=>by rw [ha b (Nat.lt_of_lt_of_le C h.bel.size)];exact h.old b C,h.outC hf⟩
theorem JN.rstep (h:JN w0 w O A p S B r c R) (hc:RW w2 O2 B2 r c R2) (ha:AgO w.heap.size O O2) (hf:ROut O w w2):JN w0 w2 O2 A p S B2 r c R2:=
 ⟨h.cw.rout hf ha,hc,fun b C=>by rw [ha b (Nat.lt_of_lt_of_le C h.bel.size)];exact h.old b C,hf.to_below h.bel h.old⟩
theorem JN.zero (h:JN w0 w O A p S B r c R) (hf:Frm F w w2) (ha:AgO w.heap.size O O2) (hF:∀ b,b < w.heap.size->F b->O b=0):JN w0 w2 O2 A p S B r c R:=
 ⟨h.cw.apart hf ha (fun b E D=>by rw [hF b E D];decide),h.rw.apart hf ha (fun b E D=>by rw [hF b E D];exact ⟨by decide,by decide⟩),fun b E=>by rw [ha b (Nat.lt_of_lt_of_le E h.bel.size)];exact h.old b E,
  ⟨hf.os.trans h.bel.os,hf.tape.trans h.bel.tape,hf.output.trans h.bel.output,nr h.bel.size hf.size,fun k C=>(hf.block k (nt C h.bel.size) (fun e=>by have:=hF k (nt C h.bel.size) e;rw [h.old k C] at this;cases this)).trans (h.bel.block k C)⟩⟩
theorem JN.below (h:JN w0 w O A p S B r c R) (hb:Below w.heap.size w w2) (ha:AgO w.heap.size O O2):JN w0 w2 O2 A p S B r c R:=
 h.zero (F:=fun _=>False) (Frm.below hb) ha (fun _ _ q=>q.elim)
theorem JN.bel0 (h:JN w0 w O A p S B r c R) (hb:Below w.heap.size w w2):JN w0 w2 O A p S B r c R:=h.below hb (AgO.refl _ _)
end
theorem LetAt.rstep {base:Nat} {l:List LV} (h:LetAt O w base v l) (hf:ROut O w w') (ha:AgO w.heap.size O O'):LetAt O' w' base v l:=by
 obtain ⟨D,c,e,B,C⟩:=h;exact ⟨D,c,e,za B hf (fun k A q=>by rw [C k A] at q;exact absurd q (by decide)),zv B ha C⟩
theorem LetAt.ag {base:Nat} {l:List LV} (h:LetAt O w base v l) (hb:Below w.heap.size w w') (ha:AgO w.heap.size O O'):LetAt O' w' base v l:=by
 obtain ⟨B,c,e,A,C⟩:=h;exact ⟨B,c,e,Qa A hb,zv A ha C⟩
end
end Go.Proofs.YtinkbgeckjbnbaaGreat
