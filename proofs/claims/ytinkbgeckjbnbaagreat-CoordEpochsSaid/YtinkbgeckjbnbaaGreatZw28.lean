/- Lemmas (part 28). -/
import Derived.Test.YtinkbgeckjbnbaaGreatZw26
namespace Go.Proofs.YtinkbgeckjbnbaaGreat
open Go.RowKit Go.Proofs.Tryz
set_option autoImplicit true
set_option relaxedAutoImplicit true
set_option linter.unusedVariables false
set_option linter.unusedSimpArgs false
set_option maxRecDepth 100000
set_option maxHeartbeats 32000000
def EpR (w:World) (p r:Nat) (c:CfgM) (ns sl n:Nat) (bx:List (Nat×TypeId×List Value)) (v:Value) (wr:World):Prop:=∃ (i:Nat) (O:Own) (A:CA) (B:RA) (S:CS),i<=n/\v=.int .i64 i/\Hid (LS w wr O A p B r c S ns sl (3+24 * (i:Int)) bx)
theorem epochs24_law (c:CfgM) (a:Option Addr) (n cap:Nat) (l:List AV) (Aq:Int) (av:AV) (w:World) (Aw:CfgOK w c) (hr:RdE AV.cells 15 w a n cap l) (Bt:∀ x∈l,x.good w):
  Calls prog 9 #[c.val,.slice a n cap,Aq,.agg #[av.d,av.i,av.j,av.x,av.tx,av.k,av.n,av.s,av.q,av.h,av.sq,av.wk,av.ep,.slice av.a av.l.length av.c,.bool av.en]] w fun e w'=>e=.returned (.bool true)/\Below w.heap.size w w':=by
 have ⟨W0,As⟩:=gn (w.alloc (.cells #[.slice c.aw c.nw c.cw,.slice c.ac c.nc c.cc,c.wk,c.cp,c.sl,c.ba,c.le,c.he,c.fi,c.ca,c.ji,c.ne] 25));have ⟨W1,At⟩:=gn (W0.alloc (.cells #[av.d,av.i,av.j,av.x,av.tx,av.k,av.n,av.s,av.q,av.h,av.sq,av.wk,av.ep,.slice av.a av.l.length av.c,.bool av.en] 67));have B4:W0.heap.size=w.heap.size+1:=by rw [<- As];simp
 have Bn:Below w.heap.size w W0:=by rw [<- As];exact (bf _ w).alloc (nl _) _
 have Au:Below W0.heap.size W0 W1:=by rw [<- At];exact (bf _ W0).alloc (nl _) _
 have Av:=Bn.trans (Au.mono Bn.size);have Y:=(by rw [<- As];exact hn_ w _:Blk W0 w.heap.size 25 [.slice c.aw c.nw c.cw,.slice c.ac c.nc c.cc,c.wk,c.cp,c.sl,c.ba,c.le,c.he,c.fi,c.ca,c.ji,c.ne]).below Au (by rw [B4];omega);have CX:Blk W1 (w.heap.size+1) 67 [av.d,av.i,av.j,av.x,av.tx,av.k,av.n,av.s,av.q,av.h,av.sq,av.wk,av.ep,.slice av.a av.l.length av.c,.bool av.en]:=by rw [<- At,<- B4];exact hn_ W0 _
 have HB:=Hy Av;have HX:=Hy Y;have Bi:=Hy CX;have Bd:=Hy Aw;have HR:=Hy hr;have Db:=Hy Bt;have HN:=Hy hr.1;have Bu:=Xab c a n cap l 60 W1 (Aw.below Av rfl) (hr.below Av rfl) (fun x Y=>(Bt x Y).below Av) (by decide);unfold CfgM.val at Bu ⊢;have BX:=Hy Bu;have Eb:=hr.2.1;have Dt:=hr.2.2.1;unfold maxLen at Dt;obtain ⟨x0,x1,x2,x3,x4,x5,x6,x7,x8,x9,f,u⟩:=c12 Y;rw [<- As] at At;clear Bn Au Av Y CX B4 As Aw hr Bt Bu;go_in;go_wp2_with (rw [At]);clear At x0 x1 x2 x3 x4 x5 x6 x7 x8 x9 f u
 refine BX.mono ?_;clear BX;rintro e H ⟨g,rfl,hg,E⟩;have z:=Hy (HB.trans (E.mono HB.size));have A4:=Hy (HX.below E HX.lt);have Ap:=Hy (Bi.below E Bi.lt);obtain ⟨x0,x1,x2,x3,x4,x5,x6,x7,x8,x9,f,u⟩:=c12 A4.o;clear E HB HX Bi;have HG:=Hy hg;clear hg;cases g;rotate_left 1
 ·go_wp2_with fail
  refine (Yw _).mono ?_;rintro e BE ⟨rfl,E⟩;have Q:=Hy (z.trans (E.mono z.size));clear E;go_wp2_with fail;go_ret;exact ⟨rfl,Q.o⟩
 have Ak:=Hy (HG.o rfl);clear HG;have AE:=Q1 c H (Bd.below z.o rfl);have ⟨m,hm⟩:=gn (mayC c);rw [hm] at AE;unfold CfgM.val at AE;have Cf:=Hy AE;have HM:=Hy hm;clear AE hm;go_wp2_with fail;clear x0 x1 x2 x3 x4 x5 x6 x7 x8 x9 f u;refine Cf.mono ?_;clear Cf;rintro e w3 ⟨rfl,E⟩;have M:=Hy (z.trans (E.mono z.size));have Ao:=Hy (A4.below E A4.lt);have y:=Hy (Ap.below E Ap.lt);obtain ⟨x0,x1,x2,x3,x4,x5,x6,x7,x8,x9,f,u⟩:=c12 Ao.o;clear E z A4 Ap;cases m
 ·go_wp2_with fail
  refine (Yw _).mono ?_;rintro e BE ⟨rfl,E⟩;have Q:=Hy (M.trans (E.mono M.size));clear E;go_wp2_with fail;go_ret;exact ⟨rfl,Q.o⟩
 by_cases AB:Aq=0
 ·have Dx:(Aq == 0)=true:=by simpa using AB
  clear AB;go_wp2_with fail;refine (Yw _).mono ?_;rintro e BE ⟨rfl,E⟩;have Q:=Hy (M.trans (E.mono M.size));clear E;go_wp2_with fail;go_ret;exact ⟨rfl,Q.o⟩
 have Dx:(Aq == 0)=false:=by simpa using AB
 clear AB;obtain ⟨ns,wn,sl,CE⟩:=ZaV HM.o Ak.1;have C:=Hy CE;have Ae:=Xaa (lawO w) c w3 (Bd.below M.o rfl) HM.o;unfold CfgM.val at Ae;have Ch:=Hy Ae;clear CE Ae;go_wp2_with fail;clear x0 x1 x2 x3 x4 x5 x6 x7 x8 x9 f u;refine Ch.mono ?_;clear Ch;rintro e w4 ⟨p,ac,cc,A,O4,rfl,CG,CF,C3,E⟩;have BV:=Hy CG;have BU:=Hy CF;have Bb:=Hy C3;have AJ:=Hy E;have Bj:=Hy (And.intro Ao.o y.o);have Ag:=Hy M.o;clear CG CF C3;have BS:=Hy (M.trans (E.mono M.size));have Cx:=Hy (Ao.below E Ao.lt)
 have Cy:=Hy (y.below E y.lt);obtain ⟨x0,x1,x2,x3,x4,x5,x6,x7,x8,x9,f,u⟩:=c12 Cx.o;clear E M Ao y;have AU:CfA O4 w4 c:=CfA.law Bd.o BS.o (fun b E=>by rw [Bb.o b (Nat.lt_of_lt_of_le E Ag.size)];exact Qav E);have B0:=qap O4 c w4 AU C.short HM.o (qaj HM.o).2.2;unfold CfgM.val RNeE at B0;have Cg:=Hy B0;clear AU B0;go_wp2_with fail;clear x0 x1 x2 x3 x4 x5 x6 x7 x8 x9 f u;refine Cg.mono ?_;clear Cg;rintro e w5 ⟨r,B,O5,rfl,CT,C4,CI⟩;have F:=Hy (LS.new (sl:=sl) (bx:=[(w.heap.size,25,[.slice c.aw c.nw c.cw,.slice c.ac c.nc c.cc,.int .i64 c.wk,.int .i64 c.cp,.int .i64 c.sl,.int .i64 c.ba,.int .i64 c.le,.int .i64 c.he,.int .i64 c.fi,.int .i64 c.ca,.int .i64 c.ji,.int .i64 c.ne]),(w.heap.size+1,67,[.int .i64 av.d,.int .i64 av.i,.int .i64 av.j,.int .i64 av.x,.string av.tx,.int .i64 av.k,.int .i64 av.n,.int .i64 av.s,.int .i64 av.q,.int .i64 av.h,.int .i64 av.sq,.int .i64 av.wk,.int .i64 av.ep,.slice av.a av.l.length av.c,.bool av.en])]) C.o Ag.o (fun x Y=>by simp only [List.mem_cons,List.not_mem_nil,or_false] at Y;rcases Y with rfl | rfl;exact ⟨Bj.1,nl _⟩;exact ⟨Bj.2,Nat.le_succ _⟩) BV.o BU.o Bb.o AJ.o CT C4 CI)
 clear CT C4 CI BV BU Bb AJ Bj Ag Cx Cy BS;have Eg:=fun V=>yn p 0 V;obtain ⟨Ec,Ed,Ej,Ek,Eh,Ei,Ee,Ef,DN,-⟩:=C.bd;go_wp2_with fail;go_loopw [13] (fun v wr=>EpR w p r c ns sl n [(w.heap.size,25,[.slice c.aw c.nw c.cw,.slice c.ac c.nc c.cc,.int .i64 c.wk,.int .i64 c.cp,.int .i64 c.sl,.int .i64 c.ba,.int .i64 c.le,.int .i64 c.he,.int .i64 c.fi,.int .i64 c.ca,.int .i64 c.ji,.int .i64 c.ne]),(w.heap.size+1,67,[.int .i64 av.d,.int .i64 av.i,.int .i64 av.j,.int .i64 av.x,.string av.tx,.int .i64 av.k,.int .i64 av.n,.int .i64 av.s,.int .i64 av.q,.int .i64 av.h,.int .i64 av.sq,.int .i64 av.wk,.int .i64 av.ep,.slice av.a av.l.length av.c,.bool av.en])] v wr) (fun v _=>n - (intOf v).toNat)
 case atStart=>exact ⟨0,O5,A,B,_,nz _,rfl,F.o⟩
 case round=>
  clear F;obtain ⟨i,O,A,B,S,hi,rfl,F⟩:=hrel
  by_cases CP:i < n
  ·skip
   have e1:(i:Int) < (n:Int):=by omega
   have e2:(0:Int)<=(i:Int):=by omega
   obtain ⟨v,hv⟩:∃ x,l[i]?=some x:=⟨l[i]'(by rw [HN.o];exact CP),le_ _⟩;have AI:=lm hv;have Ba:=(Db.o v AI).ok (Ak.2.2 v AI).1 (Ak.2.2 v AI).2;obtain ⟨U,Z,rfl,_,G⟩:=(HR.below F.bel rfl).2.2.2.2 i v hv;have t0:wr.cell? ⟨U,Z+i * 15,none⟩=some (.int .i64 v.d):=G 0 (by decide);have t1:wr.cell? ⟨U,Z+i * 15+1,none⟩=some (.int .i64 v.i):=G 1 (by decide);have t2:wr.cell? ⟨U,Z+i * 15+2,none⟩=some (.int .i64 v.j):=G 2 (by decide);have t3:wr.cell? ⟨U,Z+i * 15+3,none⟩=some (.int .i64 v.x):=G 3 (by decide);have t4:wr.cell? ⟨U,Z+i * 15+4,none⟩=some (.string v.tx):=G 4 (by decide)
   have t5:Ci wr U (Z+i * 15+5) v.k:=G 5 (by decide);have t6:wr.cell? ⟨U,Z+i * 15+6,none⟩=some (.int .i64 v.n):=G 6 (by decide);have t7:wr.cell? ⟨U,Z+i * 15+7,none⟩=some (.int .i64 v.s):=G 7 (by decide);have t8:wr.cell? ⟨U,Z+i * 15+8,none⟩=some (.int .i64 v.q):=G 8 (by decide);have t9:wr.cell? ⟨U,Z+i * 15+9,none⟩=some (.int .i64 v.h):=G 9 (by decide);have B9:wr.cell? ⟨U,Z+i * 15+10,none⟩=some (.int .i64 v.sq):=G 10 (by decide);have BA:wr.cell? ⟨U,Z+i * 15+11,none⟩=some (.int .i64 v.wk):=G 11 (by decide);have BB:wr.cell? ⟨U,Z+i * 15+12,none⟩=some (.int .i64 v.ep):=G 12 (by decide)
   have BC:Cl wr U (Z+i * 15+13) (.slice v.a v.l.length v.c):=G 13 (by decide);have BD:wr.cell? ⟨U,Z+i * 15+14,none⟩=some (.bool v.en):=G 14 (by decide);have BW:=Hy (Qak c ns wn sl C.o w O A p B r S (3+24 * (i:Int)) v wr F.js (by have:=Ak.2.1;have:=HN.o;omega) Ba);clear hv AI Ba G;go_wp2_with fail;refine BW.mono ?_;clear BW t0 t1 t2 t3 t4 t5 t6 t7 t8 t9 B9 BA BB BC BD;rintro e w6 ⟨O6,A6,B6,rfl,CL,C5,CJ⟩;have AL:=Hy (F.act CL C5 CJ);have AM:=Hy (AL.mono (b2:=3+24 * ((i+1:Nat):Int)) (by omega))
   clear CL C5 CJ F AL;go_wp2_with fail;go_roundw
   case rel=>first | exact ⟨i+1,O6,A6,B6,_,by omega,by go_num,AM.o⟩ | ((repeat apply Exists.intro);exact ⟨⟨i+1,O6,A6,B6,_,by omega,by go_num,AM.o⟩,rfl⟩)
   case measure=>first | (simp [intOf];done) | (simp [intOf];omega)
  obtain rfl:i=n:=by omega
  clear CP hi;have P:=Hy (by have:=Ak.2.1;have:=HN.o;omega:(3:Int)+24 * (i:Int)<=1443);obtain ⟨bb,CB⟩:∃ x:Int,3+24 * (i:Int)=x:=⟨_,rfl⟩;have Ah:=Hy (by omega:3<=bb);rw [CB] at F P;clear CB;have AH:=xaE O B r c S av ns bb wr F.js.jn.rw C.may C.short C.gw F.js.fit.ok C.ns F.js.fit.ti.wk (by have:=P.o;omega) (by rw [C.sl,<- F.js.fit.L]) (fun t ht=>(F.js.fit.it t ht).2);unfold RiE at AH;have ⟨D,B3⟩:=gn (S.rightV c av.i av.j av.x);rw [B3] at AH;have A2:=Hy AH
  have Cr:=Hy B3;clear AH B3;obtain ⟨t0,t1,t2,t3,t4,t5,t6,t7,t8,t9,B9,BA,BB,BC,BD⟩:=c15 (F.box (w.heap.size+1,67,[.int .i64 av.d,.int .i64 av.i,.int .i64 av.j,.int .i64 av.x,.string av.tx,.int .i64 av.k,.int .i64 av.n,.int .i64 av.s,.int .i64 av.q,.int .i64 av.h,.int .i64 av.sq,.int .i64 av.wk,.int .i64 av.ep,.slice av.a av.l.length av.c,.bool av.en]) (by simp)).1;go_wp2_with fail;clear t0 t1 t2 t3 t4 t5 t6 t7 t8 t9 B9 BA BB BC BD;rcases D with _ | D
  focus
   refine A2.mono ?_
   clear A2;rintro e H ⟨Ad,rfl⟩;have Az:=Hy (((F.bel0 Ad).bel0 ((bf H.heap.size H).alloc (nl _) (.cells #[(),(),(),(),(),(),.slice none 0 0,false] 65))).bel);clear Ad
  rotate_left
  focus
   refine A2.mono ?_
   clear A2;rintro e H ⟨Ad,a9,c9,rfl,B2,Ae⟩;have ⟨O2,Bk⟩:=gn (O.upd wr.heap.size 0);have Bv:=F.below Ad (AgO.upd wr.heap.size 0 O);rw [Bk] at Bv;have Bw:=Bv.alloc 65 [D.s,D.q,D.h,D.sq,D.wk,D.ep,.slice a9 D.l.length c9,.bool D.en];have ⟨W3,A9⟩:=gn (H.alloc (.cells #[D.s,D.q,D.h,D.sq,D.wk,D.ep,.slice a9 D.l.length c9,.bool D.en] 65));have ⟨O3,A5⟩:=gn (O2.upd H.heap.size 0);rw [show H.alloc (.cells ([D.s,D.q,D.h,D.sq,D.wk,D.ep,.slice a9 D.l.length c9,.bool D.en]:List Value).toArray 65)=W3 from A9,A5] at Bw
   have A1:=Hy Bw;have C8:Below H.heap.size H W3:=by rw [<- A9];exact (bf _ H).alloc (nl _) _
   have Cm:=Hy (B2.below C8 rfl)
   have Dd:=Hy (show ∀ b o sp,a9=some ⟨b,o,sp⟩->O3 b=0 from fun b o sp e=>by
    have h1:=Ae b o sp e;have h2:O2 b=0:=by rw [<- Bk,Own.upd_ge h1]
    by_cases hl:b < H.heap.size
    ·rw [<- A5,Own.upd_lt hl];exact h2
    ·rw [<- A5,Own.upd_ge (by omega)])
   have Cq:=Hy (Ya1 (by have:=C.sl;omega) Cr.o);have Dg:=Hy (Zao C.gw.2 Cr.o);have AQ:=Hy (by have h1:=(F.box (w.heap.size+1,67,[.int .i64 av.d,.int .i64 av.i,.int .i64 av.j,.int .i64 av.x,.string av.tx,.int .i64 av.k,.int .i64 av.n,.int .i64 av.s,.int .i64 av.q,.int .i64 av.h,.int .i64 av.sq,.int .i64 av.wk,.int .i64 av.ep,.slice av.a av.l.length av.c,.bool av.en]) (by simp)).1.lt;have h2:=Ad.size;omega:w.heap.size+1 < H.heap.size)
   have De:=Hy (show ∀ b o sp,a9=some ⟨b,o,sp⟩->D.l≠[]->b≠H.heap.size from fun b o sp e AF q=>by
    obtain ⟨x,xs,Y⟩:=List.exists_cons_of_ne_nil AF;obtain ⟨b',o',e',Ea,_⟩:=B2.2.2.2.2 0 x (by rw [Y];rfl);rw [e] at e';cases e';omega)
   have Cv:=Hy A9;clear Ad B2 Ae Bv Bw Bk A5 C8 A9 F;have ⟨e0,Dq⟩:=gn (IntKind.i64.wrap (D.ep+Aq));have By:=fun V=>Z0 e0 1000 V (by decide) (by decide);have ⟨N,AW⟩:=gn (lowI e0 1000);rw [AW] at By;have Cd:=Hy By;clear By AW;obtain ⟨u0,u1,u2,u3,u4,u5,u6,u7⟩:=c8 A1.hd;have fz:∀ o,W3.frozen? ⟨H.heap.size,o,none⟩=false:=fun o=>zk (o:=o) A1.hd;have ⟨W4,AA⟩:=gn (W3.setCell ⟨H.heap.size,5,none⟩ (.int .i64 N));have Bx:=A1.set (fun x Y=>by simp only [List.mem_cons,List.not_mem_nil,or_false] at Y;rcases Y with rfl | rfl;(show w.heap.size≠H.heap.size;have:=AQ.o;omega);(show w.heap.size+1≠H.heap.size;have:=AQ.o;omega)) 5 (.int .i64 N)
   rw [AA] at Bx;have Ab:=Hy (show LS w W4 O3 A p B r c S ns sl bb ((H.heap.size,65,[.int .i64 D.s,.int .i64 D.q,.int .i64 D.h,.int .i64 D.sq,.int .i64 D.wk,.int .i64 N,.slice a9 D.l.length c9,.bool D.en]) :: [(w.heap.size,25,[.slice c.aw c.nw c.cw,.slice c.ac c.nc c.cc,.int .i64 c.wk,.int .i64 c.cp,.int .i64 c.sl,.int .i64 c.ba,.int .i64 c.le,.int .i64 c.he,.int .i64 c.fi,.int .i64 c.ca,.int .i64 c.ji,.int .i64 c.ne]),(w.heap.size+1,67,[.int .i64 av.d,.int .i64 av.i,.int .i64 av.j,.int .i64 av.x,.string av.tx,.int .i64 av.k,.int .i64 av.n,.int .i64 av.s,.int .i64 av.q,.int .i64 av.h,.int .i64 av.sq,.int .i64 av.wk,.int .i64 av.ep,.slice av.a av.l.length av.c,.bool av.en])]) from Bx)
   have CH:Frm (fun k=>k=H.heap.size) W3 W4:=by rw [<- AA];exact (Frm.refl (fun k=>k=H.heap.size) W3).setCell ⟨H.heap.size,5,none⟩ _ (.inl rfl)
   have AO:=Hy (Cm.frmW CH (fun AF b o sp e q=>De.o b o sp e AF q));have Cw:=Hy AA;clear Bx CH AA;go_wp2_with (rw [Cv.o]);clear Cv;refine (Cd.o _).mono ?_;rintro e w' ⟨rfl,rfl⟩;clear Cd;have Bc:=Hy (Xbc D.wk W4.drew (Ab.bel0 (below_drewN (bf _ W4) 1)).js.jn.cw Ab.js.fit.ok.t);have ⟨pe,B1⟩:=gn (S.t.epoch D.wk);rw [B1] at Bc;have Df:=Hy B1;clear B1;let Cz:World->Prop:=fun w'=>Ci w' H.heap.size 5 N/\Ci w' H.heap.size 4 D.wk;have Dh:=Hy (show Cz W4.drew from ⟨Ab.hd.cell 5,Ab.hd.cell 4⟩)
   go_upto_region 80 with (rw [Cw.o]);clear Cw u0 u1 u2 u3 u4 u5 u6 u7 fz Dq;refine rg Cz fun Ar=>?_;(iterate 5 refine tq 0 ?_);refine rdy 5 fun K hK=>?_;go_simp;refine Bc.mono ?_;rintro e w' ⟨rfl,rfl⟩;clear Bc;go_wp2_with fail;refine hk hK fun Ar=>?_;clear hK K;refine tk 6 ?_;refine dn ?_;clear Ar Dh;have Bo:Below W4.heap.size W4 W4.drew:=below_drewN (bf _ W4) 1;have R:=Hy (Ab.bel0 Bo)
   have Am:=Hy (AO.below Bo rfl);clear Bo;have ⟨W5,C2⟩:=gn W4.drew;rw [C2] at R Am ⊢;clear C2 Ab AO A1 Cm
   by_cases Ax:N=pe
   focus
    have CY:(N == pe)=true:=by simpa using Ax
    clear Ax;have Az:=Hy R.bel
   rotate_left
   focus
    have CY:(N == pe)=false:=by simpa using Ax
    have Cn:=Hy (fun s q i sq l en=>qbd (S:=S) (ns:=ns) (wn:=wn) (s:=s) (q:=q) (i:=i) (sq:=sq) (wk:=D.wk) (ep:=N) (l:=l) (en:=en) (by rw [Df.o];exact fun e=>Ax e.symm));clear Ax;have W:=yaK W5 R.js.jn.cw (fun t ht=>(R.js.fit.it t ht).1) (by have:=R.js.fit.ok.tl;have:=P.o;omega);have Af:=Hy W;clear W;go_wp2_with fail;clear CY;refine Af.mono ?_;clear Af;rintro e w6 ⟨it,ao,Dl,rfl,CV,Bp⟩;have ⟨O6,A8⟩:=gn (O3.upd W5.heap.size 0);have I:=R.below Bp (AgO.upd W5.heap.size 0 O3);rw [A8] at I;have Ac:=Hy I
    have Bh:=Hy CV;have AP:=Hy (Am.below Bp rfl);have Bg:=Hy (show ∀ b,W5.heap.size<=b->O6 b=0 from fun b E=>by rw [<- A8];exact Own.upd_ge E);have AN:=Hy (show ∀ b o sp,a9=some ⟨b,o,sp⟩->O6 b=0 from fun b o sp e=>by by_cases hl:b < W5.heap.size;(rw [<- A8,Own.upd_lt hl];exact Dd.o b o sp e);exact Bg.o b (by omega));have T:=Hy (yS w6 I.js.jn.cw);obtain ⟨v0,v1,v2,v3,v4,v5,v6,v7⟩:=c8 I.hd;have AC:=I.js.c_;have J:=ZD O6 A p S D.s D.q D.h D.sq D.wk N D.l D.en a9 c9 bb wn w6 I.js.jn.cw AP.o (fun AF b o sp e=>by rw [AN.o b o sp e];decide) (fun x Y=>by have:=Dg.o x Y;unfold maxLen;omega) Cq.o (by rw [I.js.cps];exact I.js.fit.ok) (by have:=P.o;omega) (by rw [I.js.cps];omega) (by rw [AC.1];exact C.wk) (by omega) (by rw [AC.2.1];omega) (by rw [AC.2.1];omega)
    unfold ReE at J;rw [I.js.cps,Cn.o] at J;have Aj:=Hy J;clear J CV Bp A8 I AC R Am;have ⟨tl,B7⟩:=gn S.tm.length;rw [B7] at T;have Di:=Hy B7;clear B7;have ⟨ts,B8⟩:=gn S.told;have A3:=Hy B8;rw [B8] at Bh;clear B8;have Cu:=Hy (by rw [<- A3.o];have:=Ac.js.fit.ok.tl;have:=P.o;omega:ts.length<=100000);have ⟨m,hm⟩:=gn ts.length;have Ce:=Hy hm;rw [A3.o,hm];clear hm;go_wp2_with fail;refine T.mono ?_;rintro e w' ⟨rfl,rfl⟩;clear T;go_wp2_with fail;clear v0 v1 v2 v3 v4 v5 v6 v7
    refine Aj.mono ?_;clear Aj;rintro e w7 ⟨vp,O7,A7,rfl,CC,CQ,Ds,C6,Br⟩;have CM:=Ac.js.jn.cstep CC C6 Br;have Be:=Hy CM;have AK:=Hy (by rw [CQ];exact Ac.js.cps:A7.cps.length=ns);have Aa:=Hy Ac.js.fit;have Ai:=Hy Ac.js.c_;have AR:=Hy (Bh.frm Br (fun b E _ q=>by rw [Bg.o b E] at q;exact absurd q (by decide)));obtain ⟨po,pc,rfl,-,-⟩:=Ds;clear CC CQ C6 Br CM Ac Bh AP AN Bg;have W:=yaK w7 Be.cw (fun t ht=>(Aa.it t ht).1) (by rw [A3.o];exact Cu.o);unfold AlE at W;rw [A3.o] at W
    have Af:=Hy W;clear W;go_wp2_with fail;refine Af.mono ?_;clear Af;rintro e w8 ⟨Dw,Do,Dn,rfl,AZ,Bq⟩;have BY:=Hy (Be.bel0 Bq);have An:=Hy (zbc ts Dw it Do ao Dn Dl w8 AZ.rd (AR.below Bq).rd);clear AZ Bq AR Be;try rw [Ce.o] at An
    try rw [Ce.o]
    go_wp2_with fail;refine An.mono ?_;clear An;rintro e w9 ⟨rfl,C9⟩;have A0:=Hy (BY.bel0 C9);clear C9 BY;have T:=Hy (yS w9 A0.cw);rw [Di.o] at T;have J:=YU O7 A7 p S 3 bb sl w9 A0.cw (by rw [AK.o];exact Aa.ok) Ah.o (by have:=P.o;omega) (by rw [AK.o];omega) (by rw [Ai.2.1];omega) (by rw [Ai.2.1];omega) (by rw [Ai.2.2.1];exact C.sl) (by omega);unfold WkE at J;have AG:=fun (V:World) (OV:Own) (h:RW V OV B r c S)=>qaG OV B r c S ns sl bb 3 V h C.may C.short Aa.ok C.ns Aa.ti.wk Ah.o (by have:=P.o;omega) Aa.ti.len C.sl
    unfold RLkE at AG;have AD:=QaN Aa.ok 3 (by rw [Ai.2.1];omega) Ah.o (by omega) (by rw [Ai.2.2.1,C.sl];omega);obtain ⟨⟨S2,L⟩,Bl⟩:∃ x,S.wake 3=x:=⟨_,rfl⟩;rw [Bl] at J AD;simp only [Bl] at AG;simp only at J AD;have Aj:=Hy J;have Co:=Hy AG;have Al:=Hy AD;clear J AG AD Bl;go_wp2_with fail;refine T.mono ?_;rintro e w' ⟨rfl,rfl⟩;clear T;go_wp2_with fail;refine Aj.mono ?_;clear Aj;rintro e wA ⟨vA,OA,rfl,CD,CN,C7,CK⟩;have Bf:=Hy (A0.cstep CD C7 CK);have Cb:=Hy CN;clear CD CN C7 CK A0;go_wp2_with fail
    refine (Co.o wA OA Bf.rw).mono ?_;clear Co;rintro e wB ⟨vB,OB,rfl,CR,CO,Bm,Bs⟩;have BZ:=Hy (Bf.rstep CR Bm Bs);have Cc:=Hy (Cb.rstep Bs Bm);obtain ⟨Dp,Dy,rfl,AX,Du⟩:=Cc.o;obtain ⟨ro,rc,rfl,AY⟩:=CO.rde;have BT:=Hy (Xi ro rc L wB AY Al.1 (nr Al.2 (by decide)));have Cj:=Hy AX;clear CR CO Bm Bs Bf Cb Cc AX Du AY;go_wp2_with fail;refine BT.mono ?_;clear BT;rintro e wC ⟨bo,bc,rfl,AT,E⟩;have Ca:=Hy (BZ.bel0 E);have Ck:=Hy (Qa Cj.o E);have B5:=qc Dp bo Dy bc L L wC (Za (enc:=LV.cells) LV.len rfl Ck.o) (Za (enc:=LV.cells) LV.len rfl AT) Al.1 Al.1
    rw [(Xs Al.1).2 rfl] at B5;have Cs:=Hy B5;clear B5 AT E Cj Ck BZ;go_wp2_with fail;refine Cs.mono ?_;clear Cs;rintro e wD ⟨rfl,E⟩;have Az:=Hy (Ca.bel0 E).bel;clear E Ca
  all_goals
   go_wp2_with fail;refine (Yw _).mono ?_;rintro e BE ⟨rfl,E⟩;have Q:=Hy (Az.trans (E.mono Az.size));clear E;go_wp2_with fail;go_ret;exact ⟨rfl,Q.o⟩
end Go.Proofs.YtinkbgeckjbnbaaGreat
