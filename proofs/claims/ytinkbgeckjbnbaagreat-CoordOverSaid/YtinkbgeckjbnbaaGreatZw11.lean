/- Lemmas (part 11). -/
import Derived.Test.YtinkbgeckjbnbaaGreatZw10
namespace Go.Proofs.YtinkbgeckjbnbaaGreat
open Go.RowKit Go.Proofs.Tryz
set_option autoImplicit true
set_option relaxedAutoImplicit true
set_option linter.unusedVariables false
set_option linter.unusedSimpArgs false
set_option maxRecDepth 100000
set_option maxHeartbeats 32000000
theorem Za7 {y:QS} {id m s j:Nat} {h h':SH} {v:Value} (hs:y.sh[s]?=some h) (hj:j < 4) (hh:h'.cells=h.cells.set j v):(y.cells id m).set (6+s * 4+j) v=QS.cells {y with sh:=y.sh.set s h'} id m:=by
 unfold QS.cells;rw [List.set_append_right _ _ (by simp;omega)];congr 1;rw [show 6+s * 4+j - [Value.int .i64 (id:Nat),(y.slot:Nat),y.q,y.k,y.n,.pointer (some ⟨m,0,none⟩)].length=s * 4+j from by simp;omega];exact Qq SH.cells 4 (fun _=>rfl) y.sh s j v h h' hs hj hh
theorem Ym {y:QS} {id m s j:Nat} {h:SH} (hs:y.sh[s]?=some h) (hj:j < 4):(y.cells id m)[6+s * 4+j]?=h.cells[j]?:=by
 unfold QS.cells;rw [List.getElem?_append_right (by simp;omega),show 6+s * 4+j - [Value.int .i64 (id:Nat),(y.slot:Nat),y.q,y.k,y.n,.pointer (some ⟨m,0,none⟩)].length=s * 4+j from by simp;omega,yc SH.cells 4 (fun _=>rfl) _ _ _ hj,hs];rfl
theorem Ya9 (h:CW w O A p S) (id:Int):Calls prog 116 #[.pointer (some ⟨A.ti,0,none⟩),id] w fun e w'=>e=.returned (.tuple #[.int .i64 (atL id S.tm).1,.bool (atL id S.tm).2])/\Below w.heap.size w w':=by
 obtain ⟨B,h1,C,D⟩:=CWx.ti h (fun q=>q);exact qbc A.ti id w B 24 S.tm h1
theorem ya5 (h:CW w O A p S) (id C:Int):
  Calls prog 122 #[.pointer (some ⟨A.ti,0,none⟩),id,C] w fun e w'=>∃ O',e=.returned (.int .i64 (setL 24 S.tm id C).1)/\CW w' O' A p {S with tm:=(setL 24 S.tm id C).2}/\AgO w.heap.size O O'/\COut O w w':=by
 obtain ⟨J,h1,G,H⟩:=CWx.ti h (fun q=>q);refine (zbb A.ti id C w J 24 S.tm h1).mono ?_;rintro e w' ⟨E,rfl,K,L,M⟩;have I:OFrm O (ct 4) w w':=OFrm.of L (fun b F _=>by rcases F with rfl | F;exact G;exact H b F);have D:AgO w.heap.size O (O.upd w.heap.size (ct 4)):=AgO.upd _ _ _;refine ⟨O.upd w.heap.size (ct 4),rfl,CW.with_ti (CW.only h 4 I D) _ ⟨E,K,(D A.ti h1.lt.1).trans G,fun k B=>?_⟩,D,COut.of I⟩;rcases M with e | ⟨g,e,hge⟩
 ·rw [e] at B;exact (D k (h1.lt.2 k B)).trans (H k B)
 rw [e] at B;cases B;exact Own.upd_ge hge
theorem CW.with_sh {S:CS} (h:CW w O A p S) {id s j:Nat} {y y':SH} {v:Value} (hm:id∈S.L) (h0:id≠0) (hs:(S.Q id).sh[s]?=some y) (hj:j < 4) (hh:y'.cells=y.cells.set j v):
  CW (w.setCell ⟨A.q id,6+s * 4+j,none⟩ v) O A p (S.setH id s y')/\COut O w (w.setCell ⟨A.q id,6+s * 4+j,none⟩ v):=by
 have B:=CWx.qb h id hm h0 (fun q=>q);have D:Frm (fun b=>b=A.q id) w (w.setCell ⟨A.q id,6+s * 4+j,none⟩ v):=(Frm.refl _ w).setCell ⟨A.q id,6+s * 4+j,none⟩ v (.inl rfl);have C:OFrm O (ct (7+3 * id)) w (w.setCell ⟨A.q id,6+s * 4+j,none⟩ v):=OFrm.of D (fun b e _=>by subst e;exact B.2);refine ⟨CW.with_qb (CW.only h (7+3 * id) C (AgO.refl _ _)) _ ⟨?_,B.2⟩,COut.of C⟩;rw [<- Za7 hs hj hh];exact B.1.set _ _
theorem xh (S:CS) (id s:Nat) (y y':SH):(S.setH id s y).setH id s y'=S.setH id s y':=by
 unfold CS.setH CS.setQ;simp only [if_pos];congr 1;funext j;split
 ·rw [List.set_set]
 rfl
theorem Xe {S:CS} {id s:Nat} {y:SH} (y':SH) (hs:(S.Q id).sh[s]?=some y):((S.setH id s y').Q id).sh[s]?=some y':=by
 rw [Xm];exact List.getElem?_set_self (lg hs).1
theorem CW.with_sh4 {S:CS} (h:CW w O A p S) {id s:Nat} {y:SH} (hm:id∈S.L) (h0:id≠0) (hs:(S.Q id).sh[s]?=some y) (a b c:Int) (d:Bool):
  CW ((((w.setCell ⟨A.q id,6+s * 4,none⟩ (.int .i64 a)).setCell ⟨A.q id,6+s * 4+1,none⟩ (.int .i64 b)).setCell ⟨A.q id,6+s * 4+2,none⟩ (.int .i64 c)).setCell ⟨A.q id,6+s * 4+3,none⟩ (.bool d)) O A p (S.setH id s ⟨a,b,c,d⟩)/\COut O w ((((w.setCell ⟨A.q id,6+s * 4,none⟩ (.int .i64 a)).setCell ⟨A.q id,6+s * 4+1,none⟩ (.int .i64 b)).setCell ⟨A.q id,6+s * 4+2,none⟩ (.int .i64 c)).setCell ⟨A.q id,6+s * 4+3,none⟩ (.bool d)):=by
 obtain ⟨D,E⟩:=CW.with_sh (j:=0) (v:=.int .i64 a) (y':=⟨a,y.try_,y.first,y.hedged⟩) h hm h0 hs (by omega) rfl;obtain ⟨B,F⟩:=CW.with_sh (j:=1) (v:=.int .i64 b) (y':=⟨a,b,y.first,y.hedged⟩) D hm h0 (Xe _ hs) (by omega) rfl;rw [xh] at B;obtain ⟨c3,G⟩:=CW.with_sh (j:=2) (v:=.int .i64 c) (y':=⟨a,b,c,y.hedged⟩) B hm h0 (Xe _ hs) (by omega) rfl;rw [xh] at c3;obtain ⟨C,H⟩:=CW.with_sh (j:=3) (v:=.bool d) (y':=⟨a,b,c,d⟩) c3 hm h0 (Xe _ hs) (by omega) rfl;rw [xh] at C;exact ⟨C,COut.trans (COut.trans (COut.trans E F (AgO.refl _ _)) G (AgO.refl _ _)) H (AgO.refl _ _)⟩
theorem ZG (S:CS) (id s:Nat) (y:SH) (i j:Nat) (t:Int) (hi:i=id):(S.setH id s y).askL i j t=S.askL i j t:=by
 subst hi;unfold CS.askL;rw [Xm];rfl
theorem Qat {S:CS} {id s slot:Nat} {y:SH} (h:CW w O A p (S.setH id s y)) (t B C:Int) (E:(S.Q id).slot=slot) (hw:S.wait t B=C):
  Calls prog 122 #[.pointer (some ⟨A.ti,0,none⟩),.int .i64 (6 * (slot:Int)+(s:Int)),C] w fun e w'=>∃ D r,e=.returned (.int .i64 r)/\CW w' D A p ((S.setH id s y).tset id s t B)/\AgO w.heap.size O D/\COut O w w':=by
 refine (ya5 h (6 * (slot:Int)+(s:Int)) C).mono ?_;rintro e w' ⟨D,rfl,G,F,H⟩;refine ⟨D,_,rfl,?_,F,H⟩;unfold CS.tset;rw [show (S.setH id s y).tid id s=6 * (slot:Int)+(s:Int) from by unfold CS.tid;rw [Xm,<- E],show (S.setH id s y).wait t B=C from hw];exact G
theorem Yz {S:CS} {id s:Nat} {y:SH} {t draw:Int} (h:CW w O A p ((S.setH id s y).tset id s t draw)) (hm:id∈S.L) (h0:id≠0) (hs:s < (S.Q id).sh.length) (j:Nat) (hj:j < 4):w.cell? ⟨A.q id,6+s * 4+j,none⟩=y.cells[j]?:=by
 have q:=(CWx.qb h id hm h0 (fun q=>q)).1;rw [show ((S.setH id s y).tset id s t draw).Q id=(S.setH id s y).Q id from rfl,Xm] at q;exact (q.cell _).trans (Ym (y:={S.Q id with sh:=(S.Q id).sh.set s y}) (List.getElem?_set_self hs) hj)
def LkE (O:Own) (A:CA) (p:Nat) (LK:CS×List LV) (w:World) (e:Ending) (w':World):Prop:=∃ v O',e=.returned v/\CW w' O' A p LK.1/\LetAt O' w' w.heap.size v LK.2/\AgO w.heap.size O O'/\COut O w w'
theorem yak (O:Own) (A:CA) (p:Nat) (S:CS) (id s:Nat) (F:Int) (w:World) (h:CW w O A p S) (hm:id∈S.L) (h0:id≠0) (hs:s < A.cps.length) (Bo:A.cps.length<=6) (BO:(S.Q id).sh.length=6) (AT:1<=S.c.cp) (AU:S.c.cp<=3) (ho:S.t.ok) (Cf:0<=S.now) (Cg:S.now<=1000000000)
  (Bp:(S.Q id).slot<=4) (BP:0<=(S.shOf id s).turn) (BQ:(S.shOf id s).turn<=999999999) (BJ:0<=(S.shOf id s).first) (BK:(S.shOf id s).first<=1000000000):
  Calls prog 70 #[.pointer (some ⟨p,0,none⟩),.pointer (some ⟨A.q id,0,none⟩),(s:Nat),F] w (LkE O A p (S.look id s F) w):=by
 have ⟨y,hy⟩:=gn (S.shOf id s);have B5:(S.Q id).sh[s]?=some y:=by rw [<- hy];unfold CS.shOf;rw [List.getD_eq_getElem?_getD,List.getElem?_eq_getElem (by omega)];rfl
 rw [hy] at BP BQ BJ BK;have ⟨LK,G⟩:=gn (S.look id s F);rw [G];unfold CS.look at G;rw [hy] at G;have ⟨A1,AL⟩:=gn ((S.Q id).slot);rw [AL] at Bp;have A0:S.tid id s=6 * (A1:Int)+(s:Int):=by unfold CS.tid;rw [AL]
 obtain ⟨⟨BE,ok⟩,Bi⟩:∃ x,atL (S.tid id s) S.tm=x:=⟨_,rfl⟩;rw [Bi] at G;have ⟨O0,Bh⟩:=gn (O.upd w.heap.size 0);have I:=Hy (by rw [<- Bh];exact AgO.upd _ _ _:AgO w.heap.size O O0);have NX:=Hy (by rw [<- Bh,Own.upd_ge (Nat.le_refl _)];decide:¬ (O0 w.heap.size % 8=1));clear Bh;have AJ:=fun V hV=>Ya9 (w:=V) (O:=O0) (A:=A) (p:=p) (S:=S) hV (6 * (A1:Int)+(s:Int));rw [<- A0,Bi,A0] at AJ;have Bs:=Hy AJ;have ⟨W,hW⟩:=gn (w.alloc (.cells #[.pointer (some ⟨p,0,none⟩)] 29));have Bj:Below w.heap.size w W:=by rw [<- hW];exact (bf _ w).alloc (nl _) _
 have HB:=Hy Bj;have HX:=Hy (by rw [<- hW];exact hn_ w _:Blk W w.heap.size 29 [.pointer (some ⟨p,0,none⟩)]);have HC:=Hy (show CW W O0 A p S from h.below Bj I.o);have HM:=Hy hm;have HY:=Hy B5;have Cc:=Hy A0;have AS:=Hy AL;have As:=Hy BO;have q1:W.cell? ⟨A.q id,1,none⟩=some (.int .i64 (A1:Nat)):=by have q:=(CWx.qb HC.o id hm h0 (fun q=>q)).1.cell 1;rw [show ((S.Q id).cells id (A.m id))[1]?=some (.int .i64 ((S.Q id).slot:Nat)) from rfl,AL] at q;exact q
 have x0:Cp W w.heap.size 0 p:=HX.cell 0;have BT:W.cell? ⟨p,16,none⟩=some (.pointer (some ⟨A.ti,0,none⟩)):=HC.blk.cell 16;have A8:=Hy AT;have Az:=Hy AU;have k1:(s:Int) < 6:=by omega
 have k2:(0:Int)<=(s:Int):=by omega
 clear h hm hy B5 AL A0 Bi AJ Bj;go_in;go_wp2_with (rw [hW]);clear hW;refine (Xx (A1:Nat) (s:Nat) W (by omega) (by omega) (by omega) (by omega)).mono ?_;rintro e w' ⟨rfl,rfl⟩;go_wp2_with fail;clear q1 x0 BT;refine (Bs.o _ HC.o).mono ?_;clear Bs;rintro e U ⟨rfl,H⟩;have d:=Hy (HC.below H (AgO.refl _ _));have Au:=Hy (HX.below H HX.lt);have A2:=Hy (HB.trans (H.mono HB.size));clear H HC HX HB;have l:=Hy (CWx.qb d.o id HM.o h0 (fun q=>q)).1;have x0:U.cell? ⟨w.heap.size,0,none⟩=some (.pointer (some ⟨p,0,none⟩)):=Au.cell 0
 have Z:Ci U p 13 S.now:=d.blk.cell 13;cases ok
 case false=>
  rw [if_pos rfl] at G;obtain ⟨cp,AP⟩:∃ cp:Nat,S.c.cp=(cp:Int):=⟨S.c.cp.toNat,by omega⟩;rw [AP] at AT AU;have hI:=CWx.imm d.o (fun q=>q);obtain ⟨x,hx⟩:∃ x,A.cps[s]?=some x:=⟨A.cps[s],le_ _⟩;have Al:=hI.row.1;have i:=(hI.each s x hx).1;rw [AP,Int.toNat_natCast] at Al i;obtain ⟨cb,Bk,_⟩:=Qc Al (by omega);obtain ⟨rb,Bn,_⟩:=Qc i (by omega);rw [Bk] at Al;rw [Bn] at i;have ⟨ns,B3⟩:=gn A.cps.length;have BS:U.cell? ⟨p,12,none⟩=some (.slice (some ⟨cb,0,none⟩) ns A.cpc):=by have e:Cl U p 12 (.slice A.cpa A.cps.length A.cpc):=d.blk.cell 12;rw [B3,Bk] at e;exact e
  have BI:Cl U cb s (.slice (some ⟨rb,0,none⟩) cp x.2):=qp Al (by rw [List.getElem?_map,hx,<- Bn];rfl);have k3:(s:Int) < (ns:Int):=by omega
  have Bw:=Hy (xal s w.heap.size rb cp x.2 U d.o ho x0 (by rw [AP];rfl) (by omega) i);clear hI Al i hx Bk Bn B3 AP;have BL:=zV S s;have BB:=Hy BL;go_wp2_with fail;clear x0 Z BS BI;refine Bw.mono ?_;clear Bw;rintro e w2 ⟨rfl,H⟩;have AM:=Hy (d.below H (AgO.refl _ _));have A3:=Hy (Au.below H Au.lt);have AY:=Hy (A2.trans (H.mono A2.size));have u:=Hy (l.below H l.lt);clear H d Au A2 l;have ⟨fl,Bl⟩:=gn (S.firstL s);have Bv:=Hy Bl;rw [Bl];clear Bl;have ⟨mx,BN⟩:=gn (if fl < 0 then 0 else fl)
  have Bx:=Hy (by rw [<- BN];split <;> omega:max fl 0=mx);rw [Bv.o,Bx.o] at G;subst G;have x0:w2.cell? ⟨w.heap.size,0,none⟩=some (.pointer (some ⟨p,0,none⟩)):=A3.cell 0;have Z:w2.cell? ⟨p,13,none⟩=some (.int .i64 S.now):=AM.blk.cell 13;have fz:∀ o,w2.frozen? ⟨A.q id,o,none⟩=false:=fun o=>zk (o:=o) u.o;have c0:w2.cell? ⟨A.q id,6+s * 4,none⟩=some (.int .i64 y.turn):=(u.cell _).trans (Ym (j:=0) HY.o (by omega));have c1:w2.cell? ⟨A.q id,6+s * 4+1,none⟩=some (.int .i64 y.try_):=(u.cell _).trans (Ym (j:=1) HY.o (by omega));have c2:w2.cell? ⟨A.q id,6+s * 4+2,none⟩=some (.int .i64 y.first):=(u.cell _).trans (Ym (j:=2) HY.o (by omega))
  have c3:Cl w2 (A.q id) (6+s * 4+3) (.bool y.hedged):=(u.cell _).trans (Ym (j:=3) HY.o (by omega));obtain ⟨B0,B1⟩:=CW.with_sh4 AM.o HM.o h0 HY.o mx 0 S.now false;have r:=Hy B0;have k:=Hy (COut.trans (COut.below (O:=O) AY.o) B1 I.o);have ⟨Y,N⟩:=gn ((((w2.setCell ⟨A.q id,6+s * 4,none⟩ (.int .i64 mx)).setCell ⟨A.q id,6+s * 4+1,none⟩ (.int .i64 0)).setCell ⟨A.q id,6+s * 4+2,none⟩ (.int .i64 S.now)).setCell ⟨A.q id,6+s * 4+3,none⟩ (.bool false));have Am:Blk Y w.heap.size 29 [.pointer (some ⟨p,0,none⟩)]:=by rw [<- N];exact A3.frm (((((Frm.refl (fun b=>b=A.q id) w2).setCell _ _ (.inl rfl)).setCell _ _ (.inl rfl)).setCell _ _ (.inl rfl)).setCell _ _ (.inl rfl)) (fun e=>Qe A3.o u.o (by decide) e)
  have AD:=Hy Am;rw [N] at r k;clear B0 B1 Am;have BY:0<=mx/\mx<=3:=by have:=Bx.o;have:=BB.o;rw [Bv.o] at this;have:=Az.o;omega
  have B:=Hy (show CW Y.drew O0 A p (S.setH id s ⟨mx,0,S.now,false⟩) from (r.o).below (below_drewN (bf _ Y) 1) (AgO.refl _ _));have T:=Hy (show Blk Y.drew w.heap.size 29 [.pointer (some ⟨p,0,none⟩)] from AD.o);have A9:=Hy (show COut O w Y.drew from Frm.drew (k.o));have g:=(CWx.qb B.o id HM.o h0 (fun q=>q)).1;rw [Xm] at g;have Ah:=Hy g;clear g;have Ba:=Hy (show ((S.Q id).sh.set s (⟨mx,0,S.now,false⟩))[s]?=some (⟨mx,0,S.now,false⟩) from List.getElem?_set_self (by rw [As.o];omega));have R:=Hy (show Ci Y.drew (A.q id) (6+s * 4+1) (0) from (Ah.cell _).trans (Ym (y:={S.Q id with sh:=(S.Q id).sh.set s (⟨mx,0,S.now,false⟩)}) Ba.o (by omega)))
  have P:=qai S.c (0) F Y.drew;unfold CfgM.val at P;have Br:=zG S.c (0) F;have ⟨wt,Ax⟩:=gn (waitC S.c (0) F);have AB:=Hy (by unfold CS.wait;rw [Ax]:S.wait (0) F=min (S.now+wt) 1099511627776);rw [Ax] at P Br;have AC:=Hy P;clear Ax P;have Bg:IntKind.i64.wrap (S.now+wt)=S.now+wt:=zq _ (by omega) (by omega);have AH:(if 1099511627776 < S.now+wt then 1099511627776 else S.now+wt)=S.now+wt:=by rw [io]
  have AZ:=Hy (by rw [AB.o];omega:S.wait (0) F=S.now+wt);clear AB;go_upto_region 14 with (rw [N]);clear N x0 Z fz c0 c1 c2 c3;refine wp_region_held_drew (S:=(fun w'=>Cp w' w.heap.size 0 p/\Cp w' p 16 A.ti/\Ci w' p 13 S.now/\Ci w' (A.q id) (6+s * 4+1) (0)/\Cl w' p 0 (.slice S.c.aw S.c.nw S.c.cw)/\Cl w' p 1 (.slice S.c.ac S.c.nc S.c.cc)/\Ci w' p 2 S.c.wk/\Ci w' p 3 S.c.cp/\Ci w' p 4 S.c.sl/\Ci w' p 5 S.c.ba/\Ci w' p 6 S.c.le/\Ci w' p 7 S.c.he/\Ci w' p 8 S.c.fi/\Ci w' p 9 S.c.ca/\Ci w' p 10 S.c.ji/\Ci w' p 11 S.c.ne)) (by kernel_rfl) (by first | exact ⟨T.cell 0,B.blk.cell 16,B.blk.cell 13,R.o,B.blk.cell 0,B.blk.cell 1,B.blk.cell 2,B.blk.cell 3,B.blk.cell 4,B.blk.cell 5,B.blk.cell 6,B.blk.cell 7,B.blk.cell 8,B.blk.cell 9,B.blk.cell 10,B.blk.cell 11⟩ | exact ⟨f.cell 0,D.blk.cell 16,D.blk.cell 13,z.o,D.blk.cell 0,D.blk.cell 1,D.blk.cell 2,D.blk.cell 3,D.blk.cell 4,D.blk.cell 5,D.blk.cell 6,D.blk.cell 7,D.blk.cell 8,D.blk.cell 9,D.blk.cell 10,D.blk.cell 11⟩ | exact ⟨Ab.cell 0,C.blk.cell 16,C.blk.cell 13,At.o,C.blk.cell 0,C.blk.cell 1,C.blk.cell 2,C.blk.cell 3,C.blk.cell 4,C.blk.cell 5,C.blk.cell 6,C.blk.cell 7,C.blk.cell 8,C.blk.cell 9,C.blk.cell 10,C.blk.cell 11⟩) (fun E=>?_)
  (iterate 18 refine tq 0 ?_);refine rdy 18 fun K n=>?_;go_simp;refine AC.mono ?_;rintro e w6 ⟨rfl,H⟩;clear AC;have D:=Hy (B.below H (AgO.refl _ _));have f:=Hy (T.below H T.lt);have z:=Hy ((H.cell (p:=⟨A.q id,6+s * 4+1,none⟩) (cell?_lt R.o)).trans R.o);have Ap:=Hy (COut.trans A9.o (COut.below (O:=O0) H) I.o);clear H
  go_wp2_with fail;refine n.out _ _ (by first | exact ⟨T.cell 0,B.blk.cell 16,B.blk.cell 13,R.o,B.blk.cell 0,B.blk.cell 1,B.blk.cell 2,B.blk.cell 3,B.blk.cell 4,B.blk.cell 5,B.blk.cell 6,B.blk.cell 7,B.blk.cell 8,B.blk.cell 9,B.blk.cell 10,B.blk.cell 11⟩ | exact ⟨f.cell 0,D.blk.cell 16,D.blk.cell 13,z.o,D.blk.cell 0,D.blk.cell 1,D.blk.cell 2,D.blk.cell 3,D.blk.cell 4,D.blk.cell 5,D.blk.cell 6,D.blk.cell 7,D.blk.cell 8,D.blk.cell 9,D.blk.cell 10,D.blk.cell 11⟩ | exact ⟨Ab.cell 0,C.blk.cell 16,C.blk.cell 13,At.o,C.blk.cell 0,C.blk.cell 1,C.blk.cell 2,C.blk.cell 3,C.blk.cell 4,C.blk.cell 5,C.blk.cell 6,C.blk.cell 7,C.blk.cell 8,C.blk.cell 9,C.blk.cell 10,C.blk.cell 11⟩) (fun E=>?_)
  clear n K;refine tk 19 ?_;refine tk 20 ?_;refine rdy 21 fun K n=>?_;go_simp;refine (Qat (S:=S) (y:=⟨mx,0,S.now,false⟩) D.o (0) F (S.now+wt) AS.o AZ.o).mono ?_;rintro e w7 ⟨O7,r7,rfl,AK,AI,Aw⟩;have C:=Hy AK;have A6:=Hy (show AgO w.heap.size O O7 from fun b H=>(AI b (nt H Ap.size)).trans (I.o b H));have Aq:=Hy (COut.trans Ap.o Aw I.o);have Ab:=Hy (f.frm Aw NX.o);have At:=Hy (show Ci w7 (A.q id) (6+s * 4+1) (0) from Yz C.o HM.o h0 (by rw [As.o];omega) 1 (by omega));clear AK AI Aw
  go_wp2_with fail;refine n.out _ _ (by first | exact ⟨T.cell 0,B.blk.cell 16,B.blk.cell 13,R.o,B.blk.cell 0,B.blk.cell 1,B.blk.cell 2,B.blk.cell 3,B.blk.cell 4,B.blk.cell 5,B.blk.cell 6,B.blk.cell 7,B.blk.cell 8,B.blk.cell 9,B.blk.cell 10,B.blk.cell 11⟩ | exact ⟨f.cell 0,D.blk.cell 16,D.blk.cell 13,z.o,D.blk.cell 0,D.blk.cell 1,D.blk.cell 2,D.blk.cell 3,D.blk.cell 4,D.blk.cell 5,D.blk.cell 6,D.blk.cell 7,D.blk.cell 8,D.blk.cell 9,D.blk.cell 10,D.blk.cell 11⟩ | exact ⟨Ab.cell 0,C.blk.cell 16,C.blk.cell 13,At.o,C.blk.cell 0,C.blk.cell 1,C.blk.cell 2,C.blk.cell 3,C.blk.cell 4,C.blk.cell 5,C.blk.cell 6,C.blk.cell 7,C.blk.cell 8,C.blk.cell 9,C.blk.cell 10,C.blk.cell 11⟩) (fun E=>?_)
  clear n K;try go_frame
  refine dn ?_;clear E B D T f R z A9 Ap Ah AH Bg;have Aa:=Hy (show Ci w7.drew (A.q id) (6+s * 4) (mx) from Yz C.o HM.o h0 (by rw [As.o];omega) 0 (by omega));have A7:=Hy (show CW w7.drew O7 A p ((S.setH id s ⟨mx,0,S.now,false⟩).tset id s (0) F) from C.below (below_drewN (bf _ w7) 1) (AgO.refl _ _));have Ac:=Hy (show Blk w7.drew w.heap.size 29 [.pointer (some ⟨p,0,none⟩)] from Ab.o);have J:=zN O7 A p ((S.setH id s ⟨mx,0,S.now,false⟩).tset id s (0) F) id s (mx) w7.drew A7.o HM.o h0 hs Bo (by omega) (by omega) A8.o Az.o ho
  unfold AskE at J;rw [show ((S.setH id s ⟨mx,0,S.now,false⟩).tset id s (0) F).askL id s (mx)=S.askL id s (mx) from ZG S id s _ id s _ rfl] at J;have Af:=Hy J;clear J;go_upto_region 15 with fail;refine wp_region_held_drew (S:=(fun w'=>Cp w' w.heap.size 0 p/\Ci w' (A.q id) (6+s * 4) (mx))) (by kernel_rfl) (by first | exact ⟨Ac.cell 0,Aa.o⟩ | exact ⟨Aj.cell 0,Ai.o⟩) (fun E=>?_);(iterate 7 refine tq 0 ?_);refine rdy 7 fun K n=>?_;go_simp;refine Af.mono ?_;rintro e w9 ⟨v9,rfl,Ak,M⟩;clear Af;have Aj:=Hy (Ac.below M Ac.lt);have Ai:=Hy ((M.cell (p:=⟨A.q id,6+s * 4,none⟩) (cell?_lt Aa.o)).trans Aa.o);have AA:=Hy Ak;have Ag:=Hy M;clear Ak M;go_wp2_with fail;refine n.out _ _ (by first | exact ⟨Ac.cell 0,Aa.o⟩ | exact ⟨Aj.cell 0,Ai.o⟩) (fun E=>?_);clear n K;refine tk 8 ?_;refine dn ?_;go_wp2_with fail;go_ret;refine ⟨v9,O7.upd w7.heap.size 0,rfl,A7.below Ag.o (AgO.upd _ _ _),AA.base Aq.size,fun b H=>(AgO.upd w7.heap.size 0 O7 b (nt H Aq.size)).trans (A6.o b H),COut.trans (show COut O w w7.drew from Aq.drew) (COut.below (O:=O7) Ag.o) A6.o⟩
 rw [if_neg (by decide)] at G;have fz:∀ o,U.frozen? ⟨A.q id,o,none⟩=false:=fun o=>zk (o:=o) l.o;have c0:U.cell? ⟨A.q id,6+s * 4,none⟩=some (.int .i64 y.turn):=(l.cell _).trans (Ym (j:=0) HY.o (by omega));have c1:U.cell? ⟨A.q id,6+s * 4+1,none⟩=some (.int .i64 y.try_):=(l.cell _).trans (Ym (j:=1) HY.o (by omega));have c2:U.cell? ⟨A.q id,6+s * 4+2,none⟩=some (.int .i64 y.first):=(l.cell _).trans (Ym (j:=2) HY.o (by omega));have c3:U.cell? ⟨A.q id,6+s * 4+3,none⟩=some (.bool y.hedged):=(l.cell _).trans (Ym (j:=3) HY.o (by omega))
 by_cases B2:BE<=S.now
 ·rw [if_pos B2] at G
  have ⟨a,B4⟩:=gn (tryI y.try_);have Bq:=qa4 y.try_ U;rw [B4] at G Bq;have BD:=Hy Bq;clear B4 Bq;subst G;go_wp2_with fail;refine BD.mono ?_;rintro e w' ⟨rfl,rfl⟩;have By:IntKind.i64.wrap (y.turn+1)=y.turn+1:=zq _ (by omega) (by omega);obtain ⟨AG,f1⟩:=CW.with_sh (j:=1) (v:=.int .i64 a) (y':=⟨y.turn,a,y.first,y.hedged⟩) d.o HM.o h0 HY.o (by omega) rfl;obtain ⟨Bf,f2⟩:=CW.with_sh (j:=0) (v:=.int .i64 (y.turn+1)) (y':=⟨y.turn+1,a,y.first,y.hedged⟩) AG HM.o h0 (Xe _ HY.o) (by omega) rfl;rw [xh] at Bf;have r:=Hy Bf;have k:=Hy (COut.trans (COut.below (O:=O) A2.o) (COut.trans f1 f2 (AgO.refl _ _)) I.o)
  have ⟨Y,N⟩:=gn ((U.setCell ⟨A.q id,6+s * 4+1,none⟩ (.int .i64 a)).setCell ⟨A.q id,6+s * 4,none⟩ (.int .i64 (y.turn+1)));have Am:Blk Y w.heap.size 29 [.pointer (some ⟨p,0,none⟩)]:=by rw [<- N];exact Au.frm (((Frm.refl (fun b=>b=A.q id) U).setCell _ _ (.inl rfl)).setCell _ _ (.inl rfl)) (fun e=>Qe Au.o l.o (by decide) e)
  have AD:=Hy Am;rw [show ((U.setCell ⟨A.q id,6+s * 4+1,none⟩ (.int .i64 a)).setCell ⟨A.q id,6+s * 4+0,none⟩ (.int .i64 (y.turn+1)))=Y from N] at r k;clear AG Bf f1 f2 Am;have B:=Hy (show CW Y.drew O0 A p (S.setH id s ⟨y.turn+1,a,y.first,y.hedged⟩) from (r.o).below (below_drewN (bf _ Y) 1) (AgO.refl _ _));have T:=Hy (show Blk Y.drew w.heap.size 29 [.pointer (some ⟨p,0,none⟩)] from AD.o);have A9:=Hy (show COut O w Y.drew from Frm.drew (k.o));have g:=(CWx.qb B.o id HM.o h0 (fun q=>q)).1;rw [Xm] at g;have Ah:=Hy g
  clear g;have Ba:=Hy (show ((S.Q id).sh.set s (⟨y.turn+1,a,y.first,y.hedged⟩))[s]?=some (⟨y.turn+1,a,y.first,y.hedged⟩) from List.getElem?_set_self (by rw [As.o];omega));have R:=Hy (show Ci Y.drew (A.q id) (6+s * 4+1) (a) from (Ah.cell _).trans (Ym (y:={S.Q id with sh:=(S.Q id).sh.set s (⟨y.turn+1,a,y.first,y.hedged⟩)}) Ba.o (by omega)));have P:=qai S.c (a) F Y.drew;unfold CfgM.val at P;have Br:=zG S.c (a) F;have ⟨wt,Ax⟩:=gn (waitC S.c (a) F);have AB:=Hy (by unfold CS.wait;rw [Ax]:S.wait (a) F=min (S.now+wt) 1099511627776)
  rw [Ax] at P Br;have AC:=Hy P;clear Ax P;have Bg:IntKind.i64.wrap (S.now+wt)=S.now+wt:=zq _ (by omega) (by omega);have AH:(if 1099511627776 < S.now+wt then 1099511627776 else S.now+wt)=S.now+wt:=by rw [io]
  have AZ:=Hy (by rw [AB.o];omega:S.wait (a) F=S.now+wt);clear AB;go_upto_region 14 with (rw [N]);clear N x0 Z fz c0 c1 c2 c3 By;refine wp_region_held_drew (S:=(fun w'=>Cp w' w.heap.size 0 p/\Cp w' p 16 A.ti/\Ci w' p 13 S.now/\Ci w' (A.q id) (6+s * 4+1) (a)/\Cl w' p 0 (.slice S.c.aw S.c.nw S.c.cw)/\Cl w' p 1 (.slice S.c.ac S.c.nc S.c.cc)/\Ci w' p 2 S.c.wk/\Ci w' p 3 S.c.cp/\Ci w' p 4 S.c.sl/\Ci w' p 5 S.c.ba/\Ci w' p 6 S.c.le/\Ci w' p 7 S.c.he/\Ci w' p 8 S.c.fi/\Ci w' p 9 S.c.ca/\Ci w' p 10 S.c.ji/\Ci w' p 11 S.c.ne)) (by kernel_rfl) (by first | exact ⟨T.cell 0,B.blk.cell 16,B.blk.cell 13,R.o,B.blk.cell 0,B.blk.cell 1,B.blk.cell 2,B.blk.cell 3,B.blk.cell 4,B.blk.cell 5,B.blk.cell 6,B.blk.cell 7,B.blk.cell 8,B.blk.cell 9,B.blk.cell 10,B.blk.cell 11⟩ | exact ⟨f.cell 0,D.blk.cell 16,D.blk.cell 13,z.o,D.blk.cell 0,D.blk.cell 1,D.blk.cell 2,D.blk.cell 3,D.blk.cell 4,D.blk.cell 5,D.blk.cell 6,D.blk.cell 7,D.blk.cell 8,D.blk.cell 9,D.blk.cell 10,D.blk.cell 11⟩ | exact ⟨Ab.cell 0,C.blk.cell 16,C.blk.cell 13,At.o,C.blk.cell 0,C.blk.cell 1,C.blk.cell 2,C.blk.cell 3,C.blk.cell 4,C.blk.cell 5,C.blk.cell 6,C.blk.cell 7,C.blk.cell 8,C.blk.cell 9,C.blk.cell 10,C.blk.cell 11⟩) (fun E=>?_)
  (iterate 18 refine tq 0 ?_);refine rdy 18 fun K n=>?_;go_simp;refine AC.mono ?_;rintro e w6 ⟨rfl,H⟩;clear AC;have D:=Hy (B.below H (AgO.refl _ _));have f:=Hy (T.below H T.lt);have z:=Hy ((H.cell (p:=⟨A.q id,6+s * 4+1,none⟩) (cell?_lt R.o)).trans R.o);have Ap:=Hy (COut.trans A9.o (COut.below (O:=O0) H) I.o);clear H
  go_wp2_with fail;refine n.out _ _ (by first | exact ⟨T.cell 0,B.blk.cell 16,B.blk.cell 13,R.o,B.blk.cell 0,B.blk.cell 1,B.blk.cell 2,B.blk.cell 3,B.blk.cell 4,B.blk.cell 5,B.blk.cell 6,B.blk.cell 7,B.blk.cell 8,B.blk.cell 9,B.blk.cell 10,B.blk.cell 11⟩ | exact ⟨f.cell 0,D.blk.cell 16,D.blk.cell 13,z.o,D.blk.cell 0,D.blk.cell 1,D.blk.cell 2,D.blk.cell 3,D.blk.cell 4,D.blk.cell 5,D.blk.cell 6,D.blk.cell 7,D.blk.cell 8,D.blk.cell 9,D.blk.cell 10,D.blk.cell 11⟩ | exact ⟨Ab.cell 0,C.blk.cell 16,C.blk.cell 13,At.o,C.blk.cell 0,C.blk.cell 1,C.blk.cell 2,C.blk.cell 3,C.blk.cell 4,C.blk.cell 5,C.blk.cell 6,C.blk.cell 7,C.blk.cell 8,C.blk.cell 9,C.blk.cell 10,C.blk.cell 11⟩) (fun E=>?_)
  clear n K;refine tk 19 ?_;refine tk 20 ?_;refine rdy 21 fun K n=>?_;go_simp;refine (Qat (S:=S) (y:=⟨y.turn+1,a,y.first,y.hedged⟩) D.o (a) F (S.now+wt) AS.o AZ.o).mono ?_;rintro e w7 ⟨O7,r7,rfl,AK,AI,Aw⟩;have C:=Hy AK;have A6:=Hy (show AgO w.heap.size O O7 from fun b H=>(AI b (nt H Ap.size)).trans (I.o b H));have Aq:=Hy (COut.trans Ap.o Aw I.o);have Ab:=Hy (f.frm Aw NX.o);have At:=Hy (show Ci w7 (A.q id) (6+s * 4+1) (a) from Yz C.o HM.o h0 (by rw [As.o];omega) 1 (by omega));clear AK AI Aw
  go_wp2_with fail;refine n.out _ _ (by first | exact ⟨T.cell 0,B.blk.cell 16,B.blk.cell 13,R.o,B.blk.cell 0,B.blk.cell 1,B.blk.cell 2,B.blk.cell 3,B.blk.cell 4,B.blk.cell 5,B.blk.cell 6,B.blk.cell 7,B.blk.cell 8,B.blk.cell 9,B.blk.cell 10,B.blk.cell 11⟩ | exact ⟨f.cell 0,D.blk.cell 16,D.blk.cell 13,z.o,D.blk.cell 0,D.blk.cell 1,D.blk.cell 2,D.blk.cell 3,D.blk.cell 4,D.blk.cell 5,D.blk.cell 6,D.blk.cell 7,D.blk.cell 8,D.blk.cell 9,D.blk.cell 10,D.blk.cell 11⟩ | exact ⟨Ab.cell 0,C.blk.cell 16,C.blk.cell 13,At.o,C.blk.cell 0,C.blk.cell 1,C.blk.cell 2,C.blk.cell 3,C.blk.cell 4,C.blk.cell 5,C.blk.cell 6,C.blk.cell 7,C.blk.cell 8,C.blk.cell 9,C.blk.cell 10,C.blk.cell 11⟩) (fun E=>?_)
  clear n K;try go_frame
  refine dn ?_;clear E B D T f R z A9 Ap Ah AH Bg;have Aa:=Hy (show Ci w7.drew (A.q id) (6+s * 4) (y.turn+1) from Yz C.o HM.o h0 (by rw [As.o];omega) 0 (by omega));have A7:=Hy (show CW w7.drew O7 A p ((S.setH id s ⟨y.turn+1,a,y.first,y.hedged⟩).tset id s (a) F) from C.below (below_drewN (bf _ w7) 1) (AgO.refl _ _));have Ac:=Hy (show Blk w7.drew w.heap.size 29 [.pointer (some ⟨p,0,none⟩)] from Ab.o);have J:=zN O7 A p ((S.setH id s ⟨y.turn+1,a,y.first,y.hedged⟩).tset id s (a) F) id s (y.turn+1) w7.drew A7.o HM.o h0 hs Bo (by omega) (by omega) A8.o Az.o ho
  unfold AskE at J;rw [show ((S.setH id s ⟨y.turn+1,a,y.first,y.hedged⟩).tset id s (a) F).askL id s (y.turn+1)=S.askL id s (y.turn+1) from ZG S id s _ id s _ rfl] at J;have Af:=Hy J;clear J;go_upto_region 15 with fail;refine wp_region_held_drew (S:=(fun w'=>Cp w' w.heap.size 0 p/\Ci w' (A.q id) (6+s * 4) (y.turn+1))) (by kernel_rfl) (by first | exact ⟨Ac.cell 0,Aa.o⟩ | exact ⟨Aj.cell 0,Ai.o⟩) (fun E=>?_);(iterate 7 refine tq 0 ?_);refine rdy 7 fun K n=>?_;go_simp;refine Af.mono ?_;rintro e w9 ⟨v9,rfl,Ak,M⟩;clear Af;have Aj:=Hy (Ac.below M Ac.lt);have Ai:=Hy ((M.cell (p:=⟨A.q id,6+s * 4,none⟩) (cell?_lt Aa.o)).trans Aa.o);have AA:=Hy Ak;have Ag:=Hy M;clear Ak M;go_wp2_with fail;refine n.out _ _ (by first | exact ⟨Ac.cell 0,Aa.o⟩ | exact ⟨Aj.cell 0,Ai.o⟩) (fun E=>?_);clear n K;refine tk 8 ?_;refine dn ?_;go_wp2_with fail;go_ret;refine ⟨v9,O7.upd w7.heap.size 0,rfl,A7.below Ag.o (AgO.upd _ _ _),AA.base Aq.size,fun b H=>(AgO.upd w7.heap.size 0 O7 b (nt H Aq.size)).trans (A6.o b H),COut.trans (show COut O w w7.drew from Aq.drew) (COut.below (O:=O7) Ag.o) A6.o⟩
 rw [if_neg B2] at G;have ⟨hg,BM⟩:=gn y.hedged;rw [BM] at G c3;have t7:U.cell? ⟨p,7,none⟩=some (.int .i64 S.c.he):=d.blk.cell 7;have Cd:IntKind.i64.wrap (S.now - y.first)=S.now - y.first:=zq _ (by omega) (by omega);have AE:=Hy (show LkE O A p (S,[]) w (.returned (.slice none 0 0)) U.drew from ⟨_,O0,rfl,d.below (below_drewN (bf _ U) 1) (AgO.refl _ _),LetAt.nil _ _ _,I.o,COut.trans (COut.below (O:=O) A2.o) (COut.below (O:=O0) (below_drewN (bf _ U) 1)) I.o⟩)
 by_cases hq:S.c.he<=S.now - y.first
 ·cases hg with
  | true=>
   rw [if_neg (by simp)] at G;subst G;have X0:=Hy x0;have Av:=Hy Z;have T7:=Hy t7;have C2:=Hy c2;have C3:=Hy c3;go_upto_region 11 with fail;clear x0 Z t7 c0 c1 c2 c3;refine wp_region_held_drew (S:=(fun w'=>Cp w' w.heap.size 0 p/\Ci w' p 13 S.now/\Ci w' p 7 S.c.he/\Ci w' (A.q id) (6+s * 4+2) y.first/\Cl w' (A.q id) (6+s * 4+3) (.bool true))) (by kernel_rfl) (by exact ⟨X0.o,Av.o,T7.o,C2.o,C3.o⟩) (fun E=>?_);refine tk 0 ?_
   (iterate 22 first | refine tq 1 ?_ | refine tr 1 ?_);refine dn ?_;go_wp2_with fail;go_ret;exact AE.o
  | false=>
   rw [if_pos ⟨rfl,hq⟩] at G;subst G;have X0:=Hy x0;have Av:=Hy Z;have T7:=Hy t7;have C2:=Hy c2;have C3:=Hy c3;go_upto_region 11 with fail;clear x0 Z t7 c0 c1 c2 c3;refine wp_region_held_drew (S:=(fun w'=>Cp w' w.heap.size 0 p/\Ci w' p 13 S.now/\Ci w' p 7 S.c.he/\Ci w' (A.q id) (6+s * 4+2) y.first/\Cl w' (A.q id) (6+s * 4+3) (.bool false))) (by kernel_rfl) (by exact ⟨X0.o,Av.o,T7.o,C2.o,C3.o⟩) (fun E=>?_);refine tk 0 ?_
   (iterate 22 refine tq 1 ?_);refine dn ?_;have AM:=Hy (show CW U.drew O0 A p S from d.below (below_drewN (bf _ U) 1) (AgO.refl _ _));have AY:=Hy (A2.drew);have A3:=Hy (show Blk U.drew w.heap.size 29 [.pointer (some ⟨p,0,none⟩)] from Au.o)
   have u:=Hy (show Blk U.drew (A.q id) 141 ((S.Q id).cells id (A.m id)) from l.o);have BG:∀ o,U.drew.frozen? ⟨A.q id,o,none⟩=false:=fun o=>zk (o:=o) u.o;have c3:U.drew.cell? ⟨A.q id,6+s * 4+3,none⟩=some (.bool false):=C3.o;obtain ⟨AG,f1⟩:=CW.with_sh (j:=3) (v:=.bool true) (y':=⟨y.turn,y.try_,y.first,true⟩) AM.o HM.o h0 HY.o (by omega) rfl;have r:=Hy AG;have k:=Hy (COut.trans (COut.below (O:=O) AY.o) f1 I.o);have ⟨Y,N⟩:=gn (U.drew.setCell ⟨A.q id,6+s * 4+3,none⟩ (.bool true));have Am:Blk Y w.heap.size 29 [.pointer (some ⟨p,0,none⟩)]:=by rw [<- N];exact A3.frm ((Frm.refl (fun b=>b=A.q id) U.drew).setCell _ _ (.inl rfl)) (fun e=>Qe A3.o u.o (by decide) e)
   rw [N] at r k;have AD:=Hy Am;clear AG f1 Am E;have Bm:=(CWx.qb r.o id HM.o h0 (fun q=>q)).1;rw [Xm] at Bm;have BC:=Hy (show Ci Y (A.q id) (6+s * 4) y.turn from (Bm.cell _).trans (Ym (y:={S.Q id with sh:=(S.Q id).sh.set s ⟨y.turn,y.try_,y.first,true⟩}) (h:=⟨y.turn,y.try_,y.first,true⟩) (j:=0) (List.getElem?_set_self (by rw [As.o];omega:s < (S.Q id).sh.length)) (by omega)));clear Bm;have By:IntKind.i64.wrap (y.turn+1)=y.turn+1:=zq _ (by omega) (by omega);have Bu:=Hy (show CW Y.drew O0 A p (S.setH id s ⟨y.turn,y.try_,y.first,true⟩) from r.below (below_drewN (bf _ Y) 1) (AgO.refl _ _))
   have AO:=Hy (show Blk Y.drew w.heap.size 29 [.pointer (some ⟨p,0,none⟩)] from AD.o);have AN:=Hy (show Ci Y.drew (A.q id) (6+s * 4) y.turn from BC.o);have J:=zN O0 A p (S.setH id s ⟨y.turn,y.try_,y.first,true⟩) id s (y.turn+1) Y.drew Bu.o HM.o h0 hs Bo (by omega) (by omega) A8.o Az.o ho;unfold AskE at J;rw [show (S.setH id s ⟨y.turn,y.try_,y.first,true⟩).askL id s (y.turn+1)=S.askL id s (y.turn+1) from ZG S id s _ id s _ rfl] at J;have Af:=Hy J;clear J;go_upto_region 13 with (rw [N]);clear N c3 BG;refine wp_region_held_drew (S:=(fun w'=>Cp w' w.heap.size 0 p/\Ci w' (A.q id) (6+s * 4) y.turn)) (by kernel_rfl) (by first | exact ⟨AO.cell 0,AN.o⟩ | exact ⟨Aj.cell 0,Ai.o⟩) (fun E=>?_)
   (iterate 8 refine tq 0 ?_);refine rdy 8 fun K n=>?_;go_simp;refine Af.mono ?_;rintro e w9 ⟨v9,rfl,Ak,M⟩;clear Af;have Aj:=Hy (AO.below M AO.lt);have Ai:=Hy ((M.cell (p:=⟨A.q id,6+s * 4,none⟩) (cell?_lt AN.o)).trans AN.o);have AA:=Hy Ak;have Ag:=Hy M;clear Ak M;go_wp2_with fail;refine n.out _ _ (by first | exact ⟨AO.cell 0,AN.o⟩ | exact ⟨Aj.cell 0,Ai.o⟩) (fun E=>?_);clear n K;refine tk 9 ?_
   refine dn ?_;go_wp2_with fail;go_ret;refine ⟨v9,O0.upd Y.heap.size 0,rfl,Bu.below Ag.o (AgO.upd _ _ _),AA.base k.size,fun b H=>(AgO.upd Y.heap.size 0 O0 b (nt H k.size)).trans (I.o b H),COut.trans (show COut O w Y.drew from k.drew) (COut.below (O:=O0) Ag.o) I.o⟩
 rw [if_neg (fun q=>hq q.2)] at G
 cases hg with
 | true=>
  subst G;have X0:=Hy x0;have Av:=Hy Z;have T7:=Hy t7;have C2:=Hy c2;have C3:=Hy c3;go_upto_region 11 with fail;clear x0 Z t7 c0 c1 c2 c3;refine wp_region_held_drew (S:=(fun w'=>Cp w' w.heap.size 0 p/\Ci w' p 13 S.now/\Ci w' p 7 S.c.he/\Ci w' (A.q id) (6+s * 4+2) y.first/\Cl w' (A.q id) (6+s * 4+3) (.bool true))) (by kernel_rfl) (by exact ⟨X0.o,Av.o,T7.o,C2.o,C3.o⟩) (fun E=>?_);(iterate 3 refine tq 0 ?_)
  (iterate 20 first | refine tq 3 ?_ | refine tr 3 ?_);refine dn ?_;go_wp2_with fail;go_ret;exact AE.o
 | false=>
  subst G;have X0:=Hy x0;have Av:=Hy Z;have T7:=Hy t7;have C2:=Hy c2;have C3:=Hy c3;go_upto_region 11 with fail;clear x0 Z t7 c0 c1 c2 c3;refine wp_region_held_drew (S:=(fun w'=>Cp w' w.heap.size 0 p/\Ci w' p 13 S.now/\Ci w' p 7 S.c.he/\Ci w' (A.q id) (6+s * 4+2) y.first/\Cl w' (A.q id) (6+s * 4+3) (.bool false))) (by kernel_rfl) (by exact ⟨X0.o,Av.o,T7.o,C2.o,C3.o⟩) (fun E=>?_);(iterate 3 refine tq 0 ?_)
  (iterate 20 refine tq 3 ?_);refine dn ?_;go_wp2_with fail;go_ret;exact AE.o
section
theorem letOne (l:LV):∀ u∈LV.cells l,u.oneCell'=true:=by
 intro u A;unfold LV.cells at A;simp only [List.mem_cons,List.not_mem_nil,or_false] at A;rcases A with rfl | rfl
 ·rfl
 cases l.2 <;> rfl
structure WkS (O:Own) (w:World) (A:CA) (p:Nat) (wr:World) (Ok:Own) (S:CS) (ao:Option Addr) (m c:Nat) (L:List LV):Prop where
 cw:CW wr Ok A p S
 len:L.length=m
 row:wr.ownsRow w.heap.size 51 2 (.slice ao m c) m (L.flatMap LV.cells)
 tag:∀ k,(Value.slice ao m c).ownBlock=some k->Ok k=0
 ag:AgO w.heap.size O Ok
 out:COut O w wr
section
variable {O Ok O2:Own} {w wr w2:World} {A:CA} {p:Nat} {S S2:CS} {ao:Option Addr} {m c:Nat} {L:List LV}
theorem WkS.step (h:WkS O w A p wr Ok S ao m c L) (hc:CW w2 O2 A p S2) (ha:AgO wr.heap.size Ok O2) (hf:COut Ok wr w2):WkS O w A p w2 O2 S2 ao m c L:=
 ⟨hc,h.len,za h.row hf (fun k B e=>by rw [h.tag k B] at e;exact absurd e (by decide)),zv h.row ha h.tag,fun b C=>(ha b (nt C h.out.size)).trans (h.ag b C),COut.trans h.out hf h.ag⟩
theorem WkS.below (h:WkS O w A p wr Ok S ao m c L) (hb:Below wr.heap.size wr w2) (ha:AgO wr.heap.size Ok O2):WkS O w A p w2 O2 S ao m c L:=h.step (h.cw.below hb ha) ha (COut.below hb)
theorem WkS.app (h:WkS O w A p wr Ok S ao m c L) {l:List LV} {ao':Option Addr} {k c':Nat} (G:l.length=k) (C:wr.grownBy w2 (Value.ownBlock (.slice ao m c))) (hr:w2.ownsRow w.heap.size 51 2 (.slice ao' (m+k) c') (m+k) (L.flatMap LV.cells++l.flatMap LV.cells))
  (F:Value.ownBlock (.slice ao' (m+k) c')=Value.ownBlock (.slice ao m c)∨Value.ownBlock (.slice ao' (m+k) c')=some wr.heap.size):WkS O w A p w2 (Ok.upd wr.heap.size 0) S ao' (m+k) c' (L++l):=by
 have I:Frm (fun b=>Ok b=0) wr w2:=Frm.grown C (fun g C=>h.tag g C);have E:AgO wr.heap.size Ok (Ok.upd wr.heap.size 0):=AgO.upd _ _ _;refine ⟨h.cw.apart I E (fun b _ e=>by rw [e];decide),by rw [List.length_append,h.len,G],by rw [List.flatMap_append];exact hr,fun q D=>?_,fun b H=>(E b (nt H h.out.size)).trans (h.ag b H),?_⟩
 ·rcases F with e | e
  ·rw [e] at D;exact (E q (qg h.row q D)).trans (h.tag q D)
  rw [e] at D;cases D;exact Own.upd_ge (nl _)
 have B:=h.out
 refine ⟨C.os.trans B.os,C.tape.trans B.tape,C.output.trans B.output,nr B.size C.size,fun i hi J=>?_⟩;refine (C.block i (nt hi B.size) (fun e=>?_)).trans (B.block i hi J);exact absurd (Xa h.row i e.symm) (by omega)
theorem WkS.let_ (h:WkS O w A p wr Ok S ao m c L):LetAt Ok wr w.heap.size (.slice ao m c) L:=by
 have e:=h.len;subst e;exact ⟨ao,c,rfl,h.row,h.tag⟩
end
def WkE (O:Own) (A:CA) (p:Nat) (R:CS×List LV) (w:World) (e:Ending) (w':World):Prop:=∃ v O',e=.returned v/\CW w' O' A p R.1/\LetAt O' w' w.heap.size v R.2/\AgO w.heap.size O O'/\COut O w w'
def WkR (O:Own) (A:CA) (p:Nat) (S:CS) (draw:Int) (sl:Nat) (w:World) (v5 v19:Value) (wr:World):Prop:=∃ (k m c:Nat) (ao:Option Addr) (Ok:Own),k<=sl/\v19=.int .i64 k/\v5=.slice ao m c/\Hid (WkS O w A p wr Ok (S.wakeN draw k).1 ao m c (S.wakeN draw k).2)
def WiR (O:Own) (A:CA) (p:Nat) (S1:CS) (L1:List LV) (id:Nat) (draw:Int) (ws:List Int) (ai:Option Addr) (n ci:Nat) (w:World) (v5 v45:Value) (wr:World):Prop:=∃ (j m c:Nat) (ao:Option Addr) (Ok:Own),j<=n/\v45=.int .i64 j/\v5=.slice ao m c/\Hid (WkS O w A p wr Ok (S1.lookN id draw (ws.take j)).1 ao m c (L1++(S1.lookN id draw (ws.take j)).2))/\Hid (Row Ok 2 wr 3 1 (.slice ai n ci) n (ws.map (Value.int .i64)))
theorem Qar {α:Type} {l:List α} {j:Nat} {x:α} (h:l[j]?=some x):l.take (j+1)=l.take j++[x]:=by
 rw [List.take_add_one,h];rfl
theorem YU (O:Own) (A:CA) (p:Nat) (S:CS) (B b:Int) (sl:Nat) (w:World) (h:CW w O A p S) (AK:S.OK A.cps.length b) (Bk:3<=b) (hb:b<=900000000) (Bq:A.cps.length<=6) (Ah:1<=S.c.cp) (Ai:S.c.cp<=3) (z:S.c.sl=(sl:Int)) (B3:sl<=4):
  Calls prog 20 #[.pointer (some ⟨p,0,none⟩),B] w (WkE O A p (S.wake B) w):=by
 obtain ⟨i0,hi,AR,AS,AT⟩:=info_parts zx;have HI:=Hy hi;have Bd:=Hy AR;have Be:=Hy AS;have Bf:=Hy AT;clear hi AR AS AT;have HW:=Hy h;have Ba:=Hy AK;have Ay:=Hy Ah;have d:=Hy Ai;have Bc:=Hy z;have A4:=Hy Bq;have t4:w.cell? ⟨p,4,none⟩=some (.int .i64 (sl:Nat)):=by have q:Ci w p 4 S.c.sl:=h.blk.cell 4;rw [z] at q;exact q
 have BI:=fun V=>yn p 0 V;clear h AK Ah Ai z;go_in;go_wp2_with fail;clear t4;go_loopw [5,19] (WkR O A p S B sl w) (fun _ v _=>sl - (intOf v).toNat)
 case atStart=>exact ⟨0,0,0,none,O,nz _,rfl,rfl,⟨HW.o,rfl,World.ownsRow_nil _ _ _ _,fun k As=>by simp [Value.ownBlock] at As,AgO.refl _ _,Frm.refl _ _⟩⟩
 case round=>
  clear HW;obtain ⟨k,m,c,ao,Ok,As,rfl,rfl,I⟩:=hrel
  by_cases Bn:k < sl
  ·have e1:(k:Int) < (sl:Int):=by omega
   have Ac:=qy Ba.o B d.o Bk A4.o k;have Z:=yG S B k;have i:=Hy Z;have M:=Zi S B k;obtain ⟨⟨D,L1⟩,AF⟩:∃ x,S.wakeN B k=x:=⟨_,rfl⟩;rw [AF] at Ac M i I;simp only at Ac i I;have f:=Hy Ac;have AA:=Hy M;have Al:=CWx.sl I.cw (fun q=>q);have AQ:Yk (k:Int):=zo (by omega) (by omega);have W:=Hy (xba A.sl A.sf A.sa D.L D.told.length (k:Int) wr Al.1 AQ);have Bt:wr.cell? ⟨p,15,none⟩=some (.pointer (some ⟨A.sl,0,none⟩)):=I.cw.blk.cell 15;have Bu:wr.cell? ⟨p,17,none⟩=some (.map (some A.qm)):=I.cw.blk.cell 17
   clear Ac Z M Al AQ AF
   by_cases C:D.L.getD k 0=0
   ·have K:atF D.L (k:Int)=none:=by unfold atF;rw [ip,Int.toNat_natCast];rw [List.getD_eq_getElem?_getD] at C;cases e:D.L[k]? with | none=>rfl | some x=>rw [e] at C;simp only [Option.getD_some] at C;simp [C]
    rw [K] at W;clear K;go_wp2_with fail;refine W.mono ?_;clear W;rintro e w' ⟨rfl,rfl⟩;go_wp2_with fail;go_roundw
    case rel=>exact ⟨k+1,m,c,ao,Ok,by omega,by go_num,rfl,(by unfold Hid;rw [AA.o];unfold CS.wakeA;rw [if_pos C];exact I.o)⟩
    case measure=>simp [intOf];omega
   have hg:=Xk C
   have ⟨id,Ar⟩:=gn (D.L.getD k 0);rw [Ar] at hg C;have K:atF D.L (k:Int)=some (id:Int):=by unfold atF;rw [ip,Int.toNat_natCast,hg];show (if id=0 then none else _)=_;rw [if_neg C]
   rw [K] at W;have hm:=lm hg;have HM:=Hy hm;have AY:=Hy Ar;have HQ:=Hy (f.1.q id hm C);have Bm:=f.1.sl.le id hm;have Bs:=f.1.tl;have Aj:Yk (id:Int):=zo (by omega) (by omega);have Z:=MapF.look (CWx.qm I.cw (fun q=>q)).1 codP underlying114 none (qzero wr) Aj;have AL:qF A.q D.L (id:Int)=some (A.q id):=by unfold qF;rw [if_pos ⟨by omega,by rw [Int.toNat_natCast];exact hm⟩,Int.toNat_natCast]
   rw [AL] at Z;have E:(Instr.lookup 114 (.map (some A.qm)) (.int .i64 (id:Int)) false).run prog wr=.ok (.pointer (some ⟨A.q id,0,none⟩)) wr:=Z;have q5:wr.cell? ⟨A.q id,5,none⟩=some (.pointer (some ⟨A.m id,0,none⟩)):=(CWx.qb I.cw id hm C (fun q=>q)).1.cell 5;have Af:=zaI 0 (A.m id) _ _ _ wr (CWx.mg I.cw id hm C (fun q=>q)).mg;have ⟨a,Ae⟩:=gn (D.wl id);rw [show wantsP (D.Q id).n (D.Q id).S (D.Q id).T=a from Ae] at Af;have Aw:=yas D id;rw [Ae,HQ.len] at Aw;have ⟨n,hn⟩:=gn a.length;rw [hn] at Af Aw;have AC:=Hy Af
   have AB:=Hy Ae;have HN:=Hy hn;have BG:n<=6:=by omega
   clear hg Ar K hm Bm Bs Aj Z AL Af Ae Aw hn;go_wp2_with fail;refine W.mono ?_;clear W;rintro e w' ⟨rfl,rfl⟩;go_wp2_with fail;clear Bt Bu E q5;refine AC.mono ?_;clear AC;rintro e w1 ⟨ai,ci,rfl,H,AH⟩;have A8:=Hy (I.below AH (AgO.upd wr.heap.size 2 Ok));have Y:=Hy (show Row (Ok.upd wr.heap.size 2) 2 w1 3 1 (.slice ai n ci) n (a.map (Value.int .i64)) from ⟨zi H (nz _),fun q hq=>Own.upd_ge (Xa H q hq)⟩);clear I H AH;go_wp2_with fail;go_loopw [5,45] (WiR O A p D L1 id B a ai n ci w) (fun _ v _=>n - (intOf v).toNat)
   case atStart=>exact ⟨0,m,c,ao,Ok.upd wr.heap.size 2,nz _,rfl,rfl,(by unfold Hid;rw [List.take_zero,show D.lookN id B []=(D,[]) from rfl,List.append_nil];exact A8.o),Y.o⟩
   case round=>
    clear A8 Y;obtain ⟨j,m2,c2,AE,O2,hj,rfl,rfl,J,Y⟩:=hrel
    by_cases Ak:j < n
    ·have e2:(j:Int) < (n:Int):=by omega
     obtain ⟨si,y⟩:∃ s,a[j]?=some s:=⟨a[j]'(by rw [HN.o];exact Ak),le_ _⟩;obtain ⟨s,hs,AN⟩:=xas (S:=D) (id:=id) (by rw [AB.o];exact lm y);rw [HQ.len] at AN;subst hs;obtain ⟨bi,AI,_⟩:=Qc Y.1 (by omega);have P:=Hy Y.o;rw [AI] at P;have cj:wr.cell? ⟨bi,j,none⟩=some (.int .i64 (s:Nat)):=qp P.1 (by rw [List.getElem?_map,y];rfl);have B7:=Hy y;have U:=ZO f.1 HM.o C B (by rw [i.c];exact d.o) (by omega) (a.take j);have E:=Zx D id B (a.take j)
     have l:=QH D id B (a.take j);have Ad:=Xf D id B (a.take j) (s:Int);rw [<- Qar y] at Ad;have N:=Hy J.len;obtain ⟨⟨S2,L2⟩,AG⟩:∃ x,D.lookN id B (a.take j)=x:=⟨_,rfl⟩;rw [AG] at U E l Ad J N;simp only at U E l J N;have G:=Hy U;have F:=Hy E;have A9:=Hy Ad;have Av:=G.q id (by rw [F.L];exact HM.o) C;have u:=Y6 G.o (by rw [F.L];exact HM.o) C (by omega) s;have r:=G.now;have AO:=Av.slot4 G.sl;have Br:(a.take j).length<=6:=by rw [List.length_take];omega
     have Ag:=Hy (show L1.length+L2.length=m2/\L1.length<=24/\L2.length<=6 from ⟨by have:=N.o;rw [List.length_append] at this;exact this,by have:=f.2;omega,by omega⟩);have Ap:=yak O2 A p S2 id s B wr J.cw (by rw [F.L];exact HM.o) C AN A4.o Av.sh6 (by rw [F.c,i.c];exact Ay.o) (by rw [F.c,i.c];exact d.o) G.t r.1 (by omega) (by omega) u.1.1 (by omega) u.2.1 (by omega);have R:=YO S2 id s B;obtain ⟨⟨S3,L3⟩,An⟩:∃ x,S2.look id s B=x:=⟨_,rfl⟩;rw [An] at Ap R;simp only at R;have Az:=Hy Ap
     have AZ:=Hy (by rw [A9.o];unfold CS.lookA;simp only [Int.toNat_natCast];rw [An]:D.lookN id B (a.take (j+1))=(S3,L2++L3));have Am:=Hy R;subst AI;clear y U E l Ad AG Av u r AO Br Ap R An A9 N;go_wp2_with fail;clear cj;refine Az.mono ?_;clear Az;rintro e w3 ⟨v3,O3,rfl,AJ,Bl,Ao,Aq⟩;obtain ⟨a3,c3,rfl,AM,AP⟩:=Bl;have Aa:=Hy (J.step AJ Ao Aq);have A6:=Hy (P.frm Aq (fun b _ ho e=>by rw [ho] at e;exact absurd e (by decide)) Ao);have A5:=Hy AM;have ⟨m3,Au⟩:=gn L3.length
     rw [Au] at A5 Am ⊢;have A0:=Hy Au;clear AJ Ao Aq AM AP J Y P Au;have A1:m2+m3<=maxLen:=by unfold maxLen;have:=Ag.o;have:=Am.o;omega
     have A2:(m2+m3) * 24<=140737488355328:=by have:=Ag.o;have:=Am.o;omega
     have A3:w.heap.size<=w3.heap.size:=Aa.o.out.size;go_wp2_with (refine QK rfl (.tmp 49) (.tmp 54) 33 33 rfl w.heap.size 51 i0 (.agg #[(),.nilIface]) 2 24 underlying33 HI.o Bd.o Be.o Bf.o rfl (by decide) AE m2 c2 ((L1++L2).flatMap LV.cells) (by kernel_rfl) Aa.row (.slice a3 m3 c3) m3 (L3.flatMap LV.cells) (by kernel_rfl) (Src.ofRdE (enc:=LV.cells) (size:=2) underlying33 (fun _=>rfl) letOne (Za (enc:=LV.cells) (fun _=>rfl) A0.o A5.o)) A1 A2 A3 ?_;intro a4 c4 w4 H hg K);have Bb:=Hy (Aa.app A0.o hg H K);have A7:=Hy (A6.frm (Frm.grown hg (S:=fun b=>O3 b=0) (fun g hg=>Aa.tag g hg)) (fun b _ ho e=>by rw [ho] at e;exact absurd e (by decide)) (AgO.upd w3.heap.size 0 O3))
     go_roundw
     case rel=>exact ⟨j+1,m2+m3,c4,a4,O3.upd w3.heap.size 0,by omega,by go_num,rfl,(by unfold Hid;rw [AZ.o];have q:=Bb.o;rw [List.append_assoc] at q;exact q),A7.o⟩
     case measure=>simp [intOf];omega
    obtain rfl:j=n:=by omega
    clear Ak hj;go_wp2_with fail;go_roundw
    case rel=>exact ⟨k+1,m2,c2,AE,O2,by omega,by go_num,rfl,(by unfold Hid;rw [AA.o];unfold CS.wakeA;simp only [AY.o];rw [if_neg C,AB.o];have q:=J.o;rw [List.take_of_length_le (by rw [HN.o];exact Nat.le_refl _)] at q;exact q)⟩
    case measure=>simp [intOf];omega
  obtain rfl:k=sl:=by omega
  clear Bn As;go_wp2_with fail;go_ret;have z:=Bc.o;have hR:S.wake B=S.wakeN B k:=by unfold CS.wake;rw [z,Int.toNat_natCast]
  refine ⟨.slice ao m c,Ok,rfl,?_,?_,I.ag,I.o.out⟩ <;> rw [hR]
  ·exact I.cw
  exact I.let_
end
def farK (k:Int) (x:KeyL):Bool:=decide (k < x.1)
theorem xG (p:KeyL->Bool) (l:List KeyL) (k:Nat) (x:KeyL) (h:l[k]?=some x):(l.take (k+1)).any p=((l.take k).any p||p x):=by
 rw [List.take_add_one,h,List.any_append];simp
theorem yaV (p:KeyL->Bool) (l:List KeyL) (k:Nat) (x:KeyL) (h:l[k]?=some x) (hp:p x=true):l.any p=true:=List.any_eq_true.2 ⟨x,List.mem_iff_getElem?.2 ⟨k,h⟩,hp⟩
theorem QaK (pb pq:Nat) (k:Int) (x:KeyL) (w:World) (hb:Cp w pb 0 pq) (A:Ci w pq 3 k):
  Calls prog 108 #[.agg #[x.1,x.2],.pointer (some ⟨pb,0,none⟩)] w fun e w'=>e=.returned (.bool (farK k x))/\Below w.heap.size w w':=by
 have HB:=Hy ((bf _ w).alloc (nl _) (.cells #[x.1,x.2] 46));have C:=(HB.cell (p:=⟨pb,0,none⟩) (cell?_lt hb)).trans hb;have D:=(HB.cell (p:=⟨pq,3,none⟩) (cell?_lt A)).trans A;have H:=(show Blk (w.alloc (.cells #[x.1,x.2] 46)) w.heap.size 46 [x.1,x.2] from hn_ w _);have G:=H.cell 0;have ⟨W,F⟩:=gn (w.alloc (.cells #[x.1,x.2] 46));rw [F] at C D G HB;have B:W.cell? ⟨w.heap.size,0,none⟩=some (.int .i64 x.1):=G;have I:=Hy (And.intro C (And.intro D B));clear hb A H C D G B
 go_in;go_upto_region 1 with (rw [F]);clear F;refine rg (fun w'=>Cp w' pb 0 pq/\Ci w' pq 3 k/\Ci w' w.heap.size 0 x.1) fun E=>?_;(iterate 9 refine tq 0 ?_);refine dn ?_;go_wp2_with fail;go_ret;exact ⟨rfl,HB.drew⟩
theorem XaM (a:Option Addr) (n cap:Nat) (l:List KeyL) (pb pq:Nat) (q:Int) (w:World) (hr:RdE KeyL.cells 2 w a n cap l) (hw:Cp w pb 0 pq) (E:Ci w pq 3 q):
  Calls prog 162 #[.slice a n cap,.func (Fn.func 108) #[] #[.pointer (some ⟨pb,0,none⟩)]] w fun e w'=>∃ r:Int,e=.returned (.int .i64 r)/\IxOK r (l.any (farK q))/\Below w.heap.size w w':=by
 have Y:=hr.1;have L:=hr.2.2.1;have P:=hr.2.1;unfold maxLen at L;subst Y;have R:=Hy hr;have Q:=Hy (fun (s:KeyL) (W:World) (C:Below w.heap.size w W)=>QaK pb pq q s W ((C.cell (p:=⟨pb,0,none⟩) (cell?_lt hw)).trans hw) ((C.cell (p:=⟨pq,3,none⟩) (cell?_lt E)).trans E));clear hr hw E;generalize farK q=h at *;go_in;go_wp2_with fail;go_loopw [8] (fun v wr=>∃ k:Nat,v=.int .i64 k/\k<=l.length/\Hid ((l.take k).any h=false)/\Hid (Below w.heap.size w wr)) (fun v _=>l.length - (intOf v).toNat)
 case atStart=>exact ⟨0,rfl,by omega,by simp [Hid],bf _ _⟩
 case round=>
  obtain ⟨k,rfl,V,N,HB⟩:=hrel
  by_cases M:k < l.length
  ·obtain ⟨x,F⟩:∃ x,l[k]?=some x:=⟨l[k],le_ M⟩
   obtain ⟨b2,A,rfl,D,K⟩:=(R.below HB.o rfl).2.2.2.2 k x F;have T:wr.cell? ⟨b2,A+k * 2,none⟩=some (.int .i64 x.1):=K 0 (by decide);have U:wr.cell? ⟨b2,A+k * 2+1,none⟩=some (.string x.2):=K 1 (by decide);have Z:=Hy F;have I:=Hy (xG h l k x F);have H:=Hy (yaV h l k x F);clear F K D;go_wp2_with fail;refine (Q.o x wr HB.o).mono ?_;rintro e b ⟨rfl,C⟩;have B:=Hy (HB.trans (C.mono HB.size));clear C T U;cases G:h x
   ·have J:=Hy G
    clear G;go_wp2_with fail;go_roundw
    case rel=>exact ⟨k+1,by go_num,by omega,(by unfold Hid;rw [I.o,N.o,J.o];rfl),B.o⟩
    case measure=>simp [intOf];omega
   have J:=Hy G
   clear G;go_wp2_with fail;go_ret;exact ⟨k,rfl,⟨fun _=>by omega,fun h=>by rw [H.o J.o] at h;exact absurd h (by decide)⟩,B.o⟩
  obtain rfl:k=l.length:=by omega
  have E:=Hy (by have:=N.o;rwa [List.take_length] at this:l.any h=false);go_wp2_with fail;go_ret;exact ⟨-1,rfl,⟨fun h=>by rw [E.out] at h;exact absurd h (by decide),fun _=>by omega⟩,HB.o⟩
theorem xaL (a:Option Addr) (n cap:Nat) (l:List KeyL) (pb pq:Nat) (q:Int) (w:World) (hr:RdE KeyL.cells 2 w a n cap l) (hw:Cp w pb 0 pq) (hq:Ci w pq 3 q):
  Calls prog 107 #[.slice a n cap,.func (Fn.func 108) #[] #[.pointer (some ⟨pb,0,none⟩)]] w fun e w'=>e=.returned (.bool (l.any (farK q)))/\Below w.heap.size w w':=by
 have B:=Hy (XaM a n cap l pb pq q w hr hw hq);clear hr hw hq;have ⟨R,C⟩:=gn (l.any (farK q));rw [C] at B ⊢;clear C;go_in;go_wp2_with fail;refine B.mono ?_;rintro e w' ⟨r,rfl,hd,D⟩;have HB:=Hy D;clear D;cases R
 ·have A:r < 0:=hd.2 rfl
  have E:decide (0<=r)=false:=by simpa using A
  go_wp2_with fail;go_ret;exact ⟨by congr 2,HB.o⟩
 have A:0<=r:=hd.1 rfl
 have E:decide (0<=r)=true:=by simpa using A
 go_wp2_with fail;go_ret;exact ⟨by congr 2,HB.o⟩
def CS.repOK (S:CS) (ns:Nat) (s q h sq wk ep:Int) (l:List KeyL):Bool:=replyB s q h sq wk ep l&&decide (atF S.L s=some q)&&decide (h < ns)&&Go.Proofs.YtinkbgeckjbnbaaGreat.has (copN S.c h.toNat) wk
def CS.seenS (S:CS) (wk ep:Int):CS:={S with t:=(S.t.seen wk ep S.now).1}
def CS.put1 (S:CS) (id:Nat) (h:Int) (S':List PS):CS:={S.setQ id {S.Q id with S:=S',T:=(S.Q id).T} with tm:=Go.Proofs.YtinkbgeckjbnbaaGreat.cancelL (6 * ((S.Q id).slot:Int)+h) S.tm}
def CS.rep (S:CS) (ns wn:Nat) (s q h sq wk ep:Int) (l:List KeyL) (en:Bool):CS×List LV:=
 if S.repOK ns s q h sq wk ep l=false then (S,[])
 else if l.any (farK (S.Q q.toNat).k)=true then (S,[])
 else if (S.t.seen wk ep S.now).2=false then (S,[])
 else if (putP (S.Q q.toNat).n (S.Q q.toNat).S (S.Q q.toNat).T h sq l en).1=false then (S.seenS wk ep,[])
 else (((S.seenS wk ep).put1 q.toNat h (putP (S.Q q.toNat).n (S.Q q.toNat).S (S.Q q.toNat).T h sq l en).2).goes q.toNat ns,((S.seenS wk ep).put1 q.toNat h (putP (S.Q q.toNat).n (S.Q q.toNat).S (S.Q q.toNat).T h sq l en).2).goesL q.toNat wn)
theorem Z6 {t:Tab} {v e n:Int} (h:(t.seen v e n).2=false):(t.seen v e n).1=t:=by
 unfold Tab.seen at h ⊢;split
 ·rename_i A;rw [if_pos A] at h;simp at h
 rfl
theorem X9 {L:List Nat} {k x:Int} (h:atF L k=some x):∃ (j id:Nat),k=(j:Int)/\x=(id:Int)/\id≠0/\L[j]?=some id:=by
 unfold atF at h;split at h
 ·rename_i A
  split at h
  ·rename_i y B
   split at h
   ·cases h
   rename_i h0;cases h;exact ⟨k.toNat,y,by omega,rfl,h0,B⟩
  cases h
 cases h
def ReE (O:Own) (A:CA) (p:Nat) (R:CS×List LV) (w:World) (e:Ending) (w':World):Prop:=∃ v O' A',e=.returned v/\CW w' O' A' p R.1/\A'.cps=A.cps/\LetAt O' w' w.heap.size v R.2/\AgO w.heap.size O O'/\COut O w w'
theorem ReE.none {S:CS} {w:World} (hc:CW w' O' A p S) (ha:AgO w.heap.size O O') (hf:COut O w w'):ReE O A p (S,[]) w (.returned (.slice none 0 0)) w':=⟨_,O',A,rfl,hc,rfl,LetAt.nil _ _ _,ha,hf⟩
theorem yaW (h:CW w O A p S) (ho:S.t.ok) (v ep:Int):
  Calls prog 109 #[.pointer (some ⟨A.le,0,none⟩),v,ep,S.now] w fun e w'=>e=.returned (.bool (S.t.seen v ep S.now).2)/\CW w' O A p (S.seenS v ep)/\COut O w w':=by
 refine (qaT w A.le S.t v ep S.now (CWx.le h (fun q=>q)).1 ho).mono ?_;rintro e w' ⟨rfl,B,D⟩;have C:OFrm O (ct 2) w w':=OFrm.of (S:=fun b=>b=A.le) (Frm.grown D (fun g e=>(Option.some.inj e).symm)) (fun b e _=>by subst e;exact (CWx.le h (fun q=>q)).2);exact ⟨rfl,CW.with_le (CW.only h 2 C (AgO.refl _ _)) _ ⟨B,(CWx.le h (fun q=>q)).2⟩,COut.of C⟩
theorem ZaK {id:Nat} (h:CW w O A p S) (hm:id∈S.L) (h0:id≠0) (i seq:Int) (l:List KeyL) (e r:Bool) (S':List PS) (a:Option Addr) (m cap:Nat) (hr:RdE KeyL.cells 2 w a m cap l) (hs:∀ s∈(S.Q id).S,0<=s.seq/\s.seq<=1000000) (he:putP (S.Q id).n (S.Q id).S (S.Q id).T i seq l e=(r,S')):
  Calls prog 110 #[.pointer (some ⟨A.m id,0,none⟩),i,seq,.slice a m cap,.bool e] w fun C w'=>∃ O',C=.returned (.bool r)/\CW w' O' A p (S.setQ id {S.Q id with S:=S',T:=(S.Q id).T})/\AgO w.heap.size O O'/\COut O w w':=by
 refine (qaY (CWx.mg h id hm h0 (fun q=>q)) hr hs he).mono ?_;rintro C w' ⟨rfl,B,D⟩;exact ⟨_,rfl,CW.with_mg (CW.only h (8+3 * id) D (AgO.upd _ _ _)) _ _ B,AgO.upd _ _ _,COut.of D⟩
theorem QF (S:CS) (id:Nat) (y:QS):(S.setQ id y).Q id=y:=by show (if id=id then _ else _)=_;rw [if_pos rfl]
theorem Q3 {n:Int} {S S':List PS} {T l:List KeyL} {i seq:Int} {e:Bool} (h:putP n S T i seq l e=(false,S')):S'=S:=by
 unfold putP at h;split at h
 ·cases h;rfl
 cases h
theorem yI (S:CS) (id:Nat):S.setQ id {S.Q id with S:=(S.Q id).S,T:=(S.Q id).T}=S:=by
 unfold CS.setQ;have:(fun j=>if j=id then S.Q id else S.Q j)=S.Q:=by funext j;split <;> simp_all
 show {S with Q:=(fun j=>if j=id then S.Q id else S.Q j)}=S;rw [this]
end Go.Proofs.YtinkbgeckjbnbaaGreat
