/- Lemmas (part 18). -/
import Derived.Test.YtinkbgeckjbnbaaGreatZw17
namespace Go.Proofs.YtinkbgeckjbnbaaGreat
open Go.RowKit Go.Proofs.Tryz
set_option autoImplicit true
set_option relaxedAutoImplicit true
set_option linter.unusedVariables false
set_option linter.unusedSimpArgs false
set_option maxRecDepth 100000
set_option maxHeartbeats 32000000
section
section
variable {w:World} {O:Own} {B:RA} {r:Nat} {c:CfgM} {S:CS}
theorem za1 {y:QS} {m s j:Nat} {h h':SH} {v:Value} (hs:y.sh[s]?=some h) (hj:j < 4) (hh:h'.cells=h.cells.set j v):(y.rcells m).set (1+s * 4+j) v=QS.rcells {y with sh:=y.sh.set s h'} m:=by
 unfold QS.rcells;rw [List.set_append_right _ _ (by simp;omega)];congr 1;rw [show 1+s * 4+j - [Value.pointer (some ⟨m,0,none⟩)].length=s * 4+j from by simp;omega];exact Qq SH.cells 4 (fun _=>rfl) y.sh s j v h h' hs hj hh
theorem RW.with_sh (h:RW w O B r c S) {id s j:Nat} {y y':SH} {v:Value} (hm:id∈S.L) (h0:id≠0) (hs:(S.Q id).sh[s]?=some y) (hj:j < 4) (hh:y'.cells=y.cells.set j v):
  RW (w.setCell ⟨B.q id,1+s * 4+j,none⟩ v) O B r c (S.setH id s y')/\ROut O w (w.setCell ⟨B.q id,1+s * 4+j,none⟩ v):=by
 have A:=RWx.qb h id hm h0 (fun q=>q);have D:Frm (fun b=>b=B.q id) w (w.setCell ⟨B.q id,1+s * 4+j,none⟩ v):=(Frm.refl _ w).setCell ⟨B.q id,1+s * 4+j,none⟩ v (.inl rfl);have C:OFrm O (rt (6+2 * id)) w (w.setCell ⟨B.q id,1+s * 4+j,none⟩ v):=OFrm.of D (fun b e _=>by subst e;exact A.2);refine ⟨RW.with_qb (RW.only h (6+2 * id) C (AgO.refl _ _)) _ ⟨?_,A.2⟩,ROut.of C⟩;rw [<- za1 hs hj hh];exact A.1.set _ _
theorem RW.with_sh4 (h:RW w O B r c S) {id s:Nat} {y:SH} (hm:id∈S.L) (h0:id≠0) (hs:(S.Q id).sh[s]?=some y) (a b d:Int) (e:Bool):
  RW ((((w.setCell ⟨B.q id,1+s * 4,none⟩ (.int .i64 a)).setCell ⟨B.q id,1+s * 4+1,none⟩ (.int .i64 b)).setCell ⟨B.q id,1+s * 4+2,none⟩ (.int .i64 d)).setCell ⟨B.q id,1+s * 4+3,none⟩ (.bool e)) O B r c (S.setH id s ⟨a,b,d,e⟩)/\ROut O w ((((w.setCell ⟨B.q id,1+s * 4,none⟩ (.int .i64 a)).setCell ⟨B.q id,1+s * 4+1,none⟩ (.int .i64 b)).setCell ⟨B.q id,1+s * 4+2,none⟩ (.int .i64 d)).setCell ⟨B.q id,1+s * 4+3,none⟩ (.bool e)):=by
 obtain ⟨D,E⟩:=RW.with_sh (j:=0) (v:=.int .i64 a) (y':=⟨a,y.try_,y.first,y.hedged⟩) h hm h0 hs (by omega) rfl;obtain ⟨A,F⟩:=RW.with_sh (j:=1) (v:=.int .i64 b) (y':=⟨a,b,y.first,y.hedged⟩) D hm h0 (Xe _ hs) (by omega) rfl;rw [xh] at A;obtain ⟨c3,G⟩:=RW.with_sh (j:=2) (v:=.int .i64 d) (y':=⟨a,b,d,y.hedged⟩) A hm h0 (Xe _ hs) (by omega) rfl;rw [xh] at c3;obtain ⟨C,H⟩:=RW.with_sh (j:=3) (v:=.bool e) (y':=⟨a,b,d,e⟩) c3 hm h0 (Xe _ hs) (by omega) rfl;rw [xh] at C;exact ⟨C,ROut.trans (ROut.trans (ROut.trans E F (AgO.refl _ _)) G (AgO.refl _ _)) H (AgO.refl _ _)⟩
theorem Z3 (j id s ns:Nat) (b turn:Int) (hl:Lk S S1) (h:RW w O B r c S1) (hm:mayC c=true) (hz:c.short) (D:S1.OK ns b) (hj:S.L[j]?=some id) (h0:id≠0) (C:(ns:Int)=shardsC c) (hs:s < ns) (E:0<=turn) (F:turn<=1000000000) (G:S.t.workers=S.c.wk) (A:b<=1000000):
  Calls prog 149 #[.pointer (some ⟨r,0,none⟩),(j:Nat),(s:Nat),turn] w (zaJ O S id s turn w):=by
 have q:=XaD O B r c S1 j id s ns b turn w h hm hz D (by rw [hl.L];exact hj) h0 C hs E F (by rw [hl.t,hl.c];exact G) A;unfold zaJ at q ⊢;rw [qay hl] at q;exact q
end
def RLkE (O:Own) (B:RA) (r:Nat) (c:CfgM) (LK:CS×List LV) (w:World) (e:Ending) (w':World):Prop:=∃ v O',e=.returned v/\RW w' O' B r c LK.1/\RLet O' w' w.heap.size v LK.2/\AgO w.heap.size O O'/\ROut O w w'
def LkR (O:Own) (B:RA) (r:Nat) (c:CfgM) (S:CS) (id s cp kb ko:Nat) (w0:World) (v:Value) (wr:World):Prop:=∃ k:Nat,k<=cp/\v=.int .i64 ((k:Int) - 1)/\Hid (RW wr O B r c (S.setH id s ⟨(fromJ (S.liveJ s) cp k:Nat),0,S.now,false⟩))/\Hid (ROut O w0 wr)/\Hid (∀ j,j < cp->wr.cell? ⟨kb,ko+j,none⟩=some (.int .i64 ((copW c s j:Nat):Int)))
theorem YaE (O:Own) (B:RA) (r:Nat) (c:CfgM) (S:CS) (j id s ns:Nat) (b E:Int) (w:World) (h:RW w O B r c S) (hm:mayC c=true) (hz:c.short) (Ai:S.OK ns b) (hj:S.L[j]?=some id) (h0:id≠0) (Bx:(ns:Int)=shardsC c) (hs:s < ns) (Bz:S.t.workers=S.c.wk) (Cn:3<=b) (Co:b<=900000) (AY:S.tm.length<=24):
  Calls prog 97 #[.pointer (some ⟨r,0,none⟩),(j:Nat),(s:Nat),E] w (RLkE O B r c (S.look id s E) w):=by
 have Al:id∈S.L:=lm hj;have q:=Ai.q id Al h0;have A0:=Ai.slots hj h0;have BN:j < 4:=by have h1:=(lg hj).1;have h2:=Ai.sl.len;omega
 have Cv:=xe c;have Cu:s < 6:=by omega
 have ⟨y,hy⟩:=gn (S.shOf id s);have B0:(S.Q id).sh[s]?=some y:=by rw [<- hy];unfold CS.shOf;rw [List.getD_eq_getElem?_getD,List.getElem?_eq_getElem (by rw [q.sh6];omega)];rfl
 have BT:=Y6 Ai Al h0 (by omega) s;rw [hy] at BT;have ⟨LK,I⟩:=gn (S.look id s E);rw [I];unfold CS.look at I;rw [hy] at I;have An:S.tid id s=6 * (j:Int)+(s:Int):=by unfold CS.tid;rw [A0]
 obtain ⟨⟨BH,ok⟩,AQ⟩:∃ x,atL (S.tid id s) S.tm=x:=⟨_,rfl⟩;rw [AQ] at I;have Aw:=yba h AY (6 * (j:Int)+(s:Int));rw [<- An,AQ,An] at Aw;have Be:=Hy Aw;have Cs:=Ai.now;obtain ⟨ac,cc,AS⟩:=h.cc;have Bo:=Hy (show ∀ t d,waitC S.c t d=waitC c t d from fun t d=>by rw [AS];rfl);have AJ:=Hy (by rw [AS];exact ⟨rfl,rfl,rfl,rfl⟩:S.c.cp=c.cp/\S.c.wk=c.wk/\S.c.he=c.he/\copN S.c s=copN c s);have HM:=Hy hm;have HZ:=Hy hz;have A6:=Hy Ai;have HJ:=Hy hj;have G:=Hy Al;have A5:=Hy Bx;have AL:=Hy Bz;have Bn:=Hy AY;have AF:=Hy An
 have HY:=Hy B0;have HQ:=Hy q;have H0:=Hy h;have BZ:=Hy A0;have BW:w.cell? ⟨r,15,none⟩=some (.pointer (some ⟨B.ti,0,none⟩)):=h.cell 15;have xq:w.cell? ⟨r,16+j,none⟩=some (.pointer (some ⟨B.q id,0,none⟩)):=h.qcell hj h0 BN;have j0:(0:Int)<=(j:Int):=by omega
 have j4:(j:Int) < 4:=by omega
 have s0:(0:Int)<=(s:Int):=by omega
 have s6:(s:Int) < 6:=by omega
 have ew:IntKind.i64.wrap (6 * (j:Int))=6 * (j:Int):=IntWalk.i64_in _ (by omega);have BK:IntKind.i64.wrap (6 * (j:Int)+(s:Int))=6 * (j:Int)+(s:Int):=IntWalk.i64_in _ (by omega);clear h hm hz Ai hj Bx Bz AY An B0 q Al A0 hy AQ Aw AS;go_in;go_wp2_with fail;clear BW xq ew BK;refine Be.mono ?_;clear Be;rintro e w' ⟨rfl,rfl⟩;have AE:w.cell? ⟨r,12,none⟩=some (.int .i64 S.now):=H0.cell 12;have fz:∀ o,w.frozen? ⟨B.q id,o,none⟩=false:=fun o=>(RWx.qb H0.o id G.o h0 (fun q=>q)).1.frozen o;have c0:w.cell? ⟨B.q id,1+s * 4,none⟩=some (.int .i64 y.turn):=H0.shcell G.o h0 HY.o (j:=0) (by omega)
 have c1:Ci w (B.q id) (1+s * 4+1) y.try_:=H0.shcell G.o h0 HY.o (j:=1) (by omega);have c2:w.cell? ⟨B.q id,1+s * 4+2,none⟩=some (.int .i64 y.first):=H0.shcell G.o h0 HY.o (j:=2) (by omega);have c3:w.cell? ⟨B.q id,1+s * 4+3,none⟩=some (.bool y.hedged):=H0.shcell G.o h0 HY.o (j:=3) (by omega);cases ok
 case false=>
  rw [if_pos rfl] at I;obtain ⟨T,Ay⟩:∃ T:Nat,c.cp=(T:Int):=⟨c.cp.toNat,by have:=Zf HM.o;omega⟩;have BQ:=Zf HM.o;have Cb:1<=T/\T<=3:=by omega
  have AI:1<=c.wk:=by omega
  obtain ⟨AR,Ag⟩:=RW.with_sh4 H0.o G.o h0 HY.o 0 0 S.now false;have ⟨U,W⟩:=gn ((((w.setCell ⟨B.q id,1+s * 4,none⟩ (.int .i64 0)).setCell ⟨B.q id,1+s * 4+1,none⟩ (.int .i64 0)).setCell ⟨B.q id,1+s * 4+2,none⟩ (.int .i64 S.now)).setCell ⟨B.q id,1+s * 4+3,none⟩ (.bool false));rw [W] at AR Ag;have H:=Hy AR;have u:=Hy Ag;clear AR Ag;have x0:U.cell? ⟨r,0,none⟩=some (.slice c.aw c.nw c.cw):=H.cell 0;have x1:U.cell? ⟨r,1,none⟩=some (.slice c.ac c.nc c.cc):=H.cell 1;have x2:U.cell? ⟨r,2,none⟩=some (.int .i64 c.wk):=H.cell 2;have x3:U.cell? ⟨r,3,none⟩=some (.int .i64 c.cp):=H.cell 3
  have x4:Ci U r 4 c.sl:=H.cell 4;have x5:U.cell? ⟨r,5,none⟩=some (.int .i64 c.ba):=H.cell 5;have x6:U.cell? ⟨r,6,none⟩=some (.int .i64 c.le):=H.cell 6;have x7:U.cell? ⟨r,7,none⟩=some (.int .i64 c.he):=H.cell 7;have x8:U.cell? ⟨r,8,none⟩=some (.int .i64 c.fi):=H.cell 8;have x9:U.cell? ⟨r,9,none⟩=some (.int .i64 c.ca):=H.cell 9;have BU:U.cell? ⟨r,10,none⟩=some (.int .i64 c.ji):=H.cell 10;have BV:U.cell? ⟨r,11,none⟩=some (.int .i64 c.ne):=H.cell 11;have AA:=Yr c (s:Nat) U H.cf.ok HZ.o HM.o (by omega) (by omega)
  have AG:copiesC c (s:Nat)=copN c s:=by rw [Yf (by unfold inB;rw [<- A5.o];simp;omega)];rfl
  have AH:(copN c s).length=T:=by unfold copN;rw [List.length_map,List.length_range,Ay,Int.toNat_natCast]
  rw [AG,AH] at AA;unfold CfgM.val at AA;have Bh:=Hy AA;have BB:=Hy (show ∀ j,j < T->(ints (copN c s))[j]?=some (.int .i64 ((copW c s j:Nat):Int)) from fun j hj=>by unfold ints;rw [List.getElem?_map,QD (by rw [Ay,Int.toNat_natCast];exact hj),qL AI];rfl);have BE:=Hy (show ∀ k,k < T->S.liveJ s k=S.t.live ((copW c s k:Nat):Int) S.now from fun k Bu=>by unfold CS.liveJ;rw [AJ.2.2.2,List.getD_eq_getElem?_getD,QD (by rw [Ay,Int.toNat_natCast];exact Bu),<- qL AI];rfl);have Bg:=Hy Ay;clear Ay AA AG AH BQ;go_wp2_with (rw [W]);clear W AE fz c0 c1 c2 c3 x0 x1 x2 x3 x4 x5 x6 x7 x8 x9 BU BV
  refine Bh.mono ?_;clear Bh;rintro e w4 ⟨ka,kc,rfl,Am,a⟩;have Bf:=Hy (H.below a (AgO.refl _ _));have Bj:=Hy (ROut.trans u.o (ROut.below (O:=O) a) (AgO.refl _ _));obtain ⟨kb,ko,BO,BP,AU⟩:=(Yc Am).2.2.2.2 0 (by omega);subst BO;have BD:=Hy (show B.q id≠kb from fun e=>by have h1:=Xa Am kb rfl;have h2:=(RWx.qb H.o id G.o h0 (fun q=>q)).1.lt;omega)
  have J:=Hy (show ∀ j,j < T->w4.cell? ⟨kb,ko+j,none⟩=some (.int .i64 ((copW c s j:Nat):Int)) from fun j hj=>by
   obtain ⟨b',o',e',Cm,Bt⟩:=(Yc Am).2.2.2.2 j hj;cases e';rw [BB.o j hj] at Bt;exact Bt)
  clear Am a BP AU H u;have Cq:(T:Int) - 1=((T:Nat):Int) - 1:=rfl;go_wp2_with fail;go_loopw [15] (fun v wr=>LkR O B r c S id s T kb ko w v wr) (fun v _=>(intOf v+1).toNat)
  case atStart=>exact ⟨T,nl _,by first | rfl | go_num,by rw [Yaz];exact Bf.o,Bj.o,J.o⟩
  case round=>
   clear Bf Bj J;obtain ⟨k,Bu,rfl,HC,HF,J⟩:=hrel
   by_cases AU:k=0
   rotate_left 1
   ·obtain ⟨i,rfl⟩:∃ i,k=i+1:=⟨k - 1,by omega⟩
    have Bq:((i+1:Nat):Int) - 1=(i:Int):=by omega
    rw [Bq];have i0:(0:Int)<=(i:Int):=by omega
    have i1:(i:Int) < (T:Int):=by omega
    have m:=Hy (show RW wr.drew O B r c (S.setH id s ⟨(fromJ (S.liveJ s) T (i+1):Nat),0,S.now,false⟩) from HC.below (below_drewN (bf _ wr) 1) (AgO.refl _ _));have ⟨cw,A9⟩:=gn (copW c s i);have Ah:=Za2 m.o A6.t ((copW c s i:Nat):Int);have Bw:=BE.o i (by omega);rw [show (S.setH id s ⟨(fromJ (S.liveJ s) T (i+1):Nat),0,S.now,false⟩).t=S.t from rfl,show (S.setH id s ⟨(fromJ (S.liveJ s) T (i+1):Nat),0,S.now,false⟩).now=S.now from rfl,<- Bw,A9] at Ah;have AK:=Hy Ah;let Bp:World->Prop:=fun w'=>Cp w' r 13 B.le/\Ci w' kb (ko+i) (cw:Nat)/\Ci w' r 12 S.now
    have HX:=Hy (show Bp wr.drew from ⟨m.cell 13,by rw [<- A9];exact J.o i (by omega),m.cell 12⟩);have BX:=Hy A9;clear A9 Ah Bw Bq;have ⟨lv,Ah⟩:=gn (S.liveJ s i);rw [Ah] at AK;have AX:=Xak (P:=S.liveJ s) (n:=T) (j:=i) (by omega);rw [Ah] at AX;have Bm:=Hy AX;clear Ah AX;go_upto_region 62 with fail;refine rg Bp fun F=>?_;(iterate 12 refine tq 0 ?_);refine rdy 12 fun K hK=>?_;go_simp;refine AK.mono ?_;rintro e w' ⟨rfl,rfl⟩;clear AK;go_wp2_with fail;refine hk hK fun F=>?_;clear hK K
    refine dn ?_;clear F HX;cases lv
    ·have HE:=Hy (by rw [Bm.o];rfl:fromJ (S.liveJ s) T i=fromJ (S.liveJ s) T (i+1))
     go_wp2_with fail;go_roundw
     case rel=>first | exact ⟨i,by omega,by first | rfl | go_num,by rw [HE.o];exact m.o,Frm.drew HF.o,J.o⟩ | ((repeat apply Exists.intro);exact ⟨⟨i,by omega,by first | rfl | go_num,by rw [HE.o];exact m.o,Frm.drew HF.o,J.o⟩,rfl⟩)
     case measure=>first | (simp [intOf];done) | (simp [intOf];omega)
    have HE:=Hy (by rw [Bm.o];rfl:fromJ (S.liveJ s) T i=i)
    have Y:=Hy (Xe (S:=S) (id:=id) (s:=s) ⟨(fromJ (S.liveJ s) T (i+1):Nat),0,S.now,false⟩ HY.o);have ct:wr.drew.cell? ⟨B.q id,1+s * 4,none⟩=some (.int .i64 (fromJ (S.liveJ s) T (i+1):Nat)):=m.shcell G.o h0 Y.o (j:=0) (by omega);have fz:=(RWx.qb m.o id G.o h0 (fun q=>q)).1.frozen (1+s * 4);obtain ⟨A8,AT⟩:=RW.with_sh (j:=0) (v:=.int .i64 (i:Nat)) (y':=⟨(i:Nat),0,S.now,false⟩) m.o G.o h0 Y.o (by omega) rfl;rw [xh] at A8;have ⟨w5,AC⟩:=gn (wr.drew.setCell ⟨B.q id,1+s * 4,none⟩ (.int .i64 (i:Nat)));rw [show wr.drew.setCell ⟨B.q id,1+s * 4+0,none⟩ (.int .i64 (i:Nat))=w5 from AC] at A8 AT
    have C:=Hy A8;have z:=Hy (ROut.trans (Frm.drew HF.o) AT (AgO.refl _ _));have Bk:=Hy (show ∀ j,j < T->w5.cell? ⟨kb,ko+j,none⟩=some (.int .i64 ((copW c s j:Nat):Int)) from fun j hj=>by rw [<- AC];exact (World.cell?_of_block (((Frm.refl (fun b=>b=B.q id) wr.drew).setCell ⟨B.q id,1+s * 4,none⟩ (.int .i64 (i:Nat)) (.inl rfl)).block kb (cell?_lt (J.o j hj)) (fun e=>BD.o e.symm))).trans (J.o j hj));clear A8 AT;go_wp2_with (rw [AC]);clear AC ct fz;go_roundw
    case rel=>first | exact ⟨i,by omega,by first | rfl | go_num,by rw [HE.o];exact C.o,z.o,Bk.o⟩ | ((repeat apply Exists.intro);exact ⟨⟨i,by omega,by first | rfl | go_num,by rw [HE.o];exact C.o,z.o,Bk.o⟩,rfl⟩)
    case measure=>first | (simp [intOf];done) | (simp [intOf];omega)
   subst AU;clear J;have AB:=ZaW S s;rw [AJ.1,Bg.o,Int.toNat_natCast] at AB;have ⟨mx,AW⟩:=gn (fromJ (S.liveJ s) T 0);rw [AW] at HC AB;rw [<- AB] at I;have Cc:mx < T:=by rw [<- AW];exact zaM (by omega) 0
   subst I;clear AW AB;have C:=Hy (show RW wr.drew O B r c (S.setH id s ⟨(mx:Nat),0,S.now,false⟩) from HC.below (below_drewN (bf _ wr) 1) (AgO.refl _ _));have z:=Hy (show ROut O w wr.drew from Frm.drew HF.o);have Y:=Hy (Xe (S:=S) (id:=id) (s:=s) ⟨(mx:Nat),0,S.now,false⟩ HY.o);have N:=Hy (show Ci wr.drew (B.q id) (1+s * 4+1) (0) from C.shcell G.o h0 Y.o (j:=1) (by omega));have M:=yK c (0) E wr.drew;unfold CfgM.val at M;have A1:=zG c (0) E;have ⟨wt,f⟩:=gn (waitC c (0) E)
   have AM:=Hy (show (S.setH id s ⟨(mx:Nat),0,S.now,false⟩).wait (0) E=S.now+wt from by show min (S.now+waitC S.c (0) E) _=_;rw [Bo.o,f];rw [f] at A1;omega);rw [f] at M A1;have At:=Hy M;clear f M;have AP:IntKind.i64.wrap (S.now+wt)=S.now+wt:=IntWalk.i64_in _ (by omega);have Ae:=Hy (show ((S.setH id s ⟨(mx:Nat),0,S.now,false⟩).tset id s (0) E).OK ns (b+1) from zM (xz (A6.mono (by omega)) ⟨(mx:Nat),0,S.now,false⟩ ⟨⟨by simp only;omega,by simp only;omega⟩,by simp only;omega,by simp only;omega⟩) id s _ E);have Ar:=Hy (show Lk S ((S.setH id s ⟨(mx:Nat),0,S.now,false⟩).tset id s (0) E) from (yz S id s _).trans (qM _ id s _ E))
   go_upto_region 137 with (fail);refine wp_region_held_drew (S:=(fun w'=>Cp w' r 15 B.ti/\Ci w' r 12 S.now/\Ci w' (B.q id) (1+s * 4+1) (0)/\Cl w' r 0 (.slice c.aw c.nw c.cw)/\Cl w' r 1 (.slice c.ac c.nc c.cc)/\Ci w' r 2 c.wk/\Ci w' r 3 c.cp/\Ci w' r 4 c.sl/\Ci w' r 5 c.ba/\Ci w' r 6 c.le/\Ci w' r 7 c.he/\Ci w' r 8 c.fi/\Ci w' r 9 c.ca/\Ci w' r 10 c.ji/\Ci w' r 11 c.ne)) (by kernel_rfl) (by first | exact ⟨C.cell 15,C.cell 12,N.o,C.cell 0,C.cell 1,C.cell 2,C.cell 3,C.cell 4,C.cell 5,C.cell 6,C.cell 7,C.cell 8,C.cell 9,C.cell 10,C.cell 11⟩ | exact ⟨D.cell 15,D.cell 12,Z.o,D.cell 0,D.cell 1,D.cell 2,D.cell 3,D.cell 4,D.cell 5,D.cell 6,D.cell 7,D.cell 8,D.cell 9,D.cell 10,D.cell 11⟩ | exact ⟨A.cell 15,A.cell 12,Af.o,A.cell 0,A.cell 1,A.cell 2,A.cell 3,A.cell 4,A.cell 5,A.cell 6,A.cell 7,A.cell 8,A.cell 9,A.cell 10,A.cell 11⟩) (fun F=>?_)
   (iterate 18 refine tq 0 ?_);refine rdy 18 fun K hK=>?_;go_simp;refine At.mono ?_;rintro e w6 ⟨rfl,a⟩;clear At;have D:=Hy (C.below a (AgO.refl _ _));have Z:=Hy ((a.cell (p:=⟨B.q id,1+s * 4+1,none⟩) (cell?_lt N.o)).trans N.o);have Ac:=Hy (ROut.trans z.o (ROut.below (O:=O) a) (AgO.refl _ _));have As:=Hy (Qaw D.o Bn.o (6 * (j:Int)+(s:Int)) (S.now+wt));clear a
   go_wp2_with fail;refine hK.out _ _ (by first | exact ⟨C.cell 15,C.cell 12,N.o,C.cell 0,C.cell 1,C.cell 2,C.cell 3,C.cell 4,C.cell 5,C.cell 6,C.cell 7,C.cell 8,C.cell 9,C.cell 10,C.cell 11⟩ | exact ⟨D.cell 15,D.cell 12,Z.o,D.cell 0,D.cell 1,D.cell 2,D.cell 3,D.cell 4,D.cell 5,D.cell 6,D.cell 7,D.cell 8,D.cell 9,D.cell 10,D.cell 11⟩ | exact ⟨A.cell 15,A.cell 12,Af.o,A.cell 0,A.cell 1,A.cell 2,A.cell 3,A.cell 4,A.cell 5,A.cell 6,A.cell 7,A.cell 8,A.cell 9,A.cell 10,A.cell 11⟩) (fun F=>?_)
   clear hK K;refine tk 19 ?_;refine rdy 20 fun K hK=>?_;go_simp;refine As.mono ?_;rintro e w7 ⟨rfl,Ax,Az⟩;clear As;have A:=Hy (by unfold CS.tset;rw [show (S.setH id s ⟨(mx:Nat),0,S.now,false⟩).tid id s=6 * (j:Int)+(s:Int) from by unfold CS.tid;rw [Xm];exact AF.o,AM.o];exact Ax:RW w7 (O.upd w6.heap.size (rt 3)) B r c ((S.setH id s ⟨(mx:Nat),0,S.now,false⟩).tset id s (0) E));have Af:=Hy (show Ci w7 (B.q id) (1+s * 4+1) (0) from A.shcell G.o h0 Y.o (j:=1) (by omega));have Ad:=Hy (ROut.trans Ac.o Az (AgO.refl _ _));have Ab:=Hy (show AgO w.heap.size O (O.upd w6.heap.size (rt 3)) from AgO.upd' Ac.size _ _);clear Ax Az
   go_wp2_with fail;refine hK.out _ _ (by first | exact ⟨C.cell 15,C.cell 12,N.o,C.cell 0,C.cell 1,C.cell 2,C.cell 3,C.cell 4,C.cell 5,C.cell 6,C.cell 7,C.cell 8,C.cell 9,C.cell 10,C.cell 11⟩ | exact ⟨D.cell 15,D.cell 12,Z.o,D.cell 0,D.cell 1,D.cell 2,D.cell 3,D.cell 4,D.cell 5,D.cell 6,D.cell 7,D.cell 8,D.cell 9,D.cell 10,D.cell 11⟩ | exact ⟨A.cell 15,A.cell 12,Af.o,A.cell 0,A.cell 1,A.cell 2,A.cell 3,A.cell 4,A.cell 5,A.cell 6,A.cell 7,A.cell 8,A.cell 9,A.cell 10,A.cell 11⟩) (fun F=>?_)
   clear hK K;try go_frame
   refine dn ?_;clear F C D N Z z Ac AP;have ⟨O7,Av⟩:=gn (O.upd w6.heap.size (rt 3));rw [Av] at A Ab;clear Av;have ct:w7.cell? ⟨B.q id,1+s * 4,none⟩=some (.int .i64 ((mx:Nat))):=A.shcell G.o h0 Y.o (j:=0) (by omega);have g:=Hy (Z3 j id s ns (b+1) ((mx:Nat)) Ar.o A.o HM.o HZ.o Ae.o HJ.o h0 A5.o hs (by omega) (by omega) AL.o (by omega));go_wp2_with fail;refine g.mono ?_;clear g ct;rintro e w9 ⟨v9,rfl,Aa,R⟩;have Aq:=Hy Aa;have l:=Hy R;clear Aa R;go_wp2_with fail
   go_ret;exact ⟨v9,O7.upd w7.heap.size 0,rfl,A.below l.o (AgO.upd _ _ _),Aq.base Ad.size,fun b a=>(AgO.upd w7.heap.size 0 O7 b (nt a Ad.size)).trans (Ab.o b a),ROut.trans Ad.o (ROut.below (O:=O7) l.o) Ab.o⟩
 rw [if_neg (by decide)] at I
 by_cases Bv:BH<=S.now
 ·rw [if_pos Bv] at I
  have ⟨V,By⟩:=gn (tryI y.try_);have AZ:=Yap y.try_ w;rw [By] at I AZ;have BF:=Hy AZ;clear By AZ;subst I;go_wp2_with fail;refine BF.mono ?_;rintro e w' ⟨rfl,rfl⟩;have Br:IntKind.i64.wrap (y.turn+1)=y.turn+1:=IntWalk.i64_in _ (by omega);obtain ⟨Ao,f1⟩:=RW.with_sh (j:=1) (v:=.int .i64 V) (y':=⟨y.turn,V,y.first,y.hedged⟩) H0.o G.o h0 HY.o (by omega) rfl;obtain ⟨A7,f2⟩:=RW.with_sh (j:=0) (v:=.int .i64 (y.turn+1)) (y':=⟨y.turn+1,V,y.first,y.hedged⟩) Ao G.o h0 (Xe _ HY.o) (by omega) rfl;rw [xh] at A7;have ⟨U,W⟩:=gn ((w.setCell ⟨B.q id,1+s * 4+1,none⟩ (.int .i64 V)).setCell ⟨B.q id,1+s * 4,none⟩ (.int .i64 (y.turn+1)))
  have Ag:=ROut.trans f1 f2 (AgO.refl _ _);rw [show (w.setCell ⟨B.q id,1+s * 4+1,none⟩ (.int .i64 V)).setCell ⟨B.q id,1+s * 4+0,none⟩ (.int .i64 (y.turn+1))=U from W] at A7 Ag;have H:=Hy A7;have u:=Hy Ag;clear Ao A7 f1 f2 Ag;have C:=Hy (show RW U.drew O B r c (S.setH id s ⟨y.turn+1,V,y.first,y.hedged⟩) from H.below (below_drewN (bf _ U) 1) (AgO.refl _ _));have z:=Hy (show ROut O w U.drew from Frm.drew u.o);have Y:=Hy (Xe (S:=S) (id:=id) (s:=s) ⟨y.turn+1,V,y.first,y.hedged⟩ HY.o);have N:=Hy (show Ci U.drew (B.q id) (1+s * 4+1) (V) from C.shcell G.o h0 Y.o (j:=1) (by omega))
  have M:=yK c (V) E U.drew;unfold CfgM.val at M;have A1:=zG c (V) E;have ⟨wt,f⟩:=gn (waitC c (V) E);have AM:=Hy (show (S.setH id s ⟨y.turn+1,V,y.first,y.hedged⟩).wait (V) E=S.now+wt from by show min (S.now+waitC S.c (V) E) _=_;rw [Bo.o,f];rw [f] at A1;omega);rw [f] at M A1;have At:=Hy M;clear f M;have AP:IntKind.i64.wrap (S.now+wt)=S.now+wt:=IntWalk.i64_in _ (by omega);have Ae:=Hy (show ((S.setH id s ⟨y.turn+1,V,y.first,y.hedged⟩).tset id s (V) E).OK ns (b+1) from zM (xz (A6.mono (by omega)) ⟨y.turn+1,V,y.first,y.hedged⟩ ⟨⟨by simp only;omega,by simp only;omega⟩,by simp only;omega,by simp only;omega⟩) id s _ E)
  have Ar:=Hy (show Lk S ((S.setH id s ⟨y.turn+1,V,y.first,y.hedged⟩).tset id s (V) E) from (yz S id s _).trans (qM _ id s _ E));go_upto_region 137 with (rw [W]);clear W AE fz c0 c1 c2 c3 Br;refine wp_region_held_drew (S:=(fun w'=>Cp w' r 15 B.ti/\Ci w' r 12 S.now/\Ci w' (B.q id) (1+s * 4+1) (V)/\Cl w' r 0 (.slice c.aw c.nw c.cw)/\Cl w' r 1 (.slice c.ac c.nc c.cc)/\Ci w' r 2 c.wk/\Ci w' r 3 c.cp/\Ci w' r 4 c.sl/\Ci w' r 5 c.ba/\Ci w' r 6 c.le/\Ci w' r 7 c.he/\Ci w' r 8 c.fi/\Ci w' r 9 c.ca/\Ci w' r 10 c.ji/\Ci w' r 11 c.ne)) (by kernel_rfl) (by first | exact ⟨C.cell 15,C.cell 12,N.o,C.cell 0,C.cell 1,C.cell 2,C.cell 3,C.cell 4,C.cell 5,C.cell 6,C.cell 7,C.cell 8,C.cell 9,C.cell 10,C.cell 11⟩ | exact ⟨D.cell 15,D.cell 12,Z.o,D.cell 0,D.cell 1,D.cell 2,D.cell 3,D.cell 4,D.cell 5,D.cell 6,D.cell 7,D.cell 8,D.cell 9,D.cell 10,D.cell 11⟩ | exact ⟨A.cell 15,A.cell 12,Af.o,A.cell 0,A.cell 1,A.cell 2,A.cell 3,A.cell 4,A.cell 5,A.cell 6,A.cell 7,A.cell 8,A.cell 9,A.cell 10,A.cell 11⟩) (fun F=>?_)
  (iterate 18 refine tq 0 ?_);refine rdy 18 fun K hK=>?_;go_simp;refine At.mono ?_;rintro e w6 ⟨rfl,a⟩;clear At;have D:=Hy (C.below a (AgO.refl _ _));have Z:=Hy ((a.cell (p:=⟨B.q id,1+s * 4+1,none⟩) (cell?_lt N.o)).trans N.o);have Ac:=Hy (ROut.trans z.o (ROut.below (O:=O) a) (AgO.refl _ _));have As:=Hy (Qaw D.o Bn.o (6 * (j:Int)+(s:Int)) (S.now+wt));clear a
  go_wp2_with fail;refine hK.out _ _ (by first | exact ⟨C.cell 15,C.cell 12,N.o,C.cell 0,C.cell 1,C.cell 2,C.cell 3,C.cell 4,C.cell 5,C.cell 6,C.cell 7,C.cell 8,C.cell 9,C.cell 10,C.cell 11⟩ | exact ⟨D.cell 15,D.cell 12,Z.o,D.cell 0,D.cell 1,D.cell 2,D.cell 3,D.cell 4,D.cell 5,D.cell 6,D.cell 7,D.cell 8,D.cell 9,D.cell 10,D.cell 11⟩ | exact ⟨A.cell 15,A.cell 12,Af.o,A.cell 0,A.cell 1,A.cell 2,A.cell 3,A.cell 4,A.cell 5,A.cell 6,A.cell 7,A.cell 8,A.cell 9,A.cell 10,A.cell 11⟩) (fun F=>?_)
  clear hK K;refine tk 19 ?_;refine rdy 20 fun K hK=>?_;go_simp;refine As.mono ?_;rintro e w7 ⟨rfl,Ax,Az⟩;clear As;have A:=Hy (by unfold CS.tset;rw [show (S.setH id s ⟨y.turn+1,V,y.first,y.hedged⟩).tid id s=6 * (j:Int)+(s:Int) from by unfold CS.tid;rw [Xm];exact AF.o,AM.o];exact Ax:RW w7 (O.upd w6.heap.size (rt 3)) B r c ((S.setH id s ⟨y.turn+1,V,y.first,y.hedged⟩).tset id s (V) E));have Af:=Hy (show Ci w7 (B.q id) (1+s * 4+1) (V) from A.shcell G.o h0 Y.o (j:=1) (by omega));have Ad:=Hy (ROut.trans Ac.o Az (AgO.refl _ _));have Ab:=Hy (show AgO w.heap.size O (O.upd w6.heap.size (rt 3)) from AgO.upd' Ac.size _ _);clear Ax Az
  go_wp2_with fail;refine hK.out _ _ (by first | exact ⟨C.cell 15,C.cell 12,N.o,C.cell 0,C.cell 1,C.cell 2,C.cell 3,C.cell 4,C.cell 5,C.cell 6,C.cell 7,C.cell 8,C.cell 9,C.cell 10,C.cell 11⟩ | exact ⟨D.cell 15,D.cell 12,Z.o,D.cell 0,D.cell 1,D.cell 2,D.cell 3,D.cell 4,D.cell 5,D.cell 6,D.cell 7,D.cell 8,D.cell 9,D.cell 10,D.cell 11⟩ | exact ⟨A.cell 15,A.cell 12,Af.o,A.cell 0,A.cell 1,A.cell 2,A.cell 3,A.cell 4,A.cell 5,A.cell 6,A.cell 7,A.cell 8,A.cell 9,A.cell 10,A.cell 11⟩) (fun F=>?_)
  clear hK K;try go_frame
  refine dn ?_;clear F C D N Z z Ac AP;have ⟨O7,Av⟩:=gn (O.upd w6.heap.size (rt 3));rw [Av] at A Ab;clear Av;have ct:w7.cell? ⟨B.q id,1+s * 4,none⟩=some (.int .i64 (y.turn+1)):=A.shcell G.o h0 Y.o (j:=0) (by omega);have g:=Hy (Z3 j id s ns (b+1) (y.turn+1) Ar.o A.o HM.o HZ.o Ae.o HJ.o h0 A5.o hs (by omega) (by omega) AL.o (by omega));go_wp2_with fail;refine g.mono ?_;clear g ct;rintro e w9 ⟨v9,rfl,Aa,R⟩;have Aq:=Hy Aa;have l:=Hy R;clear Aa R;go_wp2_with fail
  go_ret;exact ⟨v9,O7.upd w7.heap.size 0,rfl,A.below l.o (AgO.upd _ _ _),Aq.base Ad.size,fun b a=>(AgO.upd w7.heap.size 0 O7 b (nt a Ad.size)).trans (Ab.o b a),ROut.trans Ad.o (ROut.below (O:=O7) l.o) Ab.o⟩
 rw [if_neg Bv] at I;have ⟨hg,BM⟩:=gn y.hedged;rw [BM] at I c3;rw [AJ.2.2.1] at I;have x7:w.cell? ⟨r,7,none⟩=some (.int .i64 c.he):=H0.cell 7;have Cj:IntKind.i64.wrap (S.now - y.first)=S.now - y.first:=IntWalk.i64_in _ (by omega);have HD:=Hy (show RW w.drew O B r c S from H0.below (below_drewN (bf _ w) 1) (AgO.refl _ _));have AO:=Hy AE;have X7:=Hy x7;have C2:=Hy c2;have C3:=Hy c3;have Au:=Hy (show RLkE O B r c (S,[]) w (.returned (.slice none 0 0)) w.drew from ⟨_,O,rfl,HD.o,RLet.nil _ _ _,AgO.refl _ _,ROut.below (below_drewN (bf _ w) 1)⟩)
 go_upto_region 102 with fail;clear AE x7 c0 c1 c2 c3;cases hg;rotate_left 1
 ·rw [if_neg (by simp)] at I
  subst I;refine wp_region_held_drew (S:=(fun w'=>Ci w' r 12 S.now/\Ci w' r 7 c.he/\Ci w' (B.q id) (1+s * 4+2) y.first/\Cl w' (B.q id) (1+s * 4+3) (.bool true))) (by kernel_rfl) (by exact ⟨AO.o,X7.o,C2.o,C3.o⟩) (fun F=>?_);(iterate 23 first | refine tq 0 ?_ | refine tr 0 ?_);refine dn ?_;clear F;go_wp2_with fail;go_ret;exact Au.o
 by_cases hq:c.he<=S.now - y.first
 rotate_left 1
 ·rw [if_neg (by simp;omega)] at I
  subst I;have BS:decide (c.he<=S.now - y.first)=false:=by simpa using hq
  refine wp_region_held_drew (S:=(fun w'=>Ci w' r 12 S.now/\Ci w' r 7 c.he/\Ci w' (B.q id) (1+s * 4+2) y.first/\Cl w' (B.q id) (1+s * 4+3) (.bool false))) (by kernel_rfl) (by exact ⟨AO.o,X7.o,C2.o,C3.o⟩) (fun F=>?_);(iterate 23 refine tq 0 ?_);refine dn ?_;clear F;go_wp2_with fail;go_ret;exact Au.o
 rw [if_pos ⟨rfl,hq⟩] at I;subst I;have BS:decide (c.he<=S.now - y.first)=true:=by simpa using hq
 refine wp_region_held_drew (S:=(fun w'=>Ci w' r 12 S.now/\Ci w' r 7 c.he/\Ci w' (B.q id) (1+s * 4+2) y.first/\Cl w' (B.q id) (1+s * 4+3) (.bool false))) (by kernel_rfl) (by exact ⟨AO.o,X7.o,C2.o,C3.o⟩) (fun F=>?_);(iterate 23 refine tq 0 ?_);refine dn ?_;clear F Au;obtain ⟨Ao,f1⟩:=RW.with_sh (j:=3) (v:=.bool true) (y':=⟨y.turn,y.try_,y.first,true⟩) HD.o G.o h0 HY.o (by omega) rfl;have ⟨U,W⟩:=gn (w.drew.setCell ⟨B.q id,1+s * 4+3,none⟩ (.bool true));rw [W] at Ao f1;have H:=Hy Ao;have u:=Hy (show ROut O w U from ROut.trans (ROut.below (O:=O) (below_drewN (bf _ w) 1)) f1 (AgO.refl _ _));clear Ao f1
 have c3:Cl w.drew (B.q id) (1+s * 4+3) (.bool false):=C3.o;have BL:w.drew.frozen? ⟨B.q id,1+s * 4+3,none⟩=false:=fz _;have ct:U.cell? ⟨B.q id,1+s * 4,none⟩=some (.int .i64 y.turn):=H.shcell (y:=⟨y.turn,y.try_,y.first,true⟩) G.o h0 (Xe _ HY.o) (j:=0) (by omega);have Br:IntKind.i64.wrap (y.turn+1)=y.turn+1:=IntWalk.i64_in _ (by omega);have Bl:=Hy (show (S.setH id s ⟨y.turn,y.try_,y.first,true⟩).OK ns (b+1) from xz (A6.mono (by omega)) _ ⟨⟨by simp only;omega,by simp only;omega⟩,by simp only;omega,by simp only;omega⟩);have g:=Hy (Z3 j id s ns (b+1) (y.turn+1) (yz S id s ⟨y.turn,y.try_,y.first,true⟩) H.o HM.o HZ.o Bl.o HJ.o h0 A5.o hs (by omega) (by omega) AL.o (by omega))
 go_wp2_with (rw [W]);refine g.mono ?_;clear g ct W c3 BL;rintro e w9 ⟨v9,rfl,Aa,R⟩;have Aq:=Hy Aa;have l:=Hy R;clear Aa R;go_wp2_with fail;go_ret;exact ⟨v9,O.upd U.heap.size 0,rfl,by have q:=H.below l.o (AgO.upd U.heap.size 0 O);rw [show (S.setH id s {y with hedged:=true})=S.setH id s ⟨y.turn,y.try_,y.first,true⟩ from rfl];exact q,Aq.base u.size,AgO.upd' u.size _ _,ROut.trans u.o (ROut.below (O:=O) l.o) (AgO.refl _ _)⟩
end
section
theorem zH:(Tryz.prog.info? 201).map (fun i=>(i.zero,i.size,i.bytes))=some (some (.agg #[(),(),(),(),(),(),(),(),(),(),(),(),.string ⟨#[]⟩,(),(),false,(),.string ⟨#[]⟩,(),(),(),(),(),(),.slice none 0 0,false,(),()]),28,256):=by kernel_rfl
theorem YQ (b:Nat) (W:World):(binOp .eql 156 (.pointer (some ⟨b,0,none⟩)) (.pointer none)).run prog W=.ok (.bool false) W:=by kernel_rfl
theorem ZQ (W:World):(binOp .eql 156 (.pointer none) (.pointer none)).run prog W=.ok (.bool true) W:=by kernel_rfl
theorem RW.qcell0 {c:CfgM} {S:CS} (h:RW w O B r c S) {j:Nat} (hj:S.L.getD j 0=0) (A:j < 4):w.cell? ⟨r,16+j,none⟩=some (.pointer none):=by
 have e:rqV S.L B.q j=.pointer none:=by unfold rqV;rw [if_pos hj]
 rw [h.cell,<- e];have e:j=0∨j=1∨j=2∨j=3:=by omega
 rcases e with rfl | rfl | rfl | rfl <;> rfl
theorem Qay {id:Int} {L:List One} (h:hasL id L=true):(cancelL id L).length+1<=L.length:=by
 unfold cancelL;unfold hasL at h;rw [List.any_eq_true] at h;obtain ⟨x,B,A⟩:=h;have:=List.length_eraseP_of_mem (p:=fun y:One=>decide (y.2=id)) B A;have C:=List.length_pos_of_mem B;omega
theorem yaT {L:List One} (h:L.length<=24) (id a:Int):(setL 24 L id a).2.length<=24:=by
 unfold setL;split
 ·exact h
 split
 ·rename_i A
  have:=Qay A;show (insL (a,id) (cancelL id L)).length<=24;rw [(zf (a,id) (cancelL id L)).length_eq];show (cancelL id L).length+1<=24;omega
 split
 ·exact h
 show (insL (a,id) L).length<=24
 rw [(zf (a,id) L).length_eq];show L.length+1<=24;omega
theorem qa6 {S:CS} (h:S.tm.length<=24) (id s:Nat) (A:Int):(S.look id s A).1.tm.length<=24:=by
 unfold CS.look;split
 ·exact yaT (L:=S.tm) h _ _
 split
 ·exact yaT (L:=S.tm) h _ _
 split
 ·exact h
 exact h
theorem Yav {S:CS} (h:S.tm.length<=24) (id:Nat) (A:Int) (l:List Int):(S.lookN id A l).1.tm.length<=24:=by
 refine zu (P:=fun l=>(S.lookN id A l).1.tm.length<=24) h (fun l s B=>?_) l;rw [Xf];exact qa6 B _ _ _
theorem za4 {S:CS} (h:S.tm.length<=24) (A:Int) (k:Nat):(S.wakeN A k).1.tm.length<=24:=by
 induction k with
 | zero=>exact h
 | succ k B=>
  rw [Zi];unfold CS.wakeA;split
  ·exact B
  ·exact Yav B _ _ _
structure RwS (O:Own) (w:World) (B:RA) (r:Nat) (c:CfgM) (wr:World) (Ok:Own) (S:CS) (ao:Option Addr) (m cp:Nat) (L:List LV):Prop where
 rw:RW wr Ok B r c S
 len:L.length=m
 row:wr.ownsRow w.heap.size 201 28 (.slice ao m cp) m (L.flatMap RLV)
 tag:∀ k,(Value.slice ao m cp).ownBlock=some k->Ok k=0
 ag:AgO w.heap.size O Ok
 out:ROut O w wr
section
variable {O Ok O2:Own} {w wr w2:World} {B B2:RA} {r:Nat} {c:CfgM} {S S2:CS} {ao:Option Addr} {m cp:Nat} {L:List LV}
theorem RwS.step (h:RwS O w B r c wr Ok S ao m cp L) (hc:RW w2 O2 B2 r c S2) (ha:AgO wr.heap.size Ok O2) (hf:ROut Ok wr w2):RwS O w B2 r c w2 O2 S2 ao m cp L:=
 ⟨hc,h.len,za h.row hf (fun k A e=>by rw [h.tag k A] at e;exact absurd e (by decide)),zv h.row ha h.tag,fun b C=>(ha b (nt C h.out.size)).trans (h.ag b C),ROut.trans h.out hf h.ag⟩
theorem RwS.below (h:RwS O w B r c wr Ok S ao m cp L) (hb:Below wr.heap.size wr w2) (ha:AgO wr.heap.size Ok O2):RwS O w B r c w2 O2 S ao m cp L:=h.step (h.rw.below hb ha) ha (ROut.below hb)
theorem RwS.app (h:RwS O w B r c wr Ok S ao m cp L) {l:List LV} {ao':Option Addr} {k c':Nat} (G:l.length=k) (C:wr.grownBy w2 (Value.ownBlock (.slice ao m cp))) (hr:w2.ownsRow w.heap.size 201 28 (.slice ao' (m+k) c') (m+k) (L.flatMap RLV++l.flatMap RLV))
  (F:Value.ownBlock (.slice ao' (m+k) c')=Value.ownBlock (.slice ao m cp)∨Value.ownBlock (.slice ao' (m+k) c')=some wr.heap.size):RwS O w B r c w2 (Ok.upd wr.heap.size 0) S ao' (m+k) c' (L++l):=by
 have I:Frm (fun b=>Ok b=0) wr w2:=Frm.grown C (fun g C=>h.tag g C);have E:AgO wr.heap.size Ok (Ok.upd wr.heap.size 0):=AgO.upd _ _ _;refine ⟨h.rw.apart I E (fun b _ e=>by rw [e];exact ⟨by decide,by decide⟩),by rw [List.length_append,h.len,G],by rw [List.flatMap_append];exact hr,fun q D=>?_,fun b H=>(E b (nt H h.out.size)).trans (h.ag b H),?_⟩
 ·rcases F with e | e
  ·rw [e] at D;exact (E q (qg h.row q D)).trans (h.tag q D)
  rw [e] at D;cases D;exact Own.upd_ge (nl _)
 have A:=h.out
 refine ⟨C.os.trans A.os,C.tape.trans A.tape,C.output.trans A.output,nr A.size C.size,fun i hi J=>?_⟩;refine (C.block i (nt hi A.size) (fun e=>?_)).trans (A.block i hi J);exact absurd (Xa h.row i e.symm) (by omega)
theorem RwS.let_ (h:RwS O w B r c wr Ok S ao m cp L):RLet Ok wr w.heap.size (.slice ao m cp) L:=by
 have e:=h.len;subst e;exact ⟨ao,cp,rfl,h.row,h.tag⟩
end
def RWkR (O:Own) (B:RA) (r:Nat) (c:CfgM) (S:CS) (draw:Int) (sl:Nat) (w:World) (v5 v6:Value) (wr:World):Prop:=∃ (k m cp:Nat) (ao:Option Addr) (Ok:Own),k<=sl/\v6=.int .i64 k/\v5=.slice ao m cp/\Hid (RwS O w B r c wr Ok (S.wakeN draw k).1 ao m cp (S.wakeN draw k).2)
def RWiR (O:Own) (B:RA) (r:Nat) (c:CfgM) (S1:CS) (L1:List LV) (id:Nat) (draw:Int) (ws:List Int) (ai:Option Addr) (n ci:Nat) (w:World) (v5 v8:Value) (wr:World):Prop:=∃ (j m cp:Nat) (ao:Option Addr) (Ok:Own),j<=n/\v8=.int .i64 j/\v5=.slice ao m cp/\Hid (RwS O w B r c wr Ok (S1.lookN id draw (ws.take j)).1 ao m cp (L1++(S1.lookN id draw (ws.take j)).2))/\Hid (Row Ok 3000 wr 3 1 (.slice ai n ci) n (ws.map (Value.int .i64)))
theorem xC {α:Type} {l:List α} {j:Nat} {x:α} (h:l[j]?=some x):l.take (j+1)=l.take j++[x]:=by
 rw [List.take_add_one,h];rfl
theorem qaG (O:Own) (B:RA) (r:Nat) (c:CfgM) (S:CS) (ns sl:Nat) (b A:Int) (w:World) (h:RW w O B r c S) (hm:mayC c=true) (hz:c.short) (AK:S.OK ns b) (AI:(ns:Int)=shardsC c) (AQ:S.t.workers=S.c.wk) (Bp:3<=b) (BD:b<=800000) (AP:S.tm.length<=24) (AN:c.sl=(sl:Int)):
  Calls prog 44 #[.pointer (some ⟨r,0,none⟩),A] w (RLkE O B r c (S.wake A) w):=by
 obtain ⟨i0,hi,AR,AS,AT⟩:=info_parts zH;have HI:=Hy hi;have Bh:=Hy AR;have Bi:=Hy AS;have Bj:=Hy AT;clear hi AR AS AT;have Bs:=Zf hm;have AJ:ns<=6:=by have:=xe c;omega
 have B0:sl<=4:=by omega
 obtain ⟨ac,cc,AH⟩:=h.cc;have Aq:=Hy (by rw [AH];exact ⟨rfl,rfl⟩:S.c.cp=c.cp/\S.c.sl=c.sl);have Aa:=Hy (by rw [Aq.1];omega:S.c.cp<=3);have HW:=Hy h;have Bd:=Hy AK;have Ba:=Hy hm;have HZ:=Hy hz;have Bb:=Hy AI;have Bg:=Hy AQ;have Bf:=Hy AP;have A4:=Hy AN;have BI:=fun b V=>YQ b V;have BH:=fun V=>ZQ V;clear h AK hm hz AI AQ AP AN Bs AH;go_in;go_wp2_with fail;go_loopw [5,6] (RWkR O B r c S A sl w) (fun _ v _=>sl - (intOf v).toNat)
 case atStart=>exact ⟨0,0,0,none,O,nz _,rfl,rfl,⟨HW.o,rfl,World.ownsRow_nil _ _ _ _,fun k Am=>by simp [Value.ownBlock] at Am,AgO.refl _ _,Frm.refl _ _⟩⟩
 case round=>
  clear HW;obtain ⟨k,m,cp,ao,Ok,Am,rfl,rfl,M⟩:=hrel;have t4:wr.cell? ⟨r,4,none⟩=some (.int .i64 (sl:Nat)):=by have q:Ci wr r 4 c.sl:=M.rw.cell 4;rw [A4.o] at q;exact q
  by_cases Br:k < sl
  ·have e1:(k:Int) < (sl:Int):=by omega
   have e0:(0:Int)<=(k:Int):=by omega
   have e4:(k:Int) < 4:=by omega
   have l:=qy Bd.o A Aa.o Bp AJ k;have T:=Hy (yG S A k);have W:=Hy (za4 Bf.o A k);have I:=Zi S A k;obtain ⟨⟨H,L1⟩,AC⟩:∃ x,S.wakeN A k=x:=⟨_,rfl⟩;rw [AC] at l I T M W;simp only at l T M W;have Ae:=Hy l;have A6:=Hy I;clear l I AC
   by_cases C:H.L.getD k 0=0
   ·have xq:=M.rw.qcell0 C (by omega)
    have HN:=Hy (by rw [A6.o];unfold CS.wakeA;rw [if_pos C];exact M.o:RwS O w B r c wr Ok (S.wakeN A (k+1)).1 ao m cp (S.wakeN A (k+1)).2);go_wp2_with fail;go_roundw
    case rel=>first | exact ⟨k+1,m,cp,ao,Ok,by omega,by go_num,rfl,HN.o⟩ | ((repeat apply Exists.intro);exact ⟨⟨k+1,m,cp,ao,Ok,by omega,by go_num,rfl,HN.o⟩,rfl⟩)
    case measure=>first | (simp [intOf];done) | (simp [intOf];omega)
   have a:=Xk C;have ⟨id,Al⟩:=gn (H.L.getD k 0);rw [Al] at a C;have D:=lm a;have At:=Hy D;have AZ:=Hy Al;have HQ:=Hy (Ae.1.q id D C);have HG:=Hy a;have xq:=M.rw.qcell a C (by omega);have xm:=M.rw.mcell D C;have z:=yaS M.rw D C;have ⟨F,y⟩:=gn (H.wl id);rw [y] at z;have Ao:=yas H id;rw [y,HQ.len] at Ao;have ⟨n,hn⟩:=gn F.length;rw [hn] at z Ao;have A8:=Hy z;have A7:=Hy y;have HN:=Hy hn;have BF:n<=6:=by omega
   clear a Al D z y Ao hn;go_wp2_with fail;clear t4 xq xm;refine A8.mono ?_;clear A8;rintro e w1 ⟨ai,ci,rfl,E,AE⟩;have Az:=Hy (M.below AE (AgO.upd wr.heap.size 3000 Ok));have R:=Hy (show Row (Ok.upd wr.heap.size 3000) 3000 w1 3 1 (.slice ai n ci) n (F.map (Value.int .i64)) from ⟨zi E (nz _),fun q hq=>Own.upd_ge (Xa E q hq)⟩);clear M E AE;go_wp2_with fail;go_loopw [5,8] (RWiR O B r c H L1 id A F ai n ci w) (fun _ v _=>n - (intOf v).toNat)
   case atStart=>exact ⟨0,m,cp,ao,Ok.upd wr.heap.size 3000,nz _,rfl,rfl,(by unfold Hid;rw [List.take_zero,show H.lookN id A []=(H,[]) from rfl,List.append_nil];exact Az.o),R.o⟩
   case round=>
    clear Az R;obtain ⟨j,d,c2,i,O2,hj,rfl,rfl,G,R⟩:=hrel
    by_cases Ad:j < n
    ·have e2:(j:Int) < (n:Int):=by omega
     have e3:(0:Int)<=(j:Int):=by omega
     obtain ⟨si,Z⟩:∃ s,F[j]?=some s:=⟨F[j]'(by rw [HN.o];exact Ad),le_ _⟩;obtain ⟨s,hs,AM⟩:=xas (S:=H) (id:=id) (by rw [A7.o];exact lm Z);rw [HQ.len] at AM;subst hs;obtain ⟨bi,AF,_⟩:=Qc R.1 (by omega);have K:=Hy R.o;rw [AF] at K;have cj:wr.cell? ⟨bi,j,none⟩=some (.int .i64 (s:Nat)):=qp K.1 (by rw [List.getElem?_map,Z];rfl);have B6:=Hy Z;have Q:=ZO Ae.1 At.o C A (by rw [T.c];exact Aa.o) (by omega) (F.take j);have N:=Zx H id A (F.take j)
     have Y:=QH H id A (F.take j);have u:=Yav W.o id A (F.take j);have p:=Xf H id A (F.take j) (s:Int);rw [<- xC Z] at p;have J:=Hy G.len;obtain ⟨⟨S2,L2⟩,AD⟩:∃ x,H.lookN id A (F.take j)=x:=⟨_,rfl⟩;rw [AD] at Q N Y p G J u;simp only at Q N Y G J u;have Aw:=Hy Q;have U:=Hy N;have A5:=Hy p;have Bv:(F.take j).length<=6:=by rw [List.length_take];omega
     have Ab:=Hy (show L1.length+L2.length=d/\L1.length<=24/\L2.length<=6 from ⟨by have:=J.o;rw [List.length_append] at this;exact this,by have:=Ae.2;omega,by omega⟩);have Aj:=YaE O2 B r c S2 k id s ns (b+6 * (k:Int)+((F.take j).length:Nat)) A wr G.rw Ba.o HZ.o Aw.o (by rw [U.L];exact HG.o) C Bb.o AM (by rw [U.t,U.c,T.t,T.c];exact Bg.o) (by omega) (by omega) u;have P:=YO S2 id s A;obtain ⟨⟨S3,L3⟩,Ah⟩:∃ x,S2.look id s A=x:=⟨_,rfl⟩;rw [Ah] at Aj P;simp only at P;have Ar:=Hy Aj;have Bc:=Hy (by rw [A5.o];unfold CS.lookA;simp only [Int.toNat_natCast];rw [Ah]:H.lookN id A (F.take (j+1))=(S3,L2++L3))
     have Af:=Hy P;subst AF;clear Z Q N Y u p AD Bv Aj P Ah A5 J;go_wp2_with fail;clear cj;refine Ar.mono ?_;clear Ar;rintro e w3 ⟨v3,O3,rfl,AG,Bq,Ai,Ak⟩;obtain ⟨a3,c3,rfl,AL,AO⟩:=Bq;have f:=Hy (G.step AG Ai Ak);have Ay:=Hy (K.frm Ak (fun b _ ho e=>by rw [ho] at e;exact absurd e (by decide)) Ai);have Ax:=Hy AL;have ⟨m3,An⟩:=gn L3.length;rw [An] at Ax Af ⊢;have As:=Hy An;clear AG Ai Ak AL AO G R K An;have A1:d+m3<=maxLen:=by unfold maxLen;have:=Ab.o;have:=Af.o;omega
     have A2:(d+m3) * 256<=140737488355328:=by have:=Ab.o;have:=Af.o;omega
     have A3:w.heap.size<=w3.heap.size:=f.o.out.size;go_wp2_with (refine QK rfl (.tmp 41) (.tmp 49) 93 93 rfl w.heap.size 201 i0 (.agg #[(),(),(),(),(),(),(),(),(),(),(),(),.string ⟨#[]⟩,(),(),false,(),.string ⟨#[]⟩,(),(),(),(),(),(),.slice none 0 0,false,(),()]) 28 256 underlying93 HI.o Bh.o Bi.o Bj.o rfl (by decide) i d c2 ((L1++L2).flatMap RLV) (by kernel_rfl) f.row (.slice a3 m3 c3) m3 (L3.flatMap RLV) (by kernel_rfl) (Src.ofRdE (enc:=RLV) (size:=28) underlying93 YC zaV (Za (enc:=RLV) YC As.o Ax.o)) A1 A2 A3 ?_;intro a4 c4 w4 E a Bo)
     have Be:=Hy (f.app As.o a E Bo);have Ac:=Hy (Ay.frm (Frm.grown a (S:=fun b=>O3 b=0) (fun g a=>f.tag g a)) (fun b _ ho e=>by rw [ho] at e;exact absurd e (by decide)) (AgO.upd w3.heap.size 0 O3));have A0:=Hy (by rw [Bc.o];have q:=Be.o;rw [List.append_assoc] at q;exact q:RwS O w B r c w4 (O3.upd w3.heap.size 0) (H.lookN id A (F.take (j+1))).1 a4 (d+m3) c4 (L1++(H.lookN id A (F.take (j+1))).2));go_roundw
     case rel=>first | exact ⟨j+1,d+m3,c4,a4,O3.upd w3.heap.size 0,by omega,by go_num,rfl,A0.o,Ac.o⟩ | ((repeat apply Exists.intro);exact ⟨⟨j+1,d+m3,c4,a4,O3.upd w3.heap.size 0,by omega,by go_num,rfl,A0.o,Ac.o⟩,rfl⟩)
     case measure=>first | (simp [intOf];done) | (simp [intOf];omega)
    obtain rfl:j=n:=by omega
    clear Ad hj;have Av:=Hy (by rw [A6.o];unfold CS.wakeA;simp only [AZ.o];rw [if_neg C,A7.o];have q:=G.o;rw [List.take_of_length_le (by rw [HN.o];exact Nat.le_refl _)] at q;exact q:RwS O w B r c wr O2 (S.wakeN A (k+1)).1 i d c2 (S.wakeN A (k+1)).2);go_wp2_with fail;go_roundw
    case rel=>first | exact ⟨k+1,d,c2,i,O2,by omega,by go_num,rfl,Av.o⟩ | ((repeat apply Exists.intro);exact ⟨⟨k+1,d,c2,i,O2,by omega,by go_num,rfl,Av.o⟩,rfl⟩)
    case measure=>first | (simp [intOf];done) | (simp [intOf];omega)
  obtain rfl:k=sl:=by omega
  clear Br Am;go_wp2_with fail;go_ret;have hR:S.wake A=S.wakeN A k:=by unfold CS.wake;rw [Aq.2,A4.o,Int.toNat_natCast]
  refine ⟨.slice ao m cp,Ok,rfl,?_,?_,M.ag,M.o.out⟩ <;> rw [hR]
  ·exact M.rw
  exact M.let_
end
section
theorem Src.rlet1 (w:World) (cs:List Value) (h7:cs.length=28) (h1:∀ u∈cs,u.oneCell'=true):Src prog 28 93 (.slice (some ⟨w.heap.size,0,none⟩) 1 1) 1 cs (w.alloc (.cells cs.toArray 201)):=
 Src.ofSlice _ underlying93 ⟨w.heap.size,0,none⟩ 1 1 cs (by omega) (World.news_of_block (hn_ w _)) h1
theorem yaP {j id:Nat} (ho:SlOK L last) (hj:L[j]?=some id) (h0:id≠0):ofF L (id:Int)=some (j:Int):=
 (Zc ho).2 ⟨by omega,by omega,by rw [Int.toNat_natCast,Int.toNat_natCast];exact hj⟩
theorem qO {j id:Nat} (ho:SlOK L last) (hj:L[j]?=some id) (h0:id≠0):freeL L (id:Int)=L.set j 0:=by
 unfold freeL;rw [yaP ho hj h0];rfl
theorem XaR (L:List Nat) (q:Nat->Nat) (j:Nat) (x:Nat) (hj:j < L.length) (i:Nat):rqV (L.set j x) q i=if i=j then (if x=0 then .pointer none else .pointer (some ⟨q x,0,none⟩)) else rqV L q i:=by
 unfold rqV;rw [List.getD_eq_getElem?_getD,List.getD_eq_getElem?_getD]
 by_cases e:i=j
 ·subst e;rw [if_pos rfl,List.getElem?_set_self hj];rfl
 rw [if_neg e,List.getElem?_set_ne (fun h=>e h.symm)]
theorem xae {S:CS} {c:CfgM} {B:RA} {j:Nat} (hj:j < S.L.length) (A:j < 4):(S.rcells c B).set (16+j) (.pointer none)=CS.rcells {S with L:=S.L.set j 0} c B:=by
 unfold CS.rcells;show _=c.cells++[_,_,_,_,rqV (S.L.set j 0) B.q 0,rqV (S.L.set j 0) B.q 1,rqV (S.L.set j 0) B.q 2,rqV (S.L.set j 0) B.q 3,_];simp only [XaR S.L B.q j 0 hj];have e:j=0∨j=1∨j=2∨j=3:=by omega
 rcases e with rfl | rfl | rfl | rfl <;> rfl
section
variable {w w2:World} {O:Own} {B:RA} {r:Nat} {c:CfgM} {S:CS}
theorem RW.freed (h:RW w O B r c S) {j id:Nat} (hj:S.L[j]?=some id) (h0:id≠0) (ho:SlOK S.L S.told.length) (hs:RSA w2 B.sl B.sf (freeL S.L (id:Int)) S.told.length) (hf:Frm (fun i=>i=B.sf) w w2) (N:j < 4):
  RW (w2.setCell ⟨r,16+j,none⟩ (.pointer none)) O B r c {S with L:=freeL S.L (id:Int)}/\ROut O w (w2.setCell ⟨r,16+j,none⟩ (.pointer none)):=by
 have P:=(lg hj).1;have A:=(RWx.blk h (fun q=>q)).2;have D:=(RWx.sl h (fun q=>q)).2.2;have H:=(RWx.sl h (fun q=>q)).1.2;have J:r≠B.sf:=fun e=>by rw [e,D] at A;exact Zb (by omega) A
 have K:r≠B.sl:=fun e=>by rw [e,H] at A;exact Zb (by omega) A
 have E:Frm (fun i=>i=r) w2 (w2.setCell ⟨r,16+j,none⟩ (.pointer none)):=(Frm.refl (fun i=>i=r) w2).setCell _ _ (.inl rfl);have I:Frm (fun i=>i=B.sf∨i=r) w (w2.setCell ⟨r,16+j,none⟩ (.pointer none)):=Frm.trans (hf.mono (fun b e _=>.inl e)) (E.mono (fun b e _=>.inr e)) (fun i e _=>e);have R:Blk w2 r 159 (S.rcells c B):=h.blk.frm hf J;have F:RWx (fun t=>t=rt 0∨t=rt 2) (w2.setCell ⟨r,16+j,none⟩ (.pointer none)) O B r c S:=RWx.frm h I (AgO.refl _ _) (fun _ q=>q.elim) (fun b _ e=>.inl (by rcases e with rfl | rfl;exact ⟨.inr D,by rw [D];exact ye 2⟩;exact ⟨.inl A,by rw [A];exact ye 0⟩))
 have C:∀ i,i≠0->i≠2->¬ (rt i=rt 0∨rt i=rt 2):=fun i h1 G e=>by rcases e with e | e;exact Zb h1 e;exact Zb G e
 have M:=qO ho hj h0;refine ⟨⟨F.cf,F.cc,fun _=>⟨?_,A⟩,fun _=>F.le (C 1 (by omega) (by omega)),fun _=>⟨⟨?_,H⟩,⟨?_,D⟩⟩,fun _=>F.ti (C 3 (by omega) (by omega)),fun _=>F.told (C 4 (by omega) (by omega)),fun _=>F.it (C 5 (by omega) (by omega)),fun i h1 G _=>?_,fun i h1 G _=>?_⟩,?_⟩
 ·rw [M,<- xae P N];exact R.set _ _
 ·exact hs.1.frm E (fun e=>K e.symm)
 ·exact hs.2.frm E (fun e=>J e.symm)
 ·have Q:i∈S.L:=by rw [M] at h1;rcases List.mem_or_eq_of_mem_set h1 with q | q;exact q;exact absurd q G
  exact F.qb i Q G (C _ (by omega) (by omega))
 ·have Q:i∈S.L:=by rw [M] at h1;rcases List.mem_or_eq_of_mem_set h1 with q | q;exact q;exact absurd q G
  exact F.mg i Q G (C _ (by omega) (by omega))
 exact I.mono (fun b e _=>by rcases e with rfl | rfl;rw [D];exact ye 2;rw [A];exact ye 0)
end
theorem yaj {tm:List One} {slot n m:Nat} (h:∀ s,n<=s->s < m->hasL (6 * (slot:Int)+(s:Nat)) tm=false) (hn:n<=m):cancelS tm slot m=cancelS tm slot n:=by
 have D:∀ k x,hasL x (cancelS tm slot k)=true->hasL x tm=true:=by
  intro k x;induction k with
  | zero=>exact fun h=>h
  | succ k C=>
   intro A;rw [Yg] at A;refine C ?_;unfold hasL cancelL at A;rw [List.any_eq_true] at A;obtain ⟨y,E,B⟩:=A;unfold hasL;rw [List.any_eq_true];exact ⟨y,List.mem_of_mem_eraseP E,B⟩
 obtain ⟨d,rfl⟩:∃ d,m=n+d:=⟨m - n,by omega⟩;induction d with
 | zero=>rfl
 | succ d C=>
  rw [show n+(d+1)=n+d+1 from rfl,Yg,C (fun s h1 F=>h s h1 (by omega)) (by omega)];refine Zo ?_;cases e:hasL (6 * (slot:Int)+((n+d:Nat):Int)) (cancelS tm slot n) with
  | false=>rfl
  | true=>have:=D _ _ e;rw [h (n+d) (by omega) (by omega)] at this;exact absurd this (by decide)
theorem YI (tm:List One) (A n:Nat):(cancelS tm A n).length<=tm.length:=by
 induction n with
 | zero=>exact nl _
 | succ n B=>rw [Yg];exact nr ((List.eraseP_sublist ..).length_le) B
theorem qah (A id n:Nat):(stopsL A id (n+1)).flatMap RLV=(stopsL A id n).flatMap RLV++RLV ((n:Int)+1,.stop (A:Nat) (id:Nat)):=by
 unfold stopsL;rw [List.range_succ,List.map_append,List.flatMap_append];simp
def ROvR (O:Own) (B:RA) (r:Nat) (c:CfgM) (S:CS) (slot:Nat) (w:World) (v:Value) (wr:World):Prop:=∃ (k:Nat) (Ok:Own),k<=6/\v=.int .i64 k/\Hid (RW wr Ok B r c {S with tm:=cancelS S.tm slot k})/\Hid (AgO w.heap.size O Ok/\ROut O w wr)
def ROlR (w3:World) (slot id wk:Nat) (v7 v8:Value) (wr:World):Prop:=∃ (j:Nat) (ao:Option Addr) (c2:Nat),j<=wk/\v8=.int .i64 ((j:Int)+1)/\v7=.slice ao j c2/\Hid (wr.ownsRow w3.heap.size 201 28 (.slice ao j c2) j ((stopsL slot id j).flatMap RLV))/\Hid (Below w3.heap.size w3 wr)
theorem ZW (O:Own) (B:RA) (r:Nat) (c:CfgM) (S:CS) (j id ns wk:Nat) (w:World) (h:RW w O B r c S) (hj:S.L[j]?=some id) (h0:id≠0) (Aa:(S.Q id).slot=j) (ho:SlOK S.L S.told.length) (Ab:S.tm.length<=24) (Ao:ns<=6) (y:∀ s,ns<=s->s < 6->hasL (6 * (j:Int)+(s:Nat)) S.tm=false) (Ac:c.wk=(wk:Int)) (A0:wk<=5) (AC:id<=1000000):
  Calls prog 137 #[.pointer (some ⟨r,0,none⟩),(j:Nat)] w (RLkE O B r c (S.over id ns,stopsL (S.Q id).slot id wk) w):=by
 have u:j < 4:=by have h1:=(lg hj).1;have h2:=ho.len;omega
 obtain ⟨i0,hi,Ap,Aq,Ar⟩:=info_parts zH;clear hi Ap Aq Ar;have V:w.cell? ⟨r,14,none⟩=some (.pointer (some ⟨B.sl,0,none⟩)):=h.cell 14;obtain ⟨y0,y1⟩:=h.scell hj;have ⟨LN,K⟩:=gn S.L.length;have AD:j < LN:=by rw [<- K];exact (lg hj).1
 have Aj:S.L.length<=4:=ho.len.2;rw [K] at y0;clear K;have j1:(0:Int)<=(j:Int):=by omega
 have j2:(j:Int) < (LN:Int):=by omega
 have j4:(j:Int) < 4:=by omega
 have HW:=Hy h;have HJ:=Hy hj;have H:=Hy Aa;have HO:=Hy ho;have Ah:=Hy Ab;have Af:=Hy y;have Ai:=Hy Ac;clear h hj Aa ho Ab y Ac;go_in;go_wp2_with fail;clear V y0 y1;go_loopw [6] (ROvR O B r c S j w) (fun v _=>6 - (intOf v).toNat)
 case atStart=>exact ⟨0,O,by omega,rfl,HW.o,⟨AgO.refl _ _,Frm.refl _ _⟩⟩
 case round=>
  clear HW;obtain ⟨k,F,Am,rfl,C,G⟩:=hrel
  by_cases R:k < 6
  ·have e1:(k:Int) < 6:=by omega
   have As:Cp wr r 15 B.ti:=C.cell 15;have ew:IntKind.i64.wrap (6 * (j:Int))=6 * (j:Int):=IntWalk.i64_in _ (by omega);have AA:IntKind.i64.wrap (6 * (j:Int)+(k:Int))=6 * (j:Int)+(k:Int):=IntWalk.i64_in _ (by omega);have f:=Hy (YB C.o (show (cancelS S.tm j k).length<=24 from nr (YI _ _ _) Ah.o) (6 * (j:Int)+(k:Int)));go_wp2_with fail;clear As;refine f.mono ?_;clear f;rintro e W ⟨rfl,n,A⟩;have a:=Hy (by rw [Yg];exact n:RW W (F.upd wr.heap.size (rt 3)) B r c {S with tm:=cancelS S.tm j (k+1)})
   have g:=Hy (show AgO w.heap.size O (F.upd wr.heap.size (rt 3))/\ROut O w W from ⟨fun b m=>(AgO.upd wr.heap.size (rt 3) F b (nt m G.2.size)).trans (G.1 b m),ROut.trans G.2 A G.1⟩);clear n A;go_wp2_with fail;go_roundw
   case rel=>first | exact ⟨k+1,F.upd wr.heap.size (rt 3),by omega,by go_num,a.o,g.o⟩ | ((repeat apply Exists.intro);exact ⟨⟨k+1,F.upd wr.heap.size (rt 3),by omega,by go_num,a.o,g.o⟩,rfl⟩)
   case measure=>first | (simp [intOf];done) | (simp [intOf];omega)
  have Al:k=6:=by omega
  subst Al;clear R Am;have HL:=Hy (xa2 B.sl B.sf S.L S.told.length (id:Int) wr ⟨(RWx.sl C.o (fun q=>q)).1.1,(RWx.sl C.o (fun q=>q)).2.1⟩ Aj);have V:wr.cell? ⟨r,14,none⟩=some (.pointer (some ⟨B.sl,0,none⟩)):=C.cell 14;have ⟨fb,p⟩:=gn ((ofF S.L (id:Int)).isSome);rw [p] at HL;clear p;go_wp2_with fail;clear V;refine HL.mono ?_;clear HL;rintro e W ⟨rfl,z,A⟩;have An:r≠B.sf:=fun e=>by have h1:=(RWx.blk C.o (fun q=>q)).2;have h2:=(RWx.sl C.o (fun q=>q)).2.2;rw [e,h2] at h1;exact Zb (by omega) h1
  have M:=C.blk.frm A An;have xq:W.cell? ⟨r,16+j,none⟩=some (.pointer (some ⟨B.q id,0,none⟩)):=(M.cell _).trans ((C.cell _).symm.trans (C.qcell HJ.o h0 u));have fz:W.frozen? ⟨r,16+j,none⟩=false:=M.frozen _;obtain ⟨N,P⟩:=RW.freed C.o HJ.o h0 HO.o z A u;have ⟨U,T⟩:=gn (W.setCell ⟨r,16+j,none⟩ (.pointer none));rw [T] at N P;have d:=Hy (by unfold CS.over;rw [H.o,<- yaj Af.o Ao];exact N:RW U F B r c (S.over id ns));have I:=Hy (show ROut O w U from ROut.trans G.2 P G.1);have Y:=Hy G.1
  clear z A M N P C G;go_wp2_with (rw [T]);clear T xq fz;go_loopw [7,8] (ROlR U j id wk) (fun _ v _=>wk+1 - (intOf v).toNat)
  case atStart=>exact ⟨0,none,0,nz _,rfl,rfl,World.ownsRow_nil _ _ _ _,bf _ _⟩
  case round=>
   obtain ⟨i,ao,c2,hi,rfl,rfl,E,HB⟩:=hrel;have Ad:=Hy (d.below HB.o (AgO.refl _ _));have x2:wr.cell? ⟨r,2,none⟩=some (.int .i64 (wk:Nat)):=by have q:Ci wr r 2 c.wk:=Ad.cell 2;rw [Ai.o] at q;exact q
   by_cases R:i < wk
   ·have e1:(i:Int)+1<=(wk:Int):=by omega
    have A1:i+1<=maxLen:=by unfold maxLen;omega
    have A2:(i+1) * 256<=140737488355328:=by omega
    have A3:U.heap.size<=wr.heap.size:=HB.size;go_wp2_with (at_builtin;refine wa zH underlying93 (E.alloc _) (show Src prog 28 93 _ 1 [.int .i64 ((i:Int)+1),.int .i64 5,(),(),(),(),(),(),(),(),(),(),.string ⟨#[]⟩,(),(),false,(),.string ⟨#[]⟩,(),(),(),(),(),(),.slice none 0 0,false,(j:Nat),(id:Nat)] (wr.alloc (.cells #[.int .i64 ((i:Int)+1),.int .i64 5,(),(),(),(),(),(),(),(),(),(),.string ⟨#[]⟩,(),(),false,(),.string ⟨#[]⟩,(),(),(),(),(),(),.slice none 0 0,false,(j:Nat),(id:Nat)] 201)) from Src.rlet1 wr [.int .i64 ((i:Int)+1),.int .i64 5,(),(),(),(),(),(),(),(),(),(),.string ⟨#[]⟩,(),(),false,(),.string ⟨#[]⟩,(),(),(),(),(),(),.slice none 0 0,false,(j:Nat),(id:Nat)] rfl (by simp [Value.oneCell'])) A1 A2 (by simp;omega) ?_;intro J c3 w5 D t;have Z:=Hy ((HB.alloc A3 _).grown t (by simp;omega) (Xa E.o));have Ag:=Hy D;clear D t)
    have l:=Hy (by rw [qah];exact Ag.o:w5.ownsRow U.heap.size 201 28 (.slice J (i+1) c3) (i+1) ((stopsL j id (i+1)).flatMap RLV));go_roundw
    case rel=>first | exact ⟨i+1,J,c3,by omega,by go_num,rfl,l.o,Z.o⟩ | ((repeat apply Exists.intro);exact ⟨⟨i+1,J,c3,by omega,by go_num,rfl,l.o,Z.o⟩,rfl⟩)
    case measure=>first | (simp [intOf];done) | (simp [intOf];omega)
   have Ak:i=wk:=by omega
   subst Ak;clear R hi;go_wp2_with fail;go_ret;refine ⟨.slice ao i c2,F.upd U.heap.size 0,rfl,d.below HB.o (AgO.upd _ _ _),⟨ao,c2,by rw [Qi],?_,?_⟩,fun b m=>(AgO.upd U.heap.size 0 F b (nt m I.size)).trans (Y.o b m),ROut.trans I.o (ROut.below (O:=F) HB.o) Y.o⟩
   ·rw [Qi,H.o];exact zi E.o I.size
   intro q hq;rw [Qi] at hq;exact Own.upd_ge (Xa E.o q hq)
end
end Go.Proofs.YtinkbgeckjbnbaaGreat
