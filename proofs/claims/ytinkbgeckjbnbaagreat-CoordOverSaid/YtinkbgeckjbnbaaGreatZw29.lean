/- Lemmas (part 29). -/
import Derived.Test.YtinkbgeckjbnbaaGreatZw26
namespace Go.Proofs.YtinkbgeckjbnbaaGreat
open Go.RowKit Go.Proofs.Tryz
set_option autoImplicit true
set_option relaxedAutoImplicit true
set_option linter.unusedVariables false
set_option linter.unusedSimpArgs false
set_option maxRecDepth 100000
set_option maxHeartbeats 32000000
theorem zbd {S:CS} {c:CfgM} {ns wn:Nat} {b:Int} (C:S.OK ns b) {i j x:Int} {r:RV} (h:S.rightV c i j x=some r):∃ (s id:Nat),r.s=(s:Int)/\r.q=(id:Int)/\id<=S.told.length/\s < 4/\S.has r.q=true/\S.cancelL r.q wn=stopsL s id wn:=by
 unfold CS.rightV at h;split at h
 ·cases h
 rename_i B
 cases h;have ⟨s,H⟩:=gn ((lowI i c.sl).toNat);unfold CS.rightR;rw [H] at B ⊢;have ⟨id,A⟩:=gn (S.L.getD s 0);rw [A] at B ⊢
 have D:S.L[s]?=some id:=by
  rw [List.getD_eq_getElem?_getD] at A;cases G:S.L[s]? with
  | none=>rw [G] at A;exact absurd A.symm B
  | some y=>rw [G] at A;exact congrArg some A
 have F:=lm D;have E:S.has (id:Int)=true:=by unfold CS.has;rw [decide_eq_true_eq];exact ⟨by omega,by rw [Int.toNat_natCast];exact F⟩
 refine ⟨s,id,rfl,rfl,C.sl.le id F,?_,E,?_⟩
 ·have h1:=(lg D).1;have:=C.sl.len;omega
 show S.cancelL (id:Int) wn=_
 unfold CS.cancelL;rw [if_pos E,Int.toNat_natCast,C.slots D B]
theorem Qbc {S:CS} {ns n:Nat} {b:Int} (C:S.OK ns b) {id:Int} (h:S.has id=true):(S.cancel id n).has id=false/\∀ s,atF (S.cancel id n).L s≠some id:=by
 have B:=h;unfold CS.has at B;rw [decide_eq_true_eq] at B;have E:(S.cancel id n).L=freeL S.L (id.toNat:Int):=by unfold CS.cancel;rw [if_pos h];rfl
 have A:¬ (id.toNat∈freeL S.L (id.toNat:Int)):=fun e=>((Qt C.sl B.2 (by omega) id.toNat (by omega)).1 e).2 rfl;refine ⟨?_,fun s e=>?_⟩
 ·unfold CS.has;rw [decide_eq_false_iff_not,E];exact fun e=>A e.2
 obtain ⟨j,y,_,F,G,D⟩:=X9 e
 rw [E] at D;exact A (by rw [F,Int.toNat_natCast] at *;exact lm D)
theorem ybd {S:CS} {ns wn:Nat} {s q i sq wk ep:Int} {l:List KeyL} {en:Bool} (h:∀ s,atF S.L s≠some q):S.rep ns wn s q i sq wk ep l en=(S,[]):=by
 unfold CS.rep;rw [if_pos (by unfold CS.repOK;rw [decide_eq_false (h s)];simp)]
theorem CS.Fit.slot4 {S:CS} {C:CfgM} {ns sl:Nat} {b:Int} (h:S.Fit C ns sl b):∀ i∈S.L,(S.Q i).slot<=4:=fun i hi=>by
 by_cases e:i=0
 ·subst e;rw [h.z];exact nz _
 ·have:=(h.ok.q i hi e).slot4 h.ok.sl;omega
theorem Ybc {S:CS} {id:Int} {n:Nat} (h:S.has id=false):S.cancel id n=S:=by unfold CS.cancel;rw [h,if_neg (by exact Bool.false_ne_true)]
theorem ToA.frm2 {base:Nat} {it:Nat->Option Addr×Nat} {c:Nat} {l:List TS} {k:Nat} (h:ToA base w it ao c l k) (h8:ToA base w8 it ao c l k) (hf:Frm F w w') (hF:∀ b,base<=b->b < w8.heap.size->¬ F b):ToA base w' it ao c l k:=
 ⟨za h.row hf (fun q A=>hF q (Xa h.row q A) (qg h8.row q A)),fun i t hi B=>za (h.its i t hi B) hf (fun q A=>hF q (Xa (h.its i t hi B) q A) (qg (h8.its i t hi B) q A)),h.ne⟩
theorem xbd {slot id n i:Nat} (h:i < n):(stopsL slot id n)[i]?=some ((i:Int)+1,.stop (slot:Nat) (id:Nat)):=by
 unfold stopsL;rw [List.getElem?_map,List.getElem?_range h];rfl
def OvR (w:World) (p r:Nat) (c:CfgM) (ns sl n:Nat) (bx:List (Nat×TypeId×List Value)) (v:Value) (wr:World):Prop:=∃ (i:Nat) (O:Own) (A:CA) (B:RA) (S:CS),i<=n/\v=.int .i64 i/\Hid (LS w wr O A p B r c S ns sl (3+24 * (i:Int)) bx)
def OvI (wn:Nat) (w6:World) (v:Value) (wr:World):Prop:=∃ i:Nat,i<=wn/\v=.int .i64 i/\Hid (Below w6.heap.size w6 wr)
theorem over24_law (c:CfgM) (a:Option Addr) (n cap:Nat) (l:List AV) (av:AV) (w:World) (A1:CfgOK w c) (hr:RdE AV.cells 15 w a n cap l) (B1:∀ x∈l,x.good w):
  Calls prog 7 #[c.val,.slice a n cap,.agg #[av.d,av.i,av.j,av.x,av.tx,av.k,av.n,av.s,av.q,av.h,av.sq,av.wk,av.ep,.slice av.a av.l.length av.c,.bool av.en]] w fun e w'=>e=.returned (.bool true)/\Below w.heap.size w w':=by
 have ⟨W0,Ax⟩:=gn (w.alloc (.cells #[.slice c.aw c.nw c.cw,.slice c.ac c.nc c.cc,c.wk,c.cp,c.sl,c.ba,c.le,c.he,c.fi,c.ca,c.ji,c.ne] 25));have ⟨W1,Ay⟩:=gn (W0.alloc (.cells #[av.d,av.i,av.j,av.x,av.tx,av.k,av.n,av.s,av.q,av.h,av.sq,av.wk,av.ep,.slice av.a av.l.length av.c,.bool av.en] 67));have B9:W0.heap.size=w.heap.size+1:=by rw [<- Ax];simp
 have By:Below w.heap.size w W0:=by rw [<- Ax];exact (bf _ w).alloc (nl _) _
 have Az:Below W0.heap.size W0 W1:=by rw [<- Ay];exact (bf _ W0).alloc (nl _) _
 have A0:=By.trans (Az.mono By.size);have hx:=(by rw [<- Ax];exact hn_ w _:Blk W0 w.heap.size 25 [.slice c.aw c.nw c.cw,.slice c.ac c.nc c.cc,c.wk,c.cp,c.sl,c.ba,c.le,c.he,c.fi,c.ca,c.ji,c.ne]).below Az (by rw [B9];omega);have CH:Blk W1 (w.heap.size+1) 67 [av.d,av.i,av.j,av.x,av.tx,av.k,av.n,av.s,av.q,av.h,av.sq,av.wk,av.ep,.slice av.a av.l.length av.c,.bool av.en]:=by rw [<- Ay,<- B9];exact hn_ W0 _
 have HB:=Hy A0;have HX:=Hy hx;have Bu:=Hy CH;have Bj:=Hy A1;have HR:=Hy hr;have CN:=Hy B1;have HN:=Hy hr.1;have B2:=Xab c a n cap l 60 W1 (A1.below A0 rfl) (hr.below A0 rfl) (fun x hx=>(B1 x hx).below A0) (by decide);unfold CfgM.val at B2 ⊢;have BW:=Hy B2;have DV:=hr.2.1;have Dn:=hr.2.2.1;unfold maxLen at Dn;obtain ⟨x0,x1,x2,x3,x4,x5,x6,x7,x8,x9,Aa,Ab⟩:=c12 hx;rw [<- Ax] at Ay;clear By Az A0 hx CH B9 Ax A1 hr B1 B2;go_in;go_wp2_with (rw [Ay]);clear Ay x0 x1 x2 x3 x4 x5 x6 x7 x8 x9 Aa Ab
 refine BW.mono ?_;clear BW;rintro e N ⟨g,rfl,hg,G⟩;have Ag:=Hy (HB.trans (G.mono HB.size));have AF:=Hy (HX.below G HX.lt);have Au:=Hy (Bu.below G Bu.lt);obtain ⟨x0,x1,x2,x3,x4,x5,x6,x7,x8,x9,Aa,Ab⟩:=c12 AF.o;clear G HB HX Bu;have HG:=Hy hg;clear hg;cases g;rotate_left 1
 ·go_wp2_with fail
  refine (Yw _).mono ?_;rintro e BH ⟨rfl,G⟩;have Z:=Hy (Ag.trans (G.mono Ag.size));clear G;go_wp2_with fail;go_ret;exact ⟨rfl,Z.o⟩
 have Ar:=Hy (HG.o rfl);clear HG;have AL:=Q1 c N (Bj.below Ag.o rfl);have ⟨m,hm⟩:=gn (mayC c);rw [hm] at AL;unfold CfgM.val at AL;have BZ:=Hy AL;have HM:=Hy hm;clear AL hm;go_wp2_with fail;clear x0 x1 x2 x3 x4 x5 x6 x7 x8 x9 Aa Ab;refine BZ.mono ?_;clear BZ;rintro e w3 ⟨rfl,G⟩;have Y:=Hy (Ag.trans (G.mono Ag.size));have At:=Hy (AF.below G AF.lt);have Ae:=Hy (Au.below G Au.lt);obtain ⟨x0,x1,x2,x3,x4,x5,x6,x7,x8,x9,Aa,Ab⟩:=c12 At.o;clear G Ag AF Au;cases m
 ·go_wp2_with fail
  refine (Yw _).mono ?_;rintro e BH ⟨rfl,G⟩;have Z:=Hy (Y.trans (G.mono Y.size));clear G;go_wp2_with fail;go_ret;exact ⟨rfl,Z.o⟩
 obtain ⟨ns,wn,sl,C4⟩:=ZaV HM.o Ar.1;have C:=Hy C4;have Ak:=Xaa (lawO w) c w3 (Bj.below Y.o rfl) HM.o;unfold CfgM.val at Ak;have Cb:=Hy Ak;clear C4 Ak;go_wp2_with fail;clear x0 x1 x2 x3 x4 x5 x6 x7 x8 x9 Aa Ab;refine Cb.mono ?_;clear Cb;rintro e w4 ⟨p,ac,cc,A,O4,rfl,C6,C5,Cv,G⟩;have BU:=Hy C6;have BS:=Hy C5;have Bh:=Hy Cv;have AP:=Hy G;have Bv:=Hy (And.intro At.o Ae.o);have Ao:=Hy Y.o;clear C6 C5 Cv;have BQ:=Hy (Y.trans (G.mono Y.size));have Ck:=Hy (At.below G At.lt)
 have Cm:=Hy (Ae.below G Ae.lt);obtain ⟨x0,x1,x2,x3,x4,x5,x6,x7,x8,x9,Aa,Ab⟩:=c12 Ck.o;clear G Y At Ae;have Bd:CfA O4 w4 c:=CfA.law Bj.o BQ.o (fun b G=>by rw [Bh.o b (Nat.lt_of_lt_of_le G Ao.size)];exact Qav G);have B5:=qap O4 c w4 Bd C.short HM.o (qaj HM.o).2.2;unfold CfgM.val RNeE at B5;have Ca:=Hy B5;clear Bd B5;go_wp2_with fail;clear x0 x1 x2 x3 x4 x5 x6 x7 x8 x9 Aa Ab;refine Ca.mono ?_;clear Ca;rintro e w5 ⟨r,B,O5,rfl,CD,Cw,C7⟩;have H:=Hy (LS.new (sl:=sl) (bx:=[(w.heap.size,25,[.slice c.aw c.nw c.cw,.slice c.ac c.nc c.cc,.int .i64 c.wk,.int .i64 c.cp,.int .i64 c.sl,.int .i64 c.ba,.int .i64 c.le,.int .i64 c.he,.int .i64 c.fi,.int .i64 c.ca,.int .i64 c.ji,.int .i64 c.ne]),(w.heap.size+1,67,[.int .i64 av.d,.int .i64 av.i,.int .i64 av.j,.int .i64 av.x,.string av.tx,.int .i64 av.k,.int .i64 av.n,.int .i64 av.s,.int .i64 av.q,.int .i64 av.h,.int .i64 av.sq,.int .i64 av.wk,.int .i64 av.ep,.slice av.a av.l.length av.c,.bool av.en])]) C.o Ao.o (fun x hx=>by simp only [List.mem_cons,List.not_mem_nil,or_false] at hx;rcases hx with rfl | rfl;exact ⟨Bv.1,nl _⟩;exact ⟨Bv.2,Nat.le_succ _⟩) BU.o BS.o Bh.o AP.o CD Cw C7)
 clear CD Cw C7 BU BS Bh AP Bv Ao Ck Cm BQ;have Ea:=fun V=>yn p 0 V;obtain ⟨DW,DX,Ee,Ef,Eb,Ec,DY,DZ,DK,-⟩:=C.bd;go_wp2_with fail;go_loopw [11] (fun v wr=>OvR w p r c ns sl n [(w.heap.size,25,[.slice c.aw c.nw c.cw,.slice c.ac c.nc c.cc,.int .i64 c.wk,.int .i64 c.cp,.int .i64 c.sl,.int .i64 c.ba,.int .i64 c.le,.int .i64 c.he,.int .i64 c.fi,.int .i64 c.ca,.int .i64 c.ji,.int .i64 c.ne]),(w.heap.size+1,67,[.int .i64 av.d,.int .i64 av.i,.int .i64 av.j,.int .i64 av.x,.string av.tx,.int .i64 av.k,.int .i64 av.n,.int .i64 av.s,.int .i64 av.q,.int .i64 av.h,.int .i64 av.sq,.int .i64 av.wk,.int .i64 av.ep,.slice av.a av.l.length av.c,.bool av.en])] v wr) (fun v _=>n - (intOf v).toNat)
 case atStart=>exact ⟨0,O5,A,B,_,nz _,rfl,H.o⟩
 case round=>
  clear H;obtain ⟨i,O,A,B,S,hi,rfl,H⟩:=hrel
  by_cases A3:i < n
  ·skip
   have e1:(i:Int) < (n:Int):=by omega
   have e2:(0:Int)<=(i:Int):=by omega
   obtain ⟨v,hv⟩:∃ x,l[i]?=some x:=⟨l[i]'(by rw [HN.o];exact A3),le_ _⟩;have AN:=lm hv;have Bg:=(CN.o v AN).ok (Ar.2.2 v AN).1 (Ar.2.2 v AN).2;obtain ⟨P,Q,rfl,_,E⟩:=(HR.below H.bel rfl).2.2.2.2 i v hv;have t0:wr.cell? ⟨P,Q+i * 15,none⟩=some (.int .i64 v.d):=E 0 (by decide);have t1:wr.cell? ⟨P,Q+i * 15+1,none⟩=some (.int .i64 v.i):=E 1 (by decide);have t2:wr.cell? ⟨P,Q+i * 15+2,none⟩=some (.int .i64 v.j):=E 2 (by decide);have t3:wr.cell? ⟨P,Q+i * 15+3,none⟩=some (.int .i64 v.x):=E 3 (by decide);have t4:wr.cell? ⟨P,Q+i * 15+4,none⟩=some (.string v.tx):=E 4 (by decide)
   have t5:Ci wr P (Q+i * 15+5) v.k:=E 5 (by decide);have t6:wr.cell? ⟨P,Q+i * 15+6,none⟩=some (.int .i64 v.n):=E 6 (by decide);have t7:wr.cell? ⟨P,Q+i * 15+7,none⟩=some (.int .i64 v.s):=E 7 (by decide);have t8:wr.cell? ⟨P,Q+i * 15+8,none⟩=some (.int .i64 v.q):=E 8 (by decide);have t9:wr.cell? ⟨P,Q+i * 15+9,none⟩=some (.int .i64 v.h):=E 9 (by decide);have BC:wr.cell? ⟨P,Q+i * 15+10,none⟩=some (.int .i64 v.sq):=E 10 (by decide);have BD:wr.cell? ⟨P,Q+i * 15+11,none⟩=some (.int .i64 v.wk):=E 11 (by decide);have BE:wr.cell? ⟨P,Q+i * 15+12,none⟩=some (.int .i64 v.ep):=E 12 (by decide)
   have BF:Cl wr P (Q+i * 15+13) (.slice v.a v.l.length v.c):=E 13 (by decide);have BG:wr.cell? ⟨P,Q+i * 15+14,none⟩=some (.bool v.en):=E 14 (by decide);have BV:=Hy (Qak c ns wn sl C.o w O A p B r S (3+24 * (i:Int)) v wr H.js (by have:=Ar.2.1;have:=HN.o;omega) Bg);clear hv AN Bg E;go_wp2_with fail;refine BV.mono ?_;clear BV t0 t1 t2 t3 t4 t5 t6 t7 t8 t9 BC BD BE BF BG;rintro e w6 ⟨O6,A6,B6,rfl,C8,f,W⟩;have AR:=Hy (H.act C8 f W);have AS:=Hy (AR.mono (b2:=3+24 * ((i+1:Nat):Int)) (by omega))
   clear C8 f W H AR;go_wp2_with fail;go_roundw
   case rel=>first | exact ⟨i+1,O6,A6,B6,_,by omega,by go_num,AS.o⟩ | ((repeat apply Exists.intro);exact ⟨⟨i+1,O6,A6,B6,_,by omega,by go_num,AS.o⟩,rfl⟩)
   case measure=>first | (simp [intOf];done) | (simp [intOf];omega)
  obtain rfl:i=n:=by omega
  clear A3 hi;have Ah:=Hy (by have:=Ar.2.1;have:=HN.o;omega:(3:Int)+24 * (i:Int)<=1443);obtain ⟨bb,Aj⟩:∃ x:Int,3+24 * (i:Int)=x:=⟨_,rfl⟩;have D9:=Hy (by omega:3<=bb);rw [Aj] at H Ah;clear Aj;have AM:=xaE O B r c S av ns bb wr H.js.jn.rw C.may C.short C.gw H.js.fit.ok C.ns H.js.fit.ti.wk (by have:=Ah.o;omega) (by rw [C.sl,<- H.js.fit.L]) (fun t ht=>(H.js.fit.it t ht).2);unfold RiE at AM;have ⟨D,B8⟩:=gn (S.rightV c av.i av.j av.x);rw [B8] at AM;have AD:=Hy AM
  have Bs:=Hy B8;clear AM B8;obtain ⟨t0,t1,t2,t3,t4,t5,t6,t7,t8,t9,BC,BD,BE,BF,BG⟩:=c15 (H.box (w.heap.size+1,67,[.int .i64 av.d,.int .i64 av.i,.int .i64 av.j,.int .i64 av.x,.string av.tx,.int .i64 av.k,.int .i64 av.n,.int .i64 av.s,.int .i64 av.q,.int .i64 av.h,.int .i64 av.sq,.int .i64 av.wk,.int .i64 av.ep,.slice av.a av.l.length av.c,.bool av.en]) (by simp)).1;go_wp2_with fail;clear t0 t1 t2 t3 t4 t5 t6 t7 t8 t9 BC BD BE BF BG;rcases D with _ | D
  ·refine AD.mono ?_
   clear AD;rintro e N ⟨M,rfl⟩;have Aq:=Hy (((H.bel0 M).bel0 ((bf N.heap.size N).alloc (nl _) (.cells #[(),(),(),(),(),(),.slice none 0 0,false] 65))).bel);clear M;go_wp2_with fail;refine (Yw _).mono ?_;rintro e BH ⟨rfl,G⟩;have Z:=Hy (Aq.trans (G.mono Aq.size));clear G;go_wp2_with fail;go_ret;exact ⟨rfl,Z.o⟩
  refine AD.mono ?_
  clear AD;rintro e N ⟨M,a9,c9,rfl,B7,Ak⟩;have ⟨O2,Bw⟩:=gn (O.upd wr.heap.size 0);have B3:=H.below M (AgO.upd wr.heap.size 0 O);rw [Bw] at B3;have B4:=B3.alloc 65 [D.s,D.q,D.h,D.sq,D.wk,D.ep,.slice a9 D.l.length c9,.bool D.en];have ⟨W3,AH⟩:=gn (N.alloc (.cells #[D.s,D.q,D.h,D.sq,D.wk,D.ep,.slice a9 D.l.length c9,.bool D.en] 65));have ⟨O3,AG⟩:=gn (O2.upd N.heap.size 0);rw [show N.alloc (.cells ([D.s,D.q,D.h,D.sq,D.wk,D.ep,.slice a9 D.l.length c9,.bool D.en]:List Value).toArray 65)=W3 from AH,AG] at B4
  have F:=Hy B4;have Cz:Below N.heap.size N W3:=by rw [<- AH];exact (bf _ N).alloc (nl _) _
  have Br:=Hy (B7.below Cz rfl)
  have Bp:=Hy (show ∀ b o sp,a9=some ⟨b,o,sp⟩->O3 b=0 from fun b o sp e=>by
   have h1:=Ak b o sp e;have h2:O2 b=0:=by rw [<- Bw,Own.upd_ge h1]
   by_cases hl:b < N.heap.size
   ·rw [<- AG,Own.upd_lt hl];exact h2
   ·rw [<- AG,Own.upd_ge (by omega)])
  have Cg:=Hy (Ya1 (by have:=C.sl;omega) Bs.o);have CV:=Hy (Zao C.gw.2 Bs.o);have DC:=Hy (by have h1:=(H.box (w.heap.size+1,67,[.int .i64 av.d,.int .i64 av.i,.int .i64 av.j,.int .i64 av.x,.string av.tx,.int .i64 av.k,.int .i64 av.n,.int .i64 av.s,.int .i64 av.q,.int .i64 av.h,.int .i64 av.sq,.int .i64 av.wk,.int .i64 av.ep,.slice av.a av.l.length av.c,.bool av.en]) (by simp)).1.lt;have h2:=M.size;omega:w.heap.size+1 < N.heap.size)
  have DO:=Hy (show ∀ b o sp,a9=some ⟨b,o,sp⟩->D.l≠[]->b≠N.heap.size from fun b o sp e z q=>by
   obtain ⟨x,xs,hx⟩:=List.exists_cons_of_ne_nil z;obtain ⟨b',o',e',Cy,_⟩:=B7.2.2.2.2 0 x (by rw [hx];rfl);rw [e] at e';cases e';omega)
  have Cj:=Hy AH;clear M B7 Ak B3 B4 Bw AG Cz AH H;obtain ⟨sj,id,CC,Al,AJ,Ed,A2,E⟩:=zbd (wn:=wn) F.js.fit.ok Bs.o;have AC:=Hy (Qbc (n:=ns) F.js.fit.ok A2);have T:=F.js.fit.ok.tl;have Bz:=Ah.o;obtain ⟨u0,u1,u2,u3,u4,u5,u6,u7⟩:=c8 F.hd;have I:=Yaa O3 A p S D.q wn W3 F.js.jn.cw (by rw [Al];exact zo (by omega) (by omega)) (by rw [F.js.cps];omega) (by rw [F.js.c_.1];exact C.wk) (by omega) F.js.slot4 (by omega);unfold CaE at I;rw [F.js.cps,if_pos A2,E] at I
  have R:=Hy I;have ⟨S2,Cu⟩:=gn (S.cancel D.q ns);have J:=Hy (F.js.fit.cancel D.q);rw [Cu] at R J AC;have Cf:=Hy Al;have CU:=Hy CC;have CO:=Hy AJ;have CZ:=Hy T;clear I A2 E Cu AJ T CC Al Bz;have x2:W3.cell? ⟨w.heap.size,2,none⟩=some (.int .i64 c.wk):=F.cell (g:=w.heap.size) (e:=25) (cs:=[.slice c.aw c.nw c.cw,.slice c.ac c.nc c.cc,.int .i64 c.wk,.int .i64 c.cp,.int .i64 c.sl,.int .i64 c.ba,.int .i64 c.le,.int .i64 c.he,.int .i64 c.fi,.int .i64 c.ca,.int .i64 c.ji,.int .i64 c.ne]) (by simp) 2;go_wp2_with (rw [Cj.o])
  clear Cj u0 u1 u2 u3 u4 u5 u6 u7;refine R.mono ?_;clear R;rintro e w6 ⟨vp,O6,rfl,C1,Dj,f,W⟩;have BX:=Hy (F.js.jn.cstep C1 f W);have Ai:=Hy (show Blk w6 N.heap.size 65 [D.s,D.q,D.h,D.sq,D.wk,D.ep,.slice a9 D.l.length c9,.bool D.en]/\Blk w6 w.heap.size 25 [.slice c.aw c.nw c.cw,.slice c.ac c.nc c.cc,c.wk,c.cp,c.sl,c.ba,c.le,c.he,c.fi,c.ca,c.ji,c.ne] from ⟨F.hd.frm W (by rw [(F.box _ (List.mem_cons_self ..)).2];decide),(F.box (w.heap.size,25,[.slice c.aw c.nw c.cw,.slice c.ac c.nc c.cc,.int .i64 c.wk,.int .i64 c.cp,.int .i64 c.sl,.int .i64 c.ba,.int .i64 c.le,.int .i64 c.he,.int .i64 c.fi,.int .i64 c.ca,.int .i64 c.ji,.int .i64 c.ne]) (by simp)).1.frm W (by rw [(F.box (w.heap.size,25,[.slice c.aw c.nw c.cw,.slice c.ac c.nc c.cc,.int .i64 c.wk,.int .i64 c.cp,.int .i64 c.sl,.int .i64 c.ba,.int .i64 c.le,.int .i64 c.he,.int .i64 c.fi,.int .i64 c.ca,.int .i64 c.ji,.int .i64 c.ne]) (by simp)).2];decide)⟩)
  have AW:=Hy (Br.boxW W (fun _ b o sp e=>by rw [Bp.o b o sp e];decide))
  have AT:=Hy (show D.l≠[]->∀ b o sp,a9=some ⟨b,o,sp⟩->O6 b=0 from fun z b o sp e=>by
   obtain ⟨x,xs,hx⟩:=List.exists_cons_of_ne_nil z;obtain ⟨b',o',e',Cy,_⟩:=Br.2.2.2.2 0 x (by rw [hx];rfl);have q:=e;rw [e'] at q;cases q;rw [f _ Cy];exact Bp.o _ _ _ e')
  have CT:=Hy (by rw [f _ F.hd.lt];exact (F.box _ (List.mem_cons_self ..)).2:O6 N.heap.size=0);have AB:=Hy F.js.c_;have Ad:=Hy F.js.cps;obtain ⟨ao,lc,rfl,A4,Do⟩:=Dj;rw [Qi] at A4;have Cc:=Hy A4;clear C1 f W A4 Do F Br Bp;have x2:=Ai.2.cell 2;rw [Qi];have Dr:(c.wk != (wn:Int))=false:=by rw [C.wk];simp
  have CI:((wn:Int) != c.wk)=false:=by rw [C.wk];simp
  go_wp2_with fail;have Ce:=Hy (Za (enc:=LV.cells) LV.len rfl (by rw [Qi];exact Cc.o:w6.ownsRow W3.heap.size 51 2 (.slice ao (stopsL sj id wn).length lc) (stopsL sj id wn).length _));have BA:=fun V=>ZaG (sj:Nat) (id:Nat) (sj:Nat) (id:Nat) V;rw [show MV.same (.stop (sj:Nat) (id:Nat)) (.stop (sj:Nat) (id:Nat))=true from by simp [MV.same]] at BA;have Ch:=Hy BA;clear BA Cc x2 Dr CI;have b0:w6.cell? ⟨N.heap.size,0,none⟩=some (.int .i64 (sj:Nat)):=by rw [<- CU.o];exact Ai.1.cell 0
  have Cq:w6.cell? ⟨N.heap.size,1,none⟩=some (.int .i64 (id:Nat)):=by rw [<- Cf.o];exact Ai.1.cell 1
  have U:=Hy (And.intro b0 Cq);clear b0 Cq;go_loopw [16] (fun v wr=>OvI wn w6 v wr) (fun v _=>wn - (intOf v).toNat)
  case atStart=>exact ⟨0,nz _,rfl,bf _ _⟩
  case round=>
   obtain ⟨i,hi,rfl,Ap⟩:=hrel
   by_cases A3:i < wn
   ·have e1:(i:Int) < (wn:Int):=by omega
    have e2:(0:Int)<=(i:Int):=by omega
    obtain ⟨P,Q,rfl,_,E⟩:=Ce.2.2.2.2 i _ (xbd A3);have l0:Ci w6 P (Q+i * 2) ((i:Int)+1):=E 0 (by decide);have l1:Cl w6 P (Q+i * 2+1) (.iface 87 (.agg #[(sj:Nat),(id:Nat)])):=E 1 (by decide);let Cn:World->Prop:=fun w'=>Ci w' P (Q+i * 2) ((i:Int)+1)/\Cl w' P (Q+i * 2+1) (.iface 87 (.agg #[(sj:Nat),(id:Nat)]))/\Ci w' N.heap.size 0 (sj:Nat)/\Ci w' N.heap.size 1 (id:Nat);have Bk:=Hy (fun (V:World) (hV:Below w6.heap.size w6 V)=>show Cn V from ⟨(hV.cell (cell?_lt l0)).trans l0,(hV.cell (cell?_lt l1)).trans l1,(hV.cell (cell?_lt U.1)).trans U.1,(hV.cell (cell?_lt U.2)).trans U.2⟩)
    have AA:=Hy (show Below w6.heap.size w6 wr.drew from Ap.o.drew);have CX:=Hy (Bk.o _ AA.o);have ew:IntKind.i64.wrap ((i:Int)+1)=(i:Int)+1:=zq _ (by omega) (by omega);clear E l0 l1;go_upto_region 94 with fail;refine rg Cn fun Av=>?_;(iterate 20 refine tq 0 ?_);refine rdy 20 fun K hK=>?_;go_simp;refine (Ch.o _).mono ?_;rintro e w8 ⟨rfl,y⟩;have Bi:=Hy (AA.o.trans (y.mono AA.o.size));clear y;have CY:=Hy (Bk.o _ Bi.o);go_wp2_with fail;refine hk hK fun Av=>?_;clear hK K;refine tk 21 ?_;refine tk 22 ?_;refine dn ?_;clear Av CX CY Bk AA;go_wp2_with fail
    go_roundw
    case rel=>first | exact ⟨i+1,by omega,by go_num,Bi.o⟩ | ((repeat apply Exists.intro);exact ⟨⟨i+1,by omega,by go_num,Bi.o⟩,rfl⟩)
    case measure=>first | (simp [intOf];done) | (simp [intOf];omega)
   obtain rfl:i=wn:=by omega
   clear A3 hi Ce Ch U;have Bl:=Hy (BX.bel0 Ap.o);have AX:=Hy (AW.below Ap.o rfl);have Ac:=Hy (Ai.1.below Ap.o Ai.1.lt);have C9:D.l≠[]->∀ b o sp,a9=some ⟨b,o,sp⟩->O6 b=0:=AT.o;have DA:=Ah.o;have T:=J.ok.tl;clear Ap BX AW Ai C9;have u:=yaK wr Bl.cw (fun t ht=>(J.it t ht).1) (by omega);have An:=Hy u;clear u;go_wp2_with fail;refine An.mono ?_;clear An;rintro e w8 ⟨it,Df,Dd,rfl,CF,y⟩;have ⟨O8,Aw⟩:=gn (O6.upd wr.heap.size 0);have AK:=Bl.below y (AgO.upd wr.heap.size 0 O6)
   rw [Aw] at AK;have CP:=Hy AK;have AE:=Hy CF;have AY:=Hy (AX.below y rfl);have AQ:=Hy (Ac.below y Ac.lt);have Bq:=Hy (show ∀ b,wr.heap.size<=b->O8 b=0 from fun b G=>by rw [<- Aw];exact Own.upd_ge G);have Cd:=Hy (by rw [<- Aw,Own.upd_lt Ac.lt];exact CT.o:O8 N.heap.size=0);have AU:=Hy (show D.l≠[]->∀ b o sp,a9=some ⟨b,o,sp⟩->O8 b=0 from fun z b o sp e=>by by_cases hl:b < wr.heap.size;(rw [<- Aw,Own.upd_lt hl];exact AT.o z b o sp e);exact Bq.o b (by omega));obtain ⟨v0,v1,v2,v3,v4,v5,v6,v7⟩:=c8 AQ.o
   have I:=ZD O8 A p S2 D.s D.q D.h D.sq D.wk D.ep D.l D.en a9 c9 bb i w8 AK.cw AY.o (fun z b o sp e=>by rw [AU.o z b o sp e];decide) (fun x hx=>by have:=CV.o x hx;unfold maxLen;omega) Cg.o (by rw [Ad.o];exact J.ok) (by omega) (by rw [Ad.o];omega) (by rw [J.c,AB.1];exact C.wk) (by omega) (by rw [J.c,AB.2.1];omega) (by rw [J.c,AB.2.1];omega);unfold ReE at I;rw [Ad.o,ybd AC.2] at I;have R:=Hy I;clear I CF y Aw AK Bl AX Ac;have ⟨ts,BB⟩:=gn S2.told;have Bt:=Hy BB
   rw [BB] at AE T;clear BB;have ⟨m,hm⟩:=gn ts.length;have Bo:=Hy hm;rw [hm] at T;rw [Bt.o,hm];clear hm;have Bb:=Hy T;clear T;go_wp2_with fail;clear v0 v1 v2 v3 v4 v5 v6 v7;refine R.mono ?_;clear R;rintro e w9 ⟨vp,O9,A9,rfl,C2,CB,Dk,Bx,AI⟩;have Bm:=Hy (CP.cstep C2 Bx AI);have BT:=Hy (by rw [CB];exact Ad.o:A9.cps.length=ns);have AZ:=Hy (AE.frm AI (fun b G _ q=>by rw [Bq.o b G] at q;exact absurd q (by decide)));have BR:=Hy (AQ.frm AI (by rw [Cd.o];decide));obtain ⟨po,pc,rfl,-,-⟩:=Dk
   have CM:=Hy Bx;clear C2 CB Bx AI AY AU;have x1:=BR.cell 1;have T:=Bb.o;have Bz:=Ah.o;have Al:=Cf.o;have AJ:=CO.o;have CG:=CZ.o;have I:=Yaa O9 A9 p S2 D.q i w9 Bm.cw (by rw [Al];exact zo (by omega) (by omega)) (by rw [BT.o];omega) (by rw [J.c,AB.1];exact C.wk) (by omega) J.slot4 (by have h1:=J.ok.tl;omega);unfold CaE at I;rw [AC.1,if_neg (by exact Bool.false_ne_true),Ybc AC.1] at I;have R:=Hy I;clear I Al AJ CG T Bz;go_wp2_with fail;clear x1;refine R.mono ?_
   clear R;rintro e D4 ⟨vq,Oa,rfl,C3,Dl,Cx,B0⟩;have Bn:=Hy (Bm.cstep C3 Cx B0);have CR:=Hy (show ∀ b,wr.heap.size<=b->b < w8.heap.size->O9 b=0 from fun b G M=>by rw [CM.o b M];exact Bq.o b G);have Ba:=Hy (AZ.frm2 AE.o B0 (fun b G M q=>by rw [CR.o b G M] at q;exact absurd q (by decide)));clear C3 Dl Cx B0 Bm AZ AE;have u:=yaK D4 Bn.cw (fun t ht=>(J.it t ht).1) (by rw [Bt.o,Bo.o];have:=Bb.o;have:=Ah.o;omega);unfold AlE at u;rw [Bt.o] at u;have An:=Hy u;clear u;go_wp2_with fail
   refine An.mono ?_;clear An;rintro e wb ⟨Dq,Dg,De,rfl,Bf,Aj⟩;have BY:=Hy (Bn.bel0 Aj);have As:=Hy (zbc ts Dq it Dg Df De Dd wb Bf.rd (Ba.below Aj).rd);clear Bf Aj Ba Bn;try rw [Bo.o] at As
   try rw [Bo.o]
   go_wp2_with fail;refine As.mono ?_;clear As;rintro e wc ⟨rfl,C0⟩;have Aq:=Hy (BY.bel0 C0).bel;clear C0 BY;go_wp2_with fail;refine (Yw _).mono ?_;rintro e BH ⟨rfl,G⟩;have Z:=Hy (Aq.trans (G.mono Aq.size));clear G;go_wp2_with fail;go_ret;exact ⟨rfl,Z.o⟩
end Go.Proofs.YtinkbgeckjbnbaaGreat
