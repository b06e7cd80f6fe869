/- Lemmas (part 27). -/
import Derived.Test.YtinkbgeckjbnbaaGreatZw26
namespace Go.Proofs.YtinkbgeckjbnbaaGreat
open Go.RowKit Go.Proofs.Tryz
set_option autoImplicit true
set_option relaxedAutoImplicit true
set_option linter.unusedVariables false
set_option linter.unusedSimpArgs false
set_option maxRecDepth 100000
set_option maxHeartbeats 32000000
def undone (t:TS):Bool:=!t.done&&!t.canc
def cntU (l:List TS):Nat:=l.countP undone
theorem Yay (l:List TS) (t:TS):cntU (l++[t])=cntU l+(if undone t=true then 1 else 0):=by
 unfold cntU;rw [List.countP_append];cases h:undone t <;> simp [h]
theorem XY {α:Type} (l:List α) (d:α) (p:α->Bool):((List.range l.length).filter (fun i=>p (l.getD i d))).length=l.countP p:=by
 rw [<- List.countP_eq_length_filter]
 have e:l=(List.range l.length).map (fun i=>l.getD i d):=by
  refine List.ext_getElem (by simp) (fun i h1 A=>?_);simp only [List.getElem_map,List.getElem_range,List.getD_eq_getElem?_getD,List.getElem?_eq_getElem h1,Option.getD_some]
 conv=>rhs;rw [e]
 rw [List.countP_map];rfl
theorem Zak {S:CS} {C:CfgM} {ns sl:Nat} {b:Int} (h:S.Fit C ns sl b) (l:ns<=6):cntU S.told<=sl/\S.tm.length<=cntU S.told * ns:=by
 have ⟨U,P⟩:=gn ((List.range S.told.length).filter (fun i=>undone (S.told.getD i TS.zero)));have ⟨J,E⟩:=gn ((List.range S.L.length).filter (fun j=>decide (S.L.getD j 0≠0)));have T:U.length=cntU S.told:=by rw [<- P];exact XY S.told TS.zero undone
 have V:U.Nodup:=by rw [<- P];exact List.nodup_range.filter _
 have R:J.Nodup:=by rw [<- E];exact List.nodup_range.filter _
 have f:J.length<=sl:=by rw [<- E,<- h.L];exact nr (List.length_filter_le _ _) (by simp)
 have B:∀ j id,S.L[j]?=some id->S.L.getD j 0=id:=fun j id e=>by rw [List.getD_eq_getElem?_getD,e];rfl
 have I:∀ j N,j∈J->N∈J->S.L.getD j 0=S.L.getD N 0->j=N:=fun j N h1 A e=>by
  rw [<- E] at h1 A;have H:=of_decide_eq_true (List.mem_filter.1 h1).2;have a:=of_decide_eq_true (List.mem_filter.1 A).2;exact h.ok.sl.one j N _ (Xk H) (by rw [e];exact Xk a) H
 have g:U.length<=J.length:=by
  have G:(U.map (·+1)).Nodup:=by
   rw [List.nodup_iff_pairwise_ne,List.pairwise_map];exact (List.nodup_iff_pairwise_ne.1 V).imp (fun D e=>D (by omega))
  have K:U.map (·+1)⊆J.map (fun j=>S.L.getD j 0):=by
   intro x M;obtain ⟨i,hi,rfl⟩:=List.mem_map.1 M;rw [<- P] at hi;obtain ⟨h1,A⟩:=List.mem_filter.1 hi;have Y:=List.mem_range.1 h1;have m:S.told[i]?=some (S.told.getD i TS.zero):=by rw [List.getD_eq_getElem?_getD,List.getElem?_eq_getElem Y];rfl
   unfold undone at A;simp only [Bool.and_eq_true,Bool.not_eq_true'] at A;obtain ⟨j,F⟩:=List.getElem?_of_mem (h.und i _ m A.1 A.2);refine List.mem_map.2 ⟨j,?_,B j _ F⟩;rw [<- E];exact List.mem_filter.2 ⟨List.mem_range.2 (lg F).1,by rw [B j _ F];simp⟩
  have:=G.length_le_of_subset K;simpa using this
 have Q:J.length<=U.length:=by
  have G:(J.map (fun j=>S.L.getD j 0)).Nodup:=by
   rw [List.nodup_iff_pairwise_ne,List.pairwise_map];exact (List.nodup_iff_pairwise_ne.1 R).imp_of_mem (fun h1 A D e=>D (I _ _ h1 A e))
  have K:J.map (fun j=>S.L.getD j 0)⊆U.map (·+1):=by
   intro x M;obtain ⟨j,F,rfl⟩:=List.mem_map.1 M;rw [<- E] at F;have H:=of_decide_eq_true (List.mem_filter.1 F).2;have G:=lm (Xk H);have q:=h.ok.q _ G H;have k:=h.ok.sl.le _ G;refine List.mem_map.2 ⟨S.L.getD j 0 - 1,?_,by omega⟩;rw [<- P];refine List.mem_filter.2 ⟨List.mem_range.2 (by omega),?_⟩;rw [List.getD_eq_getElem?_getD,q.told];rfl
  have:=G.length_le_of_subset K;simpa using this
 refine ⟨by omega,?_⟩
 have K:S.tm.map (·.2)⊆J.flatMap (fun j:Nat=>(List.range ns).map (fun s:Nat=>6 * (j:Int)+(s:Int))):=by
  intro x M;obtain ⟨y,n,rfl⟩:=List.mem_map.1 M;obtain ⟨j,s,id,h1,A,c,d⟩:=h.ti.ids y n;refine List.mem_flatMap.2 ⟨j,?_,List.mem_map.2 ⟨s,List.mem_range.2 c,d.symm⟩⟩;rw [<- E];exact List.mem_filter.2 ⟨List.mem_range.2 (lg h1).1,by rw [B j _ h1];simpa using A⟩
 have Z:=(show (S.tm.map (·.2)).Nodup from h.ti.nod).length_le_of_subset K
 have W:∀ (J:List Nat),(J.flatMap (fun j:Nat=>(List.range ns).map (fun s:Nat=>6 * (j:Int)+(s:Int)))).length=J.length * ns:=by
  intro J;induction J with
  | nil=>simp
  | cons j J o=>rw [List.flatMap_cons,List.length_append,o,List.length_map,List.length_range,List.length_cons,Nat.succ_mul];omega
 rw [W,List.length_map] at Z;rw [<- T];exact nr Z (Nat.mul_le_mul_right _ Q)
def BoR (w:World) (p r:Nat) (c:CfgM) (ns sl n:Nat) (bx:List (Nat×TypeId×List Value)) (v:Value) (wr:World):Prop:=∃ (i:Nat) (O:Own) (A:CA) (B:RA) (S:CS),i<=n/\v=.int .i64 i/\Hid (LS w wr O A p B r c S ns sl (3+24 * (i:Int)) bx)
def BiR (l:List TS) (m:Nat) (w7:World) (v11 v12:Value) (wr:World):Prop:=∃ k:Nat,k<=m/\v12=.int .i64 k/\v11=.int .i64 (cntU (l.take k):Nat)/\Hid (Below w7.heap.size w7 wr)
theorem bounds24_law (c:CfgM) (a:Option Addr) (n cap:Nat) (l:List AV) (w:World) (Ac:CfgOK w c) (hr:RdE AV.cells 15 w a n cap l) (Az:∀ x∈l,x.good w):
  Calls prog 6 #[c.val,.slice a n cap] w fun e w'=>e=.returned (.bool true)/\Below w.heap.size w w':=by
 have ⟨N,Af⟩:=gn (w.alloc (.cells #[.slice c.aw c.nw c.cw,.slice c.ac c.nc c.cc,c.wk,c.cp,c.sl,c.ba,c.le,c.he,c.fi,c.ca,c.ji,c.ne] 25));have Ab:Below w.heap.size w N:=by rw [<- Af];exact (bf _ w).alloc (nl _) _
 have L:Blk N w.heap.size 25 [.slice c.aw c.nw c.cw,.slice c.ac c.nc c.cc,c.wk,c.cp,c.sl,c.ba,c.le,c.he,c.fi,c.ca,c.ji,c.ne]:=by rw [<- Af];exact hn_ w _
 have HB:=Hy Ab;have HX:=Hy L;have Ad:=Hy Ac;have HR:=Hy hr;have Bu:=Hy Az;have HN:=Hy hr.1;have A0:=Xab c a n cap l 80 N (Ac.below Ab rfl) (hr.below Ab rfl) (fun x L=>(Az x L).below Ab) (by decide);unfold CfgM.val at A0 ⊢;have AM:=Hy A0;have BZ:=hr.2.1;have B4:=hr.2.2.1;unfold maxLen at B4;have x0:N.cell? ⟨w.heap.size,0,none⟩=some (.slice c.aw c.nw c.cw):=L.cell 0;have x1:N.cell? ⟨w.heap.size,1,none⟩=some (.slice c.ac c.nc c.cc):=L.cell 1;have x2:N.cell? ⟨w.heap.size,2,none⟩=some (.int .i64 c.wk):=L.cell 2;have x3:N.cell? ⟨w.heap.size,3,none⟩=some (.int .i64 c.cp):=L.cell 3
 have x4:Ci N w.heap.size 4 c.sl:=L.cell 4;have x5:N.cell? ⟨w.heap.size,5,none⟩=some (.int .i64 c.ba):=L.cell 5;have x6:N.cell? ⟨w.heap.size,6,none⟩=some (.int .i64 c.le):=L.cell 6;have x7:N.cell? ⟨w.heap.size,7,none⟩=some (.int .i64 c.he):=L.cell 7;have x8:N.cell? ⟨w.heap.size,8,none⟩=some (.int .i64 c.fi):=L.cell 8;have x9:N.cell? ⟨w.heap.size,9,none⟩=some (.int .i64 c.ca):=L.cell 9;have T:N.cell? ⟨w.heap.size,10,none⟩=some (.int .i64 c.ji):=L.cell 10;have U:N.cell? ⟨w.heap.size,11,none⟩=some (.int .i64 c.ne):=L.cell 11;clear Ab L Ac hr Az A0
 go_in;go_wp2_with (rw [Af]);clear Af x0 x1 x2 x3 x4 x5 x6 x7 x8 x9 T U;refine AM.mono ?_;clear AM;rintro e w2 ⟨g,rfl,hg,H⟩;have Y:=Hy (HB.trans (H.mono HB.size));have Ae:=Hy (HX.below H HX.lt);obtain ⟨x0,x1,x2,x3,x4,x5,x6,x7,x8,x9,T,U⟩:=c12 Ae.o;clear H HB HX;have HG:=Hy hg;clear hg;cases g;rotate_left 1
 ·go_wp2_with fail
  refine (Yw _).mono ?_;rintro e Bp ⟨rfl,H⟩;have z:=Hy (Y.trans (H.mono Y.size));clear H;go_wp2_with fail;go_ret;exact ⟨rfl,z.o⟩
 have Z:=Hy (HG.o rfl);clear HG;have Ag:=Q1 c w2 (Ad.below Y.o rfl);have ⟨m,hm⟩:=gn (mayC c);rw [hm] at Ag;unfold CfgM.val at Ag;have AO:=Hy Ag;have HM:=Hy hm;clear Ag hm;go_wp2_with fail;clear x0 x1 x2 x3 x4 x5 x6 x7 x8 x9 T U;refine AO.mono ?_;clear AO;rintro e w3 ⟨rfl,H⟩;have M:=Hy (Y.trans (H.mono Y.size));have Aa:=Hy (Ae.below H Ae.lt);obtain ⟨x0,x1,x2,x3,x4,x5,x6,x7,x8,x9,T,U⟩:=c12 Aa.o;clear H Y Ae;cases m
 ·go_wp2_with fail
  refine (Yw _).mono ?_;rintro e Bp ⟨rfl,H⟩;have z:=Hy (M.trans (H.mono M.size));clear H;go_wp2_with fail;go_ret;exact ⟨rfl,z.o⟩
 obtain ⟨ns,wn,sl,Bd⟩:=ZaV HM.o Z.1;have F:=Hy Bd;have A3:=Xaa (lawO w) c w3 (Ad.below M.o rfl) HM.o;unfold CfgM.val at A3;have AQ:=Hy A3;clear Bd A3;go_wp2_with fail;clear x0 x1 x2 x3 x4 x5 x6 x7 x8 x9 T U;refine AQ.mono ?_;clear AQ;rintro e w4 ⟨p,ac,cc,A,O4,rfl,Bf,Be,AX,H⟩;have AK:=Hy Bf;have AJ:=Hy Be;have Ar:=Hy AX;have Al:=Hy H;have AT:=Hy Aa.o;have y:=Hy M.o;clear Bf Be AX;have AI:=Hy (M.trans (H.mono M.size));have AS:=Hy (Aa.below H Aa.lt)
 obtain ⟨x0,x1,x2,x3,x4,x5,x6,x7,x8,x9,T,U⟩:=c12 AS.o;clear H M Aa;have Ao:CfA O4 w4 c:=CfA.law Ad.o AI.o (fun b H=>by rw [Ar.o b (Nat.lt_of_lt_of_le H y.size)];exact Qav H);have A2:=qap O4 c w4 Ao F.short HM.o (qaj HM.o).2.2;unfold CfgM.val RNeE at A2;have AP:=Hy A2;clear Ao A2;go_wp2_with fail;clear x0 x1 x2 x3 x4 x5 x6 x7 x8 x9 T U;refine AP.mono ?_;clear AP;rintro e w5 ⟨r,B,O5,rfl,Bk,AY,Bg⟩;have I:=Hy (LS.new (sl:=sl) (bx:=[(w.heap.size,25,[.slice c.aw c.nw c.cw,.slice c.ac c.nc c.cc,.int .i64 c.wk,.int .i64 c.cp,.int .i64 c.sl,.int .i64 c.ba,.int .i64 c.le,.int .i64 c.he,.int .i64 c.fi,.int .i64 c.ca,.int .i64 c.ji,.int .i64 c.ne])]) F.o y.o (fun x L=>by simp only [List.mem_singleton] at L;subst L;exact ⟨AT.o,nl _⟩) AK.o AJ.o Ar.o Al.o Bk AY Bg)
 clear Bk AY Bg AK AJ Ar Al AT y AS AI;have Ce:=fun V=>yn p 0 V;obtain ⟨Ca,B7,Cj,Ck,Cf,Cg,Cb,Cc,BN,-⟩:=F.bd;go_wp2_with fail;go_loopw [9] (fun v wr=>BoR w p r c ns sl n [(w.heap.size,25,[.slice c.aw c.nw c.cw,.slice c.ac c.nc c.cc,.int .i64 c.wk,.int .i64 c.cp,.int .i64 c.sl,.int .i64 c.ba,.int .i64 c.le,.int .i64 c.he,.int .i64 c.fi,.int .i64 c.ca,.int .i64 c.ji,.int .i64 c.ne])] v wr) (fun v _=>n - (intOf v).toNat)
 case atStart=>exact ⟨0,O5,A,B,_,nz _,rfl,I.o⟩
 case round=>
  clear I;obtain ⟨i,O,A,B,S,hi,rfl,I⟩:=hrel
  by_cases Bj:i < n
  rotate_left 1
  ·obtain rfl:i=n:=by omega
   clear Bj hi;go_wp2_with fail;refine (Yw _).mono ?_;rintro e Bp ⟨rfl,H⟩;have z:=Hy (I.bel.trans (H.mono I.bel.size));clear H;go_wp2_with fail;go_ret;exact ⟨rfl,z.o⟩
  have e1:(i:Int) < (n:Int):=by omega
  have e2:(0:Int)<=(i:Int):=by omega
  obtain ⟨v,hv⟩:∃ x,l[i]?=some x:=⟨l[i]'(by rw [HN.o];exact Bj),le_ _⟩;have Aj:=lm hv;have Aq:=(Bu.o v Aj).ok (Z.2.2 v Aj).1 (Z.2.2 v Aj).2;obtain ⟨P,R,rfl,_,D⟩:=(HR.below I.bel rfl).2.2.2.2 i v hv;have t0:wr.cell? ⟨P,R+i * 15,none⟩=some (.int .i64 v.d):=D 0 (by decide);have t1:wr.cell? ⟨P,R+i * 15+1,none⟩=some (.int .i64 v.i):=D 1 (by decide);have t2:wr.cell? ⟨P,R+i * 15+2,none⟩=some (.int .i64 v.j):=D 2 (by decide);have t3:wr.cell? ⟨P,R+i * 15+3,none⟩=some (.int .i64 v.x):=D 3 (by decide);have t4:wr.cell? ⟨P,R+i * 15+4,none⟩=some (.string v.tx):=D 4 (by decide)
  have t5:Ci wr P (R+i * 15+5) v.k:=D 5 (by decide);have t6:wr.cell? ⟨P,R+i * 15+6,none⟩=some (.int .i64 v.n):=D 6 (by decide);have t7:wr.cell? ⟨P,R+i * 15+7,none⟩=some (.int .i64 v.s):=D 7 (by decide);have t8:wr.cell? ⟨P,R+i * 15+8,none⟩=some (.int .i64 v.q):=D 8 (by decide);have t9:wr.cell? ⟨P,R+i * 15+9,none⟩=some (.int .i64 v.h):=D 9 (by decide);have B9:wr.cell? ⟨P,R+i * 15+10,none⟩=some (.int .i64 v.sq):=D 10 (by decide);have BA:wr.cell? ⟨P,R+i * 15+11,none⟩=some (.int .i64 v.wk):=D 11 (by decide);have BB:wr.cell? ⟨P,R+i * 15+12,none⟩=some (.int .i64 v.ep):=D 12 (by decide)
  have BC:Cl wr P (R+i * 15+13) (.slice v.a v.l.length v.c):=D 13 (by decide);have BD:wr.cell? ⟨P,R+i * 15+14,none⟩=some (.bool v.en):=D 14 (by decide);have AL:=Hy (Qak c ns wn sl F.o w O A p B r S (3+24 * (i:Int)) v wr I.js (by have:=Z.2.1;have:=HN.o;omega) Aq);clear hv Aj Aq D;go_wp2_with fail;refine AL.mono ?_;clear AL t0 t1 t2 t3 t4 t5 t6 t7 t8 t9 B9 BA BB BC BD;rintro e w6 ⟨O6,A6,B6,rfl,Bi,AZ,Bh⟩;have G:=Hy (I.act Bi AZ Bh);clear Bi AZ Bh I;have ⟨S6,AW⟩:=gn (S.act c ns wn v);rw [AW] at G
  clear AW;have Ba:=yaK w6 G.js.jn.cw (fun t ht=>(G.js.fit.it t ht).1) (by have:=G.js.fit.ok.tl;have:=Z.2.1;have:=HN.o;omega);have As:=Hy Ba;have J:=Zak G.js.fit (by omega);have ⟨ts,A4⟩:=gn S6.told;rw [A4] at As J;have Bz:=Hy (by rw [<- A4];have:=G.js.fit.ok.tl;have:=Z.2.1;have:=HN.o;omega:ts.length<=100000);have Bt:=Hy J;clear Ba J A4;go_wp2_with fail;refine As.mono ?_;clear As;rintro e w7 ⟨it,ao,BU,rfl,Bl,Bb⟩;have Am:=Hy (G.bel0 Bb);have By:=Hy Bl.rd
  have ⟨m,hm⟩:=gn ts.length;have AN:=Hy hm;have B5:=Bz.o;rw [hm] at B5 ⊢;clear Bl Bb G hm;go_wp2_with fail;go_loopw [11,12] (fun BE BF wr=>BiR ts m w7 BE BF wr) (fun _ v _=>m - (intOf v).toNat)
  case atStart=>exact ⟨0,nz _,rfl,rfl,bf _ _⟩
  case round=>
   obtain ⟨k,B3,rfl,rfl,At⟩:=hrel
   by_cases Ap:k < m
   ·have e3:(k:Int) < (m:Int):=by omega
    have e4:(0:Int)<=(k:Int):=by omega
    obtain ⟨tt,A5⟩:∃ x,ts[k]?=some x:=⟨ts[k]'(by rw [AN.o];exact Ap),le_ _⟩;obtain ⟨tb,rfl,_,Aw,_⟩:=(By.below At.o).row k tt A5;have c5:wr.cell? ⟨tb,k * 7+5,none⟩=some (.bool tt.done):=Aw 5 (by decide);have c6:wr.cell? ⟨tb,k * 7+6,none⟩=some (.bool tt.canc):=Aw 6 (by decide);have f:=Yay (ts.take k) tt;rw [<- xC A5] at f;have B2:cntU (ts.take k)<=k:=nr List.countP_le_length (by rw [List.length_take];omega);have ⟨u,hu⟩:=gn (cntU (ts.take k));rw [hu] at f B2 ⊢;unfold undone at f;have ⟨B1,Ay⟩:=gn tt.done
    have ⟨cn,Ax⟩:=gn tt.canc;rw [Ay] at c5;rw [Ax] at c6;rw [Ay,Ax] at f;have Bx:=Hy f;clear A5 Aw f hu Ay Ax;have BY:IntKind.i64.wrap ((u:Int)+1)=(u:Int)+1:=zq _ (by omega) (by omega);cases B1 <;> cases cn
    rotate_left
    rotate_left
    rotate_left
    all_goals
     go_wp2_with fail
     go_roundw
     case rel=>exact ⟨k+1,by omega,by go_num,by rw [Bx.o];first | rfl | (simp;done),At.o⟩
     case measure=>simp [intOf];omega
   obtain rfl:k=m:=by omega
   clear Ap B3;have J:=Bt.o;rw [List.take_of_length_le (by rw [AN.o];exact Nat.le_refl _)];have ⟨u,hu⟩:=gn (cntU ts);rw [hu] at J ⊢;clear hu;have W:=Hy (Am.bel0 At.o);have Au:=Hy (yS wr.drew (W.bel0 (below_drewN (bf _ wr) 1)).js.jn.cw);have ⟨tl,Bm⟩:=gn S6.tm.length;rw [Bm] at J Au;have ⟨qq,Ah⟩:=gn (u * ns);rw [Ah] at J;have Cd:qq<=24:=by rw [<- Ah];have h1:u<=4:=(by omega);exact nr (Nat.mul_le_mul h1 B7) (by decide)
   have BM:IntKind.i64.wrap ((u:Int) * (ns:Int))=(qq:Int):=by rw [show (u:Int) * (ns:Int)=(qq:Int) from by rw [<- Ah];simp];exact zq _ (by omega) (by omega)
   have d1:decide (c.sl < (u:Int))=false:=by simp;have:=F.sl;omega
   have d2:decide ((qq:Int) < (tl:Int))=false:=by simp;omega
   have d3:decide (qq < tl)=false:=by simp;omega
   have BI:=Hy J;clear Bm Ah J;have Ai:=XB c wr.drew (Ad.below (W.bel0 (below_drewN (bf _ wr) 1)).bel rfl);rw [<- F.ns] at Ai;unfold CfgM.val at Ai;have AR:=Hy Ai;clear Ai;have E:=Hy (W.bel0 (below_drewN (bf wr.heap.size wr) 1));let Av:World->Prop:=fun w'=>Cl w' w.heap.size 0 (.slice c.aw c.nw c.cw)/\Cl w' w.heap.size 1 (.slice c.ac c.nc c.cc)/\Ci w' w.heap.size 2 c.wk/\Ci w' w.heap.size 3 c.cp/\Ci w' w.heap.size 4 c.sl/\Ci w' w.heap.size 5 c.ba/\Ci w' w.heap.size 6 c.le/\Ci w' w.heap.size 7 c.he/\Ci w' w.heap.size 8 c.fi/\Ci w' w.heap.size 9 c.ca/\Ci w' w.heap.size 10 c.ji/\Ci w' w.heap.size 11 c.ne
   have Bv:=Hy (show Av wr.drew from ⟨E.o.hd.cell 0,E.o.hd.cell 1,E.o.hd.cell 2,E.o.hd.cell 3,E.o.hd.cell 4,E.o.hd.cell 5,E.o.hd.cell 6,E.o.hd.cell 7,E.o.hd.cell 8,E.o.hd.cell 9,E.o.hd.cell 10,E.o.hd.cell 11⟩);go_upto_region 79 with fail;refine rg Av fun Q=>?_;(iterate 6 refine tq 0 ?_);refine tk 7 ?_;refine tk 8 ?_;refine rdy 6 fun K hK=>?_
   go_simp;refine Au.o.mono ?_;rintro e w' ⟨rfl,rfl⟩;clear Au;go_wp2_with fail;refine hk hK fun Q=>?_;clear hK K
   refine rdy 9 fun K hK=>?_;go_simp;refine AR.o.mono ?_;rintro e w9 ⟨rfl,Bc⟩;have C:=Hy (E.o.bel0 Bc);clear Bc AR;have Bw:=Hy (show Av w9 from ⟨C.o.hd.cell 0,C.o.hd.cell 1,C.o.hd.cell 2,C.o.hd.cell 3,C.o.hd.cell 4,C.o.hd.cell 5,C.o.hd.cell 6,C.o.hd.cell 7,C.o.hd.cell 8,C.o.hd.cell 9,C.o.hd.cell 10,C.o.hd.cell 11⟩);go_wp2_with fail;refine hk hK fun Q=>?_;clear hK K;(iterate 3 refine tq 10 ?_);refine dn ?_
   clear Q Bv Bw E W Am;have An:=Hy (C.mono (b2:=3+24 * ((i+1:Nat):Int)) (by omega));go_wp2_with fail;go_roundw
   case rel=>first | exact ⟨i+1,O6,A6,B6,S6,by omega,by go_num,An.o⟩ | ((repeat apply Exists.intro);exact ⟨⟨i+1,O6,A6,B6,S6,by omega,by go_num,An.o⟩,rfl⟩)
   case measure=>first | (simp [intOf];done) | (simp [intOf];omega)
end Go.Proofs.YtinkbgeckjbnbaaGreat
