/- Lemmas (part 6). -/
import Derived.Test.YtinkbgeckjbnbaaGreatRows
import Derived.Test.YtinkbgeckjbnbaaGreatZw5
namespace Go.Proofs.YtinkbgeckjbnbaaGreat
open Go.RowKit Go.Proofs.Tryz
set_option autoImplicit true
set_option relaxedAutoImplicit true
set_option linter.unusedVariables false
set_option linter.unusedSimpArgs false
set_option maxRecDepth 100000
set_option maxHeartbeats 32000000
def PuR (w:World) (s:PS) (R:Bool) (l:List KeyL) (lb:Nat) (v13 v62:Value) (wr:World):Prop:=∃ (i:Nat) (hd:Bool) (last:KeyL),i<=l.length/\v62=.int .i64 i/\v13=.bool hd/\Hid (Blk wr lb 46 [last.1,last.2])/\Hid (Below w.heap.size w wr)/\Hid (okI s.least hd last (l.drop i)=R)/\Hid (hd=(s.heard||decide (0 < i)))/\Hid (last=(l.take i).getLastD s.last)
theorem yad {least:Int} {hd:Bool} {last x:KeyL} {l:List KeyL} {i:Nat} (h:l[i]?=some x):okI least hd last (l.drop i)=if ((hd&&!kless last x)||decide (x.1 < least))=true then false else okI least true x (l.drop (i+1)):=by
 obtain ⟨A,e⟩:=lg h;rw [List.drop_eq_getElem_cons A,e];rfl
theorem Yy {l:List KeyL} {i:Nat} {x d:KeyL} (h:l[i]?=some x):(l.take (i+1)).getLastD d=x:=by
 rw [List.take_add_one,h];simp
def qa5 (B p k:Nat) (n:Int) (S:List PS) (T:List KeyL) (s:PS) (l:List KeyL) (e:Bool) (gs c:Nat) (M:List MS) (sp:List Value) (ta:Option Addr) (tc:Nat) (w:World) (R:Bool) (e':Ending) (w':World):Prop:=(R=false->e'=.returned (.bool false)/\Below w.heap.size w w')/\(R=true->e'=.returned (.bool true)/\(∃ M',MGx B w' p n (S.set k (s.put l e)) T gs c M' sp ta tc/\WOld w.heap.size M M')/\Frm (fun i=>i=gs) w w')
theorem ya7 (B p k:Nat) (n seq:Int) (S:List PS) (T:List KeyL) (s:PS) (l:List KeyL) (e:Bool) (a:Option Addr) (m cap:Nat) (w:World) (gs c:Nat) (M:List MS) (sp:List Value) (ta:Option Addr) (tc:Nat) (hX:MGx B w p n S T gs c M sp ta tc) (hr:RdE KeyL.cells 2 w a m cap l)
  (hs:S[k]?=some s) (hd:doneP n S T=false) (hw:s.wanted=true) (hq:s.seq=seq) (h5:l.length<=5) (h0:¬ (l.length=0/\e=false)) (Bh:0<=seq/\seq<=1000000) (hB:B<=w.heap.size):
  Calls prog 110 #[.pointer (some ⟨p,0,none⟩),k,seq,.slice a m cap,.bool e] w (qa5 B p k n S T s l e gs c M sp ta tc w (okI s.least s.heard s.last l)):=by
 have AL:=hr.1;obtain ⟨c0,c1,c2,B2,hM,Bg,hT,hp,hg,BU⟩:=hX.read;have A8:=Hy hX;have Bf:k < S.length:=(lg hs).1;obtain ⟨ms,hm⟩:∃ m,M[k]?=some m:=⟨_,le_ (show k < M.length by omega)⟩;have f:=Bg k ms s hm hs;have AI:=Ys B p n S T w hX.mg;rw [hd] at AI;have HD:=Hy AI;have HW:=Hy (f.wanted.trans hw);have A0:=Hy (hM k ms hm);have AH:=Hy (f.seq.trans hq);have Aq:=Hy f.heard;have Ar:=Hy f.last;have AF:=Hy f.least;have AZ:=Hy c1;have HR:=Hy hr;have HS:=Hy hs;have H:=Hy AL
 have ⟨R,hR⟩:=gn (okI s.least s.heard s.last l);rw [hR];have Bb:=Hy hR;have Bc:¬ (m=0/\e=false):=by rw [<- AL];exact h0
 have Bd:m<=5:=by omega
 have d2:decide (5 < m)=false:=by simp;omega
 have BR:decide ((5:Int) < (m:Int))=false:=by simp;omega
 have d1:(ms.seq != seq)=false:=by rw [AH.o];simp
 have HM:=Hy hm;have HQ:=Hy hq;clear hX Bg f hM hT c0 c1 c2 hr hm hs hd hw hq h0 h5 hR AI B2 AL;have BY:=fun o W=>ZL gs o W;generalize S.length=k2 at *
 have d3:m=0->e=true:=by
  intro e1;cases e with
  | true=>rfl
  | false=>exact absurd ⟨e1,rfl⟩ Bc
 clear Bc;have Br:=Hy d3;clear d3
 by_cases AM:m=0
 ·obtain rfl:=Br.o AM
  subst AM;have d4:(((0:Nat):Int) == 0)=true:=rfl;go_in;go_wp2_with fail;refine (xj p gs k2 c k _ AZ.o Bf).mono ?_;rintro e w' ⟨rfl,rfl⟩;go_wp2_with fail;refine HD.mono ?_;rintro e N ⟨rfl,d⟩;have HB:=Hy d;have r:=Hy (A0.below d hg);obtain ⟨s0,s1,s2,s3,s4,s5,s6⟩:=(A0.below d hg).c2;have q:gs < N.heap.size:=nt hg d.size;clear d HD;go_wp2_with fail;refine (Xd gs (k * 7) ms _ r.o).mono ?_;rintro e w' ⟨rfl,rfl⟩;rw [HW.o];go_wp2_with fail;rw [Ar.o] at s4 s5;rw [Aq.o] at s3;rw [AF.o] at s0
  clear s1 s2 s6;have Ao:∀ x:KeyL,(N.alloc (.cells #[x.1,x.2] 46)).cell? ⟨gs,k * 7+3,none⟩=some (.bool s.heard):=fun x=>by rw [World.cell?_alloc_lt _ _ _ (by exact q)];exact s3
  have AN:=Ao s.last;have AO:=Ao (0,⟨#[]⟩);have AP:(N.alloc (.cells #[(),.string ⟨#[]⟩] 46)).cell? ⟨gs,k * 7+4,none⟩=some (.int .i64 s.last.1):=by rw [World.cell?_alloc_lt _ _ _ (by exact q)];exact s4
  have AQ:(N.alloc (.cells #[(),.string ⟨#[]⟩] 46)).cell? ⟨gs,k * 7+5,none⟩=some (.string s.last.2):=by rw [World.cell?_alloc_lt _ _ _ (by exact q)];exact s5
  clear Ao;go_region;have A4:Blk (N.alloc (.cells #[s.last.1,s.last.2] 46)).drew N.heap.size 46 [s.last.1,s.last.2]:=hn_ N _;have A2:Below w.heap.size w (N.alloc (.cells #[s.last.1,s.last.2] 46)).drew:=below_drewN (HB.alloc HB.size _) 1;have D:=Hy A4;have Ac:=Hy A2;have An:w.heap.size<=N.heap.size:=HB.size;have Aj:gs≠N.heap.size:=by omega
  clear A4 A2 AN AO AP AQ s0 s3 s4 s5 q r HB;generalize (N.alloc (.cells #[s.last.1,s.last.2] 46)).drew=w2 at D Ac ⊢;generalize N.heap.size=lb at D An Aj ⊢;go_wp2_with fail;go_loopw [13,62] (fun AX AY wr=>PuR w s R l lb AX AY wr) (fun _ v _=>0 - (intOf v).toNat)
  case atStart=>exact ⟨0,s.heard,s.last,nz _,rfl,rfl,D.o,Ac.o,Bb.o,(by unfold Hid;simp),rfl⟩
  case round=>
   clear D Ac;obtain ⟨i,hd,C,hi,rfl,rfl,D,HB,HO,Av,Aw⟩:=hrel;rw [H.o] at hi
   by_cases AA:i < 0
   ·exact absurd AA (by omega)
   have AK:i=0:=by omega
   subst AK
   have hr:R=true:=by
    rw [<- HO.o,List.drop_eq_nil_of_le (by rw [H.o];exact Nat.le_refl _)];rfl
   subst hr;have Am:C=l.getLastD s.last:=by rw [Aw.o,List.take_of_length_le (by rw [H.o];exact Nat.le_refl _)]
   subst Am;have Y:hd=(s.heard||decide (0 < l.length)):=by rw [Av.o,H.o]
   subst Y;clear HO Aw Av AA;have y0:=D.cell 0;have y1:=D.cell 1;rw [show ([.int .i64 (l.getLastD s.last).1,.string (l.getLastD s.last).2]:List Value)[0]?=some (.int .i64 (l.getLastD s.last).1) from rfl] at y0;rw [show ([.int .i64 (l.getLastD s.last).1,.string (l.getLastD s.last).2]:List Value)[1]?=some (.string (l.getLastD s.last).2) from rfl] at y1;have AE:=Hy (fun W h=>Xu W a 0 cap l h (by omega));have Az:Hid (RdE KeyL.cells 2 wr.drew a 0 cap l):=HR.below (below_drewN HB.o 1) rfl;have Ag:Hid (Blk wr.drew gs 235 (M.flatMap MS.cells++sp)):=A8.G.below (below_drewN HB.o 1) hg
   have AJ:gs < wr.drew.heap.size:=Ag.lt;clear HR;go_wp2_with fail;have ⟨la,Al⟩:=gn (l.getLastD s.last);have ⟨hd,Y⟩:=gn (s.heard||decide (0 < l.length));rw [Al] at y0 y1;rw [Y];have Ar:=Hy Al;have Aq:=Hy Y;clear Al Y;have y:lb < wr.drew.heap.size:=D.lt;go_region_held3 (fun w'=>w'.cell? ⟨lb,0,none⟩=some (.int .i64 la.1)/\w'.cell? ⟨lb,1,none⟩=some (.string la.2)) (exact ⟨by (try simp only [World.cell?_setCell_far,ne_eq,Aj,not_false_eq_true]);first | exact A6 | exact y0,by (try simp only [World.cell?_setCell_far,ne_eq,Aj,not_false_eq_true]);first | exact A7 | exact y1⟩) (first | (go_at_call 100;refine (AE.o _ Az.o).mono ?_;rintro e u ⟨Q,c',rfl,z,V⟩;have Ah:=Hy z;have Au:=Hy V;have F:=Hy (Ag.below V AJ);have A6:=(V.cell (p:=⟨lb,0,none⟩) y).trans y0;have A7:=(V.cell (p:=⟨lb,1,none⟩) y).trans y1;obtain ⟨t0,t1,t2,t3,t4,t5,t6⟩:=(ShAt.of_row F.o HM.o).c2;have f4:=F.frozen (k * 7+4);have f5:=F.frozen (k * 7+5);have f3:=F.frozen (k * 7+3);have f6:=F.frozen (k * 7+6);clear z V))
   all_goals
    have A5:w.heap.size<=wr.drew.heap.size:=HB.size;have Be:gs < w.heap.size:=hg;have J:=Hy (Blk.set (Blk.set (Blk.set (Blk.set F.o (k * 7+4) (.int .i64 la.1)) (k * 7+4+1) (.string la.2)) (k * 7+3) (.bool hd)) (k * 7+6) (.slice Q 0 c'));have Ad:Hid (Frm (fun i=>i=gs) u ((((u.setCell ⟨gs,k * 7+4,none⟩ (.int .i64 la.1)).setCell ⟨gs,k * 7+4+1,none⟩ (.string la.2)).setCell ⟨gs,k * 7+3,none⟩ (.bool hd)).setCell ⟨gs,k * 7+6,none⟩ (.slice Q 0 c'))):=((((Frm.refl (fun i=>i=gs) u).setCell _ _ (.inl rfl)).setCell _ _ (.inl rfl)).setCell _ _ (.inl rfl)).setCell _ _ (.inl rfl)
    have Ae:=Hy ((Frm.below (S:=fun i=>i=gs) ((below_drewN HB.o 1).trans (Au.mono A5))).trans Ad.o (fun i h _=>h));have P:=Hy (za (zi Ah.o A5) Ad.o (fun g Ai e=>by have:=Xa Ah.o g Ai;omega))
    have q1:((((u.setCell ⟨gs,k * 7+4,none⟩ (.int .i64 la.1)).setCell ⟨gs,k * 7+4+1,none⟩ (.string la.2)).setCell ⟨gs,k * 7+3,none⟩ (.bool hd)).setCell ⟨gs,k * 7+6,none⟩ (.slice Q 0 c')).cell? ⟨gs,k * 7+1,none⟩=some (.int .i64 seq):=by
     rw [J.cell,List.getElem?_set_ne (by omega),List.getElem?_set_ne (by omega),List.getElem?_set_ne (by omega),List.getElem?_set_ne (by omega),<- F.cell,t1,AH.o]
    have q2:((((u.setCell ⟨gs,k * 7+4,none⟩ (.int .i64 la.1)).setCell ⟨gs,k * 7+4+1,none⟩ (.string la.2)).setCell ⟨gs,k * 7+3,none⟩ (.bool hd)).setCell ⟨gs,k * 7+6,none⟩ (.slice Q 0 c')).cell? ⟨gs,k * 7+2,none⟩=some (.bool ms.ended):=by
     rw [J.cell,List.getElem?_set_ne (by omega),List.getElem?_set_ne (by omega),List.getElem?_set_ne (by omega),List.getElem?_set_ne (by omega),<- F.cell,t2]
    have g1:=J.frozen (k * 7+1);have g2:=J.frozen (k * 7+2);rename_i U;clear U A6 A7 t0 t1 t2 t3 t4 t5 t6 f3 f4 f5 f6 Ad Ah Au F Az Ag y0 y1;generalize (((u.setCell ⟨gs,k * 7+4,none⟩ (.int .i64 la.1)).setCell ⟨gs,k * 7+4+1,none⟩ (.string la.2)).setCell ⟨gs,k * 7+3,none⟩ (.bool hd)).setCell ⟨gs,k * 7+6,none⟩ (.slice Q 0 c')=w3 at J Ae P q1 q2 g1 g2 ⊢;obtain ⟨B4,B5⟩:=Bh;go_wp2_with fail;go_ret;have Af:Hid (Frm (fun i=>i=gs) w3 ((w3.setCell ⟨gs,k * 7+1,none⟩ (.int .i64 (seq+1))).setCell ⟨gs,k * 7+2,none⟩ (.bool true))):=((Frm.refl (fun i=>i=gs) w3).setCell _ _ (.inl rfl)).setCell _ _ (.inl rfl)
    refine ⟨(fun h=>by cases h),fun _=>⟨rfl,zaO A8.o HM.o HS.o H.o Bd hB (Ae.trans Af.o (fun i h _=>h)) (za P.o Af.o (fun g Ai e=>by have:=Xa P.o g Ai;omega)) (hd:=hd) (la:=la) (by have h7:=Aq.o;rw [H.o] at h7;exact h7.symm) Ar.symm ?_,Ae.trans Af.o (fun i h _=>h)⟩⟩;rw [HQ.o];exact Blk.set (Blk.set J.o _ _) _ _
 have d4:((m:Int) == 0)=false:=by rw [beq_eq_false_iff_ne];omega
 have BW:1<=m:=by omega
 clear AM;go_in;go_wp2_with fail;refine (xj p gs k2 c k _ AZ.o Bf).mono ?_;rintro e w' ⟨rfl,rfl⟩;go_wp2_with fail;refine HD.mono ?_;rintro e N ⟨rfl,d⟩;have HB:=Hy d;have r:=Hy (A0.below d hg);obtain ⟨s0,s1,s2,s3,s4,s5,s6⟩:=(A0.below d hg).c2;have q:gs < N.heap.size:=nt hg d.size;clear d HD;go_wp2_with fail;refine (Xd gs (k * 7) ms _ r.o).mono ?_;rintro e w' ⟨rfl,rfl⟩;rw [HW.o];go_wp2_with fail;rw [Ar.o] at s4 s5;rw [Aq.o] at s3;rw [AF.o] at s0;clear s1 s2 s6;have Ao:∀ x:KeyL,(N.alloc (.cells #[x.1,x.2] 46)).cell? ⟨gs,k * 7+3,none⟩=some (.bool s.heard):=fun x=>by rw [World.cell?_alloc_lt _ _ _ (by exact q)];exact s3
 have AN:=Ao s.last;have AO:=Ao (0,⟨#[]⟩);have AP:(N.alloc (.cells #[(),.string ⟨#[]⟩] 46)).cell? ⟨gs,k * 7+4,none⟩=some (.int .i64 s.last.1):=by rw [World.cell?_alloc_lt _ _ _ (by exact q)];exact s4
 have AQ:(N.alloc (.cells #[(),.string ⟨#[]⟩] 46)).cell? ⟨gs,k * 7+5,none⟩=some (.string s.last.2):=by rw [World.cell?_alloc_lt _ _ _ (by exact q)];exact s5
 clear Ao;go_region;have A4:Blk (N.alloc (.cells #[s.last.1,s.last.2] 46)).drew N.heap.size 46 [s.last.1,s.last.2]:=hn_ N _;have A2:Below w.heap.size w (N.alloc (.cells #[s.last.1,s.last.2] 46)).drew:=below_drewN (HB.alloc HB.size _) 1;have D:=Hy A4;have Ac:=Hy A2;have An:w.heap.size<=N.heap.size:=HB.size;have Aj:gs≠N.heap.size:=by omega
 clear A4 A2 AN AO AP AQ s0 s3 s4 s5 q r HB;generalize (N.alloc (.cells #[s.last.1,s.last.2] 46)).drew=w2 at D Ac ⊢;generalize N.heap.size=lb at D An Aj ⊢;go_wp2_with fail;go_loopw [13,62] (fun AX AY wr=>PuR w s R l lb AX AY wr) (fun _ v _=>m - (intOf v).toNat)
 case atStart=>exact ⟨0,s.heard,s.last,nz _,rfl,rfl,D.o,Ac.o,Bb.o,(by unfold Hid;simp),rfl⟩
 case round=>
  clear D Ac;obtain ⟨i,hd,C,hi,rfl,rfl,D,HB,HO,Av,Aw⟩:=hrel;rw [H.o] at hi
  by_cases AA:i < m
  ·obtain ⟨x,hx⟩:∃ x,l[i]?=some x:=⟨_,le_ (show i < l.length by have:=H.o;omega)⟩
   obtain ⟨b,o,rfl,z0,z1,_⟩:=(HR.below HB.o rfl).atI hx;have ho:=HO.o;rw [yad hx] at ho;have Z:=Hy ho;have HX:=Hy hx;have k1:(0:Int)<=(i:Int):=by omega
   have BZ:(i:Int) < (m:Int):=by omega
   have As:=(D.alloc (.cells #[x.1,x.2] 46));have y0:=As.cell 0;have y1:=As.cell 1;have Bx:=As.frozen 0;have By:=As.frozen 1;rw [show ([C.1,C.2]:List Value)[0]?=some (.int .i64 C.1) from rfl] at y0;rw [show ([C.1,C.2]:List Value)[1]?=some (.string C.2) from rfl] at y1;have AR:Blk (wr.alloc (.cells #[x.1,x.2] 46)) wr.heap.size 46 [x.1,x.2]:=hn_ wr _;have x0:=AR.cell 0;have x1:=AR.cell 1;rw [show ([x.1,x.2]:List Value)[0]?=some (.int .i64 x.1) from rfl] at x0
   rw [show ([x.1,x.2]:List Value)[1]?=some (.string x.2) from rfl] at x1;have j:=Hy (HB.alloc HB.size (.cells #[x.1,x.2] 46));obtain ⟨r0,_⟩:=(A0.below j.o hg).c2;rw [AF.o] at r0;have AD:=Hy As;have Aa:wr.heap.size < (wr.alloc (.cells #[x.1,x.2] 46)).heap.size:=by simp
   have BX:lb≠wr.heap.size:=by have:=D.lt;omega
   clear hx ho HO As AR D HB;have AB:Hid (true=(s.heard||decide (0 < i+1))):=by unfold Hid;simp
   have AC:Hid (x=(l.take (i+1)).getLastD s.last):=(Yy HX.o).symm;cases hd with
   | false=>
    by_cases L:x.1 < s.least
    ·have hr:R=false:=by rw [<- Z.o];simp [L]
     have d5:decide (x.1 < s.least)=true:=by simpa using L
     clear Z L;subst hr;go_wp2_with fail;generalize wr.alloc (.cells #[x.1,x.2] 46)=wA at *;go_quiet (fail);go_wp2_with fail;go_ret;exact ⟨fun _=>⟨rfl,below_drewN j.o _⟩,fun h=>by cases h⟩
    ·have P:Hid (okI s.least true x (l.drop (i+1))=R):=by rw [<- Z.o];unfold Hid;simp [L]
     have d5:decide (x.1 < s.least)=false:=by simpa using L
     clear Z L;go_wp2_with fail;generalize wr.alloc (.cells #[x.1,x.2] 46)=wA at *;go_quiet (fail);go_wp2_with fail;go_roundw
     case rel=>
      exact ⟨i+1,true,x,by rw [H.o];omega,by go_num,rfl,(Blk.set (Blk.set (Blk.drewN AD.o nq) 0 (.int .i64 x.1)) 1 (.string x.2)),(Below.setCell (Below.setCell (below_drewN j.o nq) An _) An _),P.o,AB.o,AC.o⟩
     case measure=>simp [intOf];omega
   | true=>
    have A:Hid (Below (wr.alloc (.cells #[x.1,x.2] 46)).heap.size (wr.alloc (.cells #[x.1,x.2] 46)) (wr.alloc (.cells #[x.1,x.2] 46)).drew):=below_drewN (bf _ _) 1;have E:=Hy (And.intro y0 (And.intro y1 (And.intro x0 (And.intro x1 r0))));have A9:=cell?_lt r0;have I:=cell?_lt y0;have Ax:=Hy (itless C x);clear y0 y1 x0 x1 r0 Bx By;go_wp2_with fail;generalize B6:wr.alloc (.cells #[x.1,x.2] 46)=wA at *;clear B6;cases Ak:kless C x with
    | false=>
     have hr:R=false:=by rw [<- Z.o];simp [Ak]
     rw [Ak] at Ax;clear Z Ak;subst hr;refine wp_region_held_drew (S:=(fun w'=>Ci w' lb 0 C.1/\Ct w' lb 1 C.2/\Ci w' wr.heap.size 0 x.1/\Ct w' wr.heap.size 1 x.2/\Ci w' gs (k * 7) s.least)) (by kernel_rfl) (by exact ⟨(A.cell (p:=⟨lb,0,none⟩) I).trans E.1,(A.cell (p:=⟨lb,1,none⟩) I).trans E.2.1,(A.cell (p:=⟨wr.heap.size,0,none⟩) Aa).trans E.2.2.1,(A.cell (p:=⟨wr.heap.size,1,none⟩) Aa).trans E.2.2.2.1,(A.cell (p:=⟨gs,k * 7,none⟩) A9).trans E.2.2.2.2⟩) (fun U=>?_)
     (iterate 4 refine tq 0 ?_);refine rdy 4 fun K hK=>?_;go_simp;go_at_call 88;refine (Ax.o _).mono ?_;rintro e u ⟨rfl,d⟩;have t:=Hy (A.trans (d.mono A.size));clear A;have A:=t;clear t;clear d;go_wp2_with fail;refine hK.out _ _ (by exact ⟨(A.cell (p:=⟨lb,0,none⟩) I).trans E.1,(A.cell (p:=⟨lb,1,none⟩) I).trans E.2.1,(A.cell (p:=⟨wr.heap.size,0,none⟩) Aa).trans E.2.2.1,(A.cell (p:=⟨wr.heap.size,1,none⟩) Aa).trans E.2.2.2.1,(A.cell (p:=⟨gs,k * 7,none⟩) A9).trans E.2.2.2.2⟩) (fun U=>?_)
     clear hK K;(iterate 11 first | refine tq 5 ?_ | refine tr 5 ?_);refine dn ?_
     all_goals
      go_wp2_with fail;go_ret;exact ⟨fun _=>⟨rfl,j.trans (A.mono j.size)⟩,fun h=>by cases h⟩
    | true=>
     rw [Ak] at Ax
     by_cases L:x.1 < s.least
     ·have hr:R=false:=by rw [<- Z.o];simp [L]
      have d5:decide (x.1 < s.least)=true:=by simpa using L
      clear Z L Ak;subst hr;go_region_held3 (fun w'=>w'.cell? ⟨lb,0,none⟩=some (.int .i64 C.1)/\w'.cell? ⟨lb,1,none⟩=some (.string C.2)/\w'.cell? ⟨wr.heap.size,0,none⟩=some (.int .i64 x.1)/\w'.cell? ⟨wr.heap.size,1,none⟩=some (.string x.2)/\w'.cell? ⟨gs,k * 7,none⟩=some (.int .i64 s.least)) (exact ⟨(A.cell (p:=⟨lb,0,none⟩) I).trans E.1,(A.cell (p:=⟨lb,1,none⟩) I).trans E.2.1,(A.cell (p:=⟨wr.heap.size,0,none⟩) Aa).trans E.2.2.1,(A.cell (p:=⟨wr.heap.size,1,none⟩) Aa).trans E.2.2.2.1,(A.cell (p:=⟨gs,k * 7,none⟩) A9).trans E.2.2.2.2⟩) (first | (go_at_call 88;refine (Ax.o _).mono ?_;rintro e u ⟨rfl,d⟩;have t:=Hy (A.trans (d.mono A.size));clear A;have A:=t;clear t;clear d))
      all_goals
       go_wp2_with fail;go_ret;exact ⟨fun _=>⟨rfl,j.trans (A.mono j.size)⟩,fun h=>by cases h⟩
     ·have P:Hid (okI s.least true x (l.drop (i+1))=R):=by rw [<- Z.o];unfold Hid;simp [L,Ak]
      have d5:decide (x.1 < s.least)=false:=by simpa using L
      clear Z L Ak;go_region_held3 (fun w'=>w'.cell? ⟨lb,0,none⟩=some (.int .i64 C.1)/\w'.cell? ⟨lb,1,none⟩=some (.string C.2)/\w'.cell? ⟨wr.heap.size,0,none⟩=some (.int .i64 x.1)/\w'.cell? ⟨wr.heap.size,1,none⟩=some (.string x.2)/\w'.cell? ⟨gs,k * 7,none⟩=some (.int .i64 s.least)) (exact ⟨(A.cell (p:=⟨lb,0,none⟩) I).trans E.1,(A.cell (p:=⟨lb,1,none⟩) I).trans E.2.1,(A.cell (p:=⟨wr.heap.size,0,none⟩) Aa).trans E.2.2.1,(A.cell (p:=⟨wr.heap.size,1,none⟩) Aa).trans E.2.2.2.1,(A.cell (p:=⟨gs,k * 7,none⟩) A9).trans E.2.2.2.2⟩) (first | (go_at_call 88;refine (Ax.o _).mono ?_;rintro e u ⟨rfl,d⟩;have t:=Hy (A.trans (d.mono A.size));clear A;have A:=t;clear t;clear d))
      all_goals
       have Ay:=Hy (AD.below A.o I);have f0:=Ay.frozen 0;have f1:=Ay.frozen 1;have Bq:=Hy (j.trans (A.mono j.size));go_wp2_with fail;go_roundw
       case rel=>
        exact ⟨i+1,true,x,by rw [H.o];omega,by go_num,rfl,(Blk.set (Blk.set Ay.o 0 (.int .i64 x.1)) 1 (.string x.2)),(Below.setCell (Below.setCell Bq.o An _) An _),P.o,AB.o,AC.o⟩
       case measure=>simp [intOf];omega
  have AK:i=m:=by omega
  subst AK
  have hr:R=true:=by
   rw [<- HO.o,List.drop_eq_nil_of_le (by rw [H.o];exact Nat.le_refl _)];rfl
  subst hr;have Am:C=l.getLastD s.last:=by rw [Aw.o,List.take_of_length_le (by rw [H.o];exact Nat.le_refl _)]
  subst Am;have Y:hd=(s.heard||decide (0 < l.length)):=by rw [Av.o,H.o]
  subst Y;clear HO Aw Av AA;have y0:=D.cell 0;have y1:=D.cell 1;rw [show ([.int .i64 (l.getLastD s.last).1,.string (l.getLastD s.last).2]:List Value)[0]?=some (.int .i64 (l.getLastD s.last).1) from rfl] at y0;rw [show ([.int .i64 (l.getLastD s.last).1,.string (l.getLastD s.last).2]:List Value)[1]?=some (.string (l.getLastD s.last).2) from rfl] at y1;have AE:=Hy (fun W h=>Xu W a i cap l h (by omega));have Az:Hid (RdE KeyL.cells 2 wr.drew a i cap l):=HR.below (below_drewN HB.o 1) rfl;have Ag:Hid (Blk wr.drew gs 235 (M.flatMap MS.cells++sp)):=A8.G.below (below_drewN HB.o 1) hg
  have AJ:gs < wr.drew.heap.size:=Ag.lt;clear HR;go_wp2_with fail;have ⟨la,Al⟩:=gn (l.getLastD s.last);have ⟨hd,Y⟩:=gn (s.heard||decide (0 < l.length));rw [Al] at y0 y1;rw [Y];have Ar:=Hy Al;have Aq:=Hy Y;clear Al Y;have y:lb < wr.drew.heap.size:=D.lt;go_region_held3 (fun w'=>w'.cell? ⟨lb,0,none⟩=some (.int .i64 la.1)/\w'.cell? ⟨lb,1,none⟩=some (.string la.2)) (exact ⟨by (try simp only [World.cell?_setCell_far,ne_eq,Aj,not_false_eq_true]);first | exact A6 | exact y0,by (try simp only [World.cell?_setCell_far,ne_eq,Aj,not_false_eq_true]);first | exact A7 | exact y1⟩) (first | (go_at_call 100;refine (AE.o _ Az.o).mono ?_;rintro e u ⟨Q,c',rfl,z,V⟩;have Ah:=Hy z;have Au:=Hy V;have F:=Hy (Ag.below V AJ);have A6:=(V.cell (p:=⟨lb,0,none⟩) y).trans y0;have A7:=(V.cell (p:=⟨lb,1,none⟩) y).trans y1;obtain ⟨t0,t1,t2,t3,t4,t5,t6⟩:=(ShAt.of_row F.o HM.o).c2;have f4:=F.frozen (k * 7+4);have f5:=F.frozen (k * 7+5);have f3:=F.frozen (k * 7+3);have f6:=F.frozen (k * 7+6);clear z V))
  all_goals
   have A5:w.heap.size<=wr.drew.heap.size:=HB.size;have Be:gs < w.heap.size:=hg;have J:=Hy (Blk.set (Blk.set (Blk.set (Blk.set F.o (k * 7+4) (.int .i64 la.1)) (k * 7+4+1) (.string la.2)) (k * 7+3) (.bool hd)) (k * 7+6) (.slice Q i c'));have Ad:Hid (Frm (fun i=>i=gs) u ((((u.setCell ⟨gs,k * 7+4,none⟩ (.int .i64 la.1)).setCell ⟨gs,k * 7+4+1,none⟩ (.string la.2)).setCell ⟨gs,k * 7+3,none⟩ (.bool hd)).setCell ⟨gs,k * 7+6,none⟩ (.slice Q i c'))):=((((Frm.refl (fun i=>i=gs) u).setCell _ _ (.inl rfl)).setCell _ _ (.inl rfl)).setCell _ _ (.inl rfl)).setCell _ _ (.inl rfl)
   have Ae:=Hy ((Frm.below (S:=fun i=>i=gs) ((below_drewN HB.o 1).trans (Au.mono A5))).trans Ad.o (fun i h _=>h));have P:=Hy (za (zi Ah.o A5) Ad.o (fun g Ai e=>by have:=Xa Ah.o g Ai;omega))
   have q1:((((u.setCell ⟨gs,k * 7+4,none⟩ (.int .i64 la.1)).setCell ⟨gs,k * 7+4+1,none⟩ (.string la.2)).setCell ⟨gs,k * 7+3,none⟩ (.bool hd)).setCell ⟨gs,k * 7+6,none⟩ (.slice Q i c')).cell? ⟨gs,k * 7+1,none⟩=some (.int .i64 seq):=by
    rw [J.cell,List.getElem?_set_ne (by omega),List.getElem?_set_ne (by omega),List.getElem?_set_ne (by omega),List.getElem?_set_ne (by omega),<- F.cell,t1,AH.o]
   have q2:((((u.setCell ⟨gs,k * 7+4,none⟩ (.int .i64 la.1)).setCell ⟨gs,k * 7+4+1,none⟩ (.string la.2)).setCell ⟨gs,k * 7+3,none⟩ (.bool hd)).setCell ⟨gs,k * 7+6,none⟩ (.slice Q i c')).cell? ⟨gs,k * 7+2,none⟩=some (.bool ms.ended):=by
    rw [J.cell,List.getElem?_set_ne (by omega),List.getElem?_set_ne (by omega),List.getElem?_set_ne (by omega),List.getElem?_set_ne (by omega),<- F.cell,t2]
   have g1:=J.frozen (k * 7+1);have g2:=J.frozen (k * 7+2);rename_i U;clear U A6 A7 t0 t1 t2 t3 t4 t5 t6 f3 f4 f5 f6 Ad Ah Au F Az Ag y0 y1;generalize (((u.setCell ⟨gs,k * 7+4,none⟩ (.int .i64 la.1)).setCell ⟨gs,k * 7+4+1,none⟩ (.string la.2)).setCell ⟨gs,k * 7+3,none⟩ (.bool hd)).setCell ⟨gs,k * 7+6,none⟩ (.slice Q i c')=w3 at J Ae P q1 q2 g1 g2 ⊢;obtain ⟨B4,B5⟩:=Bh;go_wp2_with fail;go_ret;have Af:Hid (Frm (fun i=>i=gs) w3 ((w3.setCell ⟨gs,k * 7+1,none⟩ (.int .i64 (seq+1))).setCell ⟨gs,k * 7+2,none⟩ (.bool e))):=((Frm.refl (fun i=>i=gs) w3).setCell _ _ (.inl rfl)).setCell _ _ (.inl rfl)
   refine ⟨(fun h=>by cases h),fun _=>⟨rfl,zaO A8.o HM.o HS.o H.o Bd hB (Ae.trans Af.o (fun i h _=>h)) (za P.o Af.o (fun g Ai e=>by have:=Xa P.o g Ai;omega)) (hd:=hd) (la:=la) (by have h7:=Aq.o;rw [H.o] at h7;exact h7.symm) Ar.symm ?_,Ae.trans Af.o (fun i h _=>h)⟩⟩;rw [HQ.o];exact Blk.set (Blk.set J.o _ _) _ _
def PS.less (s:PS):PS:=⟨s.least,s.seq,s.ended,s.heard,s.last,s.waits.drop 1⟩
def stepP (n:Int) (S:List PS) (T:List KeyL):Option (KeyL×Nat×PS):=
 if doneP n S T=true then none else match aheadP S S.length with
 | none=>none
 | some b=>match S[b]? with
  | none=>none
  | some s=>if S.any (fun t=>t.might (headP s))=true then none else some (headP s,b,s.less)
def tellA (n:Int):Nat->List PS->List KeyL->List KeyL->List KeyL×List PS×List KeyL
 | 0,S,T,out=>(out,S,T)
 | f+1,S,T,out=>match stepP n S T with
  | none=>(out,S,T)
  | some (x,b,s)=>tellA n f (S.set b s) (T++[x]) (out++[x])
def tellP (n:Int) (S:List PS) (T:List KeyL):List KeyL×List PS×List KeyL:=tellA n (n.toNat - T.length) S T []
theorem Zk {n:Int} {S:List PS} {T:List KeyL} (h:stepP n S T=none) (f:Nat) (A:List KeyL):tellA n f S T A=(A,S,T):=by
 cases f with
 | zero=>rfl
 | succ f=>simp only [tellA,h]
theorem Zah {n:Int} {S:List PS} {T:List KeyL} {x:KeyL} {b:Nat} {s:PS} (h:stepP n S T=some (x,b,s)) (hT:(T.length:Int) < n) (A:List KeyL):
  tellA n (n.toNat - T.length) S T A=tellA n (n.toNat - (T++[x]).length) (S.set b s) (T++[x]) (A++[x]):=by
 obtain ⟨f,B⟩:∃ f,n.toNat - T.length=f+1:=⟨n.toNat - T.length - 1,by omega⟩;rw [B];simp only [tellA,h];rw [List.length_append,List.length_singleton,show n.toNat - (T.length+1)=f from by omega]
theorem zad {n:Int} {S:List PS} {T:List KeyL} (h:doneP n S T=false) (hT:(T.length:Int)<=n):(T.length:Int) < n:=by
 unfold doneP at h;rw [Bool.or_eq_false_iff] at h;have:=h.1;simp at this;omega
theorem QX {n:Int} {S:List PS} {T:List KeyL} (h:doneP n S T=true):stepP n S T=none:=by unfold stepP;rw [if_pos h]
theorem ZX {n:Int} {S:List PS} {T:List KeyL} (h:aheadP S S.length=none):stepP n S T=none:=by
 unfold stepP;rw [h];split <;> rfl
theorem QR {n:Int} {S:List PS} {T:List KeyL} {b:Nat} {s:PS} (h:aheadP S S.length=some b) (hs:S[b]?=some s) (hm:S.any (fun t=>t.might (headP s))=true):stepP n S T=none:=by
 unfold stepP;rw [h];simp only [hs,if_pos hm];split <;> rfl
theorem YX {n:Int} {S:List PS} {T:List KeyL} {b:Nat} {s:PS} (hd:doneP n S T=false) (h:aheadP S S.length=some b) (hs:S[b]?=some s) (hm:S.any (fun t=>t.might (headP s))=false):stepP n S T=some (headP s,b,s.less):=by
 unfold stepP;rw [if_neg (by rw [hd];simp),h];simp only [hs];rw [if_neg (by rw [hm];simp)]
def ApartL (l told:Value) (M:List MS):Prop:=∀ k,l.ownBlock=some k->told.ownBlock≠some k/\∀ (i:Nat) (m:MS),M[i]?=some m->∀ b o sp,m.wa=some ⟨b,o,sp⟩->b≠k
theorem MGx.keep {n:Int} {S:List PS} {T:List KeyL} {c:Nat} {ta:Option Addr} {tc:Nat} (h:MGx B W p n S T gs c M sp ta tc) (hf:Frm X W W')
  (hx:∀ k,X k->k≠p/\k≠gs/\(Value.slice ta T.length tc).ownBlock≠some k/\∀ (i:Nat) (m:MS),M[i]?=some m->∀ b o sp,m.wa=some ⟨b,o,sp⟩->b≠k):MGx B W' p n S T gs c M sp ta tc:=
 ⟨h.P.frm hf (fun e=>(hx p e).1 rfl),h.G.frm hf (fun e=>(hx gs e).2.1 rfl),h.hc,h.hm,za h.told hf (fun k A e=>(hx k e).2.2.1 A),h.len,fun i m s C E=>(h.sh i m s C E).frm hf (fun b o sp e D=>(hx b D).2.2.2 i m C b o sp e rfl),h.bp,h.bg,h.bd⟩
theorem MGx.below {n:Int} {S:List PS} {T:List KeyL} {c:Nat} {ta:Option Addr} {tc:Nat} (h:MGx B W p n S T gs c M sp ta tc) (hb:Below W.heap.size W W'):MGx B W' p n S T gs c M sp ta tc:=
 h.keep (Frm.below (S:=fun _=>False) hb) (fun _ h=>h.elim)
theorem MGx.far {B' k:Nat} {n:Int} {S:List PS} {T:List KeyL} {c:Nat} {ta:Option Addr} {tc:Nat} (h:MGx B W p n S T gs c M sp ta tc) {l:Value} {xs:List Value} (hl:W.ownsRow B' 46 2 l k xs) (ha:ApartL l (.slice ta T.length tc) M)
  (hf:Frm (fun k=>l.ownBlock=some k) W W'):MGx B W' p n S T gs c M sp ta tc:=
 h.keep hf (fun k A=>⟨Qb hl h.P (by decide) k A,Qb hl h.G (by decide) k A,(ha k A).1,(ha k A).2⟩)
theorem YaX {W2:World} (hx:MGx B W p n S T gs c M sp ta tc) {x:KeyL} {g c':Nat} (hT:T.length+1<=10)
  (hg:Frm (fun k=>(Value.slice ta T.length tc).ownBlock=some k) W W2) (C:(Value.slice ta T.length tc).ownBlock=some g∨W.heap.size<=g) (ho:W2.ownsRow B 46 2 (.slice (some ⟨g,0,none⟩) (T.length+1) c') (T.length+1) (T.flatMap KeyL.cells++x.cells)):
  MGx B (W2.setCell ⟨p,2,none⟩ (.slice (some ⟨g,0,none⟩) (T.length+1:Nat) c')) p n S (T++[x]) gs c M sp (some ⟨g,0,none⟩) c':=by
 have R:∀ k,(Value.slice ta T.length tc).ownBlock=some k->k≠gs:=Qb hx.told hx.G (by decide);have L:∀ k,(Value.slice ta T.length tc).ownBlock=some k->k≠p:=Qb hx.told hx.P (by decide);have I:p≠gs:=Qe hx.P hx.G (by decide);have E:=hx.P.frm hg (fun e=>L _ e rfl);have D:=hx.G.frm hg (fun e=>R _ e rfl)
 have N:g≠p:=by
  rcases C with h | h
  ·exact L g h
  ·have:=hx.P.lt;omega
 have J:Frm (fun k=>k=p) W2 (W2.setCell ⟨p,2,none⟩ (.slice (some ⟨g,0,none⟩) (T.length+1:Nat) c')):=(Frm.refl (fun k=>k=p) W2).setCell _ _ (.inl rfl);have A:(T++[x]).length=T.length+1:=by simp
 refine ⟨by rw [A];exact Blk.set E 2 _,D.frm J (fun e=>I e.symm),hx.hc,hx.hm,?_,hx.len,fun i m s Q K=>?_,hx.bp,hx.bg,by rw [A];exact ⟨hx.bd.1,hT,hx.bd.2.2⟩⟩
 ·rw [A,List.flatMap_append,List.flatMap_singleton]
  exact za ho J (fun k H e=>by simp only [Value.ownBlock,Option.some.injEq] at H;omega)
 have h0:=hx.sh i m s Q K
 have h1:=(h0.frm hg (fun b o sp e h=>h0.apart b o sp e h)).frm J (fun b o sp e h=>by
  obtain ⟨cs,F⟩:=h0.ty b o sp e;exact Qe F hx.P (by decide) h)
 refine ⟨h1.least,h1.seq,h1.ended,h1.heard,h1.last,h1.waits,h1.base,fun b o sp e h=>?_,h1.small,h1.ty⟩;simp only [Value.ownBlock,Option.some.injEq] at h;subst h;rcases C with h2 | h2
 ·exact h0.apart _ o sp e h2
 obtain ⟨cs,F⟩:=h0.ty _ o sp e
 have:=F.lt;omega
def MS.less (m:MS) (wb o':Nat):MS:=⟨m.least,m.seq,m.ended,m.heard,m.last,some ⟨wb,o',none⟩,m.wn - 1,m.wc - 1⟩
theorem ShOK.less {toV:Option Nat} {m:MS} {s:PS} (h:ShOK B W toV m s) {wb wo:Nat} (hw:m.wa=some ⟨wb,wo,none⟩) (h0:0 < s.waits.length) (o':Nat) (ho:1 < m.wn->o'=wo+2):ShOK B W toV (m.less wb o') s.less:=by
 have C:=h.wlen;have A:=h.waits;rw [hw] at A;refine ⟨h.least,h.seq,h.ended,h.heard,h.last,A.drop 1 (by omega) o' (by omega),?_,?_,by have:=h.small;simp [PS.less];omega,?_⟩
 ·intro b o sp e
  cases e;exact h.base _ _ _ hw
 ·intro b o sp e
  cases e;exact h.apart _ _ _ hw
 intro b o sp e
 cases e;exact h.ty _ _ _ hw
theorem qaR {M:List MS} {sp:List Value} {k:Nat} {m:MS} (hm:M[k]?=some m) (wb o':Nat):
  (M.flatMap MS.cells++sp).set (k * 7+6) (.slice (some ⟨wb,o',none⟩) (m.wn - 1) (m.wc - 1))=(M.set k (m.less wb o')).flatMap MS.cells++sp:=
 Ye (m':=m.less wb o') hm (by decide) rfl
theorem ApartL.set {l told:Value} (h:ApartL l told M) {k:Nat} {m:MS} (hm:M[k]?=some m) {wb wo:Nat} (hw:m.wa=some ⟨wb,wo,none⟩) (o':Nat):ApartL l told (M.set k (m.less wb o')):=by
 intro j B;refine ⟨(h j B).1,fun i x A b o sp e=>?_⟩
 by_cases C:k=i
 ·subst C
  rw [yi hm] at A;cases A;cases e;exact (h j B).2 k m hm _ _ _ hw
 rw [List.getElem?_set_ne C] at A
 exact (h j B).2 i x A b o sp e
theorem ApartL.new {n:Int} {S:List PS} {T:List KeyL} {c:Nat} {ta:Option Addr} {tc:Nat} (hx:MGx B W p n S T gs c M sp ta tc) {l:Value} {g:Nat} (hl:l.ownBlock=some g) (hg:W.heap.size<=g):ApartL l (.slice ta T.length tc) M:=by
 intro k A;rw [hl] at A;cases A;refine ⟨fun h=>?_,fun i m C b o sp e h=>?_⟩
 ·have:=(hx.told.lt g h).2;omega
 have hi:=(lg C).1
 obtain ⟨cs,D⟩:=(hx.sh i m _ C (le_ (show i < S.length by rw [<- hx.len];exact hi))).ty b o sp e;have:=D.lt;omega
theorem ApartL.step {n:Int} {S:List PS} {T:List KeyL} {c:Nat} {ta:Option Addr} {tc:Nat} (hx:MGx B W p n S T gs c M sp ta tc) {l l':Value} {g:Nat} (ha:ApartL l (.slice ta T.length tc) M) (hl:l'.ownBlock=some g) (C:l.ownBlock=some g∨W.heap.size<=g):ApartL l' (.slice ta T.length tc) M:=by
 rcases C with h | h
 ·intro k A
  rw [hl] at A;cases A;exact ha g h
 exact ApartL.new hx hl h
theorem ApartL.told {W:World} {l told told':Value} {g:Nat} (ha:ApartL l told M) (hl:∀ k,l.ownBlock=some k->k < W.heap.size) (ht:told'.ownBlock=some g) (B:told.ownBlock=some g∨W.heap.size<=g):ApartL l told' M:=by
 intro k A;refine ⟨fun h=>?_,(ha k A).2⟩;rw [ht] at h;cases h;rcases B with h | h
 ·exact (ha _ A).1 h
 have:=hl _ A;omega
def TX (p gs:Nat) (told:Value) (i:Nat):Prop:=i=p∨i=gs∨told.ownBlock=some i
def TBk (w:World) (told0 told:Value):Prop:=∀ g,told.ownBlock=some g->told0.ownBlock=some g∨w.heap.size<=g
def WSub (M0 M:List MS):Prop:=∀ (i:Nat) (x:MS),M[i]?=some x->∀ b o s,x.wa=some ⟨b,o,s⟩->∃ (j:Nat) (y:MS) (o2:Nat) (s2:Option Nat),M0[j]?=some y/\y.wa=some ⟨b,o2,s2⟩
theorem WSub.refl (M:List MS):WSub M M:=fun i x A b o s e=>⟨i,x,o,s,A,e⟩
theorem WSub.set (h:WSub M0 M) {k:Nat} {m m':MS} (hm:M[k]?=some m) {wb wo o':Nat} (hw:m.wa=some ⟨wb,wo,none⟩) (B:m'.wa=some ⟨wb,o',none⟩):WSub M0 (M.set k m'):=by
 intro i x A b o s e
 by_cases C:i=k
 ·subst C
  rw [List.getElem?_set_self (List.getElem?_eq_some_iff.1 hm).1] at A;cases A;rw [B] at e;cases e;exact h i m hm wb wo none hw
 rw [List.getElem?_set_ne (fun q=>C q.symm)] at A
 exact h i x A b o s e
def Y8 (B:Nat) (w:World) (p:Nat) (n:Int) (gs c:Nat) (sp:List Value) (told0:Value) (M0:List MS) (R:List KeyL×List PS×List KeyL) (e:Ending) (w':World):Prop:=∃ (ao:Option Addr) (c':Nat),e=.returned (.slice ao R.1.length c')/\w'.ownsRow w.heap.size 46 2 (.slice ao R.1.length c') R.1.length (R.1.flatMap KeyL.cells)∧
 (∃ (M:List MS) (ta:Option Addr) (tc:Nat),MGx B w' p n R.2.1 R.2.2 gs c M sp ta tc/\TBk w told0 (.slice ta R.2.2.length tc)/\ApartL (.slice ao R.1.length c') (.slice ta R.2.2.length tc) M/\WSub M0 M)/\Frm (TX p gs told0) w w'
theorem Zar {w:World} {out:List KeyL} {ao:Option Addr} {lc:Nat} {R:List KeyL×List PS×List KeyL}
  (hw:WSub M0 M) (hx:MGx B wr p n S T gs c M sp ta tc) (ho:wr.ownsRow w.heap.size 46 2 (.slice ao out.length lc) out.length (out.flatMap KeyL.cells)) (ha:ApartL (.slice ao out.length lc) (.slice ta T.length tc) M) (hb:Frm (TX p gs told0) w wr) (D:TBk w told0 (.slice ta T.length tc)) (hR:(out,S,T)=R) (A:Below wr.heap.size wr w'):
  Y8 B w p n gs c sp told0 M0 R (.returned (.slice ao out.length lc)) w':=by
 subst hR;have C:=za (S:=fun _=>False) ho (Frm.below A) (fun _ _ h=>h.elim);exact ⟨ao,lc,rfl,C,⟨M,ta,tc,hx.below A,D,ha,hw⟩,hb.trans (Frm.below (S:=TX p gs told0) A) (fun i h _=>h)⟩
def TeR (B:Nat) (w:World) (p:Nat) (n:Int) (gs c:Nat) (sp:List Value) (told0:Value) (M0:List MS) (R:List KeyL×List PS×List KeyL) (v3:Value) (wr:World):Prop:=∃ (S:List PS) (T out:List KeyL) (M:List MS) (ta:Option Addr) (tc:Nat) (ao:Option Addr) (lc:Nat),
 v3=.slice ao out.length lc/\Hid (MGx B wr p n S T gs c M sp ta tc)/\Hid (wr.ownsRow w.heap.size 46 2 (.slice ao out.length lc) out.length (out.flatMap KeyL.cells))/\Hid (ApartL (.slice ao out.length lc) (.slice ta T.length tc) M)∧
 Hid (Frm (TX p gs told0) w wr)/\Hid (TBk w told0 (.slice ta T.length tc))/\Hid ((T.length:Int)<=n)/\Hid (tellA n (n.toNat - T.length) S T out=R)/\Hid (out.length<=T.length/\WSub M0 M)
def teM (v:Value):Nat:=match v with | .slice _ n _=>10 - n | _=>0
theorem ZaH (B p:Nat) (n:Int) (S:List PS) (T:List KeyL) (w:World) (gs c:Nat) (M:List MS) (sp:List Value) (ta:Option Addr) (tc:Nat) (hX:MGx B w p n S T gs c M sp ta tc) (hT:(T.length:Int)<=n) (hB:B<=w.heap.size):
  Calls prog 113 #[.pointer (some ⟨p,0,none⟩)] w (Y8 B w p n gs c sp (.slice ta T.length tc) M (tellP n S T)):=by
 obtain ⟨i0,hi,BH,BI,BJ⟩:=info_parts Qf;have HI:=Hy hi;have Bn:=Hy BH;have Bo:=Hy BI;have Bp:=Hy BJ;clear hi BH BI BJ;have ⟨R,hR⟩:=gn (tellP n S T);rw [hR];unfold tellP at hR;have ⟨J,f⟩:=gn (Value.slice ta T.length tc);rw [f];have H0:Hid (TeR B w p n gs c sp J M R (.slice none 0 0) w):=⟨S,T,[],M,ta,tc,none,0,rfl,hX,World.ownsRow_nil _ _ _ _,fun k a=>by simp [Value.ownBlock] at a,Frm.refl _ _,fun g hg=>.inl (by rw [<- f];exact hg),hT,hR,nz _,WSub.refl M⟩;clear hX hR hT f;have C9:=fun W=>yan p 0 W
 go_in;go_wp2_with fail;go_loopw [3] (fun v3 wr=>TeR B w p n gs c sp J M R v3 wr) (fun v _=>teM v)
 case atStart=>exact H0.o
 case round=>
  clear H0;obtain ⟨S',L,A,M',E,H,ao,lc,rfl,q,HO,HA,HB,U,HT,HR,HL⟩:=hrel;have HD:=Hy (Ys B p n S' L wr q.mg);cases hd:doneP n S' L with
  | true=>
   rw [hd] at HD;have HE:=Hy (fun W D=>Zar (w':=W) HL.2 q.o HO.o HA.o HB.o U.o ((Zk (QX hd) _ _).symm.trans HR.o) D);clear hd q HO HA HB U HT HR HL;go_wp2_with fail;refine HD.mono ?_;rintro e w1 ⟨rfl,D⟩;have Ah:=Hy D;clear D HD;go_wp2_with fail;go_ret;exact HE.o _ Ah.o
  | false=>
   rw [hd] at HD;have Av:=zad hd HT.o;have Ba:=Hy (fun (W:World) (D:Below wr.heap.size wr W)=>Zax B p gs c n S' L W (q.below D).mg (q.below D).read.2.1);have A5:=Hy hd;have Ak:=Hy Av;clear hd Av HT;go_wp2_with fail;refine HD.mono ?_;rintro e w1 ⟨rfl,D⟩;have Ah:=Hy D;have B8:=Ba.o w1 D;have Bd:=Hy B8;clear D HD B8 Ba;go_wp2_with fail;refine Bd.mono ?_;rintro e w2 ⟨rfl,D⟩;have y:=Hy (Ah.trans (D.mono Ah.size));clear D Ah Bd;cases ha:aheadP S' S'.length with
   | none=>
    have HE:=Hy (fun W D=>Zar (w':=W) HL.2 q.o HO.o HA.o HB.o U.o ((Zk (ZX ha) _ _).symm.trans HR.o) D);have N:=Hy (y.alloc y.size (.cells #[.pointer none] 257));clear ha q HO HA HB U HR HL y A5 Ak;rw [show optPtr gs none=.pointer none from rfl];go_wp2_with fail;go_ret;exact HE.o _ N.o
   | some b=>
    obtain ⟨B6,s,hs,h0⟩:=yo ha;obtain ⟨m,hm⟩:∃ m,M'[b]?=some m:=⟨_,le_ (show b < M'.length by rw [q.len];exact B6)⟩;have AS:=q.sh b m s hm hs;obtain ⟨l,wo,AT,AA,AB⟩:=AS.head h0;have ⟨x,hx⟩:=gn (headP s);rw [hx] at AA AB;obtain ⟨k,a⟩:∃ k,m.wn=k+1:=⟨m.wn - 1,by have:=AS.wlen;omega⟩;have Am:=y.alloc y.size (.cells #[.pointer (some ⟨gs,b * 7,none⟩)] 257);have AR:Blk (w2.alloc (.cells #[.pointer (some ⟨gs,b * 7,none⟩)] 257)) w2.heap.size 257 [.pointer (some ⟨gs,b * 7,none⟩)]:=hn_ w2 _;have F:=q.below Am;have Bz:=(ShAt.of_row F.G hm).c2.2.2.2.2.2.2
    have Ar:=Bz;rw [AT,a] at Ar;have BF:=(Am.cell (p:=⟨l,wo,none⟩) (cell?_lt AA)).trans AA;have BG:=(Am.cell (p:=⟨l,wo+1,none⟩) (cell?_lt AB)).trans AB;have B0:TlAt (w2.alloc (.cells #[.pointer (some ⟨gs,b * 7,none⟩)] 257)) w2.heap.size gs (b * 7) x:=⟨l,wo,k,m.wc,by rw [AR.cell];rfl,Ar,BF,BG⟩;have Aw:=zaY gs c M' w2.heap.size gs (b * 7) x _ F.read.2.2.2.2.1 F.G.lt (by have:=F.len;have:=F.bd;omega) B0;rw [Yas F.len F.sh (fun m=>m.might x) (fun s=>s.might x) (fun m s h=>h.might x),F.len] at Aw;have c1:=F.read.2.1;have Z:=Hy Aw;have A4:=Hy AR
    have N:=Hy Am;have AK:=Hy ha;have HS:=Hy hs;have HM:=Hy hm;have I:=Hy AT;have HK:=Hy a;have Aa:=Hy hx;have Ay:=Hy h0;have CB:=fun W=>ZL gs (b * 7) W;have BC:w2.heap.size < (w2.alloc (.cells #[.pointer (some ⟨gs,b * 7,none⟩)] 257)).heap.size:=by simp
    clear ha hs hm AS AT AA AB hx h0 a Am AR F Bz Ar BF BG B0 Aw B6 y;have y0:=A4.cell 0;rw [show ([.pointer (some ⟨gs,b * 7,none⟩)]:List Value)[0]?=some (.pointer (some ⟨gs,b * 7,none⟩)) from rfl] at y0;have ⟨k2,A9⟩:=gn S'.length;rw [A9] at c1 Z;rw [show optPtr gs (some b)=.pointer (some ⟨gs,b * 7,none⟩) from rfl];go_wp2_with fail;generalize w2.alloc (.cells #[.pointer (some ⟨gs,b * 7,none⟩)] 257)=w3 at *;generalize w2.heap.size=sb at *;clear A9;cases Ac:S'.any (fun t=>t.might x) with
    | true=>
     rw [Ac] at Z;have HE:=Hy (fun W D=>Zar (w':=W) HL.2 q.o HO.o HA.o HB.o U.o ((Zk (QR AK.o HS.o (by rw [Aa.o];exact Ac)) _ _).symm.trans HR.o) D);clear Ac;refine Z.mono ?_;rintro e w4 ⟨rfl,D⟩;have BS:=Hy (N.trans (D.mono N.size));clear D Z q HO HA HB U HR HL A5 Ak N A4 AK HS HM I HK Aa Ay;go_wp2_with fail;go_ret;exact HE.o _ BS.o
    | false=>
     rw [Ac] at Z;have d:=YX A5.o AK.o HS.o (by rw [Aa.o];exact Ac);rw [Aa.o] at d;have BB:=(Zah d Ak.o A).symm.trans HR.o;have BU:=Hy BB;clear Ac d BB HR A5;refine Z.mono ?_;rintro e w4 ⟨rfl,D⟩;have An:=N.trans (D.mono N.size);have Ad:=q.below An;have Bw:=za (S:=fun _=>False) HO.o (Frm.below An) (fun _ _ h=>h.elim);have Ao:=A4.below D BC;have Bt:=HB.trans (Frm.below (S:=TX p gs J) An) (fun i h _=>h);have AN:=Hy Ad;have Al:=Hy Bw;have Ai:=Hy Ao;have Bb:=Hy Bt
     have t6:=(ShAt.of_row Ad.G HM.o).c2.2.2.2.2.2.2;obtain ⟨Co,Cq,Y,z0,z1⟩:=(Ad.sh b m s HM.o HS.o).head Ay.o;rw [I.o] at Y;cases Y;rw [Aa.o] at z0 z1;rw [I.o,HK.o] at t6;have y0:w4.cell? ⟨sb,0,none⟩=some (.pointer (some ⟨gs,b * 7,none⟩)):=by rw [Ao.cell];rfl
     have Cm:=Ad.G.lt;have B7:=Ad.bd;have Cf:=HL.1;have BE:w.heap.size<=w4.heap.size:=nr HB.size An.size;clear D An Ad Bw Ao Bt Z q HO HB A4 N BC c1;have Bj:Hid ((w4.alloc (.cells #[x.1,x.2] 46)).ownsRow w.heap.size 46 2 (.slice ao A.length lc) A.length (A.flatMap KeyL.cells)):=Al.alloc _;have Bh:Hid (∀ j u,([x.1,x.2]:List Value)[j]?=some u->(w4.alloc (.cells #[x.1,x.2] 46)).cell? ((⟨w4.heap.size,0,none⟩:Addr).add j)=some u):=World.news_of_block (hn_ w4 _);have A1:A.length+1<=maxLen:=by unfold maxLen;omega
     have A2:(A.length+1) * 24<=140737488355328:=by omega
     have A3:w.heap.size<=(w4.alloc (.cells #[x.1,x.2] 46)).heap.size:=by simp;omega
     have AZ:Hid (∀ u∈([x.1,x.2]:List Value),u.oneCell'=true):=by intro u hu;simp at hu;rcases hu with rfl | rfl <;> rfl
     have k1:(0:Int) < ((k+1:Nat):Int):=by omega
     go_wp2_with (at_builtin;refine wpList_append_lies _ rfl _ _ 56 rfl w.heap.size 46 i0 (.agg #[(),.string ⟨#[]⟩]) 2 24 underlying56 HI.o Bn.o Bo.o Bp.o rfl (by decide) (.slice ao A.length lc) A.length (A.flatMap KeyL.cells) rfl Bj.o ⟨w4.heap.size,0,none⟩ 1 1 [x.1,x.2] rfl rfl Bh.o AZ.o (by decide) A1 A2 A3 (w4.heap.size+1) (by simp) ?_;intro g cap K V Au At Av;have A7:=Hy V;have Bg:=Hy Au;have A0:=Hy At;clear V Au At);have Aq:Frm (fun i=>(Value.slice ao A.length lc).ownBlock=some i) w4 K:=((Frm.refl (fun i=>(Value.slice ao A.length lc).ownBlock=some i) w4).alloc _).trans (Frm.grown (S:=fun i=>(Value.slice ao A.length lc).ownBlock=some i) Bg.o (fun _ h=>h)) (fun i h _=>h)
     have B4:=AN.far Al.o HA.o Aq;have AI:(Value.slice ao A.length lc).ownBlock=some g∨w4.heap.size<=g:=A0.imp id (fun h=>by omega);have Br:=ApartL.step AN.o (l':=.slice (some ⟨g,0,none⟩) (A.length+1) cap) HA.o rfl AI;have AH:=Ai.frm Aq (fun e=>Qb Al.o Ai.o (by decide) sb e rfl);have Bu:=Bb.trans Aq (fun i e hi=>by have:=Xa Al.o i e;omega);have B9:∀ k,(Value.slice (some ⟨g,0,none⟩) (A.length+1) cap).ownBlock=some k->k < K.heap.size:=fun k a=>(A7.lt k a).2;have C:=Hy B4;have AL:=Hy Br;have Q:=Hy AH
     have Bc:=Hy Bu;have Bf:=Hy B9;have BD:w.heap.size<=K.heap.size:=nr BE Aq.size;clear t6 z0 z1 y0 Cm AI B4 Br AH Bu B9 AN Al Ai Bb Bj Bh Bg A0 HA Aq Av;have t6:=(ShAt.of_row C.G HM.o).c2.2.2.2.2.2.2;obtain ⟨Co,Cq,Y,z0,z1⟩:=(C.sh b m s HM.o HS.o).head Ay.o;rw [I.o] at Y;cases Y;rw [Aa.o] at z0 z1;rw [I.o,HK.o] at t6;have y0:K.cell? ⟨sb,0,none⟩=some (.pointer (some ⟨gs,b * 7,none⟩)):=by rw [Q.cell];rfl
     have c2:=C.read.2.2.1;have ⟨tl,Ae⟩:=gn L.length;have Ca:tl+1<=10:=by have:=Ak.o;have:=B7;omega
     have BW:=Hy Ae;rw [Ae] at c2;have By:Hid ((K.alloc (.cells #[x.1,x.2] 46)).drew.ownsRow B 46 2 (.slice E tl H) tl (L.flatMap KeyL.cells)):=by have:=C.told;rw [Ae] at this;exact this.alloc _
     have Bi:Hid (∀ j u,([x.1,x.2]:List Value)[j]?=some u->(K.alloc (.cells #[x.1,x.2] 46)).drew.cell? ((⟨K.heap.size,0,none⟩:Addr).add j)=some u):=World.news_of_block (show ((K.alloc (.cells #[x.1,x.2] 46)).drew).heap[K.heap.size]?=_ from hn_ K _);have B1:tl+1<=maxLen:=by unfold maxLen;omega
     have B2:(tl+1) * 24<=140737488355328:=by omega
     have B3:B<=(K.alloc (.cells #[x.1,x.2] 46)).drew.heap.size:=by show B<=(K.alloc (.cells #[x.1,x.2] 46)).heap.size;simp;omega
     have A9:(Value.slice E tl H).ownBlock=(Value.slice E L.length H).ownBlock:=by cases E <;> rfl
     have Cc:(K.alloc (.cells #[x.1,x.2] 46)).cell? ⟨p,2,none⟩=some (.slice E tl H):=by
      have Ch:p < K.heap.size:=C.P.lt;rw [World.cell?_alloc_lt _ _ _ (by exact Ch)];exact c2
     clear Ae B7 Cf A1 A2 A3;go_region_law (first | (refine step_append_lies _ rfl (.tmp 35) (.tmp 42) 56 rfl B 46 i0 (.agg #[(),.string ⟨#[]⟩]) 2 24 underlying56 HI.o Bn.o Bo.o Bp.o rfl (by decide) (.slice E tl H) tl (L.flatMap KeyL.cells) (by kernel_rfl) By.out ⟨K.heap.size,0,none⟩ 1 1 [x.1,x.2] (by kernel_rfl) rfl Bi.o AZ.o (by decide) B1 B2 B3 (K.heap.size+1) (by simp) ?_;intro g2 Ab w8 V Au At Av;have Bk:=Hy V;have A0:=Hy At;have AO:Frm (fun i=>(Value.slice E L.length H).ownBlock=some i) K w8:=(((Frm.refl (fun i=>(Value.slice E L.length H).ownBlock=some i) K).alloc (.cells #[x.1,x.2] 46)).drew).trans (Frm.grown (S:=fun i=>(Value.slice E L.length H).ownBlock=some i) Au (fun _ h=>A9.symm.trans h)) (fun i h _=>h);have AP:=C.P.frm AO (fun e=>Qb C.told C.P (by decide) p e rfl);have p8:w8.cell? ⟨p,2,none⟩=some (.slice E L.length H):=(AP.cell 2).trans rfl;have f8:=AP.frozen 2;have Aj:=Hy AO;clear V Au At AO AP))
     all_goals
      have Ae:=BW.o;subst Ae;have r:(Value.slice E L.length H).ownBlock=some g2∨K.heap.size<=g2:=A0.imp id (fun h=>by omega);have As:=YaX C.o (x:=x) Ca Aj.o r Bk.o;have A8:Frm (fun i=>i=p) w8 (w8.setCell ⟨p,2,none⟩ (.slice (some ⟨g2,0,none⟩) (L.length+1:Nat) Ab)):=(Frm.refl (fun i=>i=p) w8).setCell _ _ (.inl rfl);have Bx:=za (za A7.o Aj.o (fun j hj e=>(AL.o j hj).1 e)) A8 (fun j hj e=>Qb A7.o C.P (by decide) j hj e);have Bs:=ApartL.told (told':=.slice (some ⟨g2,0,none⟩) (L++[x]).length Ab) AL.o Bf.o rfl r
      have Ap:=(Q.frm Aj.o (fun e=>Qb C.told Q.o (by decide) sb e rfl)).frm A8 (fun e=>Qe Q.o C.P (by decide) e);have Bv:=(Bc.trans Aj.o (fun i h hi=>by rcases U.o i h with h | h;exact .inr (.inr h);omega)).trans A8 (fun i h hi=>.inl h);have z:=Hy As;have Bl:=Hy Bx;have BR:=Hy Bs;have Cw:=Hy Ap;have BT:=Hy Bv
      have Bm:Hid (TBk w J (.slice (some ⟨g2,0,none⟩) (L++[x]).length Ab)):=fun g' h'=>by
       simp only [Value.ownBlock,Option.some.injEq] at h';subst h';rcases r with h | h
       ·exact U.o _ h
       ·exact .inr (nr BD h)
      have Cn:=(ShAt.of_row As.G HM.o).c2.2.2.2.2.2.2;rw [I.o,HK.o] at Cn;have f6:=As.G.frozen (b * 7+6);have CF:(w8.setCell ⟨p,2,none⟩ (.slice (some ⟨g2,0,none⟩) (L.length+1:Nat) Ab)).cell? ⟨sb,0,none⟩=some (.pointer (some ⟨gs,b * 7,none⟩)):=(Ap.cell 0).trans rfl;have AQ:=(As.sh b m s HM.o HS.o).waits;have k3:k+1<=m.wc:=by have:=AQ.2.1;rw [HK.o] at this;exact this
      have k4:m.wc<=maxLen:=AQ.2.2.1;unfold maxLen at k4;have k5:(0:Int)<=1:=by decide
      clear r As A8 Bx Bs Ap Bv AQ p8 f8 Aj Bk C A7 AL Q Bc Bf t6 z0 z1 y0 c2 Cc By Bi;generalize w8.setCell ⟨p,2,none⟩ (.slice (some ⟨g2,0,none⟩) (L.length+1:Nat) Ab)=w9 at *;go_wp2_with fail;go_region
      obtain ⟨o',Cg,Cd⟩:∃ o',(1 < m.wn->o'=wo+2)/\(if m.wc=1 then some (⟨l,wo,none⟩:Addr) else some ⟨l,wo+2,none⟩)=some ⟨l,o',none⟩:=by
       by_cases h:m.wc=1
       ·exact ⟨wo,fun h'=>by have:=HK.o;omega,by rw [if_pos h]⟩
       ·exact ⟨wo+2,fun _=>rfl,by rw [if_neg h]⟩
      rw [Cd];have hf:Frm (fun i=>i=gs) w9 (w9.setCell ⟨gs,b * 7+6,none⟩ (.slice (some ⟨l,o',none⟩) k (m.wc - 1))).drew:=((Frm.refl (fun i=>i=gs) w9).setCell _ _ (.inl rfl)).drew
      have hg:Blk (w9.setCell ⟨gs,b * 7+6,none⟩ (.slice (some ⟨l,o',none⟩) k (m.wc - 1))).drew gs 235 ((M'.set b (m.less l o')).flatMap MS.cells++sp):=by
       have h7:=Blk.set z.G (b * 7+6) (.slice (some ⟨l,o',none⟩) k (m.wc - 1));rw [show (.slice (some ⟨l,o',none⟩) k (m.wc - 1):Value)=.slice (some ⟨l,o',none⟩) (m.wn - 1) (m.wc - 1) from by rw [HK.o];rfl] at h7 ⊢;rw [qaR HM.o] at h7;exact h7
      have hX:=Hy (yaO z.o (k:=b) (m':=m.less l o') (s':=s.less) hf hg (fun _=>((z.sh b m s HM.o HS.o).frm hf (fun b' o sp e=>by obtain ⟨cs,D⟩:=(z.sh b m s HM.o HS.o).ty b' o sp e;exact Qe D z.G (by decide))).less I.o Ay.o o' Cg));have hO:=Hy (za Bl.o hf (fun j hj e=>Qb Bl.o z.G (by decide) j hj e));have hA:=Hy (BR.set HM.o I.o o');have BZ:=Hy (BT.trans hf (fun i h _=>.inr (.inl h)));have C8:=Ak.o;have C6:=HL.1;have Cb:=HL.2.set (o':=o') (m':=m.less l o') HM.o I.o rfl
      go_wp2_with fail;go_roundw
      case rel=>exact ⟨S'.set b s.less,L++[x],A++[x],M'.set b (m.less l o'),some ⟨g2,0,none⟩,Ab,some ⟨g,0,none⟩,cap,by rw [List.length_append];rfl,hX.out,by rw [List.length_append,List.flatMap_append,List.flatMap_singleton];exact hO.out,hA.out,BZ.out,Bm.o,by rw [List.length_append,List.length_singleton];unfold Hid;omega,BU.o,⟨by rw [List.length_append,List.length_append,List.length_singleton];omega,Cb⟩⟩
      case measure=>simp [teM];omega
theorem YM {S:List PS} {i:Int} {s:PS} (h:atS S i=some s):∃ k:Nat,i=k/\S[k]?=some s:=by
 unfold atS at h;split at h
 ·cases h
 exact ⟨i.toNat,by omega,h⟩
theorem Za0 (B p:Nat) (n i seq:Int) (S:List PS) (T:List KeyL) (l:List KeyL) (e:Bool) (a:Option Addr) (m cap:Nat) (w:World) (gs c:Nat) (M:List MS) (sp:List Value) (ta:Option Addr) (tc:Nat) (hX:MGx B w p n S T gs c M sp ta tc) (hr:RdE KeyL.cells 2 w a m cap l)
  (hs:∀ s∈S,0<=s.seq/\s.seq<=1000000) (hB:B<=w.heap.size):
  Calls prog 110 #[.pointer (some ⟨p,0,none⟩),i,seq,.slice a m cap,.bool e] w fun E w'=>E=.returned (.bool (putP n S T i seq l e).1)/\(∃ A,MGx B w' p n (putP n S T i seq l e).2 T gs c A sp ta tc/\WOld w.heap.size M A)/\Frm (fun i=>i=gs) w w'/\((putP n S T i seq l e).1=false->Below w.heap.size w w'):=by
 have Q:putOK n S T i seq l e=none->(atS S i=none∨∃ s,atS S i=some s/\(doneP n S T=true∨s.wanted=false∨s.seq≠seq∨5 < l.length∨(l.length=0/\e=false)))->Calls prog 110 #[.pointer (some ⟨p,0,none⟩),i,seq,.slice a m cap,.bool e] w fun E w'=>E=.returned (.bool (putP n S T i seq l e).1)/\(∃ A,MGx B w' p n (putP n S T i seq l e).2 T gs c A sp ta tc/\WOld w.heap.size M A)/\Frm (fun i=>i=gs) w w'/\((putP n S T i seq l e).1=false->Below w.heap.size w w'):=by
  intro h1 H;have G:putP n S T i seq l e=(false,S):=by unfold putP;rw [h1]
  rw [G];refine (xa7 B p n i seq S T l e a m cap w hX.mg hr H).mono ?_;rintro E w' ⟨rfl,D⟩;exact ⟨rfl,⟨M,hX.below D,WOld.refl _ _⟩,Frm.below D,fun _=>D⟩
 cases C:atS S i with
 | none=>exact Q (by unfold putOK;rw [C]) (.inl C)
 | some s=>
  by_cases J:doneP n S T=true∨s.wanted=false∨s.seq≠seq∨5 < l.length∨(l.length=0/\e=false)
  ·refine Q ?_ (.inr ⟨s,C,J⟩)
   unfold putOK;rw [C];simp only;rw [if_pos];rcases J with h | h | h | h | h
   ·exact .inl h
   ·exact .inr (.inl h)
   ·exact .inr (.inr (.inl h))
   ·exact .inr (.inr (.inr (.inl h)))
   ·exact .inr (.inr (.inr (.inr (.inl h))))
  ·clear Q
   simp only [not_or] at J;obtain ⟨h1,H,R,Y,U⟩:=J;obtain ⟨k,rfl,F⟩:=YM C;have P:=hs s (lm F);have W:s.seq=seq:=Classical.not_not.1 R;have L:=ya7 B p k n seq S T s l e a m cap w gs c M sp ta tc hX hr F (by simpa using h1) (by simpa using H) W (by omega) U (by rw [<- W];exact P) hB;refine L.mono ?_;intro E w' V;cases I:okI s.least s.heard s.last l with
   | false=>
    have G:putP n S T k seq l e=(false,S):=by
     unfold putP putOK;rw [C];simp only [I,or_true,if_true]
    obtain ⟨rfl,D⟩:=V.1 I;rw [G];exact ⟨rfl,⟨M,hX.below D,WOld.refl _ _⟩,Frm.below D,fun _=>D⟩
   | true=>
    have G:putP n S T k seq l e=(true,S.set k (s.put l e)):=by
     unfold putP putOK;rw [C]
     have N:¬ (doneP n S T=true∨s.wanted=false∨s.seq≠seq∨5 < l.length∨(l.length=0/\e=false)∨okI s.least s.heard s.last l=false):=by
      rintro (h | h | h | h | h | h)
      ·exact h1 h
      ·exact H h
      ·exact R h
      ·exact Y h
      ·exact U h
      ·rw [I] at h;cases h
     simp only [if_neg N,Int.toNat_natCast]
    obtain ⟨rfl,⟨A,K⟩,Z⟩:=V.2 I;rw [G];exact ⟨rfl,⟨A,K⟩,Z,fun h=>by cases h⟩
theorem qaZ (x:Int) (w:World):Calls prog 50 #[x] w fun e w'=>e=.returned (.int .i64 x)/\w=w':=by
 go_in;go_wp2;go_ret;exact ⟨rfl,rfl⟩
def AgO (n:Nat) (O O':Own):Prop:=∀ b,b < n->O' b=O b
theorem AgO.refl (n:Nat) (O:Own):AgO n O O:=fun _ _=>rfl
theorem AgO.trans {n m:Nat} (h:AgO n O O') (k:AgO m O' O'') (hm:n<=m):AgO n O O'':=fun b A=>(k b (by omega)).trans (h b A)
theorem AgO.upd (n t:Nat) (O:Own):AgO n O (O.upd n t):=fun b A=>Own.upd_lt A
theorem AgO.upd' {n m:Nat} (h:n<=m) (t:Nat) (O:Own):AgO n O (O.upd m t):=fun b A=>Own.upd_lt (by omega)
def ct (i:Nat):Nat:=8 * i+1
theorem Ya {i j:Nat} (h:i≠j):ct i≠ct j:=by unfold ct;omega
theorem YG (i:Nat):ct i % 8=1:=by unfold ct;omega
def rowF (F:Nat->List Value) (n:Nat):List Value:=(List.range n).flatMap F
theorem Qk (F:Nat->List Value) (n:Nat):rowF F (n+1)=rowF F n++F n:=by unfold rowF;rw [List.range_succ,List.flatMap_append];simp
theorem qu {F:Nat->List Value} (hF:∀ i,(F i).length=7) (n:Nat):(rowF F n).length=n * 7:=by unfold rowF;rw [zc F 7 hF,List.length_range]
theorem YaQ {F:Nat->List Value} (hF:∀ i,(F i).length=7) {n i j:Nat} (hi:i < n) (hj:j < 7):(rowF F n)[i * 7+j]?=(F i)[j]?:=by
 unfold rowF;rw [yc F 7 hF _ _ _ hj,List.getElem?_range hi];rfl
theorem Qo {F G:Nat->List Value} {n:Nat} (h:∀ i,i < n->F i=G i):rowF F n=rowF G n:=by
 induction n with
 | zero=>rfl
 | succ n A=>rw [Qk,Qk,A (fun i hi=>h i (by omega)),h n (by omega)]
theorem zaf {F:Nat->List Value} (hF:∀ i,(F i).length=7) {n i j:Nat} (hi:i < n) (hj:j < 7) (v:Value):(rowF F n).set (i * 7+j) v=rowF (fun x=>if x=i then (F i).set j v else F x) n:=by
 induction n with
 | zero=>omega
 | succ n A=>
  rw [Qk,Qk]
  by_cases e:i=n
  ·subst e
   rw [List.set_append_right _ _ (by rw [qu hF];omega),qu hF,show i * 7+j - i * 7=j from by omega,if_pos rfl];congr 1;exact Qo fun x B=>by rw [io]
  ·rw [List.set_append_left _ _ (by rw [qu hF];omega),A (by omega),if_neg (fun q=>e q.symm)]
theorem ZJ {w:World} {base:Nat} {e:TypeId} {size g n cap:Nat} {xs:List Value} (h:w.ownsRow base e size (.slice (some ⟨g,0,none⟩) n cap) n xs) (j:Nat) (v:Value) (hj:j < xs.length):
  (w.setCell ⟨g,j,none⟩ v).ownsRow base e size (.slice (some ⟨g,0,none⟩) n cap) n (xs.set j v):=by
 refine ⟨by rw [List.length_set];exact h.1,?_⟩;rcases h.2 with ⟨h',_⟩ | ⟨g',cap',cur,hv,hb,hg,h1,h2,h3,h4⟩
 ·simp at h'
 simp only [Value.slice.injEq,Option.some.injEq,Addr.mk.injEq,and_true,true_and] at hv
 obtain ⟨rfl,rfl⟩:=hv;refine .inr ⟨g,cap,cur.setIfInBounds j v,rfl,hb,heap_setCell_same w g j cur e v hg,h1,h2,by simpa using h3,?_⟩;rw [Array.toList_setIfInBounds,List.take_set,h4]
theorem qg {w:World} {base:Nat} {e:TypeId} {size n:Nat} {v:Value} {xs:List Value} (h:w.ownsRow base e size v n xs):∀ k,v.ownBlock=some k->k < w.heap.size:=fun k A=>(h.lt k A).2
theorem zv {O O':Own} {t:Nat} {w:World} {base:Nat} {e:TypeId} {size n:Nat} {v:Value} {xs:List Value} (h:w.ownsRow base e size v n xs) (ha:AgO w.heap.size O O') (ho:∀ k,v.ownBlock=some k->O k=t):∀ k,v.ownBlock=some k->O' k=t:=
 fun k A=>(ha k (qg h k A)).trans (ho k A)
def MGo (O:Own) (t:Nat) (w:World) (p:Nat) (n:Int) (S:List PS) (T:List KeyL):Prop:=
 ∃ gs c M sp ta tc,MGx 0 w p n S T gs c M sp ta tc/\O p=t/\O gs=t/\(∀ k,(Value.slice ta T.length tc).ownBlock=some k->O k=t)/\∀ (i:Nat) (m:MS),M[i]?=some m->∀ b o s,m.wa=some ⟨b,o,s⟩->O b=t
theorem ShOK.lt {toV:Option Nat} {m:MS} {s:PS} (h:ShOK B W toV m s):∀ b o sp,m.wa=some ⟨b,o,sp⟩->b < W.heap.size:=fun b o sp e=>by obtain ⟨cs,A⟩:=h.ty b o sp e;exact A.lt
theorem MGx.shlt {n:Int} {S:List PS} {T:List KeyL} {c:Nat} {ta:Option Addr} {tc:Nat} (h:MGx B W p n S T gs c M sp ta tc) {i:Nat} {m:MS} (hm:M[i]?=some m):∀ b o s,m.wa=some ⟨b,o,s⟩->B<=b/\b < W.heap.size:=fun b o s e=>by
 have hi:i < S.length:=by rw [<- h.len];exact (lg hm).1
 have A:=h.sh i m _ hm (le_ hi)
 exact ⟨A.base b o s e,A.lt b o s e⟩
theorem MGo.frm {t:Nat} {n:Int} {S:List PS} {T:List KeyL} (h:MGo O t w p n S T) (hf:Frm F w w') (hF:∀ b,b < w.heap.size->O b=t->¬ F b) (ha:AgO w.heap.size O O'):MGo O' t w' p n S T:=by
 obtain ⟨E,c,M,sp,ta,tc,B,H,I,J,K⟩:=h;have D:Frm (fun b=>b < w.heap.size/\F b) w w':=hf.mono (fun i h1 L=>⟨L,h1⟩);refine ⟨E,c,M,sp,ta,tc,B.keep D (fun k A=>⟨?_,?_,?_,?_⟩),(ha p B.P.lt).trans H,(ha E B.G.lt).trans I,zv B.told ha J,fun i m C b o s e=>(ha b (B.shlt C b o s e).2).trans (K i m C b o s e)⟩
 ·rintro rfl;exact hF _ A.1 H A.2
 ·rintro rfl;exact hF _ A.1 I A.2
 ·intro e;exact hF _ A.1 (J k e) A.2
 intro i m C b o s e q;subst q;exact hF _ A.1 (K i m C b o s e) A.2
theorem MGo.mg {t:Nat} {n:Int} {S:List PS} {T:List KeyL} (h:MGo O t w p n S T):MG 0 w p n S T:=by
 obtain ⟨B,c,M,sp,ta,tc,A,_⟩:=h;exact A.mg
theorem MGx.to0 {n:Int} {S:List PS} {T:List KeyL} {c:Nat} {ta:Option Addr} {tc:Nat} (h:MGx B W p n S T gs c M sp ta tc):MGx 0 W p n S T gs c M sp ta tc:=
 ⟨h.P,h.G,h.hc,h.hm,zi h.told (nz _),h.len,fun i m s h1 A=>by have q:=h.sh i m s h1 A;exact ⟨q.least,q.seq,q.ended,q.heard,q.last,q.waits,fun _ _ _ _=>nz _,q.apart,q.small,q.ty⟩,nz _,nz _,h.bd⟩
theorem XaX {O:Own} (t:Nat) (a:Option Addr) (m cap:Nat) (l:List Int) (n:Int) (w:World) (hr:Rd w a m cap (ints l)) (h1:1<=m) (h2:m<=6) (h3:1<=n) (h4:n<=10):
  Calls prog 65 #[.slice a m cap,n] w fun e w'=>e=.returned (.tuple #[.pointer (some ⟨w.heap.size,0,none⟩),()])/\MGo (O.upd w.heap.size t) t w' w.heap.size n (l.map newPS) []/\Below w.heap.size w w':=by
 refine (ZaO a m cap l n w hr h1 h2 h3 h4).mono ?_;rintro e w' ⟨rfl,D,E⟩;obtain ⟨C,c,M,sp,ta,tc,A⟩:=D.x;exact ⟨rfl,⟨C,c,M,sp,ta,tc,A.to0,Own.upd_ge A.bp,Own.upd_ge A.bg,fun k B=>Own.upd_ge (Xa A.told k B),fun i m F b o s e=>Own.upd_ge (A.shlt F b o s e).1⟩,E⟩
theorem qaY {i seq:Int} {S':List PS} {e r:Bool} (h:MGo O t w p n S T) (hr:RdE KeyL.cells 2 w a m cap l) (hs:∀ s∈S,0<=s.seq/\s.seq<=1000000) (he:putP n S T i seq l e=(r,S')):
  Calls prog 110 #[.pointer (some ⟨p,0,none⟩),i,seq,.slice a m cap,.bool e] w fun D w'=>D=.returned (.bool r)/\MGo (O.upd w.heap.size t) t w' p n S' T/\OFrm O t w w':=by
 obtain ⟨C,c,M,sp,ta,tc,A,N,E,Q,R⟩:=h;refine (Za0 0 p n i seq S T l e a m cap w C c M sp ta tc A hr hs (nz _)).mono ?_;rw [he];rintro D w' ⟨rfl,⟨F,H,I⟩,K,_⟩;have B:=AgO.upd w.heap.size t O;refine ⟨rfl,⟨C,c,F,sp,ta,tc,H,(B p A.P.lt).trans N,(B C A.G.lt).trans E,zv A.told B Q,fun i m L b o s e=>?_⟩,OFrm.of K (fun b J _=>by subst J;exact E)⟩;rcases I i m L b o s e with ⟨j,y,hy,ey⟩ | hge
 ·exact (B b (A.shlt hy b o s ey).2).trans (R j y hy b o s ey)
 exact Own.upd_ge hge
theorem xaO {S':List PS} {T' l:List KeyL} (h:MGo O t w p n S T) (hT:(T.length:Int)<=n) (he:tellP n S T=(l,S',T')):
  Calls prog 113 #[.pointer (some ⟨p,0,none⟩)] w fun e w'=>∃ B c,e=.returned (.slice B l.length c)/\w'.ownsRow w.heap.size 46 2 (.slice B l.length c) l.length (l.flatMap KeyL.cells)/\MGo (O.upd w.heap.size t) t w' p n S' T'/\OFrm O t w w':=by
 obtain ⟨D,c,M,sp,ta,tc,A,L,N,Q,f⟩:=h;refine (ZaH 0 p n S T w D c M sp ta tc A hT (nz _)).mono ?_;rw [he];rintro e w' ⟨B,U,rfl,d,⟨R,H,I,W,V,_,Y⟩,Z⟩;have C:=AgO.upd w.heap.size t O;refine ⟨B,U,rfl,d,⟨D,c,R,sp,H,I,W,(C p A.P.lt).trans L,(C D A.G.lt).trans N,fun k F=>?_,fun i m a b o s e=>?_⟩,OFrm.of Z (fun b E _=>?_)⟩
 ·rcases V k F with h1 | h1
  ·exact zv A.told C Q k h1
  exact Own.upd_ge h1
 ·obtain ⟨j,y,o',s',K,J⟩:=Y i m a b o s e
  exact (C b (A.shlt K b o' s' J).2).trans (f j y K b o' s' J)
 rcases E with rfl | rfl | E
 ·exact L
 ·exact N
 exact Q b E
abbrev One:=Int×Int
def leO (a b:One):Prop:=a.1 < b.1∨(a.1=b.1/\a.2<=b.2)
def ltO (a b:One):Bool:=decide (a.1 < b.1∨(a.1=b.1/\a.2 < b.2))
theorem yt {a b:One}:ltO a b=false↔leO b a:=by unfold ltO leO;rw [decide_eq_false_iff_not];omega
theorem YaN {a b:One}:ltO a b=true↔¬ leO b a:=by unfold ltO leO;rw [decide_eq_true_eq];omega
theorem Yac (a:One):leO a a:=by unfold leO;omega
theorem xk {a b c:One} (h:leO a b) (k:leO b c):leO a c:=by unfold leO at *;omega
theorem YaA (a b:One):leO a b∨leO b a:=by unfold leO;omega
theorem zt {a b:One} (h:ltO a b=true):leO a b:=by rw [YaN] at h;rcases YaA a b with k | k;exact k;exact absurd k h
def swapF (f:Nat->One) (i j:Nat):Nat->One:=fun k=>if k=i then f j else if k=j then f i else f k
theorem xl (f:Nat->One) (i j:Nat):swapF f i j i=f j:=by simp [swapF]
theorem xn (f:Nat->One) (i j:Nat):swapF f i j j=f i:=by unfold swapF;split <;> simp_all
theorem zd (f:Nat->One) (i j k:Nat) (h:k≠i) (h2:k≠j):swapF f i j k=f k:=by simp [swapF,h,h2]
def childF (f:Nat->One) (i n:Nat):Nat:=if 2 * i+2 < n/\ltO (f (2 * i+2)) (f (2 * i+1))=true then 2 * i+2 else 2 * i+1
def downF:Nat->(Nat->One)->Nat->Nat->(Nat->One)×Nat
 | 0,f,i,_=>(f,i)
 | q+1,f,i,n=>if n<=2 * i+1 then (f,i) else if ltO (f (childF f i n)) (f i)=false then (f,i) else downF q (swapF f i (childF f i n)) (childF f i n) n
def upF:Nat->(Nat->One)->Nat->(Nat->One)
 | 0,f,_=>f
 | q+1,f,j=>if (j - 1) / 2=j∨ltO (f j) (f ((j - 1) / 2))=false then f else upF q (swapF f ((j - 1) / 2) j) ((j - 1) / 2)
def Heap (f:Nat->One) (n:Nat):Prop:=∀ k,1<=k->k < n->leO (f ((k - 1) / 2)) (f k)
def qaV (f:Nat->One) (i n:Nat):Prop:=(∀ k,1<=k->k < n->(k - 1) / 2≠i->leO (f ((k - 1) / 2)) (f k))/\(∀ k,1<=k->k < n->(k - 1) / 2=i->1<=i->leO (f ((i - 1) / 2)) (f k))
def Za4 (f:Nat->One) (j n:Nat):Prop:=(∀ k,1<=k->k < n->k≠j->leO (f ((k - 1) / 2)) (f k))/\(∀ k,1<=k->k < n->(k - 1) / 2=j->1<=j->leO (f ((j - 1) / 2)) (f k))
def ya4 (f:Nat->One) (i n:Nat):Prop:=(∀ k,1<=k->k < n->k≠i->(k - 1) / 2≠i->leO (f ((k - 1) / 2)) (f k))/\(∀ k,1<=k->k < n->(k - 1) / 2=i->1<=i->leO (f ((i - 1) / 2)) (f k))
theorem Xg (f:Nat->One) (i n:Nat) (h:2 * i+1 < n):(childF f i n=2 * i+1∨childF f i n=2 * i+2)/\childF f i n < n/\(childF f i n - 1) / 2=i/\i < childF f i n/\(∀ k,1<=k->k < n->(k - 1) / 2=i->leO (f (childF f i n)) (f k)):=by
 unfold childF;split
 ·rename_i A
  refine ⟨.inr rfl,A.1,by omega,by omega,fun k h1 B C=>?_⟩;rcases (by omega:k=2 * i+1∨k=2 * i+2) with rfl | rfl
  ·exact zt A.2
  exact Yac _
 rename_i A
 refine ⟨.inl rfl,h,by omega,by omega,fun k h1 B C=>?_⟩;rcases (by omega:k=2 * i+1∨k=2 * i+2) with rfl | rfl
 ·exact Yac _
 have:ltO (f (2 * i+2)) (f (2 * i+1))=false:=by
  cases D:ltO (f (2 * i+2)) (f (2 * i+1)) with
  | false=>rfl
  | true=>exact absurd ⟨B,D⟩ A
 exact yt.1 this
theorem qV:∀ (q:Nat) (f:Nat->One) (i n:Nat),n<=i+q->qaV f i n->Heap (downF q f i n).1 n
 | 0,f,i,n,hq,h=>fun k h1 B=>h.1 k h1 B (by omega)
 | q+1,f,i,n,hq,h=>by
  unfold downF
  split
  ·rename_i hn
   exact fun k h1 B=>h.1 k h1 B (by omega)
  ·rename_i hn
   obtain ⟨c1,c2,c3,c4,c5⟩:=Xg f i n (by omega)
   generalize childF f i n=c at *
   split
   ·rename_i E
    have F:=yt.1 E
    intro k h1 B
    by_cases A:(k - 1) / 2=i
    ·rw [A];exact xk F (c5 k h1 B A)
    ·exact h.1 k h1 B A
   ·rename_i E
    have G:leO (f c) (f i):=by
     cases H:ltO (f c) (f i) with
     | false=>exact absurd H E
     | true=>exact zt H
    refine qV q _ c n (by omega) ⟨fun k h1 B A=>?_,fun k h1 B A I=>?_⟩
    ·by_cases C:(k - 1) / 2=i
     ·rw [C,xl]
      by_cases D:k=c
      ·rw [D,xn];exact G
      ·rw [zd _ _ _ _ (by omega) D];exact c5 k h1 B C
     ·by_cases D:k=i
      ·subst D
       rw [xl,zd _ _ _ _ (by omega) (by omega)];exact h.2 c (by omega) c2 c3 h1
      ·have J:k≠c:=by intro e;subst e;exact C c3
       rw [zd _ _ _ _ C A,zd _ _ _ _ D J];exact h.1 k h1 B C
    ·rw [c3,xl,zd _ _ _ _ (by omega) (by omega)]
     have:=h.1 k h1 B (by omega);rw [A] at this;exact this
theorem Q8:∀ (q:Nat) (f:Nat->One) (j n:Nat),j<=q->j < n->Za4 f j n->Heap (upF q f j) n
 | 0,f,j,n,hq,hj,h=>fun k h1 B=>h.1 k h1 B (by omega)
 | q+1,f,j,n,hq,hj,h=>by
  unfold upF
  split
  ·rename_i hc
   intro k h1 B
   by_cases A:k=j
   ·subst A
    rcases hc with hc | hc
    ·omega
    ·exact yt.1 hc
   ·exact h.1 k h1 B A
  ·rename_i hc
   have hj1:1<=j:=by
    rcases Nat.eq_zero_or_pos j with h0 | h0
    ·exfalso;apply hc;left;omega
    ·exact h0
   have D:leO (f j) (f ((j - 1) / 2)):=by
    cases H:ltO (f j) (f ((j - 1) / 2)) with
    | false=>exact absurd (.inr H) hc
    | true=>exact zt H
   refine Q8 q _ ((j - 1) / 2) n (by omega) (by omega) ⟨fun k h1 B A=>?_,fun k h1 B A I=>?_⟩
   ·by_cases C:k=j
    ·subst C;rw [xl,xn];exact D
    ·rw [zd _ _ _ _ A C]
     by_cases F:(k - 1) / 2=(j - 1) / 2
     ·rw [F,xl]
      have:=h.1 k h1 B C;rw [F] at this;exact xk D this
     ·by_cases G:(k - 1) / 2=j
      ·rw [G,xn];exact h.2 k h1 B G hj1
      ·rw [zd _ _ _ _ F G];exact h.1 k h1 B C
   ·have E:leO (f (((j - 1) / 2 - 1) / 2)) (f ((j - 1) / 2)):=h.1 ((j - 1) / 2) I (by omega) (by omega)
    rw [zd _ _ _ _ (by omega) (by omega)]
    by_cases C:k=j
    ·subst C;rw [xn];exact E
    ·rw [zd _ _ _ _ (by omega) C]
     have:=h.1 k h1 B C;rw [A] at this;exact xk E this
theorem xaW (q:Nat) (f:Nat->One) (i n:Nat) (hq:n<=i+q) (h:ya4 f i n):((downF q f i n).2=i->(downF q f i n).1=f/\Za4 f i n)/\((downF q f i n).2≠i->Heap (downF q f i n).1 n)/\i<=(downF q f i n).2:=by
 have F:∀ (q:Nat) (f:Nat->One) (i n:Nat),i<=(downF q f i n).2:=by
  intro q;induction q with
  | zero=>intro f i n;exact nl _
  | succ q R=>
   intro f i n;unfold downF;split
   ·exact nl _
   ·rename_i L
    split
    ·exact nl _
    ·obtain ⟨_,_,_,G,_⟩:=Xg f i n (by omega)
     exact nr (Nat.le_of_lt G) (R _ _ _)
 refine ⟨?_,?_,F q f i n⟩
 ·cases q with
  | zero=>intro _;exact ⟨rfl,fun k h1 B A=>h.1 k h1 B A (by omega),fun k h1 B A hi=>by omega⟩
  | succ q=>
   unfold downF;split
   ·rename_i L
    intro _;exact ⟨rfl,fun k h1 B A=>h.1 k h1 B A (by omega),h.2⟩
   ·rename_i L
    obtain ⟨P,M,c3,G,H⟩:=Xg f i n (by omega);generalize childF f i n=c at *;split
    ·rename_i I
     have J:=yt.1 I;intro _;refine ⟨rfl,fun k h1 B A=>?_,h.2⟩
     by_cases D:(k - 1) / 2=i
     ·rw [D];exact xk J (H k h1 B D)
     ·exact h.1 k h1 B A D
    ·intro e
     have:=F q (swapF f i c) c n;omega
 cases q with
 | zero=>intro C;exact absurd rfl C
 | succ q=>
  unfold downF;split
  ·intro C;exact absurd rfl C
  ·rename_i L
   obtain ⟨P,M,c3,G,H⟩:=Xg f i n (by omega);generalize childF f i n=c at *;split
   ·intro C;exact absurd rfl C
   ·rename_i I
    intro _
    have K:leO (f c) (f i):=by
     cases N:ltO (f c) (f i) with
     | false=>exact absurd N I
     | true=>exact zt N
    refine qV q _ c n (by omega) ⟨fun k h1 B A=>?_,fun k h1 B A Q=>?_⟩
    ·by_cases D:(k - 1) / 2=i
     ·rw [D,xl]
      by_cases E:k=c
      ·rw [E,xn];exact K
      ·rw [zd _ _ _ _ (by omega) E];exact H k h1 B D
     ·by_cases E:k=i
      ·subst E
       rw [xl,zd _ _ _ _ (by omega) (by omega)];exact h.2 c (by omega) M c3 h1
      ·have T:k≠c:=by intro e;subst e;exact D c3
       rw [zd _ _ _ _ D A,zd _ _ _ _ E T];exact h.1 k h1 B E D
    ·rw [c3,xl,zd _ _ _ _ (by omega) (by omega)]
     have:=h.1 k h1 B (by omega) (by omega);rw [A] at this;exact this
theorem yp {P:Program} {w:World} {q:Nat} {t elem:TypeId} {name:String} {fid:FuncId} {p o:Nat} {v:Value}
  (hi:(P.info? t).map (fun i=>(i.methods.find? (·.name == name)).map fun m=>(m.path,m.func))=some (some (#[],some (fid,false)))) (hu:P.underlying t=some (.pointer elem))
  (hl:(loadVar elem ⟨p,o,none⟩).run P w=.ok v w):(method (q+1) t (.pointer (some ⟨p,o,none⟩)) name).run P w=.ok (fid,v) w:=by
 cases h:P.info? t with
 | none=>rw [h] at hi;simp at hi
 | some i=>
  rw [h] at hi;simp only [Option.map_some,Option.some.injEq] at hi;cases A:i.methods.find? (·.name == name) with
  | none=>rw [A] at hi;simp at hi
  | some m=>
   rw [A] at hi;simp only [Option.map_some,Option.some.injEq,Prod.mk.injEq] at hi;obtain ⟨C,B⟩:=hi;have D:∀ xt nm,Builtin.ssaWrapNilChk_ #[xt] xt #[.pointer (some ⟨p,o,none⟩),strVal "",strVal nm]=pure (.pointer (some ⟨p,o,none⟩)):=fun _ _=>rfl;simp [method,typeInfo,h,A,C,B,follow,receiverAt,run_underlying hu,Place.get,D,asAddr,hl]
theorem XO (h:Cl w p o v):(method 415 260 (.pointer (some ⟨p,o,none⟩)) "Less").run prog w=.ok (233,v) w:=by
 refine yp (by kernel_rfl) underlying260 ?_;go_simp
theorem XaN (h:Cl w p o v):(method 415 260 (.pointer (some ⟨p,o,none⟩)) "Len").run prog w=.ok (232,v) w:=by
 refine yp (by kernel_rfl) underlying260 ?_;go_simp
theorem qP (h:Cl w p o v):(method 415 260 (.pointer (some ⟨p,o,none⟩)) "Swap").run prog w=.ok (234,v) w:=by
 refine yp (by kernel_rfl) underlying260 ?_;go_simp
theorem za6 (a:Addr) (w:World):(method 415 260 (.pointer (some a)) "Push").run prog w=.ok (236,.pointer (some a)) w:=by kernel_rfl
theorem zba (a:Addr) (w:World):(method 415 260 (.pointer (some a)) "Pop").run prog w=.ok (235,.pointer (some a)) w:=by kernel_rfl
def oneCells (x:One):List Value:=[.int .i64 x.1,.int .i64 x.2]
def HB (w:World) (g n:Nat) (f:Nat->One) (sp:List Value):Prop:=Blk w g 265 ((List.range n).flatMap (fun k=>oneCells (f k))++sp)
theorem HB.c0 {n:Nat} (h:HB w g n f sp) {k:Nat} (A:k < n):w.cell? ⟨g,k * 2,none⟩=some (.int .i64 (f k).1):=by
 unfold HB at h;rw [h.cell,List.getElem?_append_left (by rw [zc _ 2 (fun _=>rfl),List.length_range];omega)];have:=yc (fun k=>oneCells (f k)) 2 (fun _=>rfl) (List.range n) k 0 (by omega);rw [Nat.add_zero] at this;rw [this,List.getElem?_range A];rfl
theorem HB.c1 {n:Nat} (h:HB w g n f sp) {k:Nat} (A:k < n):w.cell? ⟨g,k * 2+1,none⟩=some (.int .i64 (f k).2):=by
 unfold HB at h;rw [h.cell,List.getElem?_append_left (by rw [zc _ 2 (fun _=>rfl),List.length_range];omega)];rw [yc (fun k=>oneCells (f k)) 2 (fun _=>rfl) (List.range n) k 1 (by omega),List.getElem?_range A];rfl
theorem Ya6 (a b:One):decide (orI (cmpI a.1 b.1) (cmpI a.2 b.2) < 0)=ltO a b:=by
 unfold ltO;apply decide_eq_decide.2;unfold orI cmpI
 by_cases h1:a.1 < b.1
 ·simp [h1]
 by_cases A:b.1 < a.1
 ·simp [h1,A];omega
 by_cases B:a.2 < b.2
 ·simp [h1,A,B];omega
 by_cases C:b.2 < a.2
 ·simp [h1,A,B,C]
 simp [h1,A,B,C]
theorem zP (a:Option Addr) (n c:Nat) (w:World):Calls prog 232 #[.slice a n c] w fun e w'=>e=.returned (.int .i64 n)/\w=w':=by
 go_in;go_wp2;go_ret;exact ⟨rfl,rfl⟩
theorem Zt (g n c i j:Nat) (f:Nat->One) (sp:List Value) (w:World) (h:HB w g n f sp) (hi:i < n) (hj:j < n) (hn:n<=1000):
  Calls prog 233 #[.slice (some ⟨g,0,none⟩) n c,i,j] w fun e w'=>e=.returned (.bool (ltO (f i) (f j)))/\Below w.heap.size w w':=by
 have G:=h.c0 hi;have H:=h.c1 hi;have I:=h.c0 hj;have J:=h.c1 hj;rw [<- Ya6];generalize f i=x at *;generalize f j=y at *;obtain ⟨A,B⟩:=x;obtain ⟨C,D⟩:=y;simp only at G H I J ⊢;have E:Hid (∀ W,Calls prog 189 #[A,C] W fun e w'=>e=.returned (.int .i64 (cmpI A C))/\w'=W):=fun W=>(zE A C W).mono fun e w' h=>⟨h.1,h.2.symm⟩;have F:Hid (∀ W,Calls prog 189 #[B,D] W fun e w'=>e=.returned (.int .i64 (cmpI B D))/\w'=W):=fun W=>(zE B D W).mono fun e w' h=>⟨h.1,h.2.symm⟩;generalize cmpI A C=u at *;generalize cmpI B D=v at *
 clear h;have K:decide (i < n)=true:=by simpa using hi
 have L:decide (j < n)=true:=by simpa using hj
 go_in;go_wp2_with fail;go_still_tail 22,(by kernel_rfl);still_call (E.o _);repeat still_step
 still_call (F.o _);repeat still_step
 refine wpStill_nil ?_;go_wp2_with fail;refine (qan _ _ 3 u v ?_).mono ?_
 ·have h:=hn_ w.drew (.cells #[u,v] 3)
  exact h
 rintro e w' ⟨rfl,rfl⟩;go_wp2_with fail;go_ret;exact ⟨rfl,(below_drewN (bf w.heap.size w) 1).alloc (nl _) _⟩
theorem qh (w:World) (g k:Nat) (v:Value):w.grownBy (w.setCell ⟨g,k,none⟩ v) (some g):=
 ⟨rfl,rfl,rfl,by simp [World.setCell],fun b B A=>Below.heap_setCell _ _ _ _ (by intro e;subst e;exact A rfl)⟩
theorem yaH (n i j:Nat) (f:Nat->One) (hi:i < n) (hj:j < n) (H:i≠j) (sp:List Value):
  ((((((List.range n).flatMap (fun k=>oneCells (f k))++sp).set (i * 2) (.int .i64 (f j).1)).set (i * 2+1) (.int .i64 (f j).2)).set (j * 2) (.int .i64 (f i).1)).set (j * 2+1) (.int .i64 (f i).2))=(List.range n).flatMap (fun k=>oneCells (swapF f i j k))++sp:=by
 have A:∀ h:Nat->One,((List.range n).flatMap (fun k=>oneCells (h k))).length=n * 2:=fun h=>by rw [zc _ 2 (fun _=>rfl),List.length_range]
 apply List.ext_getElem?;intro q
 by_cases I:q < n * 2
 ·have J:q % 2 < 2:=Nat.mod_lt _ (by omega)
  have C:q / 2 < n:=by omega
  have B:∀ h:Nat->One,((List.range n).flatMap (fun k=>oneCells (h k))++sp)[q]?=(oneCells (h (q / 2)))[q % 2]?:=by
   intro h;rw [List.getElem?_append_left (by rw [A];exact I)];have:=yc (fun k=>oneCells (h k)) 2 (fun _=>rfl) (List.range n) (q / 2) (q % 2) J;rw [show q / 2 * 2+q % 2=q from by omega,List.getElem?_range C] at this;exact this
  rw [B (swapF f i j)];simp only [List.getElem?_set,List.length_set,List.length_append,A]
  by_cases D:q=j * 2+1
  ·rw [if_pos D.symm,ip,show q / 2=j from by omega,show q % 2=1 from by omega,xn];rfl
  rw [if_neg (fun e=>D e.symm)]
  by_cases E:q=j * 2
  ·rw [if_pos E.symm,ip,show q / 2=j from by omega,show q % 2=0 from by omega,xn];rfl
  rw [if_neg (fun e=>E e.symm)]
  by_cases F:q=i * 2+1
  ·rw [if_pos F.symm,ip,show q / 2=i from by omega,show q % 2=1 from by omega,xl];rfl
  rw [if_neg (fun e=>F e.symm)]
  by_cases G:q=i * 2
  ·rw [if_pos G.symm,ip,show q / 2=i from by omega,show q % 2=0 from by omega,xl];rfl
  rw [if_neg (fun e=>G e.symm),B f,zd _ _ _ _ (by omega) (by omega)]
 simp only [List.getElem?_set]
 rw [io,io,io,io,List.getElem?_append_right (by rw [A];omega),List.getElem?_append_right (by rw [A];omega),A,A]
theorem Yt (g n c i j:Nat) (f:Nat->One) (sp:List Value) (w:World) (h:HB w g n f sp) (hi:i < n) (hj:j < n) (hn:n<=1000) (B:i≠j):
  Calls prog 234 #[.slice (some ⟨g,0,none⟩) n c,i,j] w fun e w'=>e=.returned (.tuple #[])/\HB w' g n (swapF f i j) sp/\w.grownBy w' (some g):=by
 have I:=h.c0 hi;have J:=h.c1 hi;have K:=h.c0 hj;have L:=h.c1 hj;have D:∀ k,w.frozen? ⟨g,k,none⟩=false:=fun k=>h.frozen k
 have C:=Hy (show HB ((((w.setCell ⟨g,i * 2,none⟩ (.int .i64 (f j).1)).setCell ⟨g,i * 2+1,none⟩ (.int .i64 (f j).2)).setCell ⟨g,j * 2,none⟩ (.int .i64 (f i).1)).setCell ⟨g,j * 2+1,none⟩ (.int .i64 (f i).2)) g n (swapF f i j) sp from by
  have:=(((h.set (i * 2) (.int .i64 (f j).1)).set (i * 2+1) (.int .i64 (f j).2)).set (j * 2) (.int .i64 (f i).1)).set (j * 2+1) (.int .i64 (f i).2);rw [yaH n i j f hi hj B sp] at this;exact this)
 generalize f i=x at *;generalize f j=y at *;clear h;have E:i * 2≠j * 2:=by omega
 have F:i * 2+1≠j * 2+1:=by omega
 have G:i * 2≠j * 2+1:=by omega
 have H:i * 2+1≠j * 2:=by omega
 go_in;go_wp2_with fail;go_region;go_end0;refine ⟨rfl,C.o,?_⟩;have A:=zb (zb (zb (qh w g (i * 2) (.int .i64 y.1)) (qh _ g (i * 2+1) (.int .i64 y.2))) (qh _ g (j * 2) (.int .i64 x.1))) (qh _ g (j * 2+1) (.int .i64 x.2));exact ⟨A.os,A.tape,A.output,A.size,A.block⟩
def MH (w:World) (p o g n c:Nat) (f:Nat->One) (sp:List Value):Prop:=w.cell? ⟨p,o,none⟩=some (.slice (some ⟨g,0,none⟩) n c)/\HB w g n f sp/\p≠g/\p < w.heap.size
theorem MH.grown {w':World} {o n c:Nat} (h:MH w p o g n c f sp) (hg:w.grownBy w' (some g)) (hb:HB w' g n f' sp'):MH w' p o g n c f' sp':=
 ⟨by rw [World.cell?_of_block (w:=w) (hg.block p h.2.2.2 (fun e=>h.2.2.1 (Option.some.inj e)))];exact h.1,hb,h.2.2.1,nt h.2.2.2 hg.size⟩
theorem MH.below {o n c:Nat} (h:MH w p o g n c f sp) (hb:Below w.heap.size w w'):MH w' p o g n c f sp:=
 ⟨(hb.cell (p:=⟨p,o,none⟩) h.2.2.2).trans h.1,h.2.1.below hb h.2.1.lt,h.2.2.1,nt h.2.2.2 hb.size⟩
theorem zm {w:World} (h:Below w.heap.size w w') (row:Option Nat):w.grownBy w' row:=⟨h.os,h.tape,h.output,h.size,fun k A _=>h.block k A⟩
def UpR (w:World) (p o g n c:Nat) (sp:List Value) (r:Nat->One) (v1:Value) (wr:World):Prop:=∃ (j q:Nat) (f:Nat->One),j < n/\j<=q/\v1=.int .i64 j/\Hid (upF q f j=r)/\Hid (MH wr p o g n c f sp)/\Hid (w.grownBy wr (some g))
theorem qas (p o g n c j:Nat) (f:Nat->One) (sp:List Value) (w:World) (h:MH w p o g n c f sp) (G:j < n) (hn:n<=1000):
  Calls prog 199 #[.iface 260 (.pointer (some ⟨p,o,none⟩)),j] w fun e w'=>e=.returned (.tuple #[])/\MH w' p o g n c (upF j f j) sp/\w.grownBy w' (some g):=by
 have C:=Hy h;clear h;have ⟨r,E⟩:=gn (upF j f j);rw [E];have B:=Hy E;clear E;go_in;go_wp2_with fail;go_loopw [1] (fun U wr=>UpR w p o g n c sp r U wr) (fun U _=>(intOf U).toNat)
 case atStart=>exact ⟨j,j,f,G,nl _,rfl,B.o,C.o,World.grownBy.refl _ _⟩
 case round=>
  clear C B G;obtain ⟨j,q,f,G,Z,rfl,B,C,K⟩:=hrel
  by_cases h0:j=0
  ·subst h0
   have E:r=f:=by rw [<- B.o];cases q <;> simp [upF]
   subst E;clear B;go_wp2_with fail;go_end0;exact ⟨rfl,C.o,K.o⟩
  have Q:=XO C.1
  have ⟨i,hi⟩:=gn ((j - 1) / 2);have Y:i < j:=by omega
  have V:((j:Int) - 1) / 2=(i:Int):=by omega
  have W:((i:Int) == (j:Int))=false:=by rw [beq_eq_false_iff_ne];omega
  have H:∀ T,q=T+1->upF q f j=if ltO (f j) (f i)=false then f else upF T (swapF f i j) i:=by
   intro T e;subst e;rw [upF,hi];simp [show i≠j by omega]
  have I:=Hy (H (q - 1) (by omega));clear H hi;go_wp2_with fail;refine (Zt g n c j i f sp _ C.2.1 G (by omega) hn).mono ?_;rintro e a ⟨rfl,F⟩;have A:=Hy (C.below F);have D:=Hy (zb K.o (zm F (some g)));clear F C K Q;cases J:ltO (f j) (f i) with
  | false=>
   have E:r=f:=by rw [<- B.o,I.o,J];rfl
   subst E;clear B I J;go_wp2_with fail;go_end0;exact ⟨rfl,A.o,D.o⟩
  | true=>
   have N:Hid (upF (q - 1) (swapF f i j) i=r):=by rw [<- B.o,I.o,J];rfl
   have R:=qP A.1;clear B I J;go_wp2_with fail;refine (Yt g n c i j f sp _ A.2.1 (by omega) G hn (by omega)).mono ?_;rintro e b ⟨rfl,F,P⟩;have M:=Hy (A.grown P F);have L:=Hy (zb D.o P);clear F P A D R;go_wp2_with fail;go_roundw
   case rel=>exact ⟨i,q - 1,swapF f i j,by omega,by omega,rfl,N.o,M.o,L.o⟩
   case measure=>simp [intOf];omega
def DnR (w:World) (p o g m c:Nat) (n:Nat) (sp:List Value) (r:(Nat->One)×Nat) (v7:Value) (wr:World):Prop:=∃ (i q:Nat) (f:Nat->One),i<=n/\n<=i+q/\v7=.int .i64 i/\Hid (downF q f i n=r)/\Hid (MH wr p o g m c f sp)/\Hid (w.grownBy wr (some g))
theorem xab (p o g m c i n:Nat) (f:Nat->One) (sp:List Value) (w:World) (h:MH w p o g m c f sp) (hi:i<=n) (Ae:n<=m) (hn:m<=1000):
  Calls prog 198 #[.iface 260 (.pointer (some ⟨p,o,none⟩)),i,n] w fun e w'=>e=.returned (.bool (decide (i < (downF n f i n).2)))/\MH w' p o g m c (downF n f i n).1 sp/\w.grownBy w' (some g):=by
 have M:=Hy h;clear h;have ⟨r,U⟩:=gn (downF n f i n);rw [U];have I:=Hy U;clear U;go_in;go_wp2_with fail;go_loopw [7] (fun s wr=>DnR w p o g m c n sp r s wr) (fun s _=>n - (intOf s).toNat)
 case atStart=>exact ⟨i,n,f,hi,by omega,rfl,I.o,M.o,World.grownBy.refl _ _⟩
 case round=>
  clear M I hi;obtain ⟨k,q,f,Ac,hq,rfl,I,M,Y⟩:=hrel
  by_cases h1:n<=2 * k+1
  ·have U:r=(f,k):=by
    rw [<- I.o];cases q with
    | zero=>rfl
    | succ q=>rw [downF,if_pos h1]
   subst U;have y:decide ((n:Int)<=2 * (k:Int)+1)=true:=by simp;omega
   clear I;go_wp2_with fail;go_ret;exact ⟨by simp,M.o,Y.o⟩
  have L:∀ cc,childF f k n=cc->downF q f k n=if ltO (f cc) (f k)=false then (f,k) else downF (q - 1) (swapF f k cc) cc n:=by
   intro cc hc;cases q with
   | zero=>omega
   | succ q=>rw [downF,if_neg h1,hc];rfl
  have ⟨C,a⟩:=gn (2 * k+1);have ⟨G,b⟩:=gn (2 * k+2);have F:childF f k n=if G < n/\ltO (f G) (f C)=true then G else C:=by unfold childF;rw [a,b]
  have e0:2 * (k:Int)+1=(C:Int):=by omega
  have e1:(C:Int)+1=(G:Int):=by omega
  have Ab:C < n:=by omega
  have Ad:k < C:=by omega
  have W:G=C+1:=by omega
  have y:decide (n<=C)=false:=by simp;omega
  have Z:=Hy W;clear h1 a b W
  by_cases d:G < n
  ·have z:decide (G < n)=true:=by simpa using d
   have t:k < G:=by have:=Z.o;omega
   have l:=XO M.1;go_wp2_with fail;refine (Zt g m c G C f sp _ M.2.1 (by omega) (by omega) hn).mono ?_;rintro e w2 ⟨rfl,D⟩;have H:=Hy (M.below D);have V:=Hy (zb Y.o (zm D (some g)));clear D M Y l;cases j:ltO (f G) (f C) with
   | true=>
    rw [j,if_pos ⟨d,rfl⟩] at F;have K:=Hy (L G F);clear L F j;have J:=XO H.1;go_wp2_with fail;refine (Zt g m c G k f sp _ H.2.1 (by omega) (by omega) hn).mono ?_;rintro e u ⟨rfl,D⟩;have A:=Hy (H.below D);have E:=Hy (zb V.o (zm D (some g)));clear D H V J;cases B:ltO (f G) (f k) with
    | false=>
     have U:r=(f,k):=by rw [<- I.o,K.o,B];rfl
     subst U;clear I K B;go_wp2_with fail;go_ret;exact ⟨by simp,A.o,E.o⟩
    | true=>
     have Q:Hid (downF (q - 1) (swapF f k G) G n=r):=by rw [<- I.o,K.o,B];rfl
     have T:=qP A.1;clear I K B;go_wp2_with fail;refine (Yt g m c k G f sp _ A.2.1 (by omega) (by omega) hn (by omega)).mono ?_;rintro e v ⟨rfl,D,R⟩;have P:=Hy (A.grown R D);have N:=Hy (zb E.o R);clear D R A E T;go_wp2_with fail;go_roundw
     case rel=>exact ⟨G,q - 1,swapF f k G,by omega,by omega,rfl,Q.o,P.o,N.o⟩
     case measure=>simp [intOf];omega
   | false=>
    rw [j,if_neg (by simp)] at F;have K:=Hy (L C F);clear L F j;have J:=XO H.1;go_wp2_with fail;refine (Zt g m c C k f sp _ H.2.1 (by omega) (by omega) hn).mono ?_;rintro e u ⟨rfl,D⟩;have A:=Hy (H.below D);have E:=Hy (zb V.o (zm D (some g)));clear D H V J;cases B:ltO (f C) (f k) with
    | false=>
     have U:r=(f,k):=by rw [<- I.o,K.o,B];rfl
     subst U;clear I K B;go_wp2_with fail;go_ret;exact ⟨by simp,A.o,E.o⟩
    | true=>
     have Q:Hid (downF (q - 1) (swapF f k C) C n=r):=by rw [<- I.o,K.o,B];rfl
     have T:=qP A.1;clear I K B;go_wp2_with fail;refine (Yt g m c k C f sp _ A.2.1 (by omega) (by omega) hn (by omega)).mono ?_;rintro e v ⟨rfl,D,R⟩;have P:=Hy (A.grown R D);have N:=Hy (zb E.o R);clear D R A E T;go_wp2_with fail;go_roundw
     case rel=>exact ⟨C,q - 1,swapF f k C,by omega,by omega,rfl,Q.o,P.o,N.o⟩
     case measure=>simp [intOf];omega
  have z:decide (G < n)=false:=by simpa using d
  rw [if_neg (fun h=>d h.1)] at F;have K:=Hy (L C F);clear L F;have J:=XO M.1;go_wp2_with fail;refine (Zt g m c C k f sp _ M.2.1 (by omega) (by omega) hn).mono ?_;rintro e u ⟨rfl,D⟩;have A:=Hy (M.below D);have E:=Hy (zb Y.o (zm D (some g)));clear D M Y J;cases B:ltO (f C) (f k) with
  | false=>
   have U:r=(f,k):=by rw [<- I.o,K.o,B];rfl
   subst U;clear I K B;go_wp2_with fail;go_ret;exact ⟨by simp,A.o,E.o⟩
  | true=>
   have Q:Hid (downF (q - 1) (swapF f k C) C n=r):=by rw [<- I.o,K.o,B];rfl
   have T:=qP A.1;clear I K B;go_wp2_with fail;refine (Yt g m c k C f sp _ A.2.1 (by omega) (by omega) hn (by omega)).mono ?_;rintro e v ⟨rfl,D,R⟩;have P:=Hy (A.grown R D);have N:=Hy (zb E.o R);clear D R A E T;go_wp2_with fail;go_roundw
   case rel=>exact ⟨C,q - 1,swapF f k C,by omega,by omega,rfl,Q.o,P.o,N.o⟩
   case measure=>simp [intOf];omega
theorem yY {n:Nat} (h:HB w g (n+1) f sp):HB w g n f (oneCells (f n)++sp):=by
 unfold HB at *;rw [List.range_succ,List.flatMap_append,List.append_assoc] at h;simpa using h
theorem HB.frm {S:Nat->Prop} {n:Nat} (h:HB w g n f sp) (hf:Frm S w w') (hg:¬ S g):HB w' g n f sp:=Blk.frm h hf hg
theorem xP (p o g n c:Nat) (T:TypeId) (cs:List Value) (f:Nat->One) (sp:List Value) (w:World) (hp:Blk w p T cs) (ho:cs[o]?=some (.slice (some ⟨g,0,none⟩) (n+1:Nat) c)) (hb:HB w g (n+1) f sp) (F:p≠g) (hc:n+1<=c) (hn:n<=1000):
  Calls prog 235 #[.pointer (some ⟨p,o,none⟩)] w fun e w'=>e=.returned (.iface 265 (.agg #[.int .i64 (f n).1,.int .i64 (f n).2]))/\Blk w' p T (cs.set o (.slice (some ⟨g,0,none⟩) n c))/\Frm (fun k=>k=p) w w':=by
 have K:w.cell? ⟨p,o,none⟩=some (.slice (some ⟨g,0,none⟩) (n+1:Nat) c):=by rw [hp.cell,ho]
 have H:=hb.c0 (Nat.lt_succ_self n);have I:=hb.c1 (Nat.lt_succ_self n);have L:=zk (o:=o) hp;have C:=Hy hp;have G:=hp.lt;have E:g < w.heap.size:=Blk.lt hb;clear hp ho;generalize A:f n=x at H I ⊢;have J:=Hy A;have B:=Hy hb;clear A hb;have M:IntKind.i64.wrap (n:Int)=n:=IntWalk.i64_in _ (by omega);have N:(0:Int)<=n:=by omega
 have P:(n:Int) < (n:Int)+1:=by omega
 have Q:(n:Int)<=c:=by omega
 go_in;go_wp2_with fail;go_region
 all_goals go_wp2_with fail
 all_goals go_region
 all_goals go_wp2_with fail
 all_goals go_ret
 all_goals
  refine ⟨rfl,?_,?_⟩
  ·exact (C.set o _).alloc _
  ·have D:Frm (fun k=>k=p) w (w.setCell ⟨p,o,none⟩ (.slice (some ⟨g,0,none⟩) n c)):=(Frm.refl _ _).setCell _ _ (.inl rfl)
   exact ((D.alloc _).drew).drew
def fl (n:Nat) (f:Nat->One):List Value:=(List.range n).flatMap (fun k=>oneCells (f k))
theorem QA (n:Nat) (f:Nat->One):(fl n f).length=n * 2:=by unfold fl;rw [zc _ 2 (fun _=>rfl),List.length_range]
theorem qZ (n:Nat) (f:Nat->One):fl (n+1) f=fl n f++oneCells (f n):=by unfold fl;rw [List.range_succ,List.flatMap_append];simp
theorem ZaL (n:Nat) (f g:Nat->One) (h:∀ k,k < n->f k=g k):fl n f=fl n g:=by
 induction n with
 | zero=>rfl
 | succ n B=>rw [qZ,qZ,B (fun k A=>h k (by omega)),h n (by omega)]
structure VO (w:World) (p o:Nat) (T:TypeId) (cs:List Value) (ao:Option Addr) (n c:Nat) (f:Nat->One):Prop where
 blk:Blk w p T cs
 var:cs[o]?=some (.slice ao n c)
 own:w.ownsRow 0 265 2 (.slice ao n c) n (fl n f)
 ty:T≠265
theorem zaN:(Tryz.prog.info? 265).map (fun i=>(i.zero,i.size,i.bytes))=some (some (.agg #[(),()]),2,16):=by kernel_rfl
theorem zaC (p o n c:Nat) (T:TypeId) (cs:List Value) (ao:Option Addr) (f:Nat->One) (x:One) (w:World) (h:VO w p o T cs ao n c f) (hn:n<=999):
  Calls prog 236 #[.pointer (some ⟨p,o,none⟩),.iface 265 (.agg #[x.1,x.2])] w fun e w'=>∃ D L,e=.returned (.tuple #[])/\Blk w' p T (cs.set o (.slice (some ⟨D,0,none⟩) (n+1:Nat) L))/\w'.ownsRow 0 265 2 (.slice (some ⟨D,0,none⟩) (n+1:Nat) L) (n+1) (fl n f++oneCells x)/\Frm (fun k=>k=p∨(Value.slice ao n c).ownBlock=some k) w w'/\((Value.slice ao n c).ownBlock=some D∨w.heap.size<=D):=by
 obtain ⟨i0,hi,P,Q,R⟩:=info_parts zaN;have HI:=Hy hi;have q:=Hy P;have r:=Hy Q;have s:=Hy R;clear hi P Q R;obtain ⟨J,ho,B,hT⟩:=h;have cv:w.cell? ⟨p,o,none⟩=some (.slice ao n c):=by rw [J.cell,ho]
 have fz:=zk (o:=o) J;have Aa:=J.lt;have G:=Hy (Qb B J hT);have HP:=Hy J;have HO:=Hy B;clear J ho B;have Ap:∀ W:World,(Instr.typeAssert (.iface 265 (.agg #[x.1,x.2])) 20 265 true).run prog W=.ok (.tuple #[.agg #[x.1,x.2],true]) W:=fun _=>by kernel_rfl
 go_in;go_wp2_with fail;have M:Frm (fun k=>k=p∨(Value.slice ao n c).ownBlock=some k) w (w.alloc (.cells #[x.1,x.2] 265)):=(Frm.refl _ _).alloc _;have Y:=Hy M;have H:=Hy (Blk.alloc HP.o (.cells #[x.1,x.2] 265));have d:=Hy (HO.alloc (.cells #[x.1,x.2] 265));have Aq:(w.alloc (.cells #[x.1,x.2] 265)).cell? ⟨w.heap.size,0,none⟩=some (.int .i64 x.1):=by rw [cell_of_row _ _ _ _ _ _ (heap_alloc_new w _)];rfl
 have Ar:(w.alloc (.cells #[x.1,x.2] 265)).cell? ⟨w.heap.size,1,none⟩=some (.int .i64 x.2):=by rw [cell_of_row _ _ _ _ _ _ (heap_alloc_new w _)];rfl
 have t:(w.alloc (.cells #[x.1,x.2] 265)).cell? ⟨p,o,none⟩=some (.slice ao n c):=by rw [World.cell?_alloc_lt _ _ _ (by exact Aa)];exact cv
 have hz:w.heap.size<=(w.alloc (.cells #[x.1,x.2] 265)).heap.size:=by simp
 clear M HP HO cv fz;generalize w.alloc (.cells #[x.1,x.2] 265)=W0 at *;have g:Hid ((W0.alloc (.cells #[x.1,x.2] 265)).drew.ownsRow 0 265 2 (.slice ao n c) n (fl n f)):=d.alloc _;have K:Hid (Blk (W0.alloc (.cells #[x.1,x.2] 265)).drew p T cs):=Blk.alloc H.o _;have b:Hid (∀ j u,([x.1,x.2]:List Value)[j]?=some u->(W0.alloc (.cells #[x.1,x.2] 265)).drew.cell? ((⟨W0.heap.size,0,none⟩:Addr).add j)=some u):=World.news_of_block (show ((W0.alloc (.cells #[x.1,x.2] 265)).drew).heap[W0.heap.size]?=_ from hn_ W0 _)
 have Z:Hid (Frm (fun k=>k=p∨(Value.slice ao n c).ownBlock=some k) w (W0.alloc (.cells #[x.1,x.2] 265)).drew):=(Y.alloc _).drew
 have v:(W0.alloc (.cells #[x.1,x.2] 265)).cell? ⟨p,o,none⟩=some (.slice ao n c):=by
  have z:p < W0.heap.size:=H.lt;rw [World.cell?_alloc_lt _ _ _ (by exact z)];exact t
 have A1:n+1<=maxLen:=by unfold maxLen;omega
 have A2:(n+1) * 16<=140737488355328:=by omega
 have A3:(0:Nat)<=(W0.alloc (.cells #[x.1,x.2] 265)).drew.heap.size:=nz _;have A4:∀ u∈([x.1,x.2]:List Value),u.oneCell'=true:=by simp [Value.oneCell']
 have U:=Hy A4;clear A4;go_region_law (first | (refine step_append_lies _ rfl (.tmp 15) (.tmp 17) 222 rfl 0 265 i0 (.agg #[(),()]) 2 16 underlying222 HI.o q.o r.o s.o rfl (by decide) (.slice ao n c) n (fl n f) (by kernel_rfl) g.o ⟨W0.heap.size,0,none⟩ 1 1 [x.1,x.2] (by kernel_rfl) rfl b.o U.o (by decide) A1 A2 A3 (W0.heap.size+1) (by simp) ?_;intro D L w2 C E A Ao;have I:=K.frm (Frm.grown (S:=fun k=>(Value.slice ao n c).ownBlock=some k) E (fun _ h=>h)) (fun e=>G.o _ e rfl);have An:w2.cell? ⟨p,o,none⟩=some (.slice ao n c):=(E.cell_far ⟨p,o,none⟩ K.lt (fun e=>G.o _ e.symm rfl)).trans v;have Al:=zk (o:=o) I;have m:=Hy I;have l:=Hy C;have a:=Hy (Z.trans (Frm.grown (S:=fun k=>(Value.slice ao n c).ownBlock=some k) E (fun _ h=>h)) (fun i h _=>.inr h));have V:=Hy A;clear I C E A))
 all_goals go_end0
 all_goals
  have F:Frm (fun k=>k=p) w2 (w2.setCell ⟨p,o,none⟩ (.slice (some ⟨D,0,none⟩) (n+1:Nat) L)):=(Frm.refl _ _).setCell _ _ (.inl rfl);have A:=V.o
  have y:D≠p:=by
   rcases A with h | h
   ·exact G.o D h
   ·have:=H.lt;omega
  exact ⟨D,L,rfl,m.set o _,za l.o F (fun k N=>by simp only [Value.ownBlock,Option.some.injEq] at N;subst N;exact y),a.trans F (fun i h _=>.inl h),A.imp id (fun h=>by omega)⟩
def putF (f:Nat->One) (n:Nat) (x:One):Nat->One:=fun k=>if k=n then x else f k
theorem ZE (f:Nat->One) (n:Nat) (x:One):putF f n x n=x:=by simp [putF]
theorem qi (f:Nat->One) (n k:Nat) (x:One) (h:k≠n):putF f n x k=f k:=by simp [putF,h]
theorem Za5 (f:Nat->One) (n:Nat) (x:One):fl n f++oneCells x=fl (n+1) (putF f n x):=by
 rw [qZ,ZE,ZaL n (putF f n x) f (fun k A=>qi _ _ _ _ (by omega))]
theorem VO.open_ {w:World} {p o:Nat} {T:TypeId} {cs:List Value} {ao:Option Addr} {n c:Nat} {f:Nat->One} (h:VO w p o T cs ao n c f) (hn:0 < n):
  ∃ g sp,ao=some ⟨g,0,none⟩/\HB w g n f sp/\sp.length+n * 2=c * 2/\n<=c/\c<=maxLen/\p≠g:=by
 obtain ⟨G,I,A,E⟩:=h;obtain ⟨g,cap,C,H,F⟩:=A.form hn;simp only [Value.slice.injEq,true_and] at C;obtain ⟨rfl,rfl⟩:=C;obtain ⟨sp,h1,D⟩:=ze A;have B:=Qb A G E g rfl;rcases A.2 with ⟨h',_⟩ | ⟨g',cap',cur,h',_,_,hnc,hmx,_,_⟩
 ·simp at h'
 simp only [Value.slice.injEq] at h'
 obtain ⟨_,_,rfl⟩:=h';exact ⟨g,sp,rfl,D,h1,hnc,hmx,fun e=>B e.symm⟩
theorem VO.mk_ {w:World} {p o:Nat} {T:TypeId} {cs:List Value} {g n c:Nat} {f:Nat->One} {sp:List Value} (hp:Blk w p T cs) (ho:cs[o]?=some (.slice (some ⟨g,0,none⟩) n c)) (hb:HB w g n f sp) (hl:sp.length+n * 2=c * 2) (hn:n<=c) (hc:c<=maxLen) (hT:T≠265):VO w p o T cs (some ⟨g,0,none⟩) n c f:=by
 refine ⟨hp,ho,⟨QA n f,.inr ⟨g,c,((fl n f)++sp).toArray,rfl,nz _,hb,hn,hc,?_,?_⟩⟩,hT⟩
 ·simp [QA];omega
 simp [QA]
theorem VO.cell {w:World} {p o:Nat} {T:TypeId} {cs:List Value} {ao:Option Addr} {n c:Nat} {f:Nat->One} (h:VO w p o T cs ao n c f):w.cell? ⟨p,o,none⟩=some (.slice ao n c):=by rw [h.blk.cell,h.var]
theorem xaA (p o n c:Nat) (T:TypeId) (cs:List Value) (ao:Option Addr) (f:Nat->One) (x:One) (w:World) (h:VO w p o T cs ao n c f) (hn:n<=999):
  Calls prog 174 #[.iface 260 (.pointer (some ⟨p,o,none⟩)),.iface 265 (.agg #[x.1,x.2])] w fun e w'=>∃ A C,e=.returned (.tuple #[])/\VO w' p o T (cs.set o (.slice (some ⟨A,0,none⟩) (n+1:Nat) C)) (some ⟨A,0,none⟩) (n+1) C (upF n (putF f n x) n)/\Frm (fun k=>k=p∨(Value.slice ao n c).ownBlock=some k) w w'/\((Value.slice ao n c).ownBlock=some A∨w.heap.size<=A):=by
 have m:=za6 ⟨p,o,none⟩;have b:=Hy h;clear h;go_in;go_wp2_with fail;refine (zaC p o n c T cs ao f x _ b.o hn).mono ?_;rintro e l ⟨A,C,rfl,F,E,I,Q⟩;rw [Za5] at E;have r:o < cs.length:=(lg b.var).1;have B:VO l p o T (cs.set o (.slice (some ⟨A,0,none⟩) (n+1:Nat) C)) (some ⟨A,0,none⟩) (n+1) C (putF f n x):=⟨F,by rw [List.getElem?_set_self (by omega)],E,b.ty⟩;obtain ⟨s,sp,P,M,U,q,N,R⟩:=B.open_ (Nat.succ_pos n);simp only [Option.some.injEq,Addr.mk.injEq,and_true] at P;subst P
 have j:=XaN B.cell;have L:MH l p o A (n+1) C (putF f n x) sp:=⟨B.cell,M,R,F.lt⟩;have Z:=Hy L;have D:=Hy B;have W:=Hy I;have H:=Hy Q;have a:=Hy U;have V:=Hy N;clear m F E I Q B M L U N;have t:IntKind.i64.wrap (n:Int)=n:=IntWalk.i64_in _ (by omega);have u:(0:Int)<=n:=by omega
 go_wp2_with fail;refine (zP _ _ _ _).mono ?_;rintro e w' ⟨rfl,rfl⟩;clear j;go_wp2_with fail;refine (qas p o A (n+1) C n (putF f n x) sp _ Z.o (by omega) (by omega)).mono ?_;rintro e v ⟨rfl,K,J⟩;have Y:=Hy K;have G:=Hy J;clear K J;go_wp2_with fail;go_end0;refine ⟨A,C,rfl,?_,?_,H.o⟩
 ·have d:=D.blk.frm (Frm.grown (S:=fun k=>k=A) G.o (fun g h=>(Option.some.inj h).symm)) R
  exact VO.mk_ d D.var Y.2.1 a.o (by omega) V.o D.ty
 refine W.trans (Frm.grown (S:=fun k=>k=A) G.o (fun g h=>(Option.some.inj h).symm)) (fun i h hi=>?_)
 subst h;rcases H.o with h | h
 ·exact .inr h
 omega
theorem HB.set_same {n:Nat} (h:HB w g n f sp) {i:Nat} (hi:i < n):HB ((w.setCell ⟨g,i * 2,none⟩ (.int .i64 (f i).1)).setCell ⟨g,i * 2+1,none⟩ (.int .i64 (f i).2)) g n f sp:=by
 have A:=h.c0 hi;have B:=h.c1 hi;unfold HB at h ⊢;rw [h.cell] at A B;have:=(h.set (i * 2) (.int .i64 (f i).1)).set (i * 2+1) (.int .i64 (f i).2);rw [Go.Proofs.YtinkbgeckjbnbaaGreat.set_same A,Go.Proofs.YtinkbgeckjbnbaaGreat.set_same B] at this;exact this
theorem YR (f:Nat->One) (i:Nat):swapF f i i=f:=by
 funext k;unfold swapF;split
 ·rename_i e;rw [e]
 rfl
theorem YaO (g n c i:Nat) (f:Nat->One) (sp:List Value) (w:World) (h:HB w g n f sp) (hi:i < n) (hn:n<=1000):
  Calls prog 234 #[.slice (some ⟨g,0,none⟩) n c,i,i] w fun e w'=>e=.returned (.tuple #[])/\HB w' g n f sp/\w.grownBy w' (some g):=by
 have D:=h.c0 hi;have E:=h.c1 hi;have C:∀ k,w.frozen? ⟨g,k,none⟩=false:=fun k=>h.frozen k;have B:=Hy ((h.set_same hi).set_same hi);generalize f i=x at *;clear h;go_in;go_wp2_with fail;go_region
 all_goals go_end0
 all_goals
  refine ⟨rfl,B.o,?_⟩;have A:=zb (zb (zb (qh w g (i * 2) (.int .i64 x.1)) (qh _ g (i * 2+1) (.int .i64 x.2))) (qh _ g (i * 2) (.int .i64 x.1))) (qh _ g (i * 2+1) (.int .i64 x.2));exact ⟨A.os,A.tape,A.output,A.size,A.block⟩
theorem xaC (g n c i j:Nat) (f:Nat->One) (sp:List Value) (w:World) (h:HB w g n f sp) (hi:i < n) (hj:j < n) (hn:n<=1000):
  Calls prog 234 #[.slice (some ⟨g,0,none⟩) n c,i,j] w fun e w'=>e=.returned (.tuple #[])/\HB w' g n (swapF f i j) sp/\w.grownBy w' (some g):=by
 by_cases A:i=j
 ·subst A
  rw [YR];exact YaO g n c i f sp w h hi hn
 exact Yt g n c i j f sp w h hi hj hn A
theorem XG:∀ (q:Nat) (f:Nat->One) (i n k:Nat),n<=k->(downF q f i n).1 k=f k
 | 0,f,i,n,k,h=>rfl
 | q+1,f,i,n,k,h=>by
  unfold downF
  split
  ·rfl
  ·rename_i hn
   obtain ⟨_,h2,_,h4,_⟩:=Xg f i n (by omega)
   split
   ·rfl
   ·rw [XG q _ _ n k h,zd _ _ _ _ (by omega) (by omega)]
theorem VO.frmBack {w w':World} {p o:Nat} {T:TypeId} {cs:List Value} {g n c:Nat} {f f':Nat->One} {sp:List Value} (h:VO w p o T cs (some ⟨g,0,none⟩) n c f) (C:p≠g) (hb:HB w' g n f' sp) (D:sp.length+n * 2=c * 2) (B:n<=c) (A:c<=maxLen) (hg:w.grownBy w' (some g)):VO w' p o T cs (some ⟨g,0,none⟩) n c f':=
 VO.mk_ (h.blk.frm (Frm.grown (S:=fun k=>k=g) hg (fun g h=>(Option.some.inj h).symm)) C) h.var hb D B A h.ty
end Go.Proofs.YtinkbgeckjbnbaaGreat
