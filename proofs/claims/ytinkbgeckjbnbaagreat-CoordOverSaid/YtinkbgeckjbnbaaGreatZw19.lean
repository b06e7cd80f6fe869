/- Lemmas (part 19). -/
import Derived.Test.YtinkbgeckjbnbaaGreatZw18
namespace Go.Proofs.YtinkbgeckjbnbaaGreat
open Go.RowKit Go.Proofs.Tryz
set_option autoImplicit true
set_option relaxedAutoImplicit true
set_option linter.unusedVariables false
set_option linter.unusedSimpArgs false
set_option maxRecDepth 100000
set_option maxHeartbeats 32000000
section
theorem XA:(Tryz.prog.info? 46).map (fun i=>(i.zero,i.size,i.bytes))=some (some (.agg #[(),.string ⟨#[]⟩]),2,24):=by kernel_rfl
section
variable {w:World} {O:Own} {B:RA} {r:Nat} {c:CfgM} {S:CS}
theorem RW.with_it {i:Nat} {t':TS} (h:RWx (fun t=>t=rt 4) w O B r c S) (hi:i < S.told.length) (a:Option Addr×Nat)
  (hr:Row O (rt 4) w 58 7 (.slice B.aa S.told.length B.ac) S.told.length (rowF (fun x=>if x=i then t'.cells ((i:Int)+1) a else toldF B.it S.told x) S.told.length))
  (ht:Row O (rt 5) w 46 2 (.slice a.1 t'.items.length a.2) t'.items.length (t'.items.flatMap KeyL.cells)):
  RW w O {B with it:=fun j=>if j=i then a else B.it j} r c (S.setT i t'):=by
 have n:∀ k,k≠4->¬ (rt k=rt 4):=fun k h1 h=>Zb h1 h;have C:(S.setT i t').told.length=S.told.length:=List.length_set;have D:(S.setT i t').rcells c {B with it:=fun j=>if j=i then a else B.it j}=S.rcells c B:=by unfold CS.rcells;rw [C];rfl
 refine ⟨h.cf,h.cc,fun _=>by rw [D];exact h.blk (n _ (by omega)),fun _=>h.le (n _ (by omega)),fun _=>by rw [C];exact h.sl (n _ (by omega)),fun _=>h.ti (n _ (by omega)),fun _=>?_,fun _ j t h1=>?_,fun id h1 A _=>h.qb id h1 A (n _ (by omega)),fun id h1 A _=>h.mg id h1 A (n _ (by omega))⟩
 ·rw [C]
  rw [show rowF (toldF (fun j=>if j=i then a else B.it j) (S.setT i t').told) S.told.length=rowF (fun x=>if x=i then t'.cells ((i:Int)+1) a else toldF B.it S.told x) S.told.length from Qo (fun x _=>qY B.it S.told i t' a hi x)];exact hr
 by_cases e:j=i
 ·subst e
  rw [show (S.setT j t').told[j]?=some t' from List.getElem?_set_self hi] at h1;cases h1;show Row O _ w _ 2 (.slice (if j=j then a else B.it j).1 _ (if j=j then a else B.it j).2) _ _;rw [if_pos rfl];exact ht
 rw [show (S.setT i t').told[j]?=S.told[j]? from List.getElem?_set_ne (fun q=>e q.symm)] at h1
 show Row O _ w _ 2 (.slice (if j=i then a else B.it j).1 _ (if j=i then a else B.it j).2) _ _;rw [if_neg e];exact h.it (n _ (by omega)) j t h1
theorem RW.tset {i tb j:Nat} {t:TS} (h:RW w O B r c S) (hi:S.told[i]?=some t) (ht:B.aa=some ⟨tb,0,none⟩) (hj:j < 7) (v:Value):
  RWx (fun t=>t=rt 4) (w.setCell ⟨tb,i * 7+j,none⟩ v) O B r c S/\Row O (rt 4) (w.setCell ⟨tb,i * 7+j,none⟩ v) 58 7 (.slice B.aa S.told.length B.ac) S.told.length (rowF (fun x=>if x=i then (t.cells ((i:Int)+1) (B.it i)).set j v else toldF B.it S.told x) S.told.length)/\ROut O w (w.setCell ⟨tb,i * 7+j,none⟩ v):=by
 have D:=RWx.told h (fun q=>q);have F:=(lg hi).1;have C:O tb=rt 4:=D.2 tb (by rw [ht];rfl);have E:Frm (fun b=>b=tb) w (w.setCell ⟨tb,i * 7+j,none⟩ v):=(Frm.refl _ w).setCell ⟨tb,i * 7+j,none⟩ v (.inl rfl);refine ⟨RWx.frm h E (AgO.refl _ _) (fun _ q=>q.elim) (fun b _ e=>.inl (by subst e;exact ⟨C,by rw [C];exact ye 4⟩)),⟨?_,D.2⟩,ROut.of (i:=4) (OFrm.of E (fun b e _=>by subst e;exact C))⟩;have A:=D.1;rw [ht] at A ⊢;have q:=ZJ A (i * 7+j) v (by rw [qu (Yi B.it S.told)];omega);rw [zaf (Yi B.it S.told) F hj] at q;rw [show toldF B.it S.told i=t.cells ((i:Int)+1) (B.it i) from by unfold toldF;rw [List.getD_eq_getElem?_getD,hi];rfl] at q
 exact q
theorem RW.flag {i tb j:Nat} {t t':TS} {v:Value} (h:RW w O B r c S) (hi:S.told[i]?=some t) (ht:B.aa=some ⟨tb,0,none⟩) (hj:j < 7) (A:t'.items=t.items) (hc:t'.cells ((i:Int)+1) (B.it i)=(t.cells ((i:Int)+1) (B.it i)).set j v):
  RW (w.setCell ⟨tb,i * 7+j,none⟩ v) O B r c (S.setT i t')/\ROut O w (w.setCell ⟨tb,i * 7+j,none⟩ v):=by
 obtain ⟨h1,C,D⟩:=h.tset hi ht hj v;have q:=RW.with_it (a:=B.it i) (t':=t') h1 (lg hi).1 (by rw [hc];exact C) (by rw [A];exact h1.it (Zb (by omega)) i t hi);rw [show (fun j=>if j=i then B.it i else B.it j)=B.it from funext fun j=>by by_cases e:j=i <;> simp [e]] at q;exact ⟨q,D⟩
end
theorem xav (x:KeyL):∀ u∈KeyL.cells x,u.oneCell'=true:=by
 intro u A;unfold KeyL.cells at A;simp only [List.mem_cons,List.not_mem_nil,or_false] at A;rcases A with rfl | rfl <;> rfl
def RGoE (O:Own) (B:RA) (r:Nat) (c:CfgM) (R:CS×List LV) (w:World) (e:Ending) (w':World):Prop:=∃ v O' B',e=.returned v/\RW w' O' B' r c R.1/\RLet O' w' w.heap.size v R.2/\AgO w.heap.size O O'/\ROut O w w'
theorem YE (O:Own) (B:RA) (r:Nat) (c:CfgM) (S:CS) (j id ns wk:Nat) (b:Int) (w:World) (h:RW w O B r c S) (P:S.OK ns b) (hj:S.L[j]?=some id) (h0:id≠0) (Bw:S.tm.length<=24) (BW:ns<=6) (Br:∀ s,ns<=s->s < 6->hasL (6 * (j:Int)+(s:Nat)) S.tm=false) (Bx:c.wk=(wk:Int)) (By:wk<=5) (C1:b<=900000):
  Calls prog 134 #[.pointer (some ⟨r,0,none⟩),(j:Nat)] w (RGoE O B r c (S.goes id ns,S.goesL id wk) w):=by
 obtain ⟨i0,hi,Ca,Am,Cb⟩:=info_parts XA;clear hi Ca Am Cb;have E:id∈S.L:=lm hj;have q:=P.q id E h0;have As:=P.slots hj h0;have Bo:j < 4:=by have h1:=(lg hj).1;have h2:=P.sl.len;omega
 have Bn:=P.sl.le id E;have BY:=P.tl;obtain ⟨i,hi⟩:∃ i,id=i+1:=⟨id - 1,by omega⟩;subst hi;have Cd:w.cell? ⟨r,14,none⟩=some (.pointer (some ⟨B.sl,0,none⟩)):=h.cell 14;obtain ⟨y0,y1⟩:=h.scell hj;have ⟨LN,A9⟩:=gn S.L.length;have C2:j < LN:=by rw [<- A9];exact (lg hj).1
 rw [A9] at y0;clear A9;have j1:(0:Int)<=(j:Int):=by omega
 have j2:(j:Int) < (LN:Int):=by omega
 have j4:(j:Int) < 4:=by omega
 have xq:=h.qcell hj h0 Bo;have xm:=h.mcell E h0;have Bb:=Hy (Ya2 h E h0);have AL:=q.told;rw [show i+1 - 1=i by omega] at AL;have BZ:((S.Q (i+1)).T.length:Int)<=10:=by have h1:=q.tn;have h2:=q.n;omega
 have BX:=(yu (S:=(S.Q (i+1)).S) q.tn).1;have Bq:=q.n;have HW:=Hy h;have HJ:=Hy hj;have AW:=Hy E;have AZ:=Hy As;have HO:=Hy P.sl;have BI:=Hy Bw;have BF:=Hy Br;have BJ:=Hy Bx;have HQ:=Hy q;have BH:=Hy AL;have t:=Hy (by omega:i < S.told.length);have An:=Hy (by omega:S.told.length<=1000000);have Bd:=Hy (show S.tof (i+1)=⟨(S.Q (i+1)).q,(S.Q (i+1)).k,(S.Q (i+1)).n,(S.Q (i+1)).T,false,false⟩ from q.tof);have ⟨W,AH⟩:=gn ((S.tellR (i+1)).1.length);have BV:W<=10:=by rw [<- AH];unfold CS.tellR;omega
 have AU:=Hy AH;have ⟨M,Ad⟩:=gn ((S.Q (i+1)).T.length);rw [Ad] at BZ;have U:=Hy Ad;clear h P hj E Bw Br Bx As q AL BX Bq Bn BY AH Ad;go_in;go_wp2_with fail;clear Cd y0 y1 xq xm;refine Bb.mono ?_;clear Bb;rintro e I ⟨la,lc,rfl,AG,Aj,Bl⟩;rw [AU.o] at AG ⊢;have ⟨O1,AA⟩:=gn (O.upd w.heap.size (rt (7+2 * (i+1))));have Bh:AgO w.heap.size O O1:=by rw [<- AA];exact AgO.upd _ _ _
 rw [AA] at Aj;have ⟨S1,Ag⟩:=gn (S.setQ (i+1) {S.Q (i+1) with S:=(S.tellR (i+1)).2.1,T:=(S.tellR (i+1)).2.2});have BG:=Hy Ag;have g:=Hy (by rw [<- Ag];exact ⟨rfl,rfl,rfl⟩:S1.told=S.told/\S1.L=S.L/\S1.tm=S.tm);rw [Ag] at Aj;have D:=Hy Aj;have Aw:=Hy Bl;have Au:=Hy Bh;have BE:=Hy AG;clear Aj Bl Bh AG AA Ag;have AS:=Hy (xL i I D.o (by rw [g.1];exact t.o) (by rw [g.1];exact An.o));go_wp2_with fail;refine AS.mono ?_;clear AS;rintro e w' ⟨rfl,rfl⟩;have V:S1.told[i]?=some ⟨(S.Q (i+1)).q,(S.Q (i+1)).k,(S.Q (i+1)).n,(S.Q (i+1)).T,false,false⟩:=by rw [g.1];exact BH.o
 have Ba:=Hy V;obtain ⟨G,Ak,AK⟩:=D.tcell V;have Af:=Hy Ak;have J:=RWx.it D.o (fun q=>q) i _ V;obtain ⟨ia,ic,AF⟩:∃ a b,B.it i=(a,b):=⟨_,_,rfl⟩;rw [AF] at J AK;simp only at J;rw [U.o] at J;have BB:=Hy (Za (enc:=KeyL.cells) (size:=2) (fun x=>rfl) U.o J.1);have Cv:=Hy AF;have R:I.cell? ⟨r,20,none⟩=some (.slice (some ⟨G,0,none⟩) S1.told.length B.ac):=by have q:Cl I r 20 (.slice B.aa S1.told.length B.ac):=D.cell 20;rw [Ak] at q;exact q
 have ⟨TL,Ah⟩:=gn S1.told.length;rw [Ah] at R;have i1:(i:Int) < (TL:Int):=by have h1:=t.o;rw [<- g.1,Ah] at h1;omega
 have i2:(0:Int)<=(i:Int):=by omega
 have c4:I.cell? ⟨G,i * 7+4,none⟩=some (.slice ia M ic):=by have q:=AK 4 (by omega);rw [show (TS.cells ⟨(S.Q (i+1)).q,(S.Q (i+1)).k,(S.Q (i+1)).n,(S.Q (i+1)).T,false,false⟩ ((i:Int)+1) (ia,ic))[4]?=some (.slice ia (S.Q (i+1)).T.length ic) from rfl,U.o] at q;exact q
 have AJ:r < I.heap.size:=D.blk.lt;have Bu:G < I.heap.size:=cell?_lt c4;have BQ:=qo (RWx.told D.o (fun q=>q)) Ak (i * 7+4);have X1:=Hy (show Src prog 2 56 (.slice ia M ic) M ((S.Q (i+1)).T.flatMap KeyL.cells) I.drew from Src.ofRdE (enc:=KeyL.cells) (size:=2) underlying56 (fun _=>rfl) xav (BB.below (below_drewN (bf _ I) 1) rfl));have A1:0+M<=maxLen:=by unfold maxLen;omega
 have A2:(0+M) * 24<=140737488355328:=by omega
 have A3:M+W<=maxLen:=by unfold maxLen;omega
 have A4:(M+W) * 24<=140737488355328:=by omega
 have Bc:=Hy Ah;clear V AK J AF Ah Ak;have AY:=Hy (show ¬ r=G from fun e=>by have h1:=(RWx.blk D.o (fun q=>q)).2;have h2:=(RWx.told D.o (fun q=>q)).2 G (by rw [Af.o];rfl);rw [e,h2] at h1;exact Zb (by omega) h1);let A5:World->Prop:=fun w'=>Cl w' r 20 (.slice (some ⟨G,0,none⟩) TL B.ac);have BK:=Hy (show A5 I.drew from R);have BO:Cl I.drew G (i * 7+4) (.slice ia M ic):=c4;go_upto_region 31 with fail;refine rg A5 fun C=>?_
 (iterate 12 refine tq 0 ?_);refine tk 14 ?_;refine rdy 12 fun K y=>?_;go_simp;go_wp2_with fail;refine hk y fun C=>?_;clear y K
 refine rdy 13 fun K y=>?_;refine sa (base:=I.heap.size) XA underlying56 (World.ownsRow_nil _ _ _ _) X1.o A1 A2 (nl _) ?_;intro a1 Cz u1 H Aq;rw [Nat.zero_add,List.nil_append] at H;rw [Nat.zero_add];have B1:=Hy ((below_drewN (bf I.heap.size I) 1).grown Aq (nl _) (fun k Aa=>by cases Aa));have Am:=B1.size;have cu:=(B1.cell (p:=⟨r,20,none⟩) AJ).trans R;have cv:=(B1.cell (p:=⟨G,i * 7+4,none⟩) Bu).trans c4;have X2:=Hy (show Src prog 2 56 (.slice la W lc) W ((S.tellR (i+1)).1.flatMap KeyL.cells) u1 from Src.ofRdE (enc:=KeyL.cells) (size:=2) underlying56 (fun _=>rfl) xav (BE.below B1.o rfl));have BL:=Hy cu
 refine hk y fun C=>?_;clear y K
 refine rdy 15 fun K y=>?_;refine sa XA underlying56 H X2.o A3 A4 Am ?_;intro u A u2 Ab Ar;have B2:=Hy (B1.grown Ar Am (Xa H));have A6:=(B2.cell (p:=⟨r,20,none⟩) AJ).trans R;have BP:=(B2.cell (p:=⟨G,i * 7+4,none⟩) Bu).trans c4;have BR:=(qo (RWx.told (D.below B2.o (AgO.refl _ _)) (fun q=>q)) Af.o (i * 7+4));have Az:=Hy Ab;clear Ab Ar;have ⟨w3,Al⟩:=gn (u2.setCell ⟨G,i * 7+4,none⟩ (.slice u (M+W:Nat) A));have BM:=Hy A6;have BN:=Hy (by rw [<- Al];exact (World.cell?_of_block (((Frm.refl (fun b=>b=G) u2).setCell ⟨G,i * 7+4,none⟩ (.slice u (M+W:Nat) A) (.inl rfl)).block r (nt AJ B2.size) AY.o)).trans A6:A5 w3)
 refine hk y fun C=>?_;clear y K;refine tk 16 ?_;refine tk 17 ?_;refine rdy 18 fun K y=>?_;go_simp;go_wp2_with (rw [Al]);refine hk y fun C=>?_;clear y K
 refine dn ?_;clear C BK BL BM BN AY BO cu cv A6 BP BR;have Ai:AgO I.heap.size O1 (O1.upd I.heap.size (rt 5)):=AgO.upd _ _ _;have Bj:=D.below B2.o Ai;obtain ⟨Bz,Bt,AD⟩:=Bj.tset Ba.o Af.o (j:=4) (by omega) (.slice u (M+W:Nat) A);have N:((S.Q (i+1)).T++(S.tellR (i+1)).1).length=M+W:=by rw [List.length_append,U.o,AU.o]
 have Bv:Row (O1.upd I.heap.size (rt 5)) (rt 5) (u2.setCell ⟨G,i * 7+4,none⟩ (.slice u (M+W:Nat) A)) 46 2 (.slice u (M+W) A) (M+W) (((S.Q (i+1)).T++(S.tellR (i+1)).1).flatMap KeyL.cells):=by
  have BU:Frm (fun b=>b=G) u2 (u2.setCell ⟨G,i * 7+4,none⟩ (.slice u (M+W:Nat) A)):=(Frm.refl _ u2).setCell _ _ (.inl rfl);refine ⟨zi (za (by rw [List.flatMap_append];exact Az.o) BU (fun k Aa e=>?_)) (nz _),fun k Aa=>Own.upd_ge (Xa Az.o k Aa)⟩;have:=Xa Az.o k Aa;omega
 have z:=RW.with_it (i:=i) (t':=⟨(S.Q (i+1)).q,(S.Q (i+1)).k,(S.Q (i+1)).n,(S.Q (i+1)).T++(S.tellR (i+1)).1,false,false⟩) Bz (by rw [g.1];exact t.o) (u,A) (by rw [show (TS.cells ⟨(S.Q (i+1)).q,(S.Q (i+1)).k,(S.Q (i+1)).n,(S.Q (i+1)).T++(S.tellR (i+1)).1,false,false⟩ ((i:Int)+1) (u,A))=(TS.cells ⟨(S.Q (i+1)).q,(S.Q (i+1)).k,(S.Q (i+1)).n,(S.Q (i+1)).T,false,false⟩ ((i:Int)+1) (B.it i)).set 4 (.slice u (M+W:Nat) A) from by rw [<- N];rfl];exact Bt) (by show Row _ _ _ _ 2 (.slice u ((S.Q (i+1)).T++(S.tellR (i+1)).1).length A) ((S.Q (i+1)).T++(S.tellR (i+1)).1).length _;rw [N];exact Bv)
 obtain ⟨l,A7⟩:∃ x:RA,{B with it:=fun j=>if j=i then (u,A) else B.it j}=x:=⟨_,rfl⟩;have Ae:=Hy (by rw [<- A7];exact ⟨Af.o,rfl,rfl⟩:l.aa=some ⟨G,0,none⟩/\l.q=B.q/\l.m=B.m);rw [A7] at z;have Bg:S1.setT i ⟨(S.Q (i+1)).q,(S.Q (i+1)).k,(S.Q (i+1)).n,(S.Q (i+1)).T++(S.tellR (i+1)).1,false,false⟩=S.tell (i+1):=by rw [<- BG.o];unfold CS.tell;rw [Bd.o];rfl
 rw [Bg] at z;rw [Al] at z AD;have Z:=Hy z;have AT:=Hy (show ROut O w w3 from ROut.trans (ROut.trans Aw.o (ROut.below (O:=O1) B2.o) Au.o) AD (fun b hb=>(Ai b (nt hb Aw.size)).trans (Au.o b hb)));have Y:=Hy (show AgO w.heap.size O (O1.upd I.heap.size (rt 5)) from fun b hb=>(Ai b (nt hb Aw.size)).trans (Au.o b hb));have ⟨O3,Bf⟩:=gn (O1.upd I.heap.size (rt 5));rw [Bf] at Z Y;clear Ai Bj Bz Bt AD Bv z A7 Bg Bf N R c4 BQ X1 X2 H Aq;clear A1 A2 A3 A4;have A8:(S.tell (i+1)).L[j]?=some (i+1):=HJ.o
 have AI:(i+1)∈(S.tell (i+1)).L:=AW.o;have yq:=Z.qcell A8 h0 Bo;have ym:=Z.mcell AI h0;have Av:=Hy (Qa2 Z.o AI h0);have ⟨d,hd⟩:=gn ((S.tell (i+1)).isDone (i+1));rw [hd] at Av;have HD:=Hy hd;have BC:=Hy A8;clear hd A8 AI;go_wp2_with fail;clear Al yq ym;refine Av.mono ?_;clear Av;rintro e w4 ⟨rfl,AC⟩;have f:=Hy (Z.below (AC.below _) (AgO.refl _ _));have Ax:=Hy (ROut.trans AT.o (ROut.below (O:=O3) (AC.below _)) Y.o);clear AC Z AT;cases d with
 | false=>
  go_wp2_with fail;go_ret;refine ⟨.slice none 0 0,O3,l,rfl,?_,?_,Y.o,Ax.o⟩
  ·show RW w4 O3 l r c (S.goes (i+1) ns);unfold CS.goes;rw [if_neg (by rw [HD.o];decide)];exact f.o
  ·show RLet O3 w4 w.heap.size _ (S.goesL (i+1) wk);unfold CS.goesL;rw [if_neg (by rw [HD.o];decide)];exact RLet.nil _ _ _
 | true=>
  have F:=xI S t.o;have Cj:=Hy F;obtain ⟨Cc,Ac,At⟩:=f.tcell F;rw [Ae.1] at Ac;obtain rfl:G=Cc:=by cases Ac;rfl
  have c5:Cl w4 G (i * 7+5) (.bool (S.tof (i+1)).done):=At 5 (by omega);have BS:=qo (RWx.told f.o (fun q=>q)) Ae.1 (i * 7+5);have R:w4.cell? ⟨r,20,none⟩=some (.slice (some ⟨G,0,none⟩) TL l.ac):=by have q:Cl w4 r 20 (.slice l.aa (S.tell (i+1)).told.length l.ac):=f.cell 20;rw [Ae.1,Xp,<- g.1,Bc.o] at q;exact q
  obtain ⟨AB,AE⟩:=f.flag F Ae.1 (j:=5) (v:=.bool true) (t':={(S.tell (i+1)).tof (i+1) with done:=true}) (by omega) (by rw [qn F]) (by rw [qn F];rfl);have ⟨w5,AM⟩:=gn (w4.setCell ⟨G,i * 7+5,none⟩ (.bool true));rw [AM] at AB AE;have B8:=Hy (show RW w5 O3 l r c ((S.tell (i+1)).fin (i+1)) from AB);have Ay:=Hy (ROut.trans Ax.o AE Y.o);have Bs:=ZW O3 l r c ((S.tell (i+1)).fin (i+1)) j (i+1) ns wk w5 B8.o BC.o h0 (by show ((S.tell (i+1)).Q (i+1)).slot=j;rw [QC];exact AZ.o) (by show SlOK S.L ((S.tell (i+1)).told.set _ _).length;rw [List.length_set,Xp];exact HO.o) BI.o BW BF.o BJ.o By (by have:=t.o;have:=An.o;omega)
  have AX:=Hy Bs;clear F At Ac AB AE Bs f Ax;go_wp2_with (rw [AM]);clear AM c5 BS R;refine AX.mono ?_;clear AX;rintro e w7 ⟨v,O7,rfl,Bk,Bp,Bi,Bm⟩;have B9:=Hy Bk;have BD:=Hy Bp;have B7:=Hy (show AgO w.heap.size O O7 from fun b hb=>(Bi b (nt hb Ay.size)).trans (Y.o b hb));have BA:=Hy (ROut.trans Ay.o Bm Y.o);clear Bk Bp Bi Bm;go_wp2_with fail;go_ret;refine ⟨v,O7,l,rfl,?_,?_,B7.o,BA.o⟩
  ·show RW w7 O7 l r c (S.goes (i+1) ns);unfold CS.goes;rw [if_pos (by rw [HD.o])];exact B9.o
  ·show RLet O7 w7 w.heap.size v (S.goesL (i+1) wk);unfold CS.goesL;rw [if_pos (by rw [HD.o])];have q:=BD.base Ay.size;rw [show (((S.tell (i+1)).fin (i+1)).Q (i+1)).slot=(S.Q (i+1)).slot from by show ((S.tell (i+1)).Q (i+1)).slot=_;rw [QC]] at q;exact q
end
def RCaE (O:Own) (B:RA) (r:Nat) (c:CfgM) (S:CS) (id:Int) (ns wk:Nat) (w:World) (e:Ending) (w':World):Prop:=∃ v O',e=.returned (.tuple #[v,.int .i64 (if S.has id=true then 0 else 4)])/\RW w' O' B r c (S.cancel id ns)/\RLet O' w' w.heap.size v (S.cancelL id wk)/\AgO w.heap.size O O'/\ROut O w w'
theorem Xa5 {S:CS} {id:Int} (ho:SlOK S.L S.told.length):S.has id=(ofF S.L id).isSome:=by
 unfold CS.has
 by_cases h:0 < id/\id.toNat∈S.L
 ·obtain ⟨j,C,e⟩:=List.mem_iff_getElem.1 h.2
  have:=(Zc (id:=id) (s:=(j:Int)) ho).2 ⟨h.1,by omega,by rw [Int.toNat_natCast,List.getElem?_eq_getElem C,e]⟩;rw [this];simpa using h
 cases B:ofF S.L id with
 | none=>simpa using h
 | some s=>
  obtain ⟨h1,D,A⟩:=(Zc ho).1 B;exact absurd ⟨h1,lm A⟩ h
theorem zae (O:Own) (B:RA) (r:Nat) (c:CfgM) (S:CS) (id:Int) (ns wk:Nat) (b:Int) (w:World) (h:RW w O B r c S) (H:S.OK ns b) (Ad:S.tm.length<=24) (At:ns<=6) (Aa:∀ (j i:Nat),S.L[j]?=some i->i≠0->∀ s,ns<=s->s < 6->hasL (6 * (j:Int)+(s:Nat)) S.tm=false) (Ae:c.wk=(wk:Int)) (Af:wk<=5) (A2:b<=900000):
  Calls prog 83 #[.pointer (some ⟨r,0,none⟩),id] w (RCaE O B r c S id ns wk w):=by
 have Z:=RWx.sl h (fun q=>q);have N:=Hy (Xa4 B.sl B.sf S.L S.told.length id w ⟨Z.1.1,Z.2.1⟩ H.sl.len.2);have Av:w.cell? ⟨r,14,none⟩=some (.pointer (some ⟨B.sl,0,none⟩)):=h.cell 14;have Y:=Xa5 (id:=id) H.sl;have ⟨R,hR⟩:=gn (ofF S.L id);rw [hR] at N Y;have HR:=Hy hR;have M:=Hy Y;have HW:=Hy h;have C:=Hy H;have Ap:=Hy Ad;have Ao:=Hy Aa;have Aq:=Hy Ae;clear Z h H Ad Aa Ae hR Y;go_in;go_wp2_with fail;clear Av;refine N.mono ?_;clear N;rintro e w' ⟨rfl,rfl⟩;cases R with
 | none=>
  go_wp2_with fail;go_ret2;have V:S.has id=false:=M.o;refine ⟨.slice none 0 0,O,by rw [V];rfl,by unfold CS.cancel;rw [if_neg (by rw [V];decide)];exact HW.o,by unfold CS.cancelL;rw [if_neg (by rw [V];decide)];exact RLet.nil _ _ _,AgO.refl _ _,Frm.refl _ _⟩
 | some s=>
  have V:S.has id=true:=M.o;obtain ⟨h1,h2,Q⟩:=(Zc C.sl).1 HR.o;obtain ⟨j,rfl⟩:=Int.eq_ofNat_of_zero_le h2;rw [Int.toNat_natCast] at Q;obtain ⟨i,hi⟩:∃ i:Nat,id=(i:Int)+1:=⟨(id - 1).toNat,by omega⟩;subst hi;have E:((i:Int)+1).toNat=i+1:=by omega
  rw [E] at Q;have F:=lm Q;have q:=C.q (i+1) F (by omega);have y:=C.sl.le (i+1) F;have Au:=C.tl;have I:=C.slots Q (by omega);have D:=q.told;rw [show i+1 - 1=i by omega] at D;obtain ⟨tb,G,Ac⟩:=HW.tcell D;have c6:w.drew.cell? ⟨tb,i * 7+6,none⟩=some (.bool false):=Ac 6 (by omega);have Ar:w.drew.frozen? ⟨tb,i * 7+6,none⟩=false:=qo (RWx.told HW.o (fun q=>q)) G (i * 7+6);have HD:=Hy (show RW w.drew O B r c S from HW.below (below_drewN (bf _ w) 1) (AgO.refl _ _));obtain ⟨U,W⟩:=HD.flag D G (j:=6) (v:=.bool true) (t':={S.tof (i+1) with canc:=true}) (by omega) (by rw [qn D]) (by rw [qn D];rfl)
  have ⟨w3,a⟩:=gn (w.drew.setCell ⟨tb,i * 7+6,none⟩ (.bool true));rw [a] at U W;have f:=Hy (show RW w3 O B r c (S.stop (i+1)) from U);have J:=Hy (show ROut O w w3 from ROut.trans (ROut.below (O:=O) (below_drewN (bf _ w) 1)) W (AgO.refl _ _));have m:=xL i w.drew HD.o (by omega) (by omega);have d:=Hy m;have ⟨TL,T⟩:=gn S.told.length;have i1:(i:Int) < (TL:Int):=by omega
  have i2:(0:Int)<=(i:Int):=by omega
  let P:World->Prop:=fun w'=>Cl w' r 20 (.slice (some ⟨tb,0,none⟩) TL B.ac);have k:=Hy (show P w.drew from by have q:Cl w.drew r 20 (.slice B.aa S.told.length B.ac):=HD.cell 20;rw [G,T] at q;exact q);have l:=Hy (show P w3 from by have q:Cl w3 r 20 (.slice B.aa (S.stop (i+1)).told.length B.ac):=f.cell 20;rw [G,show (S.stop (i+1)).told.length=S.told.length from List.length_set,T] at q;exact q);have Ab:=ZW O B r c (S.stop (i+1)) j (i+1) ns wk w3 f.o Q (by omega) I (by show SlOK S.L (S.told.set _ _).length;rw [List.length_set];exact C.sl) Ap.o At (Ao.o j (i+1) Q (by omega)) Aq.o Af (by omega)
  have g:=Hy Ab;have Ax:=Hy I;clear U W m T D G Ac Ab q F y Au h1 h2 Q M HR;go_upto_region 19 with fail;refine rg P fun A=>?_;(iterate 6 refine tq 0 ?_);refine rdy 6 fun K n=>?_;go_simp;refine d.o.mono ?_;rintro e w' ⟨rfl,rfl⟩;clear d;go_wp2_with fail;refine n.out _ _ (by first | with_reducible exact k.o | with_reducible exact l.o) (fun A=>?_)
  clear n K;refine tk 7 ?_;refine tk 8 ?_;refine rdy 9 fun K n=>?_;go_simp;go_wp2_with (rw [a]);refine hk n fun A=>?_;clear n K
  refine dn ?_;clear A k l c6 Ar a;go_wp2_with fail;refine g.mono ?_;clear g;rintro e w7 ⟨v,O7,rfl,t,z,p,u⟩;have Ak:=Hy t;have An:=Hy z;have Aj:=Hy (show AgO w.heap.size O O7 from fun b hb=>p b (nt hb J.size));have Am:=Hy (ROut.trans J.o u (AgO.refl _ _));clear t z p u;go_wp2_with fail;go_ret2;refine ⟨v,O7,by rw [V];rfl,?_,?_,Aj.o,Am.o⟩
  ·unfold CS.cancel;rw [if_pos V,E];exact Ak.o
  ·unfold CS.cancelL;rw [if_pos V,E];exact An.base J.size
theorem Zaf (O:Own) (B:RA) (r:Nat) (c:CfgM) (S:CS) (p:P5) (w:World) (h:RW w O B r c S) (ho:S.t.ok):
  Calls prog 45 #[.pointer (some ⟨r,0,none⟩),p.msg 1] w (RLkE O B r c (S.hello p.hw p.hl,S.helloL p.hw p.hl) w):=by
 unfold P5.msg;have ⟨W,k⟩:=gn (w.alloc (.cells #[.int .i64 1,p.hw,p.hl,p.gw,p.gl,p.ge,p.ai,p.aq,p.ah,p.an,p.ae,p.ax,p.ak,p.ab,.bool p.af,p.ad,p.aw,p.rs,p.rq,p.rh,p.rn,p.rw,p.re,.slice p.ra p.rl.length p.rc,.bool p.rb,p.ss,p.sq] 101));have Q:Below w.heap.size w W:=by rw [<- k];exact (bf _ w).alloc (nl _) _
 have H:Blk W w.heap.size 101 [.int .i64 1,p.hw,p.hl,p.gw,p.gl,p.ge,p.ai,p.aq,p.ah,p.an,p.ae,p.ax,p.ak,p.ab,.bool p.af,p.ad,p.aw,p.rs,p.rq,p.rh,p.rn,p.rw,p.re,.slice p.ra p.rl.length p.rc,.bool p.rb,p.ss,p.sq]:=by rw [<- k];exact hn_ w _
 have m0:Ci W w.heap.size 0 1:=H.cell 0;have m1:W.cell? ⟨w.heap.size,1,none⟩=some (.int .i64 p.hw):=H.cell 1;have m2:W.cell? ⟨w.heap.size,1+1,none⟩=some (.int .i64 p.hl):=H.cell 2;have s:=Hy (show S.hello p.hw p.hl={S with t:=(S.t.hello p.hw p.hl S.now).1} from rfl);have a:=Hy (show S.helloL p.hw p.hl=if (S.t.hello p.hw p.hl S.now).2.2=0 then [(p.hw,.grant p.hw p.hl (S.t.hello p.hw p.hl S.now).2.1)] else [] from rfl);have ⟨V,E⟩:=gn (W.alloc (.cells #[p.hw,p.hl] 36));have i:Below W.heap.size W V:=by rw [<- E];exact (bf _ W).alloc (nl _) _
 have J:=Hy (by rw [<- E];exact hn_ W _:Blk V W.heap.size 36 [p.hw,p.hl]);have HB:=Hy (Q.trans (i.mono Q.size));have ⟨M,P⟩:=gn (O.upd w.heap.size 0);have C:=Hy (by rw [<- P];exact AgO.upd _ _ _:AgO w.heap.size O M);have d:=Hy (by rw [<- P,Own.upd_ge Q.size];decide:¬ M W.heap.size % 8=2);have f:=Hy (by rw [<- E];simp:W.heap.size < V.drew.heap.size);clear P;have l:=Hy (show RW V.drew M B r c S from (h.below HB.o C.o).below (below_drewN (bf _ V) 1) (AgO.refl _ _))
 have U:=qaS l.o ho p.hw p.hl;obtain ⟨⟨t',ep,v⟩,z⟩:∃ x,S.t.hello p.hw p.hl S.now=x:=⟨_,rfl⟩;rw [z] at U a;have Z:=Hy U;have ⟨A,T⟩:=gn W.heap.size;rw [T] at J d f;let N:World->Prop:=fun w'=>Cp w' r 13 B.le/\Ci w' r 12 S.now/\Ci w' A 0 p.hw/\Ci w' A 1 p.hl;have g:=Hy (show N V.drew from ⟨l.cell 13,l.cell 12,J.cell 0,J.cell 1⟩);clear h Q H i U z;go_in;go_upto_region 15 with (first | rw [k] | (rw [E];rw [T]))
 clear k E T m0 m1 m2;refine rg N fun D=>?_;(iterate 12 refine tq 0 ?_);refine rdy 12 fun K y=>?_;go_simp;refine Z.o.mono ?_;rintro e I ⟨rfl,j,R⟩;have F:=Hy j;have G:=Hy (show ROut O w I from ROut.trans (ROut.below (O:=O) (HB.o.drew)) R C.o);have u:=Hy (R.block A f.o d.o);have L:=Hy (show N I from ⟨F.o.cell 13,F.o.cell 12,(World.cell?_of_block u.o).trans g.o.2.2.1,(World.cell?_of_block u.o).trans g.o.2.2.2⟩);clear j R Z
 go_wp2_with fail;refine hk y fun D=>?_;clear y K;(iterate 5 refine tq 13 ?_);refine dn ?_;clear D
 by_cases q:v=0
 ·subst q
  have z0:Ci I A 0 p.hw:=L.2.2.1;have z1:I.cell? ⟨A,0+1,none⟩=some (.int .i64 p.hl):=L.2.2.2;have z2:I.cell? ⟨A,1,none⟩=some (.int .i64 p.hl):=L.2.2.2;rw [if_pos rfl] at a;have m:=Hy (RLet.one M I w.heap.size (p.hw,.grant p.hw p.hl ep) G.size);have Y:=Hy ((bf I.heap.size I).alloc (nl _) (.cells (RLV (p.hw,.grant p.hw p.hl ep)).toArray 201));go_wp2_with fail;go_ret;refine ⟨_,M.upd I.heap.size 0,rfl,?_,?_,fun b Q=>(Own.upd_lt (nt Q G.size)).trans (C.o b Q),ROut.trans G.o (ROut.below (O:=M) Y.o) C.o⟩
  ·rw [s.o];exact F.below Y.o (AgO.upd _ _ _)
  rw [a.o];exact m.o
 rw [if_neg q] at a
 have n:(v != 0)=true:=by simp [q]
 go_wp2_with (rw [n]);go_ret;refine ⟨_,M,rfl,?_,?_,C.o,G.o⟩
 ·rw [s.o];exact F.o
 rw [a.o];exact RLet.nil _ _ _
theorem Yu (id:Int) (L:List One):(cancelL id L).length<=L.length:=(List.eraseP_sublist ..).length_le
theorem ZI {id j:Int} {L:List One} (h:hasL j L=false):hasL j (cancelL id L)=false:=by
 unfold hasL at h ⊢;rw [List.any_eq_false] at h ⊢;exact fun x A=>h x ((List.eraseP_sublist ..).subset A)
def RkpR (wk:Int) (cl:List Int) (w0:World) (n:Nat) (v1 v2:Value) (wr:World):Prop:=∃ k:Nat,k<=n/\v1=.bool ((cl.take k).any (fun x=>decide (x=wk)))/\v2=.int .i64 (k:Nat)/\Hid (Below w0.heap.size w0 wr)
def RfaR (kp:Bool) (K:Int) (l:List KeyL) (w0:World) (v1 v2:Value) (wr:World):Prop:=∃ (k:Nat) (b1:Bool),k<=l.length/\v1=.bool b1/\v2=.int .i64 (k:Nat)/\Hid (b1=(kp&&!((l.take k).any (farK K))))/\Hid (Below w0.heap.size w0 wr)
def RreE (O:Own) (B:RA) (r:Nat) (c:CfgM) (R:CS×List LV) (w:World) (e:Ending) (w':World):Prop:=RGoE O B r c R w e w'
theorem RGoE.none {c:CfgM} {S:CS} {w:World} (hc:RW w' O' B r c S) (ha:AgO w.heap.size O O') (hf:ROut O w w'):RGoE O B r c (S,[]) w (.returned (.slice none 0 0)) w':=⟨_,O',B,rfl,hc,RLet.nil _ _ _,ha,hf⟩
theorem Yar (it A:Nat->Option Addr×Nat) (l:List TS) (x:TS) (h:∀ i,i < l.length->A i=it i):rowF (toldF A (l++[x])) (l.length+1)=rowF (toldF it l) l.length++x.cells ((l.length:Int)+1) (A l.length):=by
 rw [Qk];congr 1
 ·refine Qo (fun i hi=>?_)
  unfold toldF;rw [h i hi,List.getD_eq_getElem?_getD,List.getD_eq_getElem?_getD,List.getElem?_append_left hi]
 unfold toldF
 rw [List.getD_eq_getElem?_getD,List.getElem?_append_right (Nat.le_refl _),Nat.sub_self];rfl
def RA.add (B:RA) (n:Nat) (a:Option Addr) (ac qb mb:Nat):RA:={B with aa:=a,ac:=ac,q:=fun j=>if j=n+1 then qb else B.q j,m:=fun j=>if j=n+1 then mb else B.m j,it:=fun i=>if i=n then (none,0) else B.it i}
theorem YaR {L:List Nat} {q q':Nat->Nat} (h:∀ x∈L,q' x=q x) (i:Nat):rqV L q' i=rqV L q i:=by
 unfold rqV
 by_cases e:L.getD i 0=0
 ·rw [if_pos e,if_pos e]
 rw [if_neg e,if_neg e,h _ (List.mem_of_getElem? (Xk e))]
theorem yae {S:CS} {c:CfgM} {B:RA} {s:Nat} (hs:s < S.L.length) (D:s < 4) (ho:SlOK S.L S.told.length) (q:ByteArray) (k n:Int) (ns:Nat) (a:Option Addr) (ac qb mb:Nat):
  ((S.rcells c B).set 20 (.slice a (S.told.length+1:Nat) ac)).set (16+s) (.pointer (some ⟨qb,0,none⟩))=(S.add q k n s ns).rcells c (B.add S.told.length a ac qb mb):=by
 have C:(S.add q k n s ns).told.length=S.told.length+1:=by show (S.told++[_]).length=_;rw [List.length_append];rfl
 have A:∀ i,rqV (S.add q k n s ns).L (B.add S.told.length a ac qb mb).q i=if i=s then .pointer (some ⟨qb,0,none⟩) else rqV S.L B.q i:=fun i=>by
  show rqV (S.L.set s (S.told.length+1)) _ i=_;rw [XaR S.L _ s _ hs,if_neg (Nat.succ_ne_zero _)]
  by_cases e:i=s
  ·rw [if_pos e,if_pos e];show Value.pointer (some ⟨(if S.told.length+1=S.told.length+1 then qb else _),0,none⟩)=_;rw [if_pos rfl]
  ·rw [if_neg e,if_neg e]
   refine YaR (fun x E=>?_) i;show (if x=S.told.length+1 then qb else B.q x)=_;rw [if_neg (by have:=ho.le x E;omega)]
 unfold CS.rcells;rw [C,A 0,A 1,A 2,A 3];have e:s=0∨s=1∨s=2∨s=3:=by omega
 rcases e with rfl | rfl | rfl | rfl <;> rfl
theorem RW.added {c:CfgM} {S:CS} {s ns:Nat} {q:ByteArray} {k n:Int} {a:Option Addr} {ac qb mb:Nat}
  (h:RWx (fun t=>t=rt 0∨t=rt 2∨t=rt 4) w O B r c S) (hs:s < S.L.length) (H:s < 4) (ho:SlOK S.L S.told.length)
  (hb:BlkO O (rt 0) w r 159 (((S.rcells c B).set 20 (.slice a (S.told.length+1:Nat) ac)).set (16+s) (.pointer (some ⟨qb,0,none⟩))))
  (hl:BlkO O (rt 2) w B.sl 183 [.slice (some ⟨B.sf,0,none⟩) S.L.length S.L.length,(S.told.length+1:Nat)]/\BlkO O (rt 2) w B.sf 3 (slV (S.L.set s (S.told.length+1))))
  (ht:Row O (rt 4) w 58 7 (.slice a (S.told.length+1) ac) (S.told.length+1) (rowF (toldF B.it S.told) S.told.length++[.int .i64 (S.told.length+1:Nat),.string q,.int .i64 k,.int .i64 n,.slice none 0 0,.bool false,.bool false]))
  (hq:BlkO O (rt (6+2 * (S.told.length+1))) w qb 181 ((S.newQ q k n s ns).rcells mb))
  (hm:RMo O (rt (7+2 * (S.told.length+1))) w mb n (S.newQ q k n s ns).S []):
  RW w O (B.add S.told.length a ac qb mb) r c (S.add q k n s ns):=by
 have A:(S.add q k n s ns).told.length=S.told.length+1:=by show (S.told++[_]).length=_;rw [List.length_append];rfl
 have G:(S.add q k n s ns).L.length=S.L.length:=List.length_set;have C:∀ i,i≠0->i≠2->i≠4->¬ (rt i=rt 0∨rt i=rt 2∨rt i=rt 4):=fun i h1 E J e=>by rcases e with e | e | e;exact Zb h1 e;exact Zb E e;exact Zb J e
 have D:∀ id∈(S.add q k n s ns).L,id≠S.told.length+1->id∈S.L:=fun id h1 E=>by
  rcases List.mem_or_eq_of_mem_set h1 with e | e
  ·exact e
  ·exact absurd e E
 refine ⟨h.cf,h.cc,fun _=>?_,fun _=>h.le (C 1 (by omega) (by omega) (by omega)),fun _=>?_,fun _=>h.ti (C 3 (by omega) (by omega) (by omega)),fun _=>?_,fun _ i t hi=>?_,fun id h1 E _=>?_,fun id h1 E _=>?_⟩
 ·rw [<- yae hs H ho];exact hb
 ·rw [G,A];exact hl
 ·rw [A]
  show Row O (rt 4) w _ 7 (.slice a (S.told.length+1) ac) _ (rowF (toldF _ (S.told++[_])) (S.told.length+1));rw [Yar B.it _ S.told _ (fun i hi=>by show (if i=S.told.length then _ else B.it i)=_;rw [io])];rw [show (TS.cells ⟨q,k,n,[],false,false⟩ ((S.told.length:Int)+1) ((B.add S.told.length a ac qb mb).it S.told.length))=[.int .i64 (S.told.length+1:Nat),.string q,.int .i64 k,.int .i64 n,.slice none 0 0,.bool false,.bool false] from by show TS.cells _ _ (if S.told.length=S.told.length then (none,0) else _)=_;rw [if_pos rfl];rfl];exact ht
 ·by_cases e:i < S.told.length
  ·rw [show (S.add q k n s ns).told[i]?=S.told[i]? from List.getElem?_append_left e] at hi
   have q:=h.it (C 5 (by omega) (by omega) (by omega)) i t hi;show Row O _ w _ 2 (.slice (if i=S.told.length then _ else B.it i).1 _ (if i=S.told.length then _ else B.it i).2) _ _;rw [io];exact q
  have I:i=S.told.length:=by have:=(lg hi).1;rw [A] at this;omega
  subst I;rw [show (S.add q k n s ns).told[S.told.length]?=some ⟨q,k,n,[],false,false⟩ from by show (S.told++[_])[S.told.length]?=_;rw [List.getElem?_append_right (Nat.le_refl _),Nat.sub_self];rfl] at hi;cases hi;show Row O _ w _ 2 (.slice (if S.told.length=S.told.length then (none,0) else B.it S.told.length).1 0 (if S.told.length=S.told.length then (none,0) else B.it S.told.length).2) 0 [];rw [if_pos rfl];exact ⟨World.ownsRow_nil _ _ _ _,fun k F=>by simp [Value.ownBlock] at F⟩
 ·show BlkO O _ w (if id=S.told.length+1 then qb else B.q id) _ (QS.rcells (if id=S.told.length+1 then S.newQ q k n s ns else S.Q id) (if id=S.told.length+1 then mb else B.m id))
  by_cases e:id=S.told.length+1
  ·subst e;rw [if_pos rfl,if_pos rfl,if_pos rfl];exact hq
  rw [if_neg e,if_neg e,if_neg e];exact h.qb id (D id h1 e) E (C _ (by omega) (by omega) (by omega))
 show RMo O _ w (if id=S.told.length+1 then mb else B.m id) (if id=S.told.length+1 then S.newQ q k n s ns else S.Q id).n (if id=S.told.length+1 then S.newQ q k n s ns else S.Q id).S (if id=S.told.length+1 then S.newQ q k n s ns else S.Q id).T
 by_cases e:id=S.told.length+1
 ·subst e;rw [if_pos rfl,if_pos rfl];exact hm
 rw [if_neg e,if_neg e];exact h.mg id (D id h1 e) E (C _ (by omega) (by omega) (by omega))
end Go.Proofs.YtinkbgeckjbnbaaGreat
