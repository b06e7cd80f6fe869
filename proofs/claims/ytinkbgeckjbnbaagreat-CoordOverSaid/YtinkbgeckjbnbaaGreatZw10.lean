/- Lemmas (part 10). -/
import Derived.Test.YtinkbgeckjbnbaaGreatZw9
namespace Go.Proofs.YtinkbgeckjbnbaaGreat
open Go.RowKit Go.Proofs.Tryz
set_option autoImplicit true
set_option relaxedAutoImplicit true
set_option linter.unusedVariables false
set_option linter.unusedSimpArgs false
set_option maxRecDepth 100000
set_option maxHeartbeats 32000000
theorem qp {w:World} {base:Nat} {e:TypeId} {size g n c:Nat} {xs:List Value} (h:w.ownsRow base e size (.slice (some ⟨g,0,none⟩) n c) n xs) {j:Nat} {u:Value} (hj:xs[j]?=some u):w.cell? ⟨g,j,none⟩=some u:=by
 obtain ⟨sp,_,A⟩:=ze h;rw [A.cell,List.getElem?_append_left (List.getElem?_eq_some_iff.1 hj).1,hj]
theorem LetAt.one' {O:Own} {w:World} {base g:Nat} {td:Int} {m:MV} (hw:w.heap[g]?=some (.cells #[td,m.val] 51 (0,0))) (hO:O g=0) (hb:base<=g):LetAt O w base (.slice (some ⟨g,0,none⟩) 1 1) [(td,m)]:=
 ⟨some ⟨g,0,none⟩,1,rfl,⟨rfl,.inr ⟨g,1,#[td,m.val],rfl,hb,hw,nl 1,by decide,rfl,rfl⟩⟩,fun k A=>by simp only [Value.ownBlock,Option.some.injEq] at A;subst A;exact hO⟩
def turnW (c:CfgM) (s:Nat) (turn:Int):Int:=(copN c s).getD (turn % c.cp).toNat 0
def CS.askL (S:CS) (id s:Nat) (turn:Int):List LV:=if S.t.epoch (turnW S.c s turn)=0 then [] else [(turnW S.c s turn,.ask ((S.Q id).slot:Nat) (id:Nat) (s:Nat) (seqP (S.Q id).S (s:Nat)) (S.t.epoch (turnW S.c s turn)) (S.Q id).q (S.Q id).k S.c.ba (!(afterP (S.Q id).S (s:Nat)).2) (afterP (S.Q id).S (s:Nat)).1.1 (afterP (S.Q id).S (s:Nat)).1.2)]
def AskE (O:Own) (S:CS) (id s:Nat) (turn:Int) (w:World) (e:Ending) (w':World):Prop:=∃ v,e=.returned v/\LetAt (O.upd w.heap.size 0) w' w.heap.size v (S.askL id s turn)/\Below w.heap.size w w'
theorem zN (O:Own) (A:CA) (p:Nat) (S:CS) (id s:Nat) (turn:Int) (w:World) (h:CW w O A p S) (hm:id∈S.L) (h0:id≠0) (hs:s < A.cps.length) (Az:A.cps.length<=6) (Ao:0<=turn) (A0:turn<=1000000000) (Aa:1<=S.c.cp) (Ab:S.c.cp<=3) (ho:S.t.ok):
  Calls prog 121 #[.pointer (some ⟨p,0,none⟩),.pointer (some ⟨A.q id,0,none⟩),(s:Nat),turn] w (AskE O S id s turn w):=by
 obtain ⟨M,P⟩:∃ M:Nat,S.c.cp=(M:Int):=⟨S.c.cp.toNat,by omega⟩;rw [P] at Aa Ab;have hI:=CWx.imm h (fun q=>q);obtain ⟨x,hx⟩:∃ x,A.cps[s]?=some x:=⟨A.cps[s],le_ _⟩;have H:=hI.row.1;have F:=(hI.each s x hx).1;rw [P,Int.toNat_natCast] at H F;obtain ⟨cb,Z,_⟩:=Qc H (by omega);obtain ⟨rb,b,_⟩:=Qc F (by omega);rw [Z] at H;rw [b] at F;obtain ⟨r,hr⟩:∃ r:Nat,turn % (M:Int)=(r:Int):=⟨(turn % (M:Int)).toNat,by have:=Int.emod_nonneg turn (show (M:Int)≠0 by omega);omega⟩;have Ax:r < M:=by have:=Int.emod_lt_of_pos turn (show (0:Int) < (M:Int) by omega);omega
 have Ay:turn.tmod (M:Int)=(r:Int):=by rw [Int.tmod_eq_emod_of_nonneg Ao];exact hr
 have Ac:(copN S.c s).length=M:=by unfold copN;rw [List.length_map,List.length_range,P,Int.toNat_natCast]
 have ⟨wn,f⟩:=gn (turnW S.c s turn);have Af:(copN S.c s)[r]?=some wn:=by rw [<- f];unfold turnW;rw [P,hr,Int.toNat_natCast,List.getD_eq_getElem?_getD,List.getElem?_eq_getElem (by omega)];rfl
 have An:Ci w rb r wn:=qp F (by unfold ints;rw [List.getElem?_map,Af];rfl);have Ak:w.cell? ⟨cb,s,none⟩=some (.slice (some ⟨rb,0,none⟩) M x.2):=qp H (by rw [List.getElem?_map,hx,<- b];rfl);have ⟨ns,Ad⟩:=gn A.cps.length;have Aq:w.cell? ⟨p,12,none⟩=some (.slice (some ⟨cb,0,none⟩) ns A.cpc):=by have e:Cl w p 12 (.slice A.cpa A.cps.length A.cpc):=h.blk.cell 12;rw [Ad,Z] at e;exact e
 have Ar:Cp w p 14 A.le:=h.blk.cell 14;have j:=Hy h.blk;have Y:=Hy (CWx.qb h id hm h0 (fun q=>q)).1;have l:=Hy (CWx.mg h id hm h0 (fun q=>q)).mg;have V:=Hy (yaz w A.le S.t wn (CWx.le h (fun q=>q)).1 ho);have R:=Hy (Qax 0 (A.m id) (S.Q id).n (s:Int) (S.Q id).S (S.Q id).T w l.o);have k1:(s:Int) < (ns:Int):=by omega
 have k2:(0:Int)<=(s:Int):=by omega
 have k3:(r:Int) < (M:Int):=by omega
 have k4:(0:Int)<=(r:Int):=by omega
 have k5:(M:Int)≠0:=by omega
 have k6:((M:Int) == 0)=false:=by rw [beq_eq_false_iff_ne];exact k5
 have k7:IntKind.i64.wrap (r:Int)=(r:Int):=zq _ (by omega) (by omega);unfold AskE;have ⟨LL,G⟩:=gn (S.askL id s turn);rw [G];unfold CS.askL at G;rw [f] at G;have ⟨ep,a⟩:=gn (S.t.epoch wn);rw [a] at V G;have Au:0<=ep:=by rw [<- a];unfold Tab.epoch;split;exact (ho.at wn).epoch0;omega
 have ⟨Ai,y⟩:=gn (afterP (S.Q id).S (s:Int));obtain ⟨⟨C,aw⟩,D⟩:=Ai;rw [y] at R G;have ⟨sq,d⟩:=gn (seqP (S.Q id).S (s:Int));rw [d] at G;have Ah:=Hy d;clear d;clear h hm hI H F hx Z b hr Ac f Af Ad a y P;go_in;go_wp2_with fail;refine V.mono ?_;clear V;rintro e w' ⟨rfl,rfl⟩
 by_cases he:ep=0
 ·subst he
  rw [if_pos rfl] at G;subst G;go_wp2_with fail;go_ret;exact ⟨.slice none 0 0,rfl,LetAt.nil _ _ _,bf _ _⟩
 rw [if_neg he] at G;subst G;have e1:(ep == (0:Int))=false:=by rw [beq_eq_false_iff_ne];exact he
 have q5:Cp w (A.q id) 5 (A.m id):=Y.cell 5;go_wp2_with fail;clear Aq Ar An Ak q5;refine R.mono ?_;clear R;rintro e i ⟨rfl,hb⟩;have U:=Hy hb;clear hb;have ⟨W,hW⟩:=gn (i.alloc (.cells #[C,aw] 46));have z:Below i.heap.size i W:=by rw [<- hW];exact (bf _ i).alloc (nl _) _
 have I:=Hy (show Below w.heap.size w W.drew from (U.trans (z.mono U.size)).drew);have J:=Hy (j.below I.o j.lt);have B:=Hy (Y.below I.o Y.lt);have E:=Hy (by rw [<- hW];exact hn_ i _:Blk W.drew i.heap.size 46 [C,aw]);have u:=Hy (qa3 0 (A.m id) (S.Q id).n (s:Int) (S.Q id).S (S.Q id).T W.drew (l.below I.o));clear z U;go_upto_region 7 with (rw [hW]);clear hW;rw [Ah.o] at u;have ⟨tb,Ae⟩:=gn i.heap.size;rw [Ae] at E ⊢;clear Ae;refine wp_region_held_drew (S:=(fun w'=>Ci w' (A.q id) 0 (id:Nat)/\Ci w' (A.q id) 1 ((S.Q id).slot:Nat)/\Ct w' (A.q id) 2 ((S.Q id).q)/\Ci w' (A.q id) 3 ((S.Q id).k)/\Cp w' (A.q id) 5 (A.m id)/\Ci w' p 5 S.c.ba/\Ci w' tb 0 C/\Ct w' tb 1 aw)) (by kernel_rfl) (by first | exact ⟨B.cell 0,B.cell 1,B.cell 2,B.cell 3,B.cell 5,J.cell 5,E.cell 0,E.cell 1⟩ | exact ⟨(show Blk (W.alloc (.cells #[wn,MV.val (.ask ((S.Q id).slot:Nat) (id:Nat) (s:Nat) sq ep (S.Q id).q (S.Q id).k S.c.ba (!D) C aw)] 51)).drew _ _ _ from Blk.alloc B.o (.cells #[wn,MV.val (.ask ((S.Q id).slot:Nat) (id:Nat) (s:Nat) sq ep (S.Q id).q (S.Q id).k S.c.ba (!D) C aw)] 51)).cell 0,(show Blk (W.alloc (.cells #[wn,MV.val (.ask ((S.Q id).slot:Nat) (id:Nat) (s:Nat) sq ep (S.Q id).q (S.Q id).k S.c.ba (!D) C aw)] 51)).drew _ _ _ from Blk.alloc B.o (.cells #[wn,MV.val (.ask ((S.Q id).slot:Nat) (id:Nat) (s:Nat) sq ep (S.Q id).q (S.Q id).k S.c.ba (!D) C aw)] 51)).cell 1,(show Blk (W.alloc (.cells #[wn,MV.val (.ask ((S.Q id).slot:Nat) (id:Nat) (s:Nat) sq ep (S.Q id).q (S.Q id).k S.c.ba (!D) C aw)] 51)).drew _ _ _ from Blk.alloc B.o (.cells #[wn,MV.val (.ask ((S.Q id).slot:Nat) (id:Nat) (s:Nat) sq ep (S.Q id).q (S.Q id).k S.c.ba (!D) C aw)] 51)).cell 2,(show Blk (W.alloc (.cells #[wn,MV.val (.ask ((S.Q id).slot:Nat) (id:Nat) (s:Nat) sq ep (S.Q id).q (S.Q id).k S.c.ba (!D) C aw)] 51)).drew _ _ _ from Blk.alloc B.o (.cells #[wn,MV.val (.ask ((S.Q id).slot:Nat) (id:Nat) (s:Nat) sq ep (S.Q id).q (S.Q id).k S.c.ba (!D) C aw)] 51)).cell 3,(show Blk (W.alloc (.cells #[wn,MV.val (.ask ((S.Q id).slot:Nat) (id:Nat) (s:Nat) sq ep (S.Q id).q (S.Q id).k S.c.ba (!D) C aw)] 51)).drew _ _ _ from Blk.alloc B.o (.cells #[wn,MV.val (.ask ((S.Q id).slot:Nat) (id:Nat) (s:Nat) sq ep (S.Q id).q (S.Q id).k S.c.ba (!D) C aw)] 51)).cell 5,(show Blk (W.alloc (.cells #[wn,MV.val (.ask ((S.Q id).slot:Nat) (id:Nat) (s:Nat) sq ep (S.Q id).q (S.Q id).k S.c.ba (!D) C aw)] 51)).drew _ _ _ from Blk.alloc J.o (.cells #[wn,MV.val (.ask ((S.Q id).slot:Nat) (id:Nat) (s:Nat) sq ep (S.Q id).q (S.Q id).k S.c.ba (!D) C aw)] 51)).cell 5,(show Blk (W.alloc (.cells #[wn,MV.val (.ask ((S.Q id).slot:Nat) (id:Nat) (s:Nat) sq ep (S.Q id).q (S.Q id).k S.c.ba (!D) C aw)] 51)).drew _ _ _ from Blk.alloc E.o (.cells #[wn,MV.val (.ask ((S.Q id).slot:Nat) (id:Nat) (s:Nat) sq ep (S.Q id).q (S.Q id).k S.c.ba (!D) C aw)] 51)).cell 0,(show Blk (W.alloc (.cells #[wn,MV.val (.ask ((S.Q id).slot:Nat) (id:Nat) (s:Nat) sq ep (S.Q id).q (S.Q id).k S.c.ba (!D) C aw)] 51)).drew _ _ _ from Blk.alloc E.o (.cells #[wn,MV.val (.ask ((S.Q id).slot:Nat) (id:Nat) (s:Nat) sq ep (S.Q id).q (S.Q id).k S.c.ba (!D) C aw)] 51)).cell 1⟩) (fun N=>?_)
 (iterate 15 refine tq 0 ?_);(iterate 19 refine tq 16 ?_);refine rdy 15 fun K v=>?_;go_simp;refine u.mono ?_;rintro e w' ⟨rfl,rfl⟩;go_wp2_with fail;refine v.out _ _ (by first | exact ⟨B.cell 0,B.cell 1,B.cell 2,B.cell 3,B.cell 5,J.cell 5,E.cell 0,E.cell 1⟩ | exact ⟨(show Blk (W.alloc (.cells #[wn,MV.val (.ask ((S.Q id).slot:Nat) (id:Nat) (s:Nat) sq ep (S.Q id).q (S.Q id).k S.c.ba (!D) C aw)] 51)).drew _ _ _ from Blk.alloc B.o (.cells #[wn,MV.val (.ask ((S.Q id).slot:Nat) (id:Nat) (s:Nat) sq ep (S.Q id).q (S.Q id).k S.c.ba (!D) C aw)] 51)).cell 0,(show Blk (W.alloc (.cells #[wn,MV.val (.ask ((S.Q id).slot:Nat) (id:Nat) (s:Nat) sq ep (S.Q id).q (S.Q id).k S.c.ba (!D) C aw)] 51)).drew _ _ _ from Blk.alloc B.o (.cells #[wn,MV.val (.ask ((S.Q id).slot:Nat) (id:Nat) (s:Nat) sq ep (S.Q id).q (S.Q id).k S.c.ba (!D) C aw)] 51)).cell 1,(show Blk (W.alloc (.cells #[wn,MV.val (.ask ((S.Q id).slot:Nat) (id:Nat) (s:Nat) sq ep (S.Q id).q (S.Q id).k S.c.ba (!D) C aw)] 51)).drew _ _ _ from Blk.alloc B.o (.cells #[wn,MV.val (.ask ((S.Q id).slot:Nat) (id:Nat) (s:Nat) sq ep (S.Q id).q (S.Q id).k S.c.ba (!D) C aw)] 51)).cell 2,(show Blk (W.alloc (.cells #[wn,MV.val (.ask ((S.Q id).slot:Nat) (id:Nat) (s:Nat) sq ep (S.Q id).q (S.Q id).k S.c.ba (!D) C aw)] 51)).drew _ _ _ from Blk.alloc B.o (.cells #[wn,MV.val (.ask ((S.Q id).slot:Nat) (id:Nat) (s:Nat) sq ep (S.Q id).q (S.Q id).k S.c.ba (!D) C aw)] 51)).cell 3,(show Blk (W.alloc (.cells #[wn,MV.val (.ask ((S.Q id).slot:Nat) (id:Nat) (s:Nat) sq ep (S.Q id).q (S.Q id).k S.c.ba (!D) C aw)] 51)).drew _ _ _ from Blk.alloc B.o (.cells #[wn,MV.val (.ask ((S.Q id).slot:Nat) (id:Nat) (s:Nat) sq ep (S.Q id).q (S.Q id).k S.c.ba (!D) C aw)] 51)).cell 5,(show Blk (W.alloc (.cells #[wn,MV.val (.ask ((S.Q id).slot:Nat) (id:Nat) (s:Nat) sq ep (S.Q id).q (S.Q id).k S.c.ba (!D) C aw)] 51)).drew _ _ _ from Blk.alloc J.o (.cells #[wn,MV.val (.ask ((S.Q id).slot:Nat) (id:Nat) (s:Nat) sq ep (S.Q id).q (S.Q id).k S.c.ba (!D) C aw)] 51)).cell 5,(show Blk (W.alloc (.cells #[wn,MV.val (.ask ((S.Q id).slot:Nat) (id:Nat) (s:Nat) sq ep (S.Q id).q (S.Q id).k S.c.ba (!D) C aw)] 51)).drew _ _ _ from Blk.alloc E.o (.cells #[wn,MV.val (.ask ((S.Q id).slot:Nat) (id:Nat) (s:Nat) sq ep (S.Q id).q (S.Q id).k S.c.ba (!D) C aw)] 51)).cell 0,(show Blk (W.alloc (.cells #[wn,MV.val (.ask ((S.Q id).slot:Nat) (id:Nat) (s:Nat) sq ep (S.Q id).q (S.Q id).k S.c.ba (!D) C aw)] 51)).drew _ _ _ from Blk.alloc E.o (.cells #[wn,MV.val (.ask ((S.Q id).slot:Nat) (id:Nat) (s:Nat) sq ep (S.Q id).q (S.Q id).k S.c.ba (!D) C aw)] 51)).cell 1⟩) (fun N=>?_)
 clear v K;(iterate 3 refine tq 35 ?_);refine rdy 38 fun K v=>?_;go_simp;go_wp2_with fail;refine v.out _ _ (by first | exact ⟨B.cell 0,B.cell 1,B.cell 2,B.cell 3,B.cell 5,J.cell 5,E.cell 0,E.cell 1⟩ | exact ⟨(show Blk (W.alloc (.cells #[wn,MV.val (.ask ((S.Q id).slot:Nat) (id:Nat) (s:Nat) sq ep (S.Q id).q (S.Q id).k S.c.ba (!D) C aw)] 51)).drew _ _ _ from Blk.alloc B.o (.cells #[wn,MV.val (.ask ((S.Q id).slot:Nat) (id:Nat) (s:Nat) sq ep (S.Q id).q (S.Q id).k S.c.ba (!D) C aw)] 51)).cell 0,(show Blk (W.alloc (.cells #[wn,MV.val (.ask ((S.Q id).slot:Nat) (id:Nat) (s:Nat) sq ep (S.Q id).q (S.Q id).k S.c.ba (!D) C aw)] 51)).drew _ _ _ from Blk.alloc B.o (.cells #[wn,MV.val (.ask ((S.Q id).slot:Nat) (id:Nat) (s:Nat) sq ep (S.Q id).q (S.Q id).k S.c.ba (!D) C aw)] 51)).cell 1,(show Blk (W.alloc (.cells #[wn,MV.val (.ask ((S.Q id).slot:Nat) (id:Nat) (s:Nat) sq ep (S.Q id).q (S.Q id).k S.c.ba (!D) C aw)] 51)).drew _ _ _ from Blk.alloc B.o (.cells #[wn,MV.val (.ask ((S.Q id).slot:Nat) (id:Nat) (s:Nat) sq ep (S.Q id).q (S.Q id).k S.c.ba (!D) C aw)] 51)).cell 2,(show Blk (W.alloc (.cells #[wn,MV.val (.ask ((S.Q id).slot:Nat) (id:Nat) (s:Nat) sq ep (S.Q id).q (S.Q id).k S.c.ba (!D) C aw)] 51)).drew _ _ _ from Blk.alloc B.o (.cells #[wn,MV.val (.ask ((S.Q id).slot:Nat) (id:Nat) (s:Nat) sq ep (S.Q id).q (S.Q id).k S.c.ba (!D) C aw)] 51)).cell 3,(show Blk (W.alloc (.cells #[wn,MV.val (.ask ((S.Q id).slot:Nat) (id:Nat) (s:Nat) sq ep (S.Q id).q (S.Q id).k S.c.ba (!D) C aw)] 51)).drew _ _ _ from Blk.alloc B.o (.cells #[wn,MV.val (.ask ((S.Q id).slot:Nat) (id:Nat) (s:Nat) sq ep (S.Q id).q (S.Q id).k S.c.ba (!D) C aw)] 51)).cell 5,(show Blk (W.alloc (.cells #[wn,MV.val (.ask ((S.Q id).slot:Nat) (id:Nat) (s:Nat) sq ep (S.Q id).q (S.Q id).k S.c.ba (!D) C aw)] 51)).drew _ _ _ from Blk.alloc J.o (.cells #[wn,MV.val (.ask ((S.Q id).slot:Nat) (id:Nat) (s:Nat) sq ep (S.Q id).q (S.Q id).k S.c.ba (!D) C aw)] 51)).cell 5,(show Blk (W.alloc (.cells #[wn,MV.val (.ask ((S.Q id).slot:Nat) (id:Nat) (s:Nat) sq ep (S.Q id).q (S.Q id).k S.c.ba (!D) C aw)] 51)).drew _ _ _ from Blk.alloc E.o (.cells #[wn,MV.val (.ask ((S.Q id).slot:Nat) (id:Nat) (s:Nat) sq ep (S.Q id).q (S.Q id).k S.c.ba (!D) C aw)] 51)).cell 0,(show Blk (W.alloc (.cells #[wn,MV.val (.ask ((S.Q id).slot:Nat) (id:Nat) (s:Nat) sq ep (S.Q id).q (S.Q id).k S.c.ba (!D) C aw)] 51)).drew _ _ _ from Blk.alloc E.o (.cells #[wn,MV.val (.ask ((S.Q id).slot:Nat) (id:Nat) (s:Nat) sq ep (S.Q id).q (S.Q id).k S.c.ba (!D) C aw)] 51)).cell 1⟩) (fun N=>?_)
 clear v K;refine tk 39 ?_;refine dn ?_;go_wp2_with fail;go_ret;refine ⟨.slice (some ⟨W.heap.size,0,none⟩) 1 1,rfl,LetAt.one' (g:=W.heap.size) (hn_ W (.cells #[wn,MV.val (.ask ((S.Q id).slot:Nat) (id:Nat) (s:Nat) sq ep (S.Q id).q (S.Q id).k S.c.ba (!D) C aw)] 51)) (Own.upd_ge I.size) I.size,?_⟩;exact (show Below w.heap.size w (W.drew.alloc (.cells #[wn,MV.val (.ask ((S.Q id).slot:Nat) (id:Nat) (s:Nat) sq ep (S.Q id).q (S.Q id).k S.c.ba (!D) C aw)] 51)) from I.alloc I.size _)
def CS.liveJ (S:CS) (s j:Nat):Bool:=S.t.live ((copN S.c s).getD j 0) S.now
def CS.firstL (S:CS) (s:Nat):Int:=match (List.range S.c.cp.toNat).find? (S.liveJ s) with
 | some k=>(k:Nat)
 | none=> -1
theorem xaz {S:CS} {s k:Nat} (A:k < S.c.cp.toNat) (h:S.liveJ s k=true) (hj:∀ j,j < k->S.liveJ s j=false):S.firstL s=(k:Nat):=by
 unfold CS.firstL;have:(List.range S.c.cp.toNat).find? (S.liveJ s)=some k:=by rw [List.find?_range_eq_some];exact ⟨h,by simpa using A,fun j h1=>by rw [hj j h1];rfl⟩
 rw [this]
theorem Qaz {S:CS} {s:Nat} (hj:∀ j,j < S.c.cp.toNat->S.liveJ s j=false):S.firstL s= -1:=by
 unfold CS.firstL;have:(List.range S.c.cp.toNat).find? (S.liveJ s)=none:=by rw [List.find?_range_eq_none];intro j h1;rw [hj j h1];rfl
 rw [this]
theorem zV (S:CS) (s:Nat): -1<=S.firstL s/\S.firstL s < max 1 (S.c.cp.toNat:Int):=by
 unfold CS.firstL;split
 ·rename_i k A
  rw [List.find?_range_eq_some] at A;have:k < S.c.cp.toNat:=by simpa using A.2.1
  omega
 omega
theorem xaI (v:Int) (b:Nat) (w:World) (h:CW w O A p S) (ho:S.t.ok) (hb:Cp w b 0 p):
  Calls prog 118 #[v,.pointer (some ⟨b,0,none⟩)] w fun e w'=>e=.returned (.bool (S.t.live v S.now))/\Below w.heap.size w w':=by
 have C:=Hy (ZaN w.drew A.le S.t v S.now (CWx.le h (fun q=>q)).1 ho);have E:Cp w.drew p 14 A.le:=h.blk.cell 14;have D:Ci w.drew p 13 S.now:=h.blk.cell 13;have H:Cp w.drew b 0 p:=hb;have I:=Hy (And.intro E (And.intro D H));clear h hb E D H;have ⟨R,G⟩:=gn (S.t.live v S.now);rw [G] at C ⊢;clear G;go_in;go_upto_region 1 with fail;refine rg (fun w'=>Cp w' p 14 A.le/\Ci w' p 13 S.now/\Cp w' b 0 p) fun B=>?_
 (iterate 9 refine tq 0 ?_);refine rdy 9 fun K F=>?_;go_simp;refine C.mono ?_;rintro e w' ⟨rfl,rfl⟩;go_wp2_with fail;refine hk F fun B=>?_;clear F K;refine tk 10 ?_;refine dn ?_;go_wp2_with fail;go_ret;exact ⟨rfl,(bf _ _).drew⟩
def IlR (w:World) (n:Nat) (S:CS) (s:Nat) (v:Value) (wr:World):Prop:=∃ k:Nat,k<=n/\v=.int .i64 k/\Hid (∀ j,j < k->S.liveJ s j=false)/\Hid (Below w.heap.size w wr)
theorem xal (s b rb n c:Nat) (w:World) (h:CW w O A p S) (ho:S.t.ok) (hb:Cp w b 0 p) (hn:S.c.cp.toNat=n) (a:n<=3) (F:w.ownsRow 0 3 1 (.slice (some ⟨rb,0,none⟩) n c) n (ints (copN S.c s))):
  Calls prog 117 #[.slice (some ⟨rb,0,none⟩) n c,.func (Fn.func 118) #[] #[.pointer (some ⟨b,0,none⟩)]] w fun e w'=>e=.returned (.int .i64 (S.firstL s))/\Below w.heap.size w w':=by
 have V:=Hy h;have H:=Hy hb;have W:=Hy F;have U:=Hy hn;have B:(copN S.c s).length=n:=by unfold copN;rw [List.length_map,List.length_range,hn]
 have M:=Hy B;have ⟨R,D⟩:=gn (S.firstL s);rw [D];have C:=Hy D;clear h hb F hn B D;go_in;go_wp2_with fail;go_loopw [8] (fun v wr=>IlR w n S s v wr) (fun v _=>n - (intOf v).toNat)
 case atStart=>exact ⟨0,nz _,rfl,(fun j Y=>by omega),bf _ _⟩
 case round=>
  obtain ⟨k,Z,rfl,L,HB⟩:=hrel
  by_cases E:k < n
  ·obtain ⟨x,T⟩:∃ x,(copN S.c s)[k]?=some x:=⟨(copN S.c s)[k]'(by rw [M.o];exact E),le_ _⟩
   have P:Ci wr rb k x:=qp (Qa W.o HB.o) (by unfold ints;rw [List.getElem?_map,T];rfl);have N:=Hy (by unfold CS.liveJ;rw [List.getD_eq_getElem?_getD,T];rfl:S.liveJ s k=S.t.live x S.now);have K:=(HB.cell (p:=⟨b,0,none⟩) (cell?_lt H.o)).trans H.o;have I:=Hy (xaI x b wr (V.below HB.o (AgO.refl _ _)) ho K);have f:(k:Int) < (n:Int):=by omega
   have g:(0:Int)<=(k:Int):=by omega
   clear T K;go_wp2_with fail;refine I.mono ?_;rintro e i ⟨rfl,J⟩;have G:=Hy (HB.trans (J.mono HB.size));clear J P;have ⟨d,hd⟩:=gn (S.t.live x S.now);rw [hd] at N ⊢;clear hd I;cases d
   case true=>
    have F:R=(k:Int):=by rw [<- C.o];exact xaz (by rw [U.o];exact E) N.o L.o
    subst F;go_wp2_with fail;go_ret;exact ⟨rfl,G.o⟩
   go_wp2_with fail;go_roundw
   case rel=>exact ⟨k+1,by omega,by go_num,(fun j Y=>by
     rcases (by omega:j < k∨j=k) with h | h
     ·exact L.o j h
     ·subst h;exact N.o),G.o⟩
   case measure=>simp [intOf];omega
  have Q:k=n:=by omega
  subst Q;have F:R= -1:=by rw [<- C.o];exact Qaz (by rw [U.o];exact L.o)
  clear C E;subst F;go_wp2_with fail;go_ret;exact ⟨rfl,HB.o⟩
structure QOK (S:CS) (id ns:Nat) (b:Int):Prop where
 slot:S.L[(S.Q id).slot]?=some id
 sh6:(S.Q id).sh.length=6
 len:(S.Q id).S.length=ns
 turn:∀ h∈(S.Q id).sh,(0<=h.turn/\h.turn<=b)/\0<=h.first/\h.first<=b
 seq:∀ s∈(S.Q id).S,0<=s.seq/\s.seq<=b
 tn:((S.Q id).T.length:Int)<=(S.Q id).n
 n:1<=(S.Q id).n/\(S.Q id).n<=10
 k:0<=(S.Q id).k/\(S.Q id).k<=4
 told:S.told[id - 1]?=some ⟨(S.Q id).q,(S.Q id).k,(S.Q id).n,(S.Q id).T,false,false⟩
structure CS.OK (S:CS) (ns:Nat) (b:Int):Prop where
 t:S.t.ok
 now:0<=S.now/\S.now<=b
 sl:SlOK S.L S.told.length
 tl:(S.told.length:Int)<=b
 q:∀ id∈S.L,id≠0->QOK S id ns b
theorem QOK.mono {S:CS} {id ns:Nat} {b':Int} (h:QOK S id ns b) (hb:b<=b'):QOK S id ns b':=
 ⟨h.slot,h.sh6,h.len,fun x B=>by have:=h.turn x B;omega,fun s A=>by have:=h.seq s A;omega,h.tn,h.n,h.k,h.told⟩
theorem CS.OK.mono {S:CS} {ns:Nat} {b b':Int} (h:S.OK ns b) (hb:b<=b'):S.OK ns b':=
 ⟨h.t,⟨h.now.1,Int.le_trans h.now.2 hb⟩,h.sl,Int.le_trans h.tl hb,fun id h1 A=>(h.q id h1 A).mono hb⟩
theorem QOK.slot4 {S:CS} {id ns:Nat} (h:QOK S id ns b) (ho:SlOK S.L S.told.length):(S.Q id).slot<=3:=by
 have:=(lg h.slot).1;have:=ho.len;omega
theorem QOK.tof {S:CS} {id ns:Nat} (h:QOK S id ns b):S.tof id=⟨(S.Q id).q,(S.Q id).k,(S.Q id).n,(S.Q id).T,false,false⟩:=by
 unfold CS.tof;rw [List.getD_eq_getElem?_getD,h.told];rfl
theorem CS.OK.slots {S:CS} {ns:Nat} {b:Int} (h:S.OK ns b) {j id:Nat} (hj:S.L[j]?=some id) (h0:id≠0):(S.Q id).slot=j:=
 h.sl.one _ _ id (h.q id (lm hj) h0).slot hj h0
def CS.shOf (S:CS) (id s:Nat):SH:=(S.Q id).sh.getD s SH.zero
def CS.setH (S:CS) (id s:Nat) (h:SH):CS:=S.setQ id {S.Q id with sh:=(S.Q id).sh.set s h}
def CS.tid (S:CS) (id s:Nat):Int:=6 * ((S.Q id).slot:Int)+(s:Int)
def CS.wait (S:CS) (t draw:Int):Int:=min (S.now+waitC S.c t draw) 1099511627776
def CS.tset (S:CS) (id s:Nat) (t draw:Int):CS:={S with tm:=(setL 24 S.tm (S.tid id s) (S.wait t draw)).2}
def CS.look (S:CS) (id s:Nat) (draw:Int):CS×List LV:=
 if (atL (S.tid id s) S.tm).2=false then ((S.setH id s ⟨max (S.firstL s) 0,0,S.now,false⟩).tset id s 0 draw,S.askL id s (max (S.firstL s) 0))
 else if (atL (S.tid id s) S.tm).1<=S.now then ((S.setH id s {S.shOf id s with try_:=tryI (S.shOf id s).try_,turn:=(S.shOf id s).turn+1}).tset id s (tryI (S.shOf id s).try_) draw,S.askL id s ((S.shOf id s).turn+1))
 else if (S.shOf id s).hedged=false/\S.c.he<=S.now - (S.shOf id s).first then (S.setH id s {S.shOf id s with hedged:=true},S.askL id s ((S.shOf id s).turn+1))
 else (S,[])
theorem Xm (S:CS) (id s:Nat) (y:SH):(S.setH id s y).Q id={S.Q id with sh:=(S.Q id).sh.set s y}:=by show (if id=id then _ else _)=_;rw [if_pos rfl]
theorem qag (S:CS) (id s:Nat) (y:SH) (j:Nat) (h:j≠id):(S.setH id s y).Q j=S.Q j:=by show (if j=id then _ else _)=_;rw [if_neg h]
structure Lk (S S':CS):Prop where
 c:S'.c=S.c
 now:S'.now=S.now
 t:S'.t=S.t
 L:S'.L=S.L
 told:S'.told=S.told
 Q:∀ i,∃ sh,S'.Q i={S.Q i with sh:=sh}
theorem Lk.refl (S:CS):Lk S S:=⟨rfl,rfl,rfl,rfl,rfl,fun i=>⟨(S.Q i).sh,rfl⟩⟩
theorem Lk.trans {S:CS} (h:Lk S S') (k:Lk S' S''):Lk S S'':=
 ⟨k.c.trans h.c,k.now.trans h.now,k.t.trans h.t,k.L.trans h.L,k.told.trans h.told,fun i=>by obtain ⟨x,A⟩:=h.Q i;obtain ⟨y,B⟩:=k.Q i;exact ⟨y,by rw [B,A]⟩⟩
theorem yz (S:CS) (id s:Nat) (y:SH):Lk S (S.setH id s y):=
 ⟨rfl,rfl,rfl,rfl,rfl,fun i=>by
  by_cases e:i=id
  ·subst e;exact ⟨_,Xm S i s y⟩
  ·exact ⟨(S.Q i).sh,qag S id s y i e⟩⟩
theorem qM (S:CS) (id s:Nat) (t A:Int):Lk S (S.tset id s t A):=⟨rfl,rfl,rfl,rfl,rfl,fun i=>⟨(S.Q i).sh,rfl⟩⟩
theorem QaX (S:CS) (id s:Nat) (A:Int):Lk S (S.look id s A).1:=by
 unfold CS.look;split
 ·exact (yz S id s _).trans (qM _ id s _ A)
 split
 ·exact (yz S id s _).trans (qM _ id s _ A)
 split
 ·exact yz S id s _
 exact Lk.refl S
theorem QM (S:CS) (id s:Nat) (t:Int):(S.askL id s t).length<=1:=by unfold CS.askL;split <;> simp
theorem YO (S:CS) (id s:Nat) (A:Int):(S.look id s A).2.length<=1:=by
 unfold CS.look;split
 ·exact QM _ _ _ _
 split
 ·exact QM _ _ _ _
 split
 ·exact QM _ _ _ _
 exact nz _
theorem xz {S:CS} {ns:Nat} {b:Int} (h:S.OK ns b) {id s:Nat} (y:SH) (hy:(0<=y.turn/\y.turn<=b)/\0<=y.first/\y.first<=b):(S.setH id s y).OK ns b:=by
 refine ⟨h.t,h.now,h.sl,h.tl,fun j h1 B=>?_⟩;have q:=h.q j h1 B
 by_cases e:j=id
 ·subst e
  refine ⟨?_,?_,?_,?_,?_,?_,?_,?_,?_⟩ <;> rw [Xm]
  ·exact q.slot
  ·show ((S.Q j).sh.set s y).length=6;rw [List.length_set];exact q.sh6
  ·exact q.len
  ·intro x A;rcases List.mem_or_eq_of_mem_set A with A | rfl
   ·exact q.turn x A
   exact hy
  ·exact q.seq
  ·exact q.tn
  ·exact q.n
  ·exact q.k
  exact q.told
 refine ⟨?_,?_,?_,?_,?_,?_,?_,?_,?_⟩ <;> rw [qag S id s y j e]
 ·exact q.slot
 ·exact q.sh6
 ·exact q.len
 ·exact q.turn
 ·exact q.seq
 ·exact q.tn
 ·exact q.n
 ·exact q.k
 exact q.told
theorem zM {S:CS} {ns:Nat} {b:Int} (h:S.OK ns b) (id s:Nat) (t A:Int):(S.tset id s t A).OK ns b:=
 ⟨h.t,h.now,h.sl,h.tl,fun j h1 B=>by have q:=h.q j h1 B;exact ⟨q.slot,q.sh6,q.len,q.turn,q.seq,q.tn,q.n,q.k,q.told⟩⟩
theorem Y6 {S:CS} {ns:Nat} {b:Int} (h:S.OK ns b) {id:Nat} (hm:id∈S.L) (h0:id≠0) (hb:0<=b) (s:Nat):(0<=(S.shOf id s).turn/\(S.shOf id s).turn<=b)/\0<=(S.shOf id s).first/\(S.shOf id s).first<=b:=by
 unfold CS.shOf;rw [List.getD_eq_getElem?_getD];cases e:(S.Q id).sh[s]? with
 | none=>exact ⟨⟨Int.le_refl _,hb⟩,Int.le_refl _,hb⟩
 | some x=>exact (h.q id hm h0).turn x (lm e)
theorem look_ok {S:CS} {ns:Nat} {b:Int} (h:S.OK ns b) {id:Nat} (hm:id∈S.L) (h0:id≠0) (s:Nat) (A:Int) (D:S.c.cp<=3) (hb:3<=b):(S.look id s A).1.OK ns (b+1):=by
 have B:=h.mono (b':=b+1) (by omega);have C:=Y6 h hm h0 (by omega) s;have F:=h.now;have E:=zV S s;unfold CS.look;split
 ·refine zM (xz B _ ⟨⟨?_,?_⟩,?_,?_⟩) id s _ A <;> simp only <;> omega
 split
 ·refine zM (xz B _ ⟨⟨?_,?_⟩,?_,?_⟩) id s _ A <;> simp only <;> omega
 split
 ·exact xz B _ ⟨⟨C.1.1,by have:=C.1.2;show (S.shOf id s).turn<=b+1;omega⟩,C.2.1,by have:=C.2.2;show (S.shOf id s).first<=b+1;omega⟩
 exact B
def CS.wl (S:CS) (id:Nat):List Int:=wantsP (S.Q id).n (S.Q id).S (S.Q id).T
theorem XaH {S:List PS} {k:Nat} {x:Int} (h:x∈wantK S k):∃ i:Nat,x=(i:Int)/\i < k:=by
 unfold wantK at h;obtain ⟨i,h1,rfl⟩:=List.mem_map.1 h;exact ⟨i,rfl,List.mem_range.1 (List.mem_filter.1 h1).1⟩
theorem zu {α:Type} {P:List α->Prop} (h0:P []) (h1:∀ l x,P l->P (l++[x])) (l:List α):P l:=by
 have C:∀ n (l:List α),l.length=n->P l:=by
  intro n;induction n with
  | zero=>intro l A;obtain rfl:=List.eq_nil_of_length_eq_zero A;exact h0
  | succ n D=>
   intro l A;have B:l≠[]:=fun e=>by subst e;simp at A
   have e:=List.dropLast_concat_getLast B;rw [<- e];exact h1 _ _ (D _ (by rw [List.length_dropLast];omega))
 exact C _ l rfl
theorem xas {S:CS} {id:Nat} {x:Int} (h:x∈S.wl id):∃ i:Nat,x=(i:Int)/\i < (S.Q id).S.length:=by
 unfold CS.wl wantsP at h;split at h
 ·cases h
 exact XaH h
theorem yas (S:CS) (id:Nat):(S.wl id).length<=(S.Q id).S.length:=by
 unfold CS.wl wantsP;split
 ·exact nz _
 exact Xz _ _
def CS.lookA (id:Nat) (draw:Int) (x:CS×List LV) (s:Int):CS×List LV:=((x.1.look id s.toNat draw).1,x.2++(x.1.look id s.toNat draw).2)
def CS.lookN (S:CS) (id:Nat) (draw:Int) (l:List Int):CS×List LV:=l.foldl (CS.lookA id draw) (S,[])
theorem Xf (S:CS) (id:Nat) (A:Int) (l:List Int) (s:Int):S.lookN id A (l++[s])=CS.lookA id A (S.lookN id A l) s:=by unfold CS.lookN;rw [List.foldl_append];rfl
theorem Zx (S:CS) (id:Nat) (A:Int) (l:List Int):Lk S (S.lookN id A l).1:=by
 refine zu (P:=fun l=>Lk S (S.lookN id A l).1) ?_ (fun l s B=>?_) l
 ·exact Lk.refl S
 rw [Xf];exact B.trans (QaX _ id _ A)
theorem QH (S:CS) (id:Nat) (A:Int) (l:List Int):(S.lookN id A l).2.length<=l.length:=by
 refine zu (P:=fun l=>(S.lookN id A l).2.length<=l.length) ?_ (fun l s B=>?_) l
 ·exact nl _
 rw [Xf]
 unfold CS.lookA;have:=YO (S.lookN id A l).1 id s.toNat A;simp only [List.length_append,List.length_cons,List.length_nil];omega
theorem ZO {S:CS} {ns:Nat} {b:Int} (h:S.OK ns b) {id:Nat} (hm:id∈S.L) (h0:id≠0) (A:Int) (B:S.c.cp<=3) (hb:3<=b) (l:List Int):(S.lookN id A l).1.OK ns (b+l.length):=by
 refine zu (P:=fun l=>(S.lookN id A l).1.OK ns (b+l.length)) ?_ (fun l s D=>?_) l
 ·exact h.mono (by simp)
 rw [Xf]
 have C:=Zx S id A l;have:=look_ok D (by rw [C.L];exact hm) h0 s.toNat A (by rw [C.c];exact B) (by omega);exact this.mono (by simp only [List.length_append,List.length_cons,List.length_nil];omega)
def CS.wakeA (draw:Int) (x:CS×List LV) (slot:Nat):CS×List LV:=
 if x.1.L.getD slot 0=0 then x else ((x.1.lookN (x.1.L.getD slot 0) draw (x.1.wl (x.1.L.getD slot 0))).1,x.2++(x.1.lookN (x.1.L.getD slot 0) draw (x.1.wl (x.1.L.getD slot 0))).2)
def CS.wakeN (S:CS) (draw:Int) (k:Nat):CS×List LV:=(List.range k).foldl (CS.wakeA draw) (S,[])
def CS.wake (S:CS) (draw:Int):CS×List LV:=S.wakeN draw S.c.sl.toNat
theorem Zi (S:CS) (A:Int) (k:Nat):S.wakeN A (k+1)=CS.wakeA A (S.wakeN A k) k:=by unfold CS.wakeN;rw [List.range_succ,List.foldl_append];rfl
theorem yG (S:CS) (A:Int) (k:Nat):Lk S (S.wakeN A k).1:=by
 induction k with
 | zero=>exact Lk.refl S
 | succ k B=>
  rw [Zi];unfold CS.wakeA;split
  ·exact B
  ·exact B.trans (Zx _ _ A _)
theorem Xk {L:List Nat} {k:Nat} (h:¬ L.getD k 0=0):L[k]?=some (L.getD k 0):=by
 rw [List.getD_eq_getElem?_getD] at h ⊢;cases e:L[k]? with
 | none=>rw [e] at h;exact absurd rfl h
 | some x=>rfl
theorem qy {S:CS} {ns:Nat} {b:Int} (h:S.OK ns b) (A:Int) (D:S.c.cp<=3) (hb:3<=b) (G:ns<=6) (k:Nat):(S.wakeN A k).1.OK ns (b+6 * k)/\(S.wakeN A k).2.length<=6 * k:=by
 induction k with
 | zero=>exact ⟨h.mono (by simp),nl _⟩
 | succ k C=>
  rw [Zi];unfold CS.wakeA;split
  ·exact ⟨C.1.mono (by omega),by have:=C.2;omega⟩
  ·rename_i B
   have F:=yG S A k;have E:=lm (Xk B);have q:=C.1.q _ E B;have H:=yas (S.wakeN A k).1 ((S.wakeN A k).1.L.getD k 0);rw [q.len] at H;have h1:=ZO C.1 E B A (by rw [F.c];exact D) (by omega) ((S.wakeN A k).1.wl ((S.wakeN A k).1.L.getD k 0));have I:=QH (S.wakeN A k).1 ((S.wakeN A k).1.L.getD k 0) A ((S.wakeN A k).1.wl ((S.wakeN A k).1.L.getD k 0));refine ⟨h1.mono (by omega),?_⟩;have:=C.2;rw [List.length_append];omega
end Go.Proofs.YtinkbgeckjbnbaaGreat
