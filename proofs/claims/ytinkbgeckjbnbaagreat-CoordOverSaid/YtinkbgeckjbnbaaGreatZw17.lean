/- Lemmas (part 17). -/
import Derived.Test.YtinkbgeckjbnbaaGreatZw16
namespace Go.Proofs.YtinkbgeckjbnbaaGreat
open Go.RowKit Go.Proofs.Tryz
set_option autoImplicit true
set_option relaxedAutoImplicit true
set_option linter.unusedVariables false
set_option linter.unusedSimpArgs false
set_option maxRecDepth 100000
set_option maxHeartbeats 32000000
section
section
variable {w:World} {O:Own} {B:RA} {r:Nat} {c:CfgM} {S:CS}
theorem RW.cell (h:RW w O B r c S) (j:Nat):w.cell? ⟨r,j,none⟩=(S.rcells c B)[j]?:=h.blk.cell j
theorem Qa8 {L:List Nat} {q:Nat->Nat} {j id:Nat} (hj:L[j]?=some id) (h0:id≠0):rqV L q j=.pointer (some ⟨q id,0,none⟩):=by
 unfold rqV;rw [List.getD_eq_getElem?_getD,hj];rw [if_neg (by simpa using h0)];rfl
theorem RW.qcell (h:RW w O B r c S) {j id:Nat} (hj:S.L[j]?=some id) (h0:id≠0) (A:j < 4):w.cell? ⟨r,16+j,none⟩=some (.pointer (some ⟨B.q id,0,none⟩)):=by
 rw [h.cell,<- Qa8 hj h0];have e:j=0∨j=1∨j=2∨j=3:=by omega
 rcases e with rfl | rfl | rfl | rfl <;> rfl
theorem RW.scell (h:RW w O B r c S) {j id:Nat} (hj:S.L[j]?=some id):w.cell? ⟨B.sl,0,none⟩=some (.slice (some ⟨B.sf,0,none⟩) S.L.length S.L.length)/\w.cell? ⟨B.sf,j,none⟩=some (.int .i64 (id:Int)):=
 ⟨(RWx.sl h (fun q=>q)).1.1.cell 0,by rw [(RWx.sl h (fun q=>q)).2.1.cell,ZF hj]⟩
theorem RW.mcell (h:RW w O B r c S) {id:Nat} (hm:id∈S.L) (h0:id≠0):w.cell? ⟨B.q id,0,none⟩=some (.pointer (some ⟨B.m id,0,none⟩)):=(RWx.qb h id hm h0 (fun q=>q)).1.cell 0
theorem za9 {l:List SH} {s j:Nat} {y:SH} (hs:l[s]?=some y) (hj:j < 4):(l.flatMap SH.cells)[s * 4+j]?=y.cells[j]?:=by
 induction l generalizing s with
 | nil=>cases hs
 | cons x l A=>
  rw [List.flatMap_cons];cases s with
  | zero=>
   cases hs;rw [List.getElem?_append_left (by show 0 * 4+j < 4;omega),Nat.zero_mul,Nat.zero_add]
  | succ s=>
   rw [List.getElem?_append_right (by show 4<=(s+1) * 4+j;omega),show (s+1) * 4+j - x.cells.length=s * 4+j from by show (s+1) * 4+j - 4=_;omega];exact A hs
theorem RW.shcell (h:RW w O B r c S) {id s j:Nat} {y:SH} (hm:id∈S.L) (h0:id≠0) (hs:(S.Q id).sh[s]?=some y) (hj:j < 4):w.cell? ⟨B.q id,1+s * 4+j,none⟩=y.cells[j]?:=by
 rw [(RWx.qb h id hm h0 (fun q=>q)).1.cell,show (S.Q id).rcells (B.m id)=[Value.pointer (some ⟨B.m id,0,none⟩)]++(S.Q id).sh.flatMap SH.cells from rfl,List.getElem?_append_right (by show 1<=_;omega),show 1+s * 4+j - [Value.pointer (some ⟨B.m id,0,none⟩)].length=s * 4+j from by show 1+s * 4+j - 1=_;omega];exact za9 hs hj
theorem RW.tcell (h:RW w O B r c S) {i:Nat} {t:TS} (hi:S.told[i]?=some t):∃ A,B.aa=some ⟨A,0,none⟩/\∀ j,j < 7->w.cell? ⟨A,i * 7+j,none⟩=(t.cells ((i:Int)+1) (B.it i))[j]?:=by
 have D:=RWx.told h (fun q=>q);have F:=(lg hi).1
 obtain ⟨A,C⟩:∃ A,B.aa=some ⟨A,0,none⟩:=by
  rcases D.1.2 with h1 | ⟨g,cap,cur,h1,_⟩
  ·exact absurd h1.2 (by omega)
  ·exact ⟨g,(Value.slice.inj h1).1⟩
 exact ⟨A,C,fun j E=>xf D hi F C j E⟩
end
theorem ZK (S:List PS) (i:Nat):atS S (i:Int)=S[i]?:=by unfold atS;rw [if_neg (by omega),Int.toNat_natCast]
def MV.p5:MV->P5×Int
 | .hello w0 l0=>(⟨w0,l0,0,0,0,0,0,0,0,0,⟨#[]⟩,0,0,false,0,⟨#[]⟩,0,0,0,0,0,0,none,0,[],false,0,0⟩,1)
 | .grant w0 l0 e0=>(⟨0,0,w0,l0,e0,0,0,0,0,0,⟨#[]⟩,0,0,false,0,⟨#[]⟩,0,0,0,0,0,0,none,0,[],false,0,0⟩,2)
 | .ask s q h sq ep tx k b f d wd=>(⟨0,0,0,0,0,s,q,h,sq,ep,tx,k,b,f,d,wd,0,0,0,0,0,0,none,0,[],false,0,0⟩,3)
 | .stop s q=>(⟨0,0,0,0,0,0,0,0,0,0,⟨#[]⟩,0,0,false,0,⟨#[]⟩,0,0,0,0,0,0,none,0,[],false,s,q⟩,5)
 | _=>(⟨0,0,0,0,0,0,0,0,0,0,⟨#[]⟩,0,0,false,0,⟨#[]⟩,0,0,0,0,0,0,none,0,[],false,0,0⟩,0)
def MV.rcells (m:MV):List Value:=(m.p5.1.msg m.p5.2).cells.toList
def RLV (x:LV):List Value:=.int .i64 x.1 :: x.2.rcells
theorem YC (x:LV):(RLV x).length=28:=by
 obtain ⟨a,m⟩:=x;cases m <;> rfl
theorem zaV (x:LV):∀ u∈RLV x,u.oneCell'=true:=by
 obtain ⟨a,m⟩:=x;cases m <;> simp [RLV,MV.rcells,MV.p5,P5.msg,Value.cells,Value.oneCell']
def RLet (O:Own) (w:World) (base:Nat) (v:Value) (l:List LV):Prop:=∃ ao c,v=.slice ao l.length c/\w.ownsRow base 201 28 (.slice ao l.length c) l.length (l.flatMap RLV)/\∀ k,(Value.slice ao l.length c).ownBlock=some k->O k=0
theorem RLet.nil (O:Own) (w:World) (base:Nat):RLet O w base (.slice none 0 0) []:=⟨none,0,rfl,World.ownsRow_nil _ _ _ _,fun k A=>by simp [Value.ownBlock] at A⟩
theorem RLet.base {b':Nat} {l:List LV} (h:RLet O w b v l) (hb:b'<=b):RLet O w b' v l:=by
 obtain ⟨A,c,h1,B,C⟩:=h;exact ⟨A,c,h1,zi B hb,C⟩
theorem RLet.one (O:Own) (w:World) (base:Nat) (x:LV) (hb:base<=w.heap.size):RLet (O.upd w.heap.size 0) (w.alloc (.cells (RLV x).toArray 201)) base (.slice (some ⟨w.heap.size,0,none⟩) 1 1) [x]:=
 ⟨some ⟨w.heap.size,0,none⟩,1,rfl,⟨rfl,.inr ⟨w.heap.size,1,(RLV x).toArray,rfl,hb,hn_ w _,nl 1,by decide,by rw [List.size_toArray,YC],by rw [List.flatMap_cons,List.flatMap_nil,List.append_nil,<- YC x,show [x].length=1 from rfl,Nat.one_mul];exact List.take_length⟩⟩,fun k A=>by simp only [Value.ownBlock,Option.some.injEq] at A;subst A;exact Own.upd_ge (nl _)⟩
theorem xL (i:Nat) (w:World) (h:RW w O B r c S) (hi:i < S.told.length) (hl:S.told.length<=1000000):
  Calls prog 136 #[.pointer (some ⟨r,0,none⟩),.int .i64 ((i:Int)+1)] w fun e w'=>e=.returned (.int .i64 (i:Nat))/\w=w':=by
 have A:Cl w r 20 (.slice B.aa S.told.length B.ac):=h.cell 20;have ⟨n,C⟩:=gn S.told.length;rw [C] at A hi hl;clear h C;have D:¬ ((i:Int)+1 < 1):=by omega
 have E:¬ ((n:Int) < (i:Int)+1):=by omega
 have F:decide ((n:Int) < (i:Int)+1)=false:=by simp;omega
 have G:IntKind.i64.wrap ((i:Int)+1 - 1)=(i:Int):=by rw [IntWalk.i64_in _ (by omega)];omega
 go_in;go_wp2_with fail;go_ret;exact ⟨rfl,rfl⟩
theorem XaF (w:World) (h:RW w O B r c S) (h1:0<=S.now) (h2:S.now<=1099511627776):
  Calls prog 84 #[.pointer (some ⟨r,0,none⟩)] w fun e w'=>e=.returned (.tuple #[])/\RW w' O B r c S.tick/\ROut O w w':=by
 have I:Ci w r 12 S.now:=h.cell 12;have P:w.frozen? ⟨r,12,none⟩=false:=h.blk.frozen 12;have C:=(RWx.blk h (fun q=>q)).2;have ⟨H,E⟩:=gn (if 1099511627776 < S.now+1 then 1099511627776 else S.now+1);have G:min (S.now+1) 1099511627776=H:=by rw [<- E];split <;> omega
 have L:IntKind.i64.wrap (S.now+1)=S.now+1:=IntWalk.i64_in _ (by omega);have A:OFrm O (rt 0) w (w.setCell ⟨r,12,none⟩ (.int .i64 H)):=((Frm.refl (fun b=>b=r) w).setCell _ _ (.inl rfl)).mono (fun b M _=>by rw [M];exact C);have K:=Hy (by unfold CS.tick;rw [G];exact RW.with_now (RW.only h 0 A (AgO.refl _ _)) H ⟨h.blk.set 12 _,C⟩:RW (w.setCell ⟨r,12,none⟩ (.int .i64 H)) O B r c S.tick);have J:=Hy (ROut.of A);have ⟨N,D⟩:=gn (w.setCell ⟨r,12,none⟩ (.int .i64 H));rw [D] at K J;have ⟨nw,F⟩:=gn S.now;rw [F] at I E L h1 h2;clear h C G A F
 go_in;go_wp2_with (rw [D]);go_end0;exact ⟨rfl,K.o,J.o⟩
def zaJ (O:Own) (S:CS) (id s:Nat) (turn:Int) (w:World) (e:Ending) (w':World):Prop:=∃ v,e=.returned v/\RLet (O.upd w.heap.size 0) w' w.heap.size v (S.askL id s turn)/\Below w.heap.size w w'
theorem XaD (O:Own) (B:RA) (r:Nat) (c:CfgM) (S:CS) (j id s ns:Nat) (b turn:Int) (w:World) (h:RW w O B r c S) (hm:mayC c=true) (hz:c.short) (P:S.OK ns b) (hj:S.L[j]?=some id) (h0:id≠0) (AN:(ns:Int)=shardsC c) (hs:s < ns) (AQ:0<=turn) (Bx:turn<=1000000000) (AT:S.t.workers=S.c.wk) (Bp:b<=1000000):
  Calls prog 149 #[.pointer (some ⟨r,0,none⟩),(j:Nat),(s:Nat),turn] w (zaJ O S id s turn w):=by
 have U:id∈S.L:=lm hj;have q:=P.q id U h0;have Ar:=P.slots hj h0;have Br:j < 4:=by have h1:=(lg hj).1;have h2:=P.sl.len;omega
 have An:=P.sl.le id U;have By:=P.tl;obtain ⟨ac,cc,d⟩:=h.cc;have AK:S.c.cp=c.cp:=by rw [d];rfl
 have AL:S.c.wk=c.wk:=by rw [d];rfl
 have AI:S.c.ba=c.ba:=by rw [d];rfl
 have AJ:copN S.c s=copN c s:=by rw [d];rfl
 have Bw:=Zf hm;have Ad:=xe c;obtain ⟨k,W⟩:∃ k:Nat,turn % c.cp=(k:Int):=⟨(turn % c.cp).toNat,by have:=Int.emod_nonneg turn (show c.cp≠0 by omega);omega⟩;obtain ⟨cp,J⟩:∃ cp:Nat,c.cp=(cp:Int):=⟨c.cp.toNat,by omega⟩;have Ay:k < cp:=by have:=Int.emod_lt_of_pos turn (show 0 < c.cp by omega);omega
 have BL:turn.tmod (cp:Int)=(k:Int):=by rw [Int.tmod_eq_emod_of_nonneg AQ,<- J];exact W
 have ⟨wn,AU⟩:=gn (copW c s k);have Af:=qL (c:=c) (by omega) s k;have Bz:=qak (c:=c) (by omega) s k;rw [AU] at Af;have AW:1<=wn/\(wn:Int)<=c.wk:=by omega
 have AS:turnW S.c s turn=(wn:Int):=by unfold turnW;rw [AJ,AK,W,Int.toNat_natCast,List.getD_eq_getElem?_getD,QD (by rw [J,Int.toNat_natCast];exact Ay),<- Af];rfl
 have AM:S.t.epoch (wn:Int)=(S.t.at (wn:Int)).epoch:=by unfold Tab.epoch Tab.is;rw [AT,AL,if_pos (by simp;omega)]
 obtain ⟨C,Ab⟩:∃ x,(S.Q id).S[s]?=some x:=⟨(S.Q id).S[s]'(by rw [q.len];exact hs),le_ _⟩;have AP:seqP (S.Q id).S (s:Nat)=C.seq:=by unfold seqP;rw [ZK,Ab]
 have AH:afterP (S.Q id).S (s:Nat)=(C.last,C.heard):=by unfold afterP;rw [ZK,Ab]
 have ⟨N,Aw⟩:=gn ((S.t.at (wn:Int)).epoch);have HA:=Hy (by unfold CS.askL;rw [AS,AM,Aw,AP,AH,Ar,AI]:S.askL id s turn=if N=0 then [] else [((wn:Int),.ask (j:Nat) (id:Nat) (s:Nat) C.seq N (S.Q id).q (S.Q id).k c.ba (!C.heard) C.last.1 C.last.2)]);have Aa:=Yr c (s:Nat) w h.cf.ok hz hm (by omega) (by omega);have Ak:copiesC c (s:Nat)=copN c s:=by rw [Yf (by unfold inB;rw [<- AN];simp;omega)];rfl
 have Ao:(copN c s).length=cp:=by unfold copN;rw [List.length_map,List.length_range,J,Int.toNat_natCast]
 rw [Ak,Ao] at Aa;unfold CfgM.val at Aa;have A5:=Hy Aa;have Al:(ints (copN c s))[k]?=some (.int .i64 (wn:Int)):=by unfold ints;rw [List.getElem?_map,QD (by rw [J,Int.toNat_natCast];exact Ay),<- Af];rfl
 have A7:=Hy Al;have AX:=P.t;have x0:w.cell? ⟨r,0,none⟩=some (.slice c.aw c.nw c.cw):=h.cell 0;have x1:w.cell? ⟨r,1,none⟩=some (.slice c.ac c.nc c.cc):=h.cell 1;have x2:w.cell? ⟨r,2,none⟩=some (.int .i64 c.wk):=h.cell 2;have x3:w.cell? ⟨r,3,none⟩=some (.int .i64 c.cp):=h.cell 3;have x4:w.cell? ⟨r,4,none⟩=some (.int .i64 c.sl):=h.cell 4;have x5:w.cell? ⟨r,5,none⟩=some (.int .i64 c.ba):=h.cell 5;have x6:w.cell? ⟨r,6,none⟩=some (.int .i64 c.le):=h.cell 6;have x7:w.cell? ⟨r,7,none⟩=some (.int .i64 c.he):=h.cell 7;have x8:w.cell? ⟨r,8,none⟩=some (.int .i64 c.fi):=h.cell 8;have x9:w.cell? ⟨r,9,none⟩=some (.int .i64 c.ca):=h.cell 9
 have B3:Ci w r 10 c.ji:=h.cell 10;have B4:w.cell? ⟨r,11,none⟩=some (.int .i64 c.ne):=h.cell 11;have HW:=Hy h;have HQ:=Hy q;have HJ:=Hy hj;have Ai:=Hy U;have HT:=Hy AX;have Bj:=Hy Ab;have A6:=Hy Aw;have B8:1<=cp:=by omega
 have B9:1<=wn/\wn<=5:=by omega
 have Am:id<=S.told.length/\S.told.length<=1000000:=⟨An,by omega⟩;clear hm hz P hj AN AQ Bx AT Bp U q Ar An By d AK AL AI AJ Bw W J AU Af Bz AW AS AM Ab AP AH Aw Ak Ao Aa Al AX h Ad;go_in;go_wp2_with fail;clear x0 x1 x2 x3 x4 x5 x6 x7 x8 x9 B3 B4;refine A5.mono ?_;clear A5;rintro e E ⟨ka,kc,rfl,Ap,hb⟩;have g:=Hy (HW.below hb (AgO.refl _ _));have l:=Hy hb;obtain ⟨kb,ko,Bt,Bu,Bs⟩:=(Yc Ap).2.2.2.2 k Ay;subst Bt;rw [A7.o] at Bs;have k1:(0:Int)<=(k:Int):=by omega
 have k2:(k:Int) < (cp:Int):=by omega
 have k3:(cp:Int)≠0:=by omega
 have BO:Cp E r 13 B.le:=g.cell 13;have ce:E.cell? ⟨B.le,wn * 3,none⟩=some (.int .i64 N):=by have q:=RB.epoch (RWx.le g.o (fun q=>q)).1 HT.o wn (by omega);rw [A6.o] at q;exact q
 have e1:(0:Int)<=(wn:Int):=by omega
 have e2:(wn:Int) < 6:=by omega
 clear Ap hb Bu;have Bb:=Hy (show N=0->S.askL id s turn=[] from fun e=>by rw [HA.o,if_pos e])
 by_cases hE:N=0
 ·subst hE
  go_wp2_with fail;go_ret;refine ⟨_,rfl,?_,l.o⟩;rw [Bb.o (by first | rfl | trivial)];exact RLet.nil _ _ _
 have Bc:=Hy (by rw [HA.o,if_neg hE]:S.askL id s turn=[((wn:Int),.ask (j:Nat) (id:Nat) (s:Nat) C.seq N (S.Q id).q (S.Q id).k c.ba (!C.heard) C.last.1 C.last.2)]);have BJ:(N == 0)=false:=by simpa using hE
 clear HA;have BP:E.cell? ⟨r,14,none⟩=some (.pointer (some ⟨B.sl,0,none⟩)):=g.cell 14;obtain ⟨y0,y1⟩:=g.scell HJ.o;have ⟨LN,Ax⟩:=gn S.L.length;have BK:j < LN:=by rw [<- Ax];exact (lg HJ.o).1
 rw [Ax] at y0;clear Ax;have j1:(0:Int)<=(j:Int):=by omega
 have j2:(j:Int) < (LN:Int):=by omega
 obtain ⟨i,hi⟩:∃ i,id=i+1:=⟨id - 1,by omega⟩;have A0:=HQ.told;rw [show id - 1=i by omega] at A0;obtain ⟨tb,AR,Ae⟩:=g.tcell A0;have T:=Hy (fun (V:World) (M:Below E.heap.size E V)=>show Calls prog 136 #[.pointer (some ⟨r,0,none⟩),(id:Nat)] V fun e w'=>e=.returned (.int .i64 (i:Nat))/\V=w' from by have q:=xL i V (g.below M (AgO.refl _ _)) (by omega) Am.2;rw [show ((i:Int)+1)=(id:Int) by omega] at q;exact q);have f:E.cell? ⟨r,20,none⟩=some (.slice B.aa S.told.length B.ac):=g.cell 20;rw [AR] at f;have ⟨TL,AE⟩:=gn S.told.length
 rw [AE] at f Am;have i1:(i:Int) < (TL:Int):=by omega
 have i0:(0:Int)<=(i:Int):=by omega
 have t1:Ct E tb (i * 7+1) ((S.Q id).q):=Ae 1 (by omega);have t2:Ci E tb (i * 7+1+1) ((S.Q id).k):=Ae 2 (by omega);have t3:Ci E tb (i * 7+1+2) ((S.Q id).n):=Ae 3 (by omega);let AC:World->Prop:=fun w'=>Cl w' r 20 (.slice (some ⟨tb,0,none⟩) TL B.ac)/\Ct w' tb (i * 7+1) ((S.Q id).q)/\Ci w' tb (i * 7+1+1) ((S.Q id).k)/\Ci w' tb (i * 7+1+2) ((S.Q id).n);have v:=Hy (fun (V:World) (M:Below E.heap.size E V)=>show AC V from ⟨(M.cell (cell?_lt f)).trans f,(M.cell (cell?_lt t1)).trans t1,(M.cell (cell?_lt t2)).trans t2,(M.cell (cell?_lt t3)).trans t3⟩)
 have HI:=Hy hi;clear hi A0 AR Ae AE f t1 t2 t3;go_upto_region 49 with fail;have A:Below E.heap.size E E.drew:=below_drewN (bf E.heap.size E) 1;have A9:=Hy (v.o _ A);have Ag:=Hy (T.o _ A);have Z:=Hy A;clear A;have A:Below E.heap.size E (E.alloc (.cells #[.string ⟨#[]⟩,(),()] 40)).drew:=((bf E.heap.size E).alloc (nl _) (.cells #[.string ⟨#[]⟩,(),()] 40)).drew;have AA:=Hy (v.o _ A);have Ah:=Hy (T.o _ A);have a:=Hy A;clear A;have A:Below E.heap.size E (E.alloc (.cells #[.string (S.Q id).q,.int .i64 (S.Q id).k,.int .i64 (S.Q id).n] 40)).drew:=((bf E.heap.size E).alloc (nl _) (.cells #[.string (S.Q id).q,.int .i64 (S.Q id).k,.int .i64 (S.Q id).n] 40)).drew
 have AB:=Hy (v.o _ A);have A4:=Hy (T.o _ A);have I:=Hy A;clear A;refine rg AC fun D=>?_;(iterate 6 refine tq 0 ?_);refine wpAnyH_ready (rs:=[6,10]) (by kernel_rfl) (by simp) ?_;refine AllReadyH.cons rfl (fun K G=>?_) (AllReadyH.cons rfl (fun K G=>?_) AllReadyH.nil)
 focus
  go_simp
  refine Ag.mono ?_;rintro e w' ⟨rfl,rfl⟩;go_wp2_with fail;refine hk G fun D=>?_;clear G K;(iterate 3 refine tq 7 ?_);refine rdy 10 fun K G=>?_
  go_simp
  go_wp2_with fail;refine hk G fun D=>?_;clear G K
 rotate_left
 focus
  go_simp
  go_wp2_with fail;refine hk G fun D=>?_;clear G K
  refine rdy 6 fun K G=>?_
  go_simp
  refine Ah.mono ?_;rintro e w' ⟨rfl,rfl⟩;go_wp2_with fail;refine hk G fun D=>?_;clear G K;(iterate 3 refine tq 7 ?_)
 all_goals
  refine rdy 11 fun K G=>?_
  go_simp
  go_wp2_with fail;refine hk G fun D=>?_;clear G K
  refine dn ?_;clear D;have Ac:Blk (E.alloc (.cells #[.string (S.Q id).q,.int .i64 (S.Q id).k,.int .i64 (S.Q id).n] 40)).drew E.heap.size 40 [.string (S.Q id).q,.int .i64 (S.Q id).k,.int .i64 (S.Q id).n]:=hn_ E _;have A:=I.o;clear A9 AA AB Ag Ah A4 Z a I v T;have ⟨qb,Aq⟩:=gn E.heap.size;have ⟨W2,AF⟩:=gn ((E.alloc (.cells #[.string (S.Q id).q,.int .i64 (S.Q id).k,.int .i64 (S.Q id).n] 40)).drew);rw [AF] at Ac A ⊢;clear AF;have H2:=Hy (g.below A (AgO.refl _ _));have As:=Hy (l.trans (A.mono l.size))
  rw [Aq] at Ac ⊢;have A8:=Hy Ac;clear Ac A Aq g l;have B5:=H2.qcell HJ.o h0 Br;have ym:=H2.mcell Ai.o h0;obtain ⟨qs,cq,R,sp,ta,tc,hX,-,-,-,-,-⟩:=RWx.mg H2.o id Ai.o h0 (fun q=>q);have xm:=hX.c3.1;rw [HQ.len] at xm;obtain ⟨m,s',Bv,Az,Y,AO⟩:=hX.at (i:=s) (by rw [HQ.len];exact hs);rw [Bj.o] at Az;obtain rfl:=Option.some.inj Az;obtain ⟨z0,z1,z2,z3,z4,z5,z6⟩:=AO.c2;rw [Y.least] at z0;rw [Y.seq] at z1;rw [Y.ended] at z2;rw [Y.heard] at z3;rw [Y.last] at z4 z5;have s1:(0:Int)<=(s:Int):=by omega
  have s2:(s:Int) < (ns:Int):=by omega
  have ⟨F,y⟩:=gn (W2.alloc (.cells #[C.least,C.seq,.bool C.ended,.bool C.heard,C.last.1,C.last.2,.slice m.wa m.wn m.wc] 172));have z:Below W2.heap.size W2 F:=by rw [<- y];exact (bf _ W2).alloc (nl _) _
  have H:=Hy (by rw [<- y];exact hn_ W2 _:Blk F W2.heap.size 172 [C.least,C.seq,.bool C.ended,.bool C.heard,C.last.1,C.last.2,.slice m.wa m.wn m.wc]);have H3:=Hy (H2.below z (AgO.refl _ _));have At:=Hy (As.trans (z.mono As.size));have u:=Hy (A8.below z A8.lt);clear Bv Az Y AO hX z H2 As;go_upto_region 77 with (rw [y]);clear y xm z0 z1 z2 z3 z4 z5 z6 B5 ym;have ⟨sb,Ad⟩:=gn W2.heap.size;rw [Ad] at H ⊢;clear Ad;let AD:World->Prop:=fun w'=>Cp w' r 13 B.le/\Ci w' B.le (wn * 3) N/\Ct w' qb 0 ((S.Q id).q)/\Ci w' qb 1 ((S.Q id).k)/\Ci w' r 5 c.ba/\Ci w' sb 1 C.seq/\Cl w' sb 3 (.bool C.heard)/\Ci w' sb 4 C.last.1/\Ct w' sb 5 C.last.2
  have p:=Hy (fun (V:World) (M:Below F.heap.size F V)=>show AD V from ⟨(H3.below M (AgO.refl _ _)).cell 13,by have q:=RB.epoch (RWx.le (H3.below M (AgO.refl _ _)) (fun q=>q)).1 HT.o wn (by omega);rw [A6.o] at q;exact q,(u.below M u.lt).cell 0,(u.below M u.lt).cell 1,(H3.below M (AgO.refl _ _)).cell 5,(H.below M H.lt).cell 1,(H.below M H.lt).cell 3,(H.below M H.lt).cell 4,(H.below M H.lt).cell 5⟩);have A:Below F.heap.size F F.drew:=below_drewN (bf F.heap.size F) 1;have Be:=Hy (p.o _ A)
  have Z:=Hy A;clear A;have A:Below F.heap.size F (F.alloc (.cells #[(),(),(),(),(),.string ⟨#[]⟩,(),(),false,(),.string ⟨#[]⟩] 48)).drew:=((bf F.heap.size F).alloc (nl _) (.cells #[(),(),(),(),(),.string ⟨#[]⟩,(),(),false,(),.string ⟨#[]⟩] 48)).drew;have Bf:=Hy (p.o _ A);have a:=Hy A;clear A;have A:Below F.heap.size F (F.alloc (.cells #[(j:Nat),(id:Nat),(s:Nat),C.seq,N,.string (S.Q id).q,.int .i64 (S.Q id).k,c.ba,.bool (!C.heard),C.last.1,C.last.2] 48)).drew:=((bf F.heap.size F).alloc (nl _) (.cells #[(j:Nat),(id:Nat),(s:Nat),C.seq,N,.string (S.Q id).q,.int .i64 (S.Q id).k,c.ba,.bool (!C.heard),C.last.1,C.last.2] 48)).drew
  have Bg:=Hy (p.o _ A);have I:=Hy A;clear A;refine rg AD fun D=>?_;(iterate 30 refine tq 0 ?_);refine rdy 30 fun K G=>?_
  go_simp
  refine hk G fun D=>?_;clear G K
  refine rdy 31 fun K G=>?_
  go_simp
  refine hk G fun D=>?_;clear G K
  refine dn ?_;clear D;have A3:=Hy (show Blk (F.alloc (.cells #[(j:Nat),(id:Nat),(s:Nat),C.seq,N,.string (S.Q id).q,.int .i64 (S.Q id).k,c.ba,.bool (!C.heard),C.last.1,C.last.2] 48)).drew F.heap.size 48 [(j:Nat),(id:Nat),(s:Nat),C.seq,N,.string (S.Q id).q,.int .i64 (S.Q id).k,c.ba,.bool (!C.heard),C.last.1,C.last.2] from hn_ F _);have A:=I.o;clear Be Bf Bg Z a I p
  have ⟨W4,AG⟩:=gn ((F.alloc (.cells #[(j:Nat),(id:Nat),(s:Nat),C.seq,N,.string (S.Q id).q,.int .i64 (S.Q id).k,c.ba,.bool (!C.heard),C.last.1,C.last.2] 48)).drew);rw [AG] at A3 A ⊢;clear AG;have Au:=Hy (At.trans (A.mono At.size));clear A At H3;obtain ⟨a0,a1,a2,a3,a4,a5,a6,a7,a8,a9,BF⟩:=c11 A3.o;have Bi:=Hy (RLet.one O W4 w.heap.size ((wn:Int),.ask (j:Nat) (id:Nat) (s:Nat) C.seq N (S.Q id).q (S.Q id).k c.ba (!C.heard) C.last.1 C.last.2) Au.size);have Bd:=Hy (Au.alloc Au.size (.cells (RLV ((wn:Int),.ask (j:Nat) (id:Nat) (s:Nat) C.seq N (S.Q id).q (S.Q id).k c.ba (!C.heard) C.last.1 C.last.2)).toArray 201))
  go_wp2_with fail;go_ret;refine ⟨_,rfl,?_,Bd.o⟩;rw [Bc.o];obtain ⟨ao,cl,h1,h2,h3⟩:=Bi.o;exact ⟨ao,cl,h1,h2,fun k W=>by have:=h3 k W;have Bq:=Xa h2 k W;exact Own.upd_ge Bq⟩
end
theorem HeE.shift {S:CS} {life:Int} {w:World} (hb:Below w.heap.size w W) (ha:AgO w.heap.size O O1) (h:HeE O1 A p S v life W e w'):HeE O A p S v life w e w':=by
 obtain ⟨u,D,F,E,H,C,G⟩:=h;exact ⟨u,D,F,E,H.base hb.size,fun b B=>(C b (nt B hb.size)).trans (ha b B),COut.trans (COut.below hb) G ha⟩
theorem ReE.shift {w:World} (hb:Below w.heap.size w W) (ha:AgO w.heap.size O O1) (h:ReE O1 A p R W e w'):ReE O A p R w e w':=by
 obtain ⟨u,F,E,H,G,D,J,C,I⟩:=h;exact ⟨u,F,E,H,G,D,J.base hb.size,fun b B=>(C b (nt B hb.size)).trans (ha b B),COut.trans (COut.below hb) I ha⟩
theorem zJ (O:Own) (A:CA) (p:Nat) (S:CS) (v life:Int) (w:World) (h:CW w O A p S) (ho:S.t.ok):
  Calls prog 16 #[.pointer (some ⟨p,0,none⟩),.iface 36 (.agg #[v,life])] w (HeE O A p S v life w):=by
 have ⟨W,C⟩:=gn (w.alloc (.cells #[v,life] 36));have B:Below w.heap.size w W:=by rw [<- C];exact (bf _ w).alloc (nl _) _
 have H:W.cell? ⟨w.heap.size,0,none⟩=some (.int .i64 v):=by rw [<- C];exact (show Blk _ w.heap.size 36 [v,life] from hn_ w _).cell 0
 have I:W.cell? ⟨w.heap.size,1,none⟩=some (.int .i64 life):=by rw [<- C];exact (show Blk _ w.heap.size 36 [v,life] from hn_ w _).cell 1
 have D:=Hy (Zaj O A p S v life W (h.below B (AgO.refl _ _)) ho);have HB:=Hy B;have G:=fun V=>yn p 0 V;clear h ho B;go_in;go_wp2_with (first | rw [xg] | rw [C]);clear C H I;refine D.mono ?_;rintro e K E;have F:=Hy (HeE.shift HB.o (AgO.refl _ O) E);obtain ⟨u,J,rfl,-⟩:=E;go_wp2_with fail;go_ret;exact F.o
def MV.flat:MV->Bool
 | .hello ..=>true
 | .grant ..=>true
 | .ask ..=>true
 | .stop ..=>true
 | _=>false
theorem MV.flat_at {m:MV} (h:m.flat=true) (w:World):m.At w m.val:=by cases m <;> first | rfl | cases h
theorem MV.same_iff {m m':MV} (h:m.flat=true):m.same m'=true↔m=m':=by
 cases m <;> simp [MV.flat] at h <;> cases m' <;> simp [MV.same,and_assoc]
def eqLs:List LV->List LV->Bool
 | [],[]=>true
 | x :: a,y :: b=>decide (x.1=y.1)&&x.2.same y.2&&eqLs a b
 | _,_=>false
theorem Qab:∀ {l l':List LV},eqLs l l'=true->l.length=l'.length
 | [],[],_=>rfl
 | [],_ :: _,h=>by cases h
 | _ :: _,[],h=>by cases h
 | x :: a,y :: b,h=>by
  unfold eqLs at h
  rw [Bool.and_eq_true] at h
  simp [Qab h.2]
theorem Xs {l l':List LV} (hl:∀ x∈l,x.2.flat=true):eqLs l l'=true↔l=l':=by
 induction l generalizing l' with
 | nil=>cases l' <;> simp [eqLs]
 | cons x a B=>
  cases l' with
  | nil=>simp [eqLs]
  | cons y b=>
   unfold eqLs;rw [Bool.and_eq_true,Bool.and_eq_true,decide_eq_true_eq,MV.same_iff (hl x (List.mem_cons_self ..)),B (fun z A=>hl z (List.mem_cons_of_mem _ A))];obtain ⟨C,D⟩:=x;obtain ⟨E,F⟩:=y;simp [Prod.ext_iff]
theorem Zat {l l':List LV} {i:Nat} {x y:LV} (hx:l[i]?=some x) (hy:l'[i]?=some y) (h:(decide (x.1=y.1)&&x.2.same y.2)=false):eqLs l l'=false:=by
 induction l generalizing l' i with
 | nil=>simp at hx
 | cons u a A=>
  cases l' with
  | nil=>simp at hy
  | cons v b=>
   unfold eqLs;cases i with
   | zero=>simp only [List.getElem?_cons_zero,Option.some.injEq] at hx hy;subst hx hy;rw [h];rfl
   | succ i=>rw [A (by simpa using hx) (by simpa using hy),Bool.and_false]
theorem yaL {l l':List LV} (hn:l.length=l'.length) (h:∀ (i:Nat) (x y:LV),l[i]?=some x->l'[i]?=some y->(decide (x.1=y.1)&&x.2.same y.2)=true):eqLs l l'=true:=by
 induction l generalizing l' with
 | nil=>cases l' with
  | nil=>rfl
  | cons _ _=>simp at hn
 | cons u a C=>
  cases l' with
  | nil=>simp at hn
  | cons v b=>
   unfold eqLs;rw [h 0 u v (by simp) (by simp),C (by simpa using hn) (fun i x y A B=>h (i+1) x y (by simpa using A) (by simpa using B))];rfl
def SlR (w:World) (l l':List LV) (v:Value) (wr:World):Prop:=∃ k:Nat,k<=l.length/\v=.int .i64 k/\Hid (∀ (i:Nat) (x y:LV),i < k->l[i]?=some x->l'[i]?=some y->(decide (x.1=y.1)&&x.2.same y.2)=true)/\Hid (Below w.heap.size w wr)
theorem qc (a a':Option Addr) (c c':Nat) (l l':List LV) (w:World) (hr:RdE LV.cells 2 w a l.length c l) (d:RdE LV.cells 2 w a' l'.length c' l') (hl:∀ x∈l,x.2.flat=true) (Y:∀ x∈l',x.2.flat=true):
  Calls prog 42 #[.slice a l.length c,.slice a' l'.length c'] w fun e w'=>e=.returned (.bool (eqLs l l'))/\Below w.heap.size w w':=by
 have ⟨R,hR⟩:=gn (eqLs l l');rw [hR];have p:=Hy hR;have HA:=Hy hr;have q:=Hy d;have HL:=Hy hl;have s:=Hy Y;have Ab:=hr.2.1;have Ac:=hr.2.2.1;unfold maxLen at Ac;clear hr d hl Y hR
 by_cases E:l.length=l'.length
 ·have m:=Hy E
  rw [<- E];clear E;have ⟨n,E⟩:=gn l.length;have B:=Hy E;rw [E] at Ab ⊢;clear E;go_in;go_wp2_with fail;go_loopw [5] (fun v wr=>SlR w l l' v wr) (fun v _=>n - (intOf v).toNat)
  case atStart=>exact ⟨0,nz _,rfl,(fun i x y h=>by omega),bf _ _⟩
  case round=>
   obtain ⟨k,Ad,rfl,HJ,HB⟩:=hrel;rw [B.o] at Ad
   by_cases Z:k < n
   ·obtain ⟨x,I⟩:∃ x,l[k]?=some x:=⟨l[k]'(by rw [B.o];exact Z),le_ _⟩
    obtain ⟨y,P⟩:∃ x,l'[k]?=some x:=⟨l'[k]'(by rw [<- m.o,B.o];exact Z),le_ _⟩;obtain ⟨M,Q,rfl,Ae,F⟩:=(HA.below HB.o rfl).2.2.2.2 k x I;obtain ⟨b2,T,rfl,Af,G⟩:=(q.below HB.o rfl).2.2.2.2 k y P;have u0:wr.drew.cell? ⟨M,Q+k * 2,none⟩=some (.int .i64 x.1):=F 0 (by decide);have u1:wr.drew.cell? ⟨M,Q+k * 2+1,none⟩=some x.2.val:=F 1 (by decide);have v0:wr.drew.cell? ⟨b2,T+k * 2,none⟩=some (.int .i64 y.1):=G 0 (by decide);have v1:wr.drew.cell? ⟨b2,T+k * 2+1,none⟩=some y.2.val:=G 1 (by decide);have A:=Hy (And.intro u0 (And.intro u1 (And.intro v0 v1)))
    have t:=Hy I;have z:=Hy P;have D:=Hy (yaC x.2 y.2 x.2.val y.2.val wr.drew (MV.flat_at (HL.o x (lm I)) _) (MV.flat_at (s.o y (lm P)) _));have ⟨xv,f⟩:=gn x.2.val;have ⟨yv,g⟩:=gn y.2.val;rw [f,g] at D A;have ⟨sm,H⟩:=gn (x.2.same y.2);rw [H] at D;have HS:=Hy H;have ⟨j,J⟩:=gn x.1;have ⟨y1,L⟩:=gn y.1;rw [J,L] at A;have V:=Hy J;have W:=Hy L;have e1:(k:Int) < (n:Int):=by omega
    have e2:(0:Int)<=(k:Int):=by omega
    clear I P F G u0 u1 v0 v1 f g H J L Ae Af;go_upto_region 6 with fail
    by_cases ht:j=y1
    ·subst ht
     refine rg (fun w'=>w'.cell? ⟨M,Q+k * 2,none⟩=some (.int .i64 j)/\w'.cell? ⟨M,Q+k * 2+1,none⟩=some xv/\w'.cell? ⟨b2,T+k * 2,none⟩=some (.int .i64 j)/\w'.cell? ⟨b2,T+k * 2+1,none⟩=some yv) fun C=>?_;(iterate 22 refine tq 0 ?_);refine rdy 22 fun K hK=>?_;go_simp;refine D.mono ?_;rintro e w1 ⟨rfl,N⟩;clear D;have r:=Hy (And.intro ((N.cell (cell?_lt A.1)).trans A.1) (And.intro ((N.cell (cell?_lt A.2.1)).trans A.2.1) (And.intro ((N.cell (cell?_lt A.2.2.1)).trans A.2.2.1) ((N.cell (cell?_lt A.2.2.2)).trans A.2.2.2))));have U:=Hy (HB.drew.trans (N.mono HB.size));clear N;go_wp2_with fail;refine hK.out _ _ (by first | exact A.o | exact r.o) (fun C=>?_)
     clear hK K;refine tk 23 ?_;refine tk 24 ?_;refine dn ?_;cases sm
     ·go_wp2_with fail
      go_ret;have e:R=false:=by rw [<- p.o];exact Zat t.o z.o (by rw [HS.o,Bool.and_false])
      subst e;exact ⟨rfl,U.o⟩
     go_wp2_with fail
     go_roundw
     case rel=>exact ⟨k+1,by rw [B.o];omega,by go_num,(fun i u v hi hu hv=>by
       rcases (by omega:i < k∨i=k) with h | h
       ·exact HJ.o i u v h hu hv
       ·subst h
        rw [t.o] at hu;rw [z.o] at hv;cases hu;cases hv;rw [V.o,W.o,HS.o];simp),U.o⟩
     case measure=>simp [intOf];omega
    have Ay:(j != y1)=true:=by simpa using ht
    have HT:=Hy ht;refine rg (fun w'=>w'.cell? ⟨M,Q+k * 2,none⟩=some (.int .i64 j)/\w'.cell? ⟨M,Q+k * 2+1,none⟩=some xv/\w'.cell? ⟨b2,T+k * 2,none⟩=some (.int .i64 y1)/\w'.cell? ⟨b2,T+k * 2+1,none⟩=some yv) fun C=>?_;(iterate 25 first | refine tq 0 ?_ | refine tr 0 ?_);refine dn ?_;go_wp2_with fail;go_ret;have e:R=false:=by rw [<- p.o];exact Zat t.o z.o (by rw [V.o,W.o];have:=HT.o;simp [this])
    subst e;exact ⟨rfl,HB.drew⟩
   obtain rfl:k=n:=by omega
   go_wp2_with fail;go_ret;have e:R=true:=by rw [<- p.o];exact yaL m.o (fun i x y I P=>HJ.o i x y (by have:=(lg I).1;rw [B.o] at this;exact this) I P)
   subst e;exact ⟨rfl,HB.o⟩
 have Ag:((l.length:Int) != (l'.length:Int))=true:=by simp;omega
 have m:=Hy E;have ⟨n,Ah⟩:=gn l.length;have ⟨n',b⟩:=gn l'.length;rw [Ah,b] at E Ag ⊢;go_in;go_wp2_with fail;go_ret;have e:R=false:=by rw [<- p.o];cases e:eqLs l l' with | false=>rfl | true=>exact absurd (Qab e) m.o
 subst e;exact ⟨rfl,bf _ _⟩
section
theorem YS {fn:Func} {p:Tmp} {ty:TypeId} (h:fn.results=#[.cell p ty]) (A:Array Value) (P:Program) (w:World):
  (results fn A).run P w=((asAddr (A.getD p undef)).run P w).andThen fun a w₁=>(loadVar ty a).run P w₁:=by
 simp only [results,h];simp [Sem.run_bind,Result.andThen]
def wordsA:List ByteArray:=[⟨#[97]⟩,⟨#[97,98,99]⟩,⟨#[98]⟩]
def c24 (a:Nat):CfgM:=⟨some ⟨a,0,none⟩,3,3,none,0,0,wordsA,[],1,1,1,2,5,9,2,4,0,8⟩
theorem XK (a:Nat):mayC (c24 a)=true:=by
 have h:mayC (c24 a)=mayC (c24 0):=rfl;rw [h];decide
theorem zaj (a:Nat):shardsC (c24 a)=1:=by rw [yd (XK a)];rfl
theorem Zag (w:World):Calls prog 56 #[] w fun e w'=>∃ a,e=.returned (c24 a).val/\CfgOK w' (c24 a)/\Below w.heap.size w w':=by
 go_in;go_wp2_with fail;refine bodyPost_ret (v:=(c24 (w.heap.size+1)).val) ?_ rfl ⟨w.heap.size+1,rfl,?_,((bf _ w).alloc (nl _) _).alloc (by simp) _⟩
 ·rw [YS rfl]
  go_simp;rfl
 have ⟨W,C⟩:=gn (w.alloc (.cells #[.slice (some ⟨w.heap.size+1,0,none⟩) 3 3,.slice none 0 0,.int .i64 1,.int .i64 1,.int .i64 1,.int .i64 2,.int .i64 5,.int .i64 9,.int .i64 2,.int .i64 4,(),.int .i64 8] 25))
 have D:W.heap.size=w.heap.size+1:=by rw [<- C];simp
 rw [C];refine ⟨?_,⟨rfl,nl _,nz _,fun _=>rfl,fun i x B=>absurd B (by show ¬ ([]:List KeyL)[i]?=some x;simp)⟩,?_,fun x B=>absurd (show x∈([]:List KeyL) from B) List.not_mem_nil⟩
 ·rw [<- D]
  exact (show Blk (W.alloc (.cells #[.string ⟨#[97]⟩,.string ⟨#[97,98,99]⟩,.string ⟨#[98]⟩] 9)) W.heap.size 9 [.string ⟨#[97]⟩,.string ⟨#[97,98,99]⟩,.string ⟨#[98]⟩] from hn_ W _).rd 3 3 (wordsA.map Value.string) rfl (nl _) (by unfold maxLen;decide) (fun i hi=>rfl)
 intro x B
 have:x.size<=3:=by
  have A:x∈wordsA:=B;unfold wordsA at A;simp only [List.mem_cons,List.not_mem_nil,or_false] at A;rcases A with rfl | rfl | rfl <;> decide
 unfold maxLen;omega
theorem LetAt.step {base:Nat} {l:List LV} (h:LetAt O w base v l) (hf:COut O w w') (ha:AgO w.heap.size O O'):LetAt O' w' base v l:=by
 obtain ⟨D,c,h1,B,C⟩:=h;exact ⟨D,c,h1,za B hf (fun k A e=>by rw [C k A] at e;exact absurd e (by decide)),zv B ha C⟩
theorem LetAt.rde {base:Nat} {l:List LV} (h:LetAt O w base v l):∃ A c,v=.slice A l.length c/\RdE LV.cells 2 w A l.length c l:=by
 obtain ⟨A,c,h1,B,C⟩:=h;exact ⟨A,c,h1,Za (enc:=LV.cells) (fun _=>rfl) rfl B⟩
theorem COut.to_below {w0:World} (h:COut O w w') (hb:Below w0.heap.size w0 w) (ho:∀ b,b < w0.heap.size->O b % 8≠1):Below w0.heap.size w0 w':=
 ⟨h.os.trans hb.os,h.tape.trans hb.tape,h.output.trans hb.output,nr hb.size h.size,fun k A=>(h.block k (nt A hb.size) (ho k A)).trans (hb.block k A)⟩
theorem Xav (w:World) (x:LV):RdE LV.cells 2 (w.alloc (.cells #[x.1,x.2.val] 51)) (some ⟨w.heap.size,0,none⟩) 1 1 [x]:=
 Blk.rdE (sp:=[]) (enc:=LV.cells) (l:=[x]) (fun _=>rfl) (show Blk _ w.heap.size 51 _ from hn_ w _) 1 (nl _) (by unfold maxLen;decide)
def askA:MV:=.ask 0 1 0 0 1 ⟨#[97]⟩ 1 2 true 0 ⟨#[]⟩
section
variable (a:Nat) (ac:Option Addr) (cc:Nat)
def s24:CS:=CS.init ((c24 a).own ac cc)
theorem zaG:(s24 a ac cc).helloL 1 1=[(1,.grant 1 1 1)]:=by kernel_rfl
theorem QaS:((s24 a ac cc).hello 1 1).subV ⟨#[97]⟩ 1 2=(3,1):=by kernel_rfl
theorem xaS:((s24 a ac cc).hello 1 1).subLs ⟨#[97]⟩ 1 2 1 1=[]:=by kernel_rfl
theorem yaG:((((s24 a ac cc).hello 1 1).sub ⟨#[97]⟩ 1 2 1).wake 0).2=[(1,askA)]:=by kernel_rfl
theorem xaG:((((s24 a ac cc).hello 1 1).sub ⟨#[97]⟩ 1 2 1).wake 0).1.tm.length=1:=by kernel_rfl
end
theorem Xa8 (a:Nat) (ac:Option Addr) (cc:Nat):((s24 a ac cc).hello 1 1).OK 1 3:=yac (XZ (Y1 (XK a)) (show (1:Int)<=5/\(5:Int)<=1000 by decide) 1 (by decide)) 1 1
theorem ybb:eqLs [(1,.grant 1 1 1)] [(1,.grant 1 1 1)]=true:=by kernel_rfl
theorem xbb:eqLs [(1,askA)] [(1,askA)]=true:=by kernel_rfl
theorem Yw (w:World):Calls prog 14 #[] w fun e w'=>e=.returned (.bool true)/\Below w.heap.size w w':=by
 go_in;go_wp2_with fail;refine (Zag w).mono ?_;rintro e w1 ⟨a,rfl,l,Aw⟩;have AW:=Hy l;have c:=Hy Aw;have g:=Hy (Xaa (fun _=>0) (c24 a) w1 l (XK a));have ⟨cv,A1⟩:=gn ((c24 a).val);rw [A1] at g ⊢;clear l Aw A1;go_wp2_with fail;refine g.mono ?_;clear g;rintro e w2 ⟨p,ac,cc,A,z,rfl,A2,T,ha,Ax⟩;rw [zaj] at T;have K:A.cps.length=1:=by omega
 have AD:=Hy (show CW w2 z A p (s24 a ac cc) from A2);have E:=Hy K;have AC:=Hy (c.trans (Ax.mono c.size));have AE:=Hy (show ∀ b,b < w.heap.size->z b % 8≠1 from fun b hb=>by rw [ha b (Nat.lt_of_lt_of_le hb c.size)];show (0:Nat) % 8≠1;decide);have AZ:=fun V=>yn p 0 V;have Ar:=Hy (zJ z A p (s24 a ac cc) 1 1 w2 AD.o (XZ (Y1 (XK a)) (show (1:Int)<=5/\(5:Int)<=1000 by decide) 1 (b:=3) (by decide)).t);clear A2 T K ha Ax;go_wp2_with fail;refine Ar.mono ?_;clear Ar;rintro e w3 ⟨u3,O3,rfl,Az,r,Av,A3⟩
 rw [zaG] at r;have Ac:=Hy Az;have Al:=Hy r;have d:=Hy A3;have W:=Hy (show AgO w2.heap.size z O3 from Av);have hs:=qJ O3 A p ((s24 a ac cc).hello 1 1) ⟨#[97]⟩ 1 2 1 w3 Ac.o (by unfold maxLen;decide) (by rw [E.o];decide) (by rw [E.o];decide) rfl (by decide) (by show (0:Nat)<=_;omega) (by show (0:Nat)<=_;omega) (fun x hx=>absurd (show x∈([]:List KeyL) from hx) List.not_mem_nil);unfold SuE at hs;rw [QaS,E.o,xaS] at hs;have Aq:=Hy hs;clear Az r A3 Av hs;go_wp2_with fail;refine Aq.mono ?_;clear Aq;rintro e w4 ⟨u4,O4,A4,rfl,A0,J,AL,h,n⟩
 have Ad:=Hy A0;have P:=Hy (Al.step n h);have f:=Hy (COut.trans d.o n W.o);have Y:=Hy (show AgO w2.heap.size z O4 from W.trans h d.size);have U:=ya9 (Xa8 a ac cc) (by decide) ⟨#[97]⟩ 1 2;have As:=Hy (YU O4 A4 p _ 0 4 1 w4 Ad.o (by rw [J,E.o];exact U) (by decide) (by decide) (by rw [J,E.o];decide) (by show (1:Int)<=1;decide) (by show (1:Int)<=3;decide) (by show (1:Int)=_;rfl) (by decide));clear A0 J AL h n U Al d W Ac;go_wp2_with fail;refine As.mono ?_;clear As;rintro e N ⟨u5,O5,rfl,m,s,i,q⟩
 rw [yaG] at s;have HT:=Hy (xaG a ac cc);have ⟨S5,Au⟩:=gn (((((s24 a ac cc).hello 1 1).sub ⟨#[97]⟩ 1 2 1).wake 0).1);rw [Au] at m HT;have Ae:=Hy m;have Q:=Hy (P.step q i);have Am:=Hy s;have Ai:=Hy (COut.trans f.o q Y.o);have Z:=Hy (show AgO w2.heap.size z O5 from Y.trans i f.size);clear Au m s i q Ad P f Y;obtain ⟨AJ,c3,AM,A7⟩:=Q.rde;obtain ⟨AK,c5,AN,A8⟩:=Am.rde;subst AM AN;have An:=Hy A7;have Ao:=Hy A8;clear A7 A8 Q Am;have ⟨R,G⟩:=gn (N.alloc (.cells #[(),.int .i64 1,(),(),.int .i64 1,.string ⟨#[97]⟩,.int .i64 1,.int .i64 2,true,(),.string ⟨#[]⟩] 48))
 have ⟨W7,H⟩:=gn (R.alloc (.cells #[.int .i64 1,.iface 99 (.agg #[.int .i64 1,.int .i64 1,.int .i64 1])] 51));have u:R.heap.size=N.heap.size+1:=by rw [<- G];simp
 have j:Below N.heap.size N R:=by rw [<- G];exact (bf _ N).alloc (nl _) _
 have k:Below R.heap.size R W7:=by rw [<- H];exact (bf _ R).alloc (nl _) _
 have B:=j.trans (k.mono j.size);have HX:=Hy ((by rw [<- G];exact hn_ N _:Blk R N.heap.size 48 [(),.int .i64 1,(),(),.int .i64 1,.string ⟨#[97]⟩,.int .i64 1,.int .i64 2,true,(),.string ⟨#[]⟩]).below k (by rw [u];omega));have A5:RdE LV.cells 2 W7 (some ⟨N.heap.size+1,0,none⟩) 1 1 [(1,.grant 1 1 1)]:=by rw [<- H,<- u];exact Xav R (1,.grant 1 1 1)
 have C:=qc AJ (some ⟨N.heap.size+1,0,none⟩) c3 1 [(1,.grant 1 1 1)] [(1,.grant 1 1 1)] W7 (An.below B rfl) A5 (by decide) (by decide);rw [ybb] at C;have F:=Hy C;have Af:=Hy (Ae.below B (AgO.refl _ _));have Ap:=Hy (Ao.below B rfl);have Aj:=Hy (COut.trans Ai.o (COut.below (O:=O5) B) Z.o);rw [<- G] at H;clear u j k B A5 C Ae Ao An Ai G;go_wp2_with (rw [H]);clear H;refine F.mono ?_;clear F;rintro e y ⟨rfl,M⟩;have At:=Hy (HX.below M HX.lt);obtain ⟨k0,k1,k2,k3,k4,k5,k6,k7,k8,k9,AO⟩:=c11 At.o
 have ⟨W9,L⟩:=gn (y.alloc (.cells #[.int .i64 1,.iface 48 (.agg #[(),.int .i64 1,(),(),.int .i64 1,.string ⟨#[97]⟩,.int .i64 1,.int .i64 2,true,(),.string ⟨#[]⟩])] 51));have Ay:Below y.heap.size y W9:=by rw [<- L];exact (bf _ y).alloc (nl _) _
 have D:=M.trans (Ay.mono M.size);have A6:RdE LV.cells 2 W9 (some ⟨y.heap.size,0,none⟩) 1 1 [(1,askA)]:=by rw [<- L];exact Xav y (1,askA)
 have C:=qc AK (some ⟨y.heap.size,0,none⟩) c5 1 [(1,askA)] [(1,askA)] W9 (Ap.below D rfl) A6 (by decide) (by decide);rw [xbb] at C;have F:=Hy C;have Ag:=Hy (Af.below D (AgO.refl _ _));have Ak:=Hy (COut.trans Aj.o (COut.below (O:=O5) D) Z.o);clear M Ay D A6 C Af Ap Aj HX At;go_wp2_with (rw [L]);clear L k0 k1 k2 k3 k4 k5 k6 k7 k8 k9 AO;refine F.mono ?_;clear F;rintro e AP ⟨rfl,I⟩;have Ab:=Hy (Ag.below I (AgO.refl _ _));have Ah:=Hy (COut.trans Ak.o (COut.below (O:=O5) I) Z.o)
 have v:=yS AP Ab.o;rw [HT.o] at v;have AF:=Hy v;clear I v Ag Ak;go_wp2_with fail;refine AF.mono ?_;rintro e Bm ⟨rfl,rfl⟩;have Aa:=Hy (Ah.to_below AC.o AE.o);go_wp2_with fail;go_ret;exact ⟨rfl,Aa.o⟩
end
theorem Qr {id:Int}:∀ L:List One,idsOK L->hasL id (cancelL id L)=false
 | [],_=>rfl
 | y :: l,h=>by
  unfold idsOK at h
  rw [List.map_cons,List.nodup_cons] at h
  have ih:=Qr (id:=id) l h.2
  unfold cancelL at ih ⊢
  rw [List.eraseP_cons]
  by_cases C:y.2=id
  ·have B:decide (y.2=id)=true:=by simpa using C
   rw [B]
   show hasL id l=false
   unfold hasL
   rw [List.any_eq_false]
   intro x D A
   simp only [decide_eq_true_eq] at A
   exact h.1 (by rw [C,<- A];exact List.mem_map.2 ⟨x,D,rfl⟩)
  ·have B:decide (y.2=id)=false:=by simpa using C
   rw [B]
   show hasL id (y :: l.eraseP _)=false
   unfold hasL at ih ⊢
   rw [List.any_cons,B,Bool.false_or]
   exact ih
theorem qav {x:One} {L:List One} (h:idsOK L) (hn:hasL x.2 L=false):idsOK (insL x L):=by
 rw [ZA (zf x L)];unfold idsOK;rw [List.map_cons,List.nodup_cons];refine ⟨fun A=>?_,h⟩;obtain ⟨y,B,e⟩:=List.mem_map.1 A;unfold hasL at hn;rw [List.any_eq_false] at hn;exact hn y B (by simpa using e)
theorem YA {id:Int} {L:List One} (h:idsOK L):idsOK (cancelL id L):=by
 unfold idsOK at h ⊢;exact List.Nodup.sublist ((List.eraseP_sublist (p:=fun y:One=>decide (y.2=id)) (l:=L)).map _) h
end Go.Proofs.YtinkbgeckjbnbaaGreat
