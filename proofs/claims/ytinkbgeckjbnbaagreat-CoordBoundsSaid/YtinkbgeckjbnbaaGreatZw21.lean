/- Lemmas (part 21). -/
import Derived.Test.YtinkbgeckjbnbaaGreatZw20
namespace Go.Proofs.YtinkbgeckjbnbaaGreat
open Go.RowKit Go.Proofs.Tryz
set_option autoImplicit true
set_option relaxedAutoImplicit true
set_option linter.unusedVariables false
set_option linter.unusedSimpArgs false
set_option maxRecDepth 100000
set_option maxHeartbeats 32000000
structure RV where
 s:Int
 q:Int
 h:Int
 sq:Int
 wk:Int
 ep:Int
 l:List KeyL
 en:Bool
def restP (hd:Bool) (last:KeyL) (all:List KeyL):List KeyL:=all.filter (fun y=>!hd||kless last y)
def restQ (S:CS) (c:CfgM) (id sh:Nat):List KeyL:=restP (afterP (S.Q id).S (sh:Nat)).2 (afterP (S.Q id).S (sh:Nat)).1 (allL (sliceL c.cuts c.words (sh:Nat)) (S.Q id).q (S.Q id).k)
def CS.rightR (S:CS) (c:CfgM) (j id sh y:Nat):RV:=
 ⟨(j:Nat),(id:Nat),(sh:Nat),seqP (S.Q id).S (sh:Nat),(copW c sh y:Nat),(S.t.at (copW c sh y:Nat)).epoch,(restQ S c id sh).take (min c.ba.toNat (restQ S c id sh).length),decide (min c.ba.toNat (restQ S c id sh).length=(restQ S c id sh).length)⟩
def CS.rightV (S:CS) (c:CfgM) (i j x:Int):Option RV:=
 if S.L.getD (lowI i c.sl).toNat 0=0 then none
 else some (S.rightR c (lowI i c.sl).toNat (S.L.getD (lowI i c.sl).toNat 0) (lowI j ((c.cuts.length:Int)+1)).toNat (lowI x c.cp).toNat)
theorem qaj {c:CfgM} (h:mayC c=true):1<=c.ba/\c.ba<=5/\1<=c.le/\c.le<=1000:=by
 unfold mayC at h;simp only [Bool.and_eq_true] at h;obtain ⟨_,⟨_,A⟩,B⟩:=h;unfold sizesC inB at A;unfold timesC inB at B;simp only [Bool.and_eq_true,decide_eq_true_eq] at A B;omega
theorem Xan (hd:Bool) (A:KeyL) (l:List KeyL) (x:KeyL):restP hd A (l++[x])=restP hd A l++(if (!hd||kless A x)=true then [x] else []):=by
 unfold restP;rw [List.filter_append];cases h:(!hd||kless A x) <;> simp [h]
theorem QaI (c:CfgM) (s:Int) (w:World) (hr:CfgOK w c) (hl:c.cuts.length<=100) (hm:c.words.length<=1000):
  Calls prog 87 #[c.val,s] w (GotT w (sliceL c.cuts c.words s)):=by
 unfold CfgM.val;have ⟨W,C⟩:=gn (w.alloc (.cells #[.slice c.aw c.nw c.cw,.slice c.ac c.nc c.cc,c.wk,c.cp,c.sl,c.ba,c.le,c.he,c.fi,c.ca,c.ji,c.ne] 25));have D:Below w.heap.size w W:=by rw [<- C];exact (bf _ w).alloc (nl _) _
 have F:Blk W w.heap.size 25 [.slice c.aw c.nw c.cw,.slice c.ac c.nc c.cc,c.wk,c.cp,c.sl,c.ba,c.le,c.he,c.fi,c.ca,c.ji,c.ne]:=by rw [<- C];exact hn_ w _
 have h0:Cl W w.heap.size 0 (.slice c.aw c.nw c.cw):=F.cell 0;have h1:W.cell? ⟨w.heap.size,1,none⟩=some (.slice c.ac c.nc c.cc):=F.cell 1;have G:=Hy (XaG c.ac c.nc c.cc c.cuts c.aw c.nw c.cw c.words s W (hr.below D rfl).rk hl (hr.below D rfl).rw hm hr.hw);have HB:=Hy D;clear D F hr;unfold GotT;go_in;go_wp2_with (rw [C]);clear C h0 h1;refine G.mono ?_;rintro e K ⟨I,J,rfl,A,B⟩;have E:=Hy (HB.trans (B.mono HB.size));have H:=Hy (zi A HB.size);clear B A G HB;go_wp2_with fail;go_ret
 exact ⟨I,J,rfl,H.o,E.o⟩
def qEqv (q:ByteArray) (k m:Int) (q2:ByteArray) (k2 m2:Int):Bool:=decide ((q,k,m)=(q2,k2,m2))
theorem Qbd (q:ByteArray) (k m:Int) (q2:ByteArray) (k2 m2:Int) (W:World):(binOp .eql 40 (.agg #[q,k,m]) (.agg #[q2,k2,m2])).run prog W=.ok (.bool (qEqv q k m q2 k2 m2)) W:=by
 unfold qEqv
 by_cases A:(q,k,m)=(q2,k2,m2)
 ·rw [decide_eq_true A]
  cases A;have C:(q.toList == q.toList)=true:=by simp
  have h1:(k == k)=true:=by simp
  have B:(m == m)=true:=by simp
  go_simp
 rw [decide_eq_false A]
 by_cases h0:q=q2
 ·subst h0
  have C:(q.toList == q.toList)=true:=by simp
  by_cases h1:k=k2
  ·subst h1
   have B:m≠m2:=fun e=>by subst e;exact A rfl
   have D:(k == k)=true:=by simp
   have E:(m == m2)=false:=by simpa using B
   go_simp
  have D:(k == k2)=false:=by simpa using h1
  go_simp
 have C:=Xaq h0
 clear A;go_simp
def eqTold (t t':TS) (id id':Int):Bool:=decide (id=id')&&qEqv t.q t.k t.n t'.q t'.k t'.n&&(t.done == t'.done)&&(t.canc == t'.canc)&&eqIs t.items t'.items
theorem ybc (a b:Bool) (W:World):(binOp .eql 4 (.bool a) (.bool b)).run prog W=.ok (.bool (a == b)) W:=by cases a <;> cases b <;> kernel_rfl
theorem xbc (t t':TS) (id C:Int) (a a':Option Addr) (c c':Nat) (w:World) (hr:RdE KeyL.cells 2 w a t.items.length c t.items) (N:RdE KeyL.cells 2 w a' t'.items.length c' t'.items):
  Calls prog 31 #[.agg #[id,t.q,t.k,t.n,.slice a t.items.length c,.bool t.done,.bool t.canc],.agg #[C,t'.q,t'.k,t'.n,.slice a' t'.items.length c',.bool t'.done,.bool t'.canc]] w fun e w'=>e=.returned (.bool (eqTold t t' id C))/\Below w.heap.size w w':=by
 have ⟨R,L⟩:=gn (eqTold t t' id C);rw [L];unfold eqTold at L;have ⟨W,M⟩:=gn (w.alloc (.cells #[id,t.q,t.k,t.n,.slice a t.items.length c,.bool t.done,.bool t.canc] 58));have ⟨A,B⟩:=gn (W.alloc (.cells #[C,t'.q,t'.k,t'.n,.slice a' t'.items.length c',.bool t'.done,.bool t'.canc] 58));have I:W.heap.size=w.heap.size+1:=by rw [<- M];simp
 have G:Below w.heap.size w W:=by rw [<- M];exact (bf _ w).alloc (nl _) _
 have H:Below W.heap.size W A:=by rw [<- B];exact (bf _ W).alloc (nl _) _
 have D:=G.trans (H.mono G.size);have E:=(by rw [<- M];exact hn_ w _:Blk W w.heap.size 58 [id,t.q,t.k,t.n,.slice a t.items.length c,.bool t.done,.bool t.canc]).below H (by rw [I];omega);have F:Blk A (w.heap.size+1) 58 [C,t'.q,t'.k,t'.n,.slice a' t'.items.length c',.bool t'.done,.bool t'.canc]:=by rw [<- B,<- I];exact hn_ W _
 have K:=Hy (QaG a t.items.length c a' t'.items.length c' t.items t'.items A (hr.below D rfl) (N.below D rfl));have HB:=Hy D;have l:A.cell? ⟨w.heap.size,0,none⟩=some (.int .i64 id):=E.cell 0;have m:A.cell? ⟨w.heap.size,1,none⟩=some (.string t.q):=E.cell 1;have p:A.cell? ⟨w.heap.size,2,none⟩=some (.int .i64 t.k):=E.cell 2;have r:A.cell? ⟨w.heap.size,3,none⟩=some (.int .i64 t.n):=E.cell 3;have s:A.cell? ⟨w.heap.size,4,none⟩=some (.slice a t.items.length c):=E.cell 4;have u:A.cell? ⟨w.heap.size,5,none⟩=some (.bool t.done):=E.cell 5;have v:A.cell? ⟨w.heap.size,6,none⟩=some (.bool t.canc):=E.cell 6
 have y:Ci A (w.heap.size+1) 0 C:=F.cell 0;have z:A.cell? ⟨w.heap.size+1,1,none⟩=some (.string t'.q):=F.cell 1;have y2:A.cell? ⟨w.heap.size+1,2,none⟩=some (.int .i64 t'.k):=F.cell 2;have y3:A.cell? ⟨w.heap.size+1,3,none⟩=some (.int .i64 t'.n):=F.cell 3;have y4:A.cell? ⟨w.heap.size+1,4,none⟩=some (.slice a' t'.items.length c'):=F.cell 4;have y5:A.cell? ⟨w.heap.size+1,5,none⟩=some (.bool t'.done):=F.cell 5;have y6:A.cell? ⟨w.heap.size+1,6,none⟩=some (.bool t'.canc):=F.cell 6;rw [<- M] at B;have d:=fun V=>Qbd t.q t.k t.n t'.q t'.k t'.n V;have Z:=fun V=>ybc t.done t'.done V
 have b:=fun V=>ybc t.canc t'.canc V;clear hr N G H D E F I M;have ⟨f,h1⟩:=gn (qEqv t.q t.k t.n t'.q t'.k t'.n);have ⟨b2,Q⟩:=gn (t.done == t'.done);have ⟨g,T⟩:=gn (t.canc == t'.canc);have ⟨h,U⟩:=gn (eqIs t.items t'.items);have ⟨Y,h0⟩:=gn (decide (id=C));rw [h1,Q,T,U,h0] at L;rw [h1] at d;rw [Q] at Z;rw [T] at b;rw [U] at K;have i:(id == C)=Y:=by rw [<- h0];rfl
 have J:=Hy L;clear h1 Q T U h0 L;go_in;cases Y
 case false=>
  go_wp2_with (rw [B]);go_ret;exact ⟨by rw [<- J.o];rfl,HB.o⟩
 cases f
 case false=>
  go_wp2_with (rw [B]);go_ret;exact ⟨by rw [<- J.o];rfl,HB.o⟩
 cases b2
 case false=>
  go_wp2_with (rw [B]);go_ret;exact ⟨by rw [<- J.o];rfl,HB.o⟩
 cases g
 case false=>
  go_wp2_with (rw [B]);go_ret;exact ⟨by rw [<- J.o];rfl,HB.o⟩
 go_wp2_with (rw [B]);refine K.mono ?_;rintro e j ⟨rfl,hd⟩;have P:=Hy (HB.trans ((hd.below _).mono HB.size));clear hd;go_wp2_with fail;go_ret;exact ⟨by rw [<- J.o];cases h <;> rfl,P.o⟩
theorem XS {fn:Func} {p:Tmp} {ty:TypeId} (h:fn.results=#[.cell p ty]) (A:Array Value) (P:Program) (w:World):
  (results fn A).run P w=((asAddr (A.getD p undef)).run P w).andThen fun a w₁=>(loadVar ty a).run P w₁:=by
 simp only [results,h];simp [Sem.run_bind,Result.andThen]
def OwE (t:TS) (id:Int) (w:World) (e:Ending) (w':World):Prop:=∃ a' c',e=.returned (.agg #[id,t.q,t.k,t.n,.slice a' t.items.length c',.bool t.done,.bool t.canc])/\w'.ownsRow w.heap.size 46 2 (.slice a' t.items.length c') t.items.length (t.items.flatMap KeyL.cells)/\Below w.heap.size w w'
theorem za0 (t:TS) (id:Int) (a:Option Addr) (c:Nat) (w:World) (hr:RdE KeyL.cells 2 w a t.items.length c t.items) (hn:t.items.length<=1000):
  Calls prog 72 #[.agg #[id,t.q,t.k,t.n,.slice a t.items.length c,.bool t.done,.bool t.canc]] w (OwE t id w):=by
 have ⟨W,m⟩:=gn (w.alloc (.cells #[id,t.q,t.k,t.n,.slice a t.items.length c,.bool t.done,.bool t.canc] 58));have ⟨s,J⟩:=gn (W.alloc (.cells #[(),.string ⟨#[]⟩,(),(),.slice none 0 0,false,false] 58));have Y:W.heap.size=w.heap.size+1:=by rw [<- m];simp
 have T:Below w.heap.size w W:=by rw [<- m];exact (bf _ w).alloc (nl _) _
 have U:Below W.heap.size W s:=by rw [<- J];exact (bf _ W).alloc (nl _) _
 have V:=T.trans (U.mono T.size);have z:=(by rw [<- m];exact hn_ w _:Blk W w.heap.size 58 [id,t.q,t.k,t.n,.slice a t.items.length c,.bool t.done,.bool t.canc]).below U (by rw [Y];omega);have hy:Blk s (w.heap.size+1) 58 [(),.string ⟨#[]⟩,(),(),.slice none 0 0,false,false]:=by rw [<- J,<- Y];exact hn_ W _
 have f:=Hy (Xu s a t.items.length c t.items (hr.below V rfl) hn);have y:=Hy z;have r:=Hy hy;have HB:=Hy V;have x4:s.cell? ⟨w.heap.size,4,none⟩=some (.slice a t.items.length c):=z.cell 4;rw [<- m] at J;have i:=Hy J;clear hr hn T U V z hy Y m J;go_in;go_wp2_with fail;rw [i.o];clear i;refine f.mono ?_;clear f x4;rintro e d ⟨H,I,rfl,K,M⟩;have L:=Hy (y.below M y.lt);have j:=Hy (r.below M r.lt);have D:=Hy (HB.trans (M.mono HB.size));have g:=Hy (show d.ownsRow w.heap.size 46 2 (.slice H t.items.length I) t.items.length (t.items.flatMap KeyL.cells) from zi K HB.size)
 have R:=Hy (show ∀ q,(Value.slice H t.items.length I).ownBlock=some q->w.heap.size+2<=q from fun q P=>by have h1:=Xa K q P;have u:=r.lt;omega);clear K M y r HB;have c4:d.cell? ⟨w.heap.size,4,none⟩=some (.slice a t.items.length c):=L.cell 4;have fz:∀ o,d.frozen? ⟨w.heap.size,o,none⟩=false:=fun o=>zk (o:=o) L.o;have ⟨B,Q⟩:=gn (d.setCell ⟨w.heap.size,4,none⟩ (.slice H t.items.length I));have F:Blk B w.heap.size 58 [id,t.q,t.k,t.n,.slice H t.items.length I,.bool t.done,.bool t.canc]:=by rw [<- Q];exact L.set 4 _
 have N:Frm (fun b=>b=w.heap.size) d B:=by rw [<- Q];exact (Frm.refl (fun b=>b=w.heap.size) d).setCell ⟨w.heap.size,4,none⟩ _ (.inl rfl)
 have C:=j.frm N (by show ¬ w.heap.size+1=w.heap.size;omega);have h:=Hy (za g.o N (fun q P e=>by have h1:=R.o q P;have u:q=w.heap.size:=e;omega));have G:=Hy N;have z0:B.cell? ⟨w.heap.size,0,none⟩=some (.int .i64 id):=F.cell 0;have z1:B.cell? ⟨w.heap.size,1,none⟩=some (.string t.q):=F.cell 1;have z2:B.cell? ⟨w.heap.size,2,none⟩=some (.int .i64 t.k):=F.cell 2;have z3:B.cell? ⟨w.heap.size,3,none⟩=some (.int .i64 t.n):=F.cell 3;have z4:B.cell? ⟨w.heap.size,4,none⟩=some (.slice H t.items.length I):=F.cell 4;have z5:B.cell? ⟨w.heap.size,5,none⟩=some (.bool t.done):=F.cell 5
 have z6:Cl B w.heap.size 6 (.bool t.canc):=F.cell 6;have y0:B.cell? ⟨w.heap.size+1,0,none⟩=some (.int .i64 0):=C.cell 0;have y1:B.cell? ⟨w.heap.size+1,1,none⟩=some (.string ⟨#[]⟩):=C.cell 1;have y2:B.cell? ⟨w.heap.size+1,2,none⟩=some (.int .i64 0):=C.cell 2;have y3:B.cell? ⟨w.heap.size+1,3,none⟩=some (.int .i64 0):=C.cell 3;have y4:B.cell? ⟨w.heap.size+1,4,none⟩=some (.slice none 0 0):=C.cell 4;have y5:B.cell? ⟨w.heap.size+1,5,none⟩=some (.bool false):=C.cell 5;have y6:B.cell? ⟨w.heap.size+1,6,none⟩=some (.bool false):=C.cell 6;have fy:∀ o,B.frozen? ⟨w.heap.size+1,o,none⟩=false:=fun o=>zk (o:=o) C
 have l:=Hy C;clear F N C L j g;go_wp2_with (rw [Q]);clear Q c4 fz fy z0 y0 z1 y1 z2 y2 z3 y3 z4 y4 z5 y5 z6 y6;have A:Blk (((((((B.setCell ⟨w.heap.size+1,0,none⟩ (.int .i64 id)).setCell ⟨w.heap.size+1,1,none⟩ (.string t.q)).setCell ⟨w.heap.size+1,2,none⟩ (.int .i64 t.k)).setCell ⟨w.heap.size+1,3,none⟩ (.int .i64 t.n)).setCell ⟨w.heap.size+1,4,none⟩ (.slice H t.items.length I)).setCell ⟨w.heap.size+1,5,none⟩ (.bool t.done)).setCell ⟨w.heap.size+1,6,none⟩ (.bool t.canc)) (w.heap.size+1) 58 [id,t.q,t.k,t.n,.slice H t.items.length I,.bool t.done,.bool t.canc]:=(((((((l.set 0 (.int .i64 id)).set 1 (.string t.q)).set 2 (.int .i64 t.k)).set 3 (.int .i64 t.n)).set 4 (.slice H t.items.length I)).set 5 (.bool t.done)).set 6 (.bool t.canc))
 have E:Frm (fun b=>b=w.heap.size+1) B (((((((B.setCell ⟨w.heap.size+1,0,none⟩ (.int .i64 id)).setCell ⟨w.heap.size+1,1,none⟩ (.string t.q)).setCell ⟨w.heap.size+1,2,none⟩ (.int .i64 t.k)).setCell ⟨w.heap.size+1,3,none⟩ (.int .i64 t.n)).setCell ⟨w.heap.size+1,4,none⟩ (.slice H t.items.length I)).setCell ⟨w.heap.size+1,5,none⟩ (.bool t.done)).setCell ⟨w.heap.size+1,6,none⟩ (.bool t.canc)):=((((((((Frm.refl (fun b=>b=w.heap.size+1) B).setCell ⟨w.heap.size+1,0,none⟩ (.int .i64 id) (.inl rfl)).setCell ⟨w.heap.size+1,1,none⟩ (.string t.q) (.inl rfl)).setCell ⟨w.heap.size+1,2,none⟩ (.int .i64 t.k) (.inl rfl)).setCell ⟨w.heap.size+1,3,none⟩ (.int .i64 t.n) (.inl rfl)).setCell ⟨w.heap.size+1,4,none⟩ (.slice H t.items.length I) (.inl rfl)).setCell ⟨w.heap.size+1,5,none⟩ (.bool t.done) (.inl rfl)).setCell ⟨w.heap.size+1,6,none⟩ (.bool t.canc) (.inl rfl))
 have ⟨Z,p⟩:=gn (((((((B.setCell ⟨w.heap.size+1,0,none⟩ (.int .i64 id)).setCell ⟨w.heap.size+1,1,none⟩ (.string t.q)).setCell ⟨w.heap.size+1,2,none⟩ (.int .i64 t.k)).setCell ⟨w.heap.size+1,3,none⟩ (.int .i64 t.n)).setCell ⟨w.heap.size+1,4,none⟩ (.slice H t.items.length I)).setCell ⟨w.heap.size+1,5,none⟩ (.bool t.done)).setCell ⟨w.heap.size+1,6,none⟩ (.bool t.canc));rw [p] at A E ⊢;have k0:Z.cell? ⟨w.heap.size+1,0,none⟩=some (.int .i64 id):=A.cell 0;have k1:Z.cell? ⟨w.heap.size+1,1,none⟩=some (.string t.q):=A.cell 1;have k2:Z.cell? ⟨w.heap.size+1,2,none⟩=some (.int .i64 t.k):=A.cell 2
 have k3:Ci Z (w.heap.size+1) 3 t.n:=A.cell 3;have k4:Z.cell? ⟨w.heap.size+1,4,none⟩=some (.slice H t.items.length I):=A.cell 4;have k5:Z.cell? ⟨w.heap.size+1,5,none⟩=some (.bool t.done):=A.cell 5;have k6:Z.cell? ⟨w.heap.size+1,6,none⟩=some (.bool t.canc):=A.cell 6;refine bodyPost_ret (v:=.agg #[id,t.q,t.k,t.n,.slice H t.items.length I,.bool t.done,.bool t.canc]) ?_ rfl ⟨H,I,rfl,za h.o E (fun q P e=>by have h1:=R.o q P;have u:q=w.heap.size+1:=e;omega),⟨E.os.trans (G.os.trans D.os),E.tape.trans (G.tape.trans D.tape),E.output.trans (G.output.trans D.output),nr D.size (nr G.size E.size),fun q P=>(E.block q (nt P (nr D.size G.size)) (fun e=>by have u:q=w.heap.size+1:=e;omega)).trans ((G.block q (nt P D.size) (fun e=>by have u:q=w.heap.size:=e;omega)).trans (D.block q P))⟩⟩
 rw [XS rfl];clear A E p h G D R l;go_simp
structure ToA (base:Nat) (w:World) (it:Nat->Option Addr×Nat) (ao:Option Addr) (c:Nat) (l:List TS) (k:Nat):Prop where
 row:w.ownsRow base 58 7 (.slice ao k c) k (rowF (toldF it l) k)
 its:∀ (i:Nat) t,i < k->l[i]?=some t->w.ownsRow base 46 2 (.slice (it i).1 t.items.length (it i).2) t.items.length (t.items.flatMap KeyL.cells)
 ne:∀ (i j:Nat),i < j->j < k->∀ b,(Value.slice (it i).1 0 0).ownBlock=some b->∀ b',(Value.slice (it j).1 0 0).ownBlock=some b'->b≠b'
structure RdTo (w:World) (it:Nat->Option Addr×Nat) (ao:Option Addr) (c:Nat) (l:List TS):Prop where
 cap:l.length<=c/\c<=maxLen/\(ao=none->l.length=0)
 row:∀ (i:Nat) t,l[i]?=some t->∃ b,ao=some ⟨b,0,none⟩/\b < w.heap.size/\(∀ j,j < 7->w.cell? ⟨b,i * 7+j,none⟩=(t.cells ((i:Int)+1) (it i))[j]?)/\RdE KeyL.cells 2 w (it i).1 t.items.length (it i).2 t.items
theorem RdTo.below {it:Nat->Option Addr×Nat} {c:Nat} {l:List TS} (h:RdTo w it ao c l) (hb:Below w.heap.size w w'):RdTo w' it ao c l:=
 ⟨h.cap,fun i t E=>by
  obtain ⟨b,e,A,B,D⟩:=h.row i t E
  exact ⟨b,e,nt A hb.size,fun j C=>by rw [hb.cell (p:=⟨b,i * 7+j,none⟩) A];exact B j C,D.below hb rfl⟩⟩
theorem Zad {w:World} {base:Nat} {e:TypeId} {size n c:Nat} {ao:Option Addr} {xs:List Value} (h:w.ownsRow base e size (.slice ao n c) n xs):n<=c/\c<=maxLen/\(ao=none->n=0):=by
 rcases h.2 with ⟨h',h2⟩ | ⟨g,cap',cur,h',_,_,h1,h2,_⟩
 ·simp only [Value.slice.injEq] at h';obtain ⟨_,B,rfl⟩:=h';exact ⟨by omega,by unfold maxLen;omega,fun _=>B⟩
 simp only [Value.slice.injEq] at h';obtain ⟨A,_,rfl⟩:=h';exact ⟨h1,h2,fun e=>by rw [e] at A;cases A⟩
theorem Yah {base:Nat} {w:World} {it:Nat->Option Addr×Nat} {l:List TS} {ta:Option Addr} {n tc:Nat} (hr:w.ownsRow base 58 7 (.slice ta n tc) n (rowF (toldF it l) n)) {i:Nat} {t:TS} (hi:l[i]?=some t) (hn:i < n):∃ A,ta=some ⟨A,0,none⟩/\A < w.heap.size/\∀ j,j < 7->w.cell? ⟨A,i * 7+j,none⟩=(t.cells ((i:Int)+1) (it i))[j]?:=by
 obtain ⟨A,rfl,_⟩:=Qc hr (by omega);exact ⟨A,rfl,qg hr A rfl,fun j B=>xf (O:=fun _=>0) (tg:=0) ⟨zi hr (nz _),fun _ _=>rfl⟩ hi hn rfl j B⟩
theorem RdTo.of {base:Nat} {w:World} {it:Nat->Option Addr×Nat} {ao:Option Addr} {c:Nat} {l:List TS} (hr:w.ownsRow base 58 7 (.slice ao l.length c) l.length (rowF (toldF it l) l.length))
  (hi:∀ (i:Nat) t,l[i]?=some t->RdE KeyL.cells 2 w (it i).1 t.items.length (it i).2 t.items):RdTo w it ao c l:=
 ⟨Zad hr,fun i t A=>by
  obtain ⟨D,e,C,B⟩:=Yah hr A (lg A).1
  exact ⟨D,e,C,B,hi i t A⟩⟩
theorem ToA.rd {base:Nat} {it:Nat->Option Addr×Nat} {c:Nat} {l:List TS} (h:ToA base w it ao c l l.length):RdTo w it ao c l:=
 RdTo.of h.row (fun i t A=>Za (enc:=KeyL.cells) (fun _=>rfl) rfl (h.its i t (lg A).1 A))
theorem ToA.below {base:Nat} {it:Nat->Option Addr×Nat} {c:Nat} {l:List TS} {k:Nat} (h:ToA base w it ao c l k) (hb:Below w.heap.size w w'):ToA base w' it ao c l k:=
 ⟨Qa h.row hb,fun i t hi A=>Qa (h.its i t hi A) hb,h.ne⟩
theorem zaw (a:Option Addr) (n c n' c':Nat):(Value.slice a n c).ownBlock=(Value.slice a n' c').ownBlock:=by cases a <;> rfl
theorem qv {w:World} {b1 b2:Nat} {e1 e2:TypeId} {c1 c2:List Value} (h1:Blk w b1 e1 c1) (h2:Blk w b2 e2 c2) (A:e1≠e2):b1≠b2:=by
 rintro rfl;unfold Blk at h1 h2;rw [h1] at h2;simp only [Option.some.injEq,Obj.cells.injEq] at h2;exact A h2.2.1
def AlE (l:List TS) (w:World) (e:Ending) (w':World):Prop:=∃ it ao c,e=.returned (.slice ao l.length c)/\ToA w.heap.size w' it ao c l l.length/\Below w.heap.size w w'
def AlTR (l:List TS) (w:World) (v3 v13:Value) (wr:World):Prop:=∃ (k:Nat) (it:Nat->Option Addr×Nat) (ao:Option Addr) (c:Nat),k<=l.length/\v13=.int .i64 k/\v3=.slice ao k c/\Hid (ToA w.heap.size wr it ao c l k)/\Hid (Below w.heap.size w wr)
theorem ToA.nil (base:Nat) (w:World) (l:List TS):ToA base w (fun _=>(none,0)) none 0 l 0:=⟨World.ownsRow_nil _ _ _ _,fun i t h=>by omega,fun i j _ h=>by omega⟩
theorem ToA.app {base:Nat} {w5:World} {it:Nat->Option Addr×Nat} {c k:Nat} {l:List TS} {t:TS} (h:ToA base w it ao c l k) (ht:l[k]?=some t) (hb:Below w.heap.size w w3) (E:Below w3.heap.size w3 w4) {a':Option Addr} {c':Nat} (F:base<=w.heap.size)
  (D:w3.ownsRow w.heap.size 46 2 (.slice a' t.items.length c') t.items.length (t.items.flatMap KeyL.cells)) {ao':Option Addr} {k1 cap':Nat} (K:k1=k+1)
  (I:w5.ownsRow base 58 7 (.slice ao' k1 cap') k1 (rowF (toldF it l) k++t.cells ((k:Int)+1) (a',c'))) (hg:w4.grownBy w5 (Value.ownBlock (.slice ao k c))):
  ToA base w5 (fun j=>if j=k then (a',c') else it j) ao' cap' l (k+1):=by
 subst K
 have P:toldF (fun j=>if j=k then (a',c') else it j) l k=t.cells ((k:Int)+1) (a',c'):=by
  unfold toldF;rw [List.getD_eq_getElem?_getD,ht];show t.cells _ (if k=k then _ else _)=_;rw [if_pos rfl]
 have N:rowF (toldF (fun j=>if j=k then (a',c') else it j) l) k=rowF (toldF it l) k:=Qo fun i hi=>by unfold toldF;show TS.cells _ _ (if i=k then _ else _)=_;rw [io]
 have R:∀ (base:Nat) (a:Option Addr) (n cc:Nat) (Q:List Value),w4.ownsRow base 46 2 (.slice a n cc) n Q->w5.ownsRow base 46 2 (.slice a n cc) n Q:=fun base a n cc Q L=>by
  rcases L.2 with ⟨h',h2⟩ | ⟨g,cap,cur,hv,hbg,hgb,q1,q2,q3,q4⟩
  ·exact ⟨L.1,.inl ⟨h',h2⟩⟩
  ·refine ⟨L.1,.inr ⟨g,cap,cur,hv,hbg,?_,q1,q2,q3,q4⟩⟩
   rw [hg.block g (Array.getElem?_eq_some_iff.1 hgb).1 (fun e=>?_)]
   ·exact hgb
   ·obtain ⟨T,A⟩:∃ T,(Value.slice ao k c).ownBlock=some T:=⟨g,e.symm⟩
    rw [A] at e;cases e;have M:=Qa (Qa h.row hb) (E.mono (nl _));rcases M.2 with ⟨h',h2⟩ | ⟨g2,cap2,cur2,hv2,_,hgb2,_⟩
    ·rw [h'] at A;simp [Value.ownBlock] at A
    ·rw [hv2] at A
     simp only [Value.ownBlock,Option.some.injEq] at A;subst A;rw [hgb] at hgb2;simp only [Option.some.injEq,Obj.cells.injEq] at hgb2;exact absurd hgb2.2.1 (by decide)
 refine ⟨by rw [Qk,P,N];exact I,fun i t' hi G=>?_,fun i j H W b B b' C=>?_⟩
 ·by_cases e:i=k
  ·subst e
   rw [ht] at G;cases G;show w5.ownsRow base _ 2 (.slice (if i=i then _ else _:Option Addr×Nat).1 _ (if i=i then _ else _:Option Addr×Nat).2) _ _;rw [if_pos rfl];exact R _ _ _ _ _ (Qa (zi D F) E)
  simp only [if_neg e]
  exact R _ _ _ _ _ (Qa (Qa (h.its i t' (by omega) G) hb) (E.mono (nl _)))
 by_cases e:j=k
 ·subst e
  rw [if_pos rfl] at C;rw [io] at B;have U:w.heap.size<=b':=Xa D b' (by rw [zaw _ _ _ 0 0];exact C);have J:i < l.length:=by have:=(lg ht).1;omega
  have V:=qg (h.its i l[i] H (le_ J)) b (by rw [zaw _ _ _ 0 0];exact B);omega
 rw [if_neg e] at C
 rw [io] at B;exact h.ne i j H (by omega) b B b' C
theorem yaK (w:World) (h:CW w O A p S) (hn:∀ t∈S.told,t.items.length<=10) (H:S.told.length<=100000):
  Calls prog 32 #[.pointer (some ⟨p,0,none⟩)] w (AlE S.told w):=by
 obtain ⟨i0,hi,Aj,Ak,Al⟩:=info_parts qf;clear hi Aj Ak Al;have Ax:=fun V=>yn p 0 V;have HW:=Hy h;have f:=Hy hn;have W:w.cell? ⟨p,18,none⟩=some (.slice A.ta S.told.length A.tc):=h.blk.cell 18;unfold AlE;have ⟨l,hl⟩:=gn S.told;have HL:=Hy hl;rw [hl] at H W f ⊢;clear h hn hl;have ⟨n,T⟩:=gn l.length;have HN:=Hy T;rw [T] at H W ⊢;clear T;go_in;go_wp2_with fail;clear W;go_loopw [3,13] (fun v3 An wr=>AlTR l w v3 An wr) (fun _ v _=>n - (intOf v).toNat)
 case atStart=>exact ⟨0,_,none,0,nz _,rfl,rfl,ToA.nil _ _ _,bf _ _⟩
 case round=>
  obtain ⟨k,it,ao,c2,s,rfl,rfl,HT,HB⟩:=hrel;rw [HN.o] at s
  by_cases R:k < n
  ·have e1:(k:Int) < (n:Int):=by omega
   have e2:(0:Int)<=(k:Int):=by omega
   obtain ⟨t,y⟩:∃ x,l[k]?=some x:=⟨l[k]'(by rw [HN.o];exact R),le_ _⟩;have P:CW wr O A p S:=HW.below HB.o (AgO.refl _ _);have E:=P.toldRow;rw [HL.o] at E;obtain ⟨Y,z,_,B⟩:=Yah E.1 y (by rw [HN.o];exact R);obtain ⟨⟨a,c⟩,M⟩:∃ x,A.it k=x:=⟨_,rfl⟩;rw [M] at B;have u0:wr.cell? ⟨Y,k * 7,none⟩=some (.int .i64 ((k:Int)+1)):=B 0 (by decide);have u1:wr.cell? ⟨Y,k * 7+1,none⟩=some (.string t.q):=B 1 (by decide);have u2:wr.cell? ⟨Y,k * 7+2,none⟩=some (.int .i64 t.k):=B 2 (by decide);have u3:wr.cell? ⟨Y,k * 7+3,none⟩=some (.int .i64 t.n):=B 3 (by decide)
   have u4:Cl wr Y (k * 7+4) (.slice a t.items.length c):=B 4 (by decide);have u5:wr.cell? ⟨Y,k * 7+5,none⟩=some (.bool t.done):=B 5 (by decide);have u6:wr.cell? ⟨Y,k * 7+6,none⟩=some (.bool t.canc):=B 6 (by decide);have U:=Za (enc:=KeyL.cells) (fun _=>rfl) rfl ((CWx.it P k t (by rw [HL.o];exact y) (fun q=>q)).1);rw [M] at U;have u:=f.o t (lm y);have Ad:=Hy y;rw [z];have ⟨F,G⟩:=gn (wr.alloc (.cells #[.int .i64 ((k:Int)+1),t.q,t.k,t.n,.slice a t.items.length c,.bool t.done,.bool t.canc] 58))
   have N:Below wr.heap.size wr F:=by rw [<- G];exact (bf _ wr).alloc (nl _) _
   have J:Blk F wr.heap.size 58 [.int .i64 ((k:Int)+1),t.q,t.k,t.n,.slice a t.items.length c,.bool t.done,.bool t.canc]:=by rw [<- G];exact hn_ wr _
   have g:=Hy (za0 t ((k:Int)+1) a c F (U.below N rfl) (by omega));have m:=Hy G;have L:=Hy N;have As:=Hy HB.size;have z0:F.cell? ⟨wr.heap.size,0,none⟩=some (.int .i64 ((k:Int)+1)):=J.cell 0;have z1:F.cell? ⟨wr.heap.size,1,none⟩=some (.string t.q):=J.cell 1;have z2:F.cell? ⟨wr.heap.size,2,none⟩=some (.int .i64 t.k):=J.cell 2;have z3:F.cell? ⟨wr.heap.size,3,none⟩=some (.int .i64 t.n):=J.cell 3;have z4:F.cell? ⟨wr.heap.size,4,none⟩=some (.slice a t.items.length c):=J.cell 4;have z5:F.cell? ⟨wr.heap.size,5,none⟩=some (.bool t.done):=J.cell 5;have z6:F.cell? ⟨wr.heap.size,6,none⟩=some (.bool t.canc):=J.cell 6
   clear y P E B M U G N J z u;go_upto_region 17 with fail;rw [m.o];clear m u0 u1 u2 u3 u4 u5 u6;go_wp2_with fail;refine g.mono ?_;clear g z0 z1 z2 z3 z4 z5 z6;rintro e K ⟨a',c',rfl,I,r⟩;have C:Below wr.heap.size wr K:=L.trans (r.mono L.size);have Z:=Hy C;have d:=Hy (HB.trans (C.mono HB.size));have i:=Hy (show K.ownsRow wr.heap.size 46 2 (.slice a' t.items.length c') t.items.length (t.items.flatMap KeyL.cells) from zi I L.size);have j:=Hy (Qa HT.row C);have HG:=Hy (show Below K.heap.size K (K.alloc (.cells #[.int .i64 ((k:Int)+1),t.q,t.k,t.n,.slice a' t.items.length c',.bool t.done,.bool t.canc] 58)) from (bf _ K).alloc (nl _) _)
   have A1:k+1<=maxLen:=by unfold maxLen;omega
   have A2:(k+1) * 72<=140737488355328:=by omega
   have Am:w.heap.size<=K.heap.size:=d.size;clear I r C;go_wp2_with (at_builtin;refine wa qf underlying72 (j.alloc _) (Src.told1 K [.int .i64 ((k:Int)+1),t.q,t.k,t.n,.slice a' t.items.length c',.bool t.done,.bool t.canc] rfl (by simp [Value.oneCell'])) A1 A2 (by simp;omega) ?_;intro Ag c3 w5 D Q;have Ae:=Hy (HT.app Ad.o Z.o HG.o HB.size i.o rfl D Q);have Ab:=Hy ((d.trans (HG.mono Am)).grown Q (by simp;omega) (fun b hb=>(j.lt b hb).1));clear D Q);go_roundw
   case rel=>exact ⟨k+1,_,Ag,c3,by rw [HN.o];omega,by go_num,rfl,Ae.o,Ab.o⟩
   case measure=>simp [intOf];omega
  obtain rfl:k=n:=by omega
  clear R s;go_wp2_with fail;go_ret;exact ⟨it,ao,c2,rfl,HT.o,HB.o⟩
theorem Zbc (t:TS) (id:Int):eqTold t t id id=true:=by
 unfold eqTold qEqv;have h:eqIs t.items t.items=true:=by unfold eqIs;exact decide_eq_true rfl
 simp [h]
def StR (w:World) (n:Nat) (v:Value) (wr:World):Prop:=∃ k:Nat,k<=n/\v=.int .i64 k/\Hid (Below w.heap.size w wr)
theorem zbc (l:List TS) (it V:Nat->Option Addr×Nat) (ao N:Option Addr) (c c':Nat) (w:World) (hr:RdTo w it ao c l) (U:RdTo w V N c' l):
  Calls prog 40 #[.slice ao l.length c,.slice N l.length c'] w fun e w'=>e=.returned (.bool true)/\Below w.heap.size w w':=by
 have HA:=Hy hr;have Y:=Hy U;have g:=hr.cap.1;have h:=hr.cap.2.1;unfold maxLen at h;have ⟨n,G⟩:=gn l.length;have HN:=Hy G;rw [G] at g ⊢;clear G hr U;go_in;go_wp2_with fail;go_loopw [5] (fun v wr=>StR w n v wr) (fun v _=>n - (intOf v).toNat)
 case atStart=>exact ⟨0,nz _,rfl,bf _ _⟩
 case round=>
  obtain ⟨k,i,rfl,HB⟩:=hrel
  by_cases T:k < n
  ·have e1:(k:Int) < (n:Int):=by omega
   have e2:(0:Int)<=(k:Int):=by omega
   obtain ⟨t,m⟩:∃ x,l[k]?=some x:=⟨l[k]'(by rw [HN.o];exact T),le_ _⟩;obtain ⟨b,rfl,_,D,H⟩:=(HA.below HB.o).row k t m;obtain ⟨b',rfl,_,A,C⟩:=(Y.below HB.o).row k t m;obtain ⟨⟨a,P⟩,R⟩:∃ x,it k=x:=⟨_,rfl⟩;obtain ⟨⟨M,Q⟩,E⟩:∃ x,V k=x:=⟨_,rfl⟩;rw [R] at D H;rw [E] at A C;have I:=xbc t t ((k:Int)+1) ((k:Int)+1) a M P Q wr.drew H C;rw [Zbc] at I;have L:=Hy I;have s:wr.drew.cell? ⟨b,k * 7,none⟩=some (.int .i64 ((k:Int)+1)):=D 0 (by decide);have u:wr.drew.cell? ⟨b,k * 7+1,none⟩=some (.string t.q):=D 1 (by decide)
   have y:wr.drew.cell? ⟨b,k * 7+2,none⟩=some (.int .i64 t.k):=D 2 (by decide);have z:wr.drew.cell? ⟨b,k * 7+3,none⟩=some (.int .i64 t.n):=D 3 (by decide);have u4:wr.drew.cell? ⟨b,k * 7+4,none⟩=some (.slice a t.items.length P):=D 4 (by decide);have u5:wr.drew.cell? ⟨b,k * 7+5,none⟩=some (.bool t.done):=D 5 (by decide);have u6:wr.drew.cell? ⟨b,k * 7+6,none⟩=some (.bool t.canc):=D 6 (by decide);have v0:wr.drew.cell? ⟨b',k * 7,none⟩=some (.int .i64 ((k:Int)+1)):=A 0 (by decide);have v1:wr.drew.cell? ⟨b',k * 7+1,none⟩=some (.string t.q):=A 1 (by decide);have v2:wr.drew.cell? ⟨b',k * 7+2,none⟩=some (.int .i64 t.k):=A 2 (by decide)
   have v3:wr.drew.cell? ⟨b',k * 7+3,none⟩=some (.int .i64 t.n):=A 3 (by decide);have v4:wr.drew.cell? ⟨b',k * 7+4,none⟩=some (.slice M t.items.length Q):=A 4 (by decide);have v5:wr.drew.cell? ⟨b',k * 7+5,none⟩=some (.bool t.done):=A 5 (by decide);have v6:wr.drew.cell? ⟨b',k * 7+6,none⟩=some (.bool t.canc):=A 6 (by decide);have d:=Hy (show (wr.drew.cell? ⟨b,k * 7,none⟩=some (.int .i64 ((k:Int)+1))/\wr.drew.cell? ⟨b,k * 7+1,none⟩=some (.string t.q)/\wr.drew.cell? ⟨b,k * 7+2,none⟩=some (.int .i64 t.k)/\wr.drew.cell? ⟨b,k * 7+3,none⟩=some (.int .i64 t.n)/\wr.drew.cell? ⟨b,k * 7+4,none⟩=some (.slice a t.items.length P)/\wr.drew.cell? ⟨b,k * 7+5,none⟩=some (.bool t.done)/\wr.drew.cell? ⟨b,k * 7+6,none⟩=some (.bool t.canc))/\(wr.drew.cell? ⟨b',k * 7,none⟩=some (.int .i64 ((k:Int)+1))/\wr.drew.cell? ⟨b',k * 7+1,none⟩=some (.string t.q)/\wr.drew.cell? ⟨b',k * 7+2,none⟩=some (.int .i64 t.k)/\wr.drew.cell? ⟨b',k * 7+3,none⟩=some (.int .i64 t.n)/\wr.drew.cell? ⟨b',k * 7+4,none⟩=some (.slice M t.items.length Q)/\wr.drew.cell? ⟨b',k * 7+5,none⟩=some (.bool t.done)/\wr.drew.cell? ⟨b',k * 7+6,none⟩=some (.bool t.canc)) from ⟨⟨s,u,y,z,u4,u5,u6⟩,⟨v0,v1,v2,v3,v4,v5,v6⟩⟩)
   have J:=Hy (show b < wr.drew.heap.size/\b' < wr.drew.heap.size from ⟨by assumption,by assumption⟩);clear D A H C I R E s u y z u4 u5 u6 v0 v1 v2 v3 v4 v5 v6 m;go_upto_region 17 with fail;refine wp_region_held_drew (S:=(fun w'=>(w'.cell? ⟨b,k * 7,none⟩=some (.int .i64 ((k:Int)+1))/\w'.cell? ⟨b,k * 7+1,none⟩=some (.string t.q)/\w'.cell? ⟨b,k * 7+2,none⟩=some (.int .i64 t.k)/\w'.cell? ⟨b,k * 7+3,none⟩=some (.int .i64 t.n)/\w'.cell? ⟨b,k * 7+4,none⟩=some (.slice a t.items.length P)/\w'.cell? ⟨b,k * 7+5,none⟩=some (.bool t.done)/\w'.cell? ⟨b,k * 7+6,none⟩=some (.bool t.canc))/\(w'.cell? ⟨b',k * 7,none⟩=some (.int .i64 ((k:Int)+1))/\w'.cell? ⟨b',k * 7+1,none⟩=some (.string t.q)/\w'.cell? ⟨b',k * 7+2,none⟩=some (.int .i64 t.k)/\w'.cell? ⟨b',k * 7+3,none⟩=some (.int .i64 t.n)/\w'.cell? ⟨b',k * 7+4,none⟩=some (.slice M t.items.length Q)/\w'.cell? ⟨b',k * 7+5,none⟩=some (.bool t.done)/\w'.cell? ⟨b',k * 7+6,none⟩=some (.bool t.canc)))) (by kernel_rfl) (by first | exact d.o | exact f.o) (fun F=>?_)
   (iterate 8 refine tq 0 ?_);refine rdy 8 fun K r=>?_;go_simp;refine L.mono ?_;rintro e B ⟨rfl,W⟩;have Z:=Hy ((HB.drew).trans (W.mono HB.size));have f:=Hy (by (have q1:=fun j=>W.cell (p:=⟨b,j,none⟩) J.1);(have q2:=fun j=>W.cell (p:=⟨b',j,none⟩) J.2);(simp only [q1,q2]);exact d.o:(B.cell? ⟨b,k * 7,none⟩=some (.int .i64 ((k:Int)+1))/\B.cell? ⟨b,k * 7+1,none⟩=some (.string t.q)/\B.cell? ⟨b,k * 7+2,none⟩=some (.int .i64 t.k)/\B.cell? ⟨b,k * 7+3,none⟩=some (.int .i64 t.n)/\B.cell? ⟨b,k * 7+4,none⟩=some (.slice a t.items.length P)/\B.cell? ⟨b,k * 7+5,none⟩=some (.bool t.done)/\B.cell? ⟨b,k * 7+6,none⟩=some (.bool t.canc))/\(B.cell? ⟨b',k * 7,none⟩=some (.int .i64 ((k:Int)+1))/\B.cell? ⟨b',k * 7+1,none⟩=some (.string t.q)/\B.cell? ⟨b',k * 7+2,none⟩=some (.int .i64 t.k)/\B.cell? ⟨b',k * 7+3,none⟩=some (.int .i64 t.n)/\B.cell? ⟨b',k * 7+4,none⟩=some (.slice M t.items.length Q)/\B.cell? ⟨b',k * 7+5,none⟩=some (.bool t.done)/\B.cell? ⟨b',k * 7+6,none⟩=some (.bool t.canc)));clear W d HB L
   go_wp2_with fail;refine hk r fun F=>?_;clear r K;refine tk 9 ?_;refine dn ?_;go_wp2_with fail;go_roundw
   case rel=>exact ⟨k+1,by omega,by go_num,Z.o⟩
   case measure=>simp [intOf];omega
  obtain rfl:k=n:=by omega
  clear T i;go_wp2_with fail;go_ret;exact ⟨rfl,HB.o⟩
theorem XP {P:Program} {fn:Func} {p q:Tmp} {ty:TypeId} (h:fn.results=#[.cell p ty,.tmp q]) (A:Array Value) (w:World) (g:Nat) (t:TypeId) (cs:Array Value) (fr:Nat×Nat) (d:TypeDesc)
  (hp:A.getD p undef=.pointer (some ⟨g,0,none⟩)) (hg:w.heap[g]?=some (.cells cs t fr))
  (hu:P.underlying ty=some d) (hd:(match d with | .struct _ | .array _ _=>true | _=>false)=true) (hi:(P.info? ty).map (·.size)=some cs.size) (v:Value) (hq:A.getD q undef=v):
  (results fn A).run P w=.ok (.tuple #[.agg cs,v]) w:=by
 have B:A[p]?.getD undef=.pointer (some ⟨g,0,none⟩):=by simpa using hp
 have C:A[q]?.getD undef=v:=by simpa using hq
 simp [results,h,B,C,asAddr,run_loadVar_row w g t ty cs fr d hg hu hd hi]
theorem fsetRowR {g:Nat} (cs:Array Value):Frm (fun k=>k=g) w (w.setRow g cs):=
 ⟨rfl,rfl,rfl,by simp [World.setRow],fun k _ A=>setRow_other w g k cs (fun e=>A e)⟩
theorem qB:(Tryz.prog.info? 65).map (·.size)=some 8:=by kernel_rfl
theorem Q2 {w:World} {base:Nat} {e:TypeId} {size n c:Nat} {ao:Option Addr} {xs:List Value} (h:w.ownsRow base e size (.slice ao n c) n xs):n<=c/\c<=maxLen/\(ao=none->n=0/\c=0):=by
 rcases h.2 with ⟨h',h2⟩ | ⟨g,cap',cur,h',_,_,h1,h2,_⟩
 ·simp only [Value.slice.injEq] at h';obtain ⟨_,B,rfl⟩:=h';exact ⟨by omega,by unfold maxLen;omega,fun _=>⟨B,rfl⟩⟩
 simp only [Value.slice.injEq] at h';obtain ⟨A,_,rfl⟩:=h';exact ⟨h1,h2,fun e=>by rw [e] at A;cases A⟩
theorem qaW (ao:Option Addr) (n c t:Nat) (A:t<=c):∀ W,(Instr.sliceAt 56 (.slice ao n c) none (some (.int .i64 t)) none).run prog W=.ok (.slice ao t c) W:=by
 have B:(0:Int)<=(t:Int):=by omega
 have C:(t:Int)<=(c:Int):=by omega
 intro W;cases ao with
 | none=>go_simp
 | some x=>go_simp
def RiE (o:Option RV) (w:World) (e:Ending) (w':World):Prop:=Below w.heap.size w w'/\match o with
 | none=>e=.returned (.tuple #[.agg #[(),(),(),(),(),(),.slice none 0 0,false],false])
 | some v=>∃ a c,e=.returned (.tuple #[.agg #[v.s,v.q,v.h,v.sq,v.wk,v.ep,.slice a v.l.length c,.bool v.en],true])/\RdE KeyL.cells 2 w' a v.l.length c v.l/\∀ b o sp,a=some ⟨b,o,sp⟩->w.heap.size<=b
def RiR (B0 w7:World) (hd:Bool) (last:KeyL) (all:List KeyL) (v12 v13:Value) (wr:World):Prop:=∃ (k m:Nat) (ao:Option Addr) (c:Nat),k<=all.length/\m<=k/\v13=.int .i64 k/\v12=.slice ao m c/\Hid ((restP hd last (all.take k)).length=m)/\Hid (wr.ownsRow w7.heap.size 46 2 (.slice ao m c) m ((restP hd last (all.take k)).flatMap KeyL.cells))/\Hid (Below w7.heap.size w7 wr)
theorem xaE (O:Own) (B:RA) (r:Nat) (c:CfgM) (S:CS) (v:AV) (ns:Nat) (b:Int) (w:World) (h:RW w O B r c S) (hm:mayC c=true) (hz:c.short) (CR:c.words.length<=80/\∀ x∈c.words,x.size<=100) (AK:S.OK ns b) (Cb:(ns:Int)=shardsC c) (DI:S.t.workers=S.c.wk) (Bg:b<=800000) (Cf:c.sl=(S.L.length:Int)) (hq:∀ t∈S.told,t.q.size<=100):
  Calls prog 38 #[.pointer (some ⟨r,0,none⟩),.agg #[v.d,v.i,v.j,v.x,v.tx,v.k,v.n,v.s,v.q,v.h,v.sq,v.wk,v.ep,.slice v.a v.l.length v.c,.bool v.en]] w (RiE (S.rightV c v.i v.j v.x) w):=by
 have CT:S.told.length<=800000:=by have:=AK.tl;omega
 have CZ:=Zf hm;have D6:(c.cuts.length:Int)+1=(ns:Int):=by rw [Cb,yd hm]
 have AJ:c.nc=c.cuts.length:=h.cf.ok.rk.1.symm;have Ej:1<=ns/\ns<=6:=by have:=xe c;omega
 have Cg:=AK.sl.len;obtain ⟨j,hj⟩:∃ j:Nat,lowI v.i c.sl=(j:Int):=⟨(lowI v.i c.sl).toNat,by have:=zh v.i c.sl (by omega);omega⟩;have D9:j < S.L.length:=by have:=zh v.i c.sl (by omega);omega
 have BY:j < 4:=by omega
 obtain ⟨sh,Ce⟩:∃ s:Nat,lowI v.j ((c.cuts.length:Int)+1)=(s:Int):=⟨(lowI v.j ((c.cuts.length:Int)+1)).toNat,by have:=zh v.j ((c.cuts.length:Int)+1) (by omega);omega⟩;have B2:sh < ns:=by have:=zh v.j ((c.cuts.length:Int)+1) (by omega);omega
 obtain ⟨y,hy⟩:∃ y:Nat,lowI v.x c.cp=(y:Int):=⟨(lowI v.x c.cp).toNat,by have:=zh v.x c.cp (by omega);omega⟩;have DK:(y:Int) < c.cp:=by have:=zh v.x c.cp (by omega);omega
 have HV:=Hy (by unfold CS.rightV;rw [hj,Ce,hy,Int.toNat_natCast,Int.toNat_natCast,Int.toNat_natCast]:S.rightV c v.i v.j v.x=if S.L.getD j 0=0 then none else some (S.rightR c j (S.L.getD j 0) sh y));have AG:=fun V=>Z0 v.i c.sl V (by omega) (by omega);rw [hj] at AG;have Bo:=Hy AG;have AH:=fun V=>Z0 v.j ((c.nc:Int)+1) V (by omega) (by omega);rw [AJ,Ce,<- AJ] at AH;have Bp:=Hy AH;obtain ⟨cp,f⟩:∃ cp:Nat,c.cp=(cp:Int):=⟨c.cp.toNat,by omega⟩;have AI:=fun V=>Z0 v.x (cp:Int) V (by omega) (by omega);rw [<- f,hy,f] at AI;have Bq:=Hy AI
 have E2:IntKind.i64.wrap ((c.nc:Int)+1)=(c.nc:Int)+1:=zq _ (by omega) (by omega);obtain ⟨ba,CN⟩:∃ ba:Nat,c.ba=(ba:Int):=⟨c.ba.toNat,by have:=qaj hm;omega⟩;have B4:=Hy CN;have HW:=Hy h;have BC:=Hy AK;have HT:=Hy AK.t;have Ds:=Hy hq;have AU:=Hy CR;have Ea:=Hy f;have Ed:=Hy Cf;have Ev:=Hy CZ;have Do:=Hy (by omega:c.cuts.length<=100);obtain ⟨ac,cc,CO⟩:=h.cc;have D7:S.c.wk=c.wk:=by rw [CO];rfl
 have ⟨wn,Cj⟩:=gn (copW c sh y);have Ch:=qL (c:=c) (by omega) sh y;have DH:=qak (c:=c) (by omega) sh y;rw [Cj] at Ch;have Df:1<=wn/\(wn:Int)<=c.wk:=by omega
 have Ek:1<=wn/\wn<=5:=by omega
 have ⟨EP,CF⟩:=gn ((S.t.at (wn:Int)).epoch);have Cv:=Hy CF;have Dw:=Hy Cj;have By:copiesC c (sh:Nat)=copN c sh:=by rw [Yf (by unfold inB;rw [<- Cb];simp;omega)];rfl
 have B0:(copN c sh).length=cp:=by unfold copN;rw [List.length_map,List.length_range,f,Int.toNat_natCast]
 have Bz:(ints (copN c sh))[y]?=some (.int .i64 (wn:Int)):=by unfold ints;rw [List.getElem?_map,QD (by rw [f,Int.toNat_natCast];omega),<- Ch];rfl
 have Cx:=Hy Bz;have Dp:=Hy By;have Cy:=Hy B0;have Eh:1<=cp/\cp<=3:=by omega
 have Dh:(y:Int) < (cp:Int):=by omega
 have ⟨W1,A9⟩:=gn (w.alloc (.cells #[v.d,v.i,v.j,v.x,v.tx,v.k,v.n,v.s,v.q,v.h,v.sq,v.wk,v.ep,.slice v.a v.l.length v.c,.bool v.en] 67));have ⟨W2,AA⟩:=gn (W1.alloc (.cells #[(),(),(),(),(),(),.slice none 0 0,false] 65));have Am:W1.heap.size=w.heap.size+1:=by rw [<- A9];simp
 have BQ:Below w.heap.size w W1:=by rw [<- A9];exact (bf _ w).alloc (nl _) _
 have BR:Below W1.heap.size W1 W2:=by rw [<- AA];exact (bf _ W1).alloc (nl _) _
 have BT:=BQ.trans (BR.mono BQ.size);have hx:=(by rw [<- A9];exact hn_ w _:Blk W1 w.heap.size 67 [v.d,v.i,v.j,v.x,v.tx,v.k,v.n,v.s,v.q,v.h,v.sq,v.wk,v.ep,.slice v.a v.l.length v.c,.bool v.en]).below BR (by rw [Am];omega);have Dg:Blk W2 (w.heap.size+1) 65 [(),(),(),(),(),(),.slice none 0 0,false]:=by rw [<- AA,<- Am];exact hn_ W1 _
 have HX:=Hy hx;have HY:=Hy Dg;have HB:=Hy BT;rw [<- A9] at AA;let CC:World->Prop:=fun w'=>Ci w' w.heap.size 1 v.i/\Ci w' r 4 c.sl;have BF:=Hy (show CC W2.drew from ⟨hx.cell 1,(h.below BT (AgO.refl _ _)).cell 4⟩);clear h hm AK Cb DI Bg Cf hq CR hz CZ D6 AJ Cg hj Ce hy AG AH AI f CN CO D7 Cj Ch DH Df CF By B0 Bz A9 Am BQ BR BT hx Dg DK;go_in;go_upto_region 17 with (rw [AA]);clear AA;refine rg CC fun A=>?_
 (iterate 7 refine tq 0 ?_);refine rdy 7 fun K hK=>?_;go_simp;refine (Bo.o _).mono ?_;rintro e w' ⟨rfl,rfl⟩;go_wp2_with fail;refine hk hK fun A=>?_;clear hK K;refine tk 8 ?_;refine dn ?_;clear A BF Bo;have E:Below W2.heap.size W2 W2.drew:=below_drewN (bf _ W2) 1;have A8:=Hy (HX.below E HX.lt);have Aw:=Hy (HY.below E HY.lt);have I:=Hy (HB.trans (E.mono HB.size));have ⟨W3,CI⟩:=gn W2.drew
 rw [CI] at A8 Aw I ⊢;have H3:=Hy (HW.below I.o (AgO.refl _ _));clear E CI HX HY HB;have E7:=fun b V=>YQ b V;have E6:=fun V=>ZQ V;have j1:(0:Int)<=(j:Int):=by omega
 have j2:(j:Int) < 4:=by omega
 by_cases F:S.L.getD j 0=0
 ·have xq:=H3.qcell0 F BY
  go_wp2_with (refine wpList_store_row rfl 65 _ _ rfl (w.heap.size+1) #[(),(),(),(),(),(),.slice none 0 0,false] rfl rfl _ #[(),(),(),(),(),(),.slice none 0 0,false] Aw.o qB rfl (by simp [Value.oneCell']) ?_);have hS:=setRow_heap W3 (w.heap.size+1) #[(),(),(),(),(),(),.slice none 0 0,false] #[(),(),(),(),(),(),.slice none 0 0,false] 65 (0,0) Aw.o
  have p:Frm (fun k=>k=w.heap.size+1) W3 (W3.setRow (w.heap.size+1) #[(),(),(),(),(),(),.slice none 0 0,false]):=fsetRowR #[(),(),(),(),(),(),.slice none 0 0,false];refine bodyPost_ret (XP rfl _ _ (w.heap.size+1) 65 #[(),(),(),(),(),(),.slice none 0 0,false] (0,0) _ rfl hS underlying65 rfl qB _ rfl) rfl ?_;rw [HV.o,if_pos F];exact ⟨⟨p.os.trans I.os,p.tape.trans I.tape,p.output.trans I.output,nr I.size p.size,fun q hq=>(p.block q (nt hq I.size) (by show ¬ q=w.heap.size+1;omega)).trans (I.block q hq)⟩,rfl⟩
 have hg:=Xk F;have ⟨id,BX⟩:=gn (S.L.getD j 0);rw [BX] at hg F;have Dv:=Hy (by rw [HV.o,BX,if_neg F]:S.rightV c v.i v.j v.x=some (S.rightR c j id sh y));clear HV BX;have At:=lm hg;have Br:=Hy At;have HQ:=Hy (BC.q id At F);have HG:=Hy hg;have CU:=BC.sl.le id At;have DG:=BC.tl;have xq:=H3.qcell hg F BY;let CD:World->Prop:=fun w'=>Ci w' w.heap.size 2 v.j/\Cl w' r 1 (.slice c.ac c.nc c.cc);have BF:=Hy (show CD W3.drew from ⟨A8.cell 2,H3.cell 1⟩)
 clear hg At;go_upto_region 33 with fail;refine rg CD fun A=>?_;(iterate 9 refine tq 0 ?_);refine rdy 9 fun K hK=>?_;go_simp;refine (Bp.o _).mono ?_;rintro e w' ⟨rfl,rfl⟩;go_wp2_with fail;refine hk hK fun A=>?_;clear hK K;refine tk 10 ?_;refine dn ?_;clear A BF Bp xq;have E:Below W3.heap.size W3 W3.drew:=below_drewN (bf _ W3) 1
 have AZ:=Hy (A8.below E A8.lt);have Ba:=Hy (Aw.below E Aw.lt);have Ai:=Hy (I.trans (E.mono I.size));have ⟨W4,CJ⟩:=gn W3.drew;rw [CJ] at AZ Ba Ai ⊢;have H4:=Hy (HW.below Ai.o (AgO.refl _ _));clear E CJ A8 Aw I H3;have DX:=H4.qcell HG.o F BY;have ym:=H4.mcell Br.o F;obtain ⟨qs,cq,R,sp,ta,tc,hX,-,-,-,-,-⟩:=RWx.mg H4.o id Br.o F (fun q=>q);have xm:=hX.c3.1;rw [HQ.len] at xm;obtain ⟨C,AL⟩:∃ x,(S.Q id).S[sh]?=some x:=⟨(S.Q id).S[sh]'(by rw [HQ.len];exact B2),le_ _⟩
 obtain ⟨m,s',DD,Am,Az,Dc⟩:=hX.at (i:=sh) (by rw [HQ.len];exact B2);rw [AL] at Am;obtain rfl:=Option.some.inj Am;obtain ⟨z0,z1,z2,z3,z4,z5,z6⟩:=Dc.c2;rw [Az.least] at z0;rw [Az.seq] at z1;rw [Az.ended] at z2;rw [Az.heard] at z3;rw [Az.last] at z4 z5;have Dd:seqP (S.Q id).S (sh:Nat)=C.seq:=by unfold seqP;rw [ZK,AL]
 have CK:afterP (S.Q id).S (sh:Nat)=(C.last,C.heard):=by unfold afterP;rw [ZK,AL]
 have ⟨G,AD⟩:=gn (allL (sliceL c.cuts c.words (sh:Nat)) (S.Q id).q (S.Q id).k);have Db:restQ S c id sh=restP C.heard C.last G:=by unfold restQ;rw [CK,AD]
 have BE:=Hy (by unfold CS.rightR;rw [Dd,Db,Dw.o,Cv.o,B4.o,Int.toNat_natCast]:S.rightR c j id sh y=⟨(j:Nat),(id:Nat),(sh:Nat),C.seq,(wn:Nat),EP,(restP C.heard C.last G).take (min ba (restP C.heard C.last G).length),decide (min ba (restP C.heard C.last G).length=(restP C.heard C.last G).length)⟩);have s1:(0:Int)<=(sh:Int):=by omega
 have s2:(sh:Int) < (ns:Int):=by omega
 have ⟨W5,AB⟩:=gn (W4.alloc (.cells #[C.least,C.seq,.bool C.ended,.bool C.heard,C.last.1,C.last.2,.slice m.wa m.wn m.wc] 172));have ⟨W6,Be⟩:=gn (W5.alloc (.cells #[.string (S.Q id).q,.int .i64 (S.Q id).k,.int .i64 (S.Q id).n] 40));have Bi:W5.heap.size=W4.heap.size+1:=by rw [<- AB];simp
 have Bf:Below W4.heap.size W4 W5:=by rw [<- AB];exact (bf _ W4).alloc (nl _) _
 have BS:Below W5.heap.size W5 W6:=by rw [<- Be];exact (bf _ W5).alloc (nl _) _
 have As:=Bf.trans (BS.mono Bf.size);have U:=(by rw [<- AB];exact hn_ W4 _:Blk W5 W4.heap.size 172 [C.least,C.seq,.bool C.ended,.bool C.heard,C.last.1,C.last.2,.slice m.wa m.wn m.wc]).below BS (by rw [Bi];omega);have Da:Blk W6 (W4.heap.size+1) 40 [.string (S.Q id).q,.int .i64 (S.Q id).k,.int .i64 (S.Q id).n]:=by rw [<- Be,<- Bi];exact hn_ W5 _
 have AX:=Hy U;have AW:=Hy Da;have J:=Hy (Ai.trans (As.mono Ai.size));have BH:=Hy (AZ.below As AZ.lt);have BJ:=Hy (Ba.below As Ba.lt);have H5:=Hy (HW.below (Ai.trans (Bf.mono Ai.size)) (AgO.refl _ _));have DV:W5.cell? ⟨r,14,none⟩=some (.pointer (some ⟨B.sl,0,none⟩)):=H5.cell 14;obtain ⟨y0,y1⟩:=H5.scell HG.o;have ⟨LN,CG⟩:=gn S.L.length;rw [CG] at y0 D9;clear CG;have j3:(j:Int) < (LN:Int):=by omega
 obtain ⟨i,hi⟩:∃ i,id=i+1:=⟨id - 1,by omega⟩;have Bk:=HQ.told;have AM:=Ds.o _ (lm Bk);simp only at AM;rw [show id - 1=i by omega] at Bk;obtain ⟨tb,De,Bj⟩:=H5.tcell Bk;have Ck:W5.cell? ⟨r,20,none⟩=some (.slice B.aa S.told.length B.ac):=H5.cell 20;rw [De] at Ck;have ⟨TL,CH⟩:=gn S.told.length;rw [CH] at Ck CU CT;have i1:(i:Int) < (TL:Int):=by omega
 have i0:(0:Int)<=(i:Int):=by omega
 have E1:IntKind.i64.wrap ((id:Int) - 1)=(i:Int):=by rw [show (id:Int) - 1=(i:Int) by omega];exact zq _ (by omega) (by omega)
 have t1:Ct W5 tb (i * 7+1) ((S.Q id).q):=Bj 1 (by omega);have t2:W5.cell? ⟨tb,i * 7+1+1,none⟩=some (.int .i64 (S.Q id).k):=Bj 2 (by omega);have t3:W5.cell? ⟨tb,i * 7+1+2,none⟩=some (.int .i64 (S.Q id).n):=Bj 3 (by omega);have AC:=qae;have CP:CfgOK W4 c:=H4.cf.ok;have Bn:=Hy AD;have Ew:=Hy AL;have C2:=Hy AM;have Et:=Hy hi;clear AC CP AD AL AM hi Bk De Bj CH DG DD Am Az Dc hX Dd CK Db;have C6:=Hy Bi;have C8:=Hy Be;have Bt:=Hy AB;clear AB Be Bi Bf BS As U Da AZ Ba Ai;go_upto_region 77 with (first | rw [Bt.o] | rw [C8.o])
 rw [C6.o];clear C6 C8 Bt H5 DX ym xm z0 z1 z2 z3 z4 z5 z6 DV y0 y1 Ck t1 t2 t3 H4;have ⟨sb,U⟩:=gn W4.heap.size;rw [U] at AX AW ⊢;clear U;let CE:World->Prop:=fun w'=>Cl w' r 0 (.slice c.aw c.nw c.cw)/\Cl w' r 1 (.slice c.ac c.nc c.cc)/\Ci w' r 2 c.wk/\Ci w' r 3 c.cp/\Ci w' r 4 c.sl/\Ci w' r 5 c.ba/\Ci w' r 6 c.le/\Ci w' r 7 c.he/\Ci w' r 8 c.fi/\Ci w' r 9 c.ca/\Ci w' r 10 c.ji/\Ci w' r 11 c.ne/\Ct w' (sb+1) 0 ((S.Q id).q)/\Ci w' (sb+1) 1 ((S.Q id).k)
 have AT:=Hy (fun (V:World) (hV:Below W6.heap.size W6 V)=>show CE V from by
  have H:=HW.below (J.trans (hV.mono J.size)) (AgO.refl _ _);have hQ:=AW.below hV AW.lt;exact ⟨H.cell 0,H.cell 1,H.cell 2,H.cell 3,H.cell 4,H.cell 5,H.cell 6,H.cell 7,H.cell 8,H.cell 9,H.cell 10,H.cell 11,hQ.cell 0,hQ.cell 1⟩)
 have Af:Below W6.heap.size W6 W6.drew:=below_drewN (bf _ W6) 1;have A5:=Hy (AT.o _ Af);have g:=Hy Af;have Ag:=QaI c (sh:Nat) W6.drew (HW.below (J.trans (Af.mono J.size)) (AgO.refl _ _)).cf.ok Do.o (by have:=AU.1;omega);unfold CfgM.val at Ag;have AY:=Hy Ag;clear Af Ag;refine rg CE fun A=>?_;(iterate 5 refine tq 0 ?_);(iterate 4 refine tq 6 ?_);refine rdy 5 fun K hK=>?_;go_simp;refine AY.mono ?_;rintro e w7 ⟨Dk,wc,rfl,D,CL⟩;have Ap:=Hy (g.trans (CL.mono g.size));have B9:=Hy (AT.o _ Ap.o);have AC:=qae w7 Dk _ wc (sliceL c.cuts c.words (sh:Nat)) (S.Q id).q (S.Q id).k (show RdT w7 Dk _ wc (sliceL c.cuts c.words (sh:Nat)) from Yc D) (nr (List.length_filter_le _ _) (by have:=AU.1;omega)) (fun x hx=>nr (AU.2 x (List.mem_filter.1 hx).1) (by omega)) (by have:=C2.o;omega);rw [Bn.o] at AC;have Cu:=Hy AC;clear AC D CL AY
 go_wp2_with fail;refine hk hK fun A=>?_;clear hK K
 refine rdy 10 fun K hK=>?_;go_simp;refine Cu.mono ?_;rintro e w8 ⟨la,lc,rfl,D,CM⟩;have Z:=Hy (Ap.trans (CM.mono Ap.size));have Dq:=Hy (AT.o _ Z.o);have Dt:=Hy (Za (enc:=KeyL.cells) (fun _=>rfl) rfl D);clear D CM Cu;go_wp2_with fail;refine hk hK fun A=>?_;clear hK K;refine tk 11 ?_;refine dn ?_;clear A A5 B9 Dq g Ap AT;have B3:=Hy (J.trans (Z.mono J.size));have Ar:=Hy (AX.below Z.o AX.lt)
 have CB:=Hy (BH.below Z.o BH.lt);have BK:=Hy (BJ.below Z.o BJ.lt);clear Z AX AW J BH BJ;obtain ⟨i0,hi,DL,DM,DN⟩:=info_parts Qf;clear hi DL DM DN;have BP:G.length<=80:=by rw [<- Bn.o];exact nr (xaJ _ _ _) (nr (List.length_filter_le _ _) AU.1)
 have ⟨n,hn⟩:=gn G.length;have HN:=Hy hn;rw [hn] at BP ⊢;clear hn;go_wp2_with fail;go_loopw [12,13] (fun DQ DR wr=>RiR w w8 C.heard C.last G DQ DR wr) (fun _ v _=>n - (intOf v).toNat)
 case atStart=>exact ⟨0,0,none,0,nz _,nl _,rfl,rfl,rfl,World.ownsRow_nil _ _ _ _,bf _ _⟩
 case round=>
  obtain ⟨k,Y,u,c2,Ay,E5,rfl,rfl,T,HO,HB⟩:=hrel;rw [HN.o] at Ay
  by_cases CY:k < n
  ·have e1:(k:Int) < (n:Int):=by omega
   have e2:(0:Int)<=(k:Int):=by omega
   obtain ⟨x,hx⟩:∃ x,G[k]?=some x:=⟨G[k]'(by rw [HN.o];exact CY),le_ _⟩;obtain ⟨b1,o1,rfl,q0,q1,E4⟩:=(RdE.atI (Dt.below HB.o rfl) hx);have An:=Xan C.heard C.last (G.take k) x;rw [<- xC hx] at An;have Aa:=Hy An;have U:=Ar.below HB.o Ar.lt;have b3:wr.cell? ⟨sb,3,none⟩=some (.bool C.heard):=U.cell 3;have b4:wr.cell? ⟨sb,4,none⟩=some (.int .i64 C.last.1):=U.cell 4;have b5:wr.cell? ⟨sb,4+1,none⟩=some (.string C.last.2):=U.cell 5;have Cz:=Hy (fun V=>itless C.last x V);have A4:=Hy (fun (V:World) (hV:Below wr.heap.size wr V)=>show Cl V sb 3 (.bool C.heard)/\Ci V sb 4 C.last.1/\Ct V sb (4+1) C.last.2/\Ci V b1 (o1+k * 2) x.1/\Ct V b1 (o1+k * 2+1) x.2 from ⟨(hV.cell (cell?_lt b3)).trans b3,(hV.cell (cell?_lt b4)).trans b4,(hV.cell (cell?_lt b5)).trans b5,(hV.cell (cell?_lt q0)).trans q0,(hV.cell (cell?_lt q1)).trans q1⟩)
   have Af:Below wr.heap.size wr wr.drew:=below_drewN (bf _ wr) 1;have A5:=Hy (A4.o _ Af);have g:=Hy Af;have A1:Y+1<=maxLen:=by unfold maxLen;omega
   have A2:(Y+1) * 24<=140737488355328:=by omega
   have E8:w8.heap.size<=wr.heap.size:=HB.size;have ⟨hd,BW⟩:=gn C.heard;clear hx An U b3 b4 b5 q0 q1 Af;go_upto_region 94 with fail;rw [BW] at A4 A5 Aa HO T;have Av:=Hy BW;clear BW;cases hd;rotate_left 1
   ·skip
    have ⟨kl,BZ⟩:=gn (kless C.last x);rw [BZ] at Cz Aa;have Eu:=Hy BZ;clear BZ;refine rg (fun w'=>Cl w' sb 3 (.bool true)/\Ci w' sb 4 C.last.1/\Ct w' sb (4+1) C.last.2/\Ci w' b1 (o1+k * 2) x.1/\Ct w' b1 (o1+k * 2+1) x.2) fun A=>?_;(iterate 10 refine tq 0 ?_);refine rdy 10 fun K hK=>?_;go_simp;refine (Cz.o _).mono ?_;rintro e w9 ⟨rfl,Bg⟩;have Au:=Hy (g.trans (Bg.mono g.size));have B9:=Hy (A4.o _ Au.o);clear Bg;go_wp2_with fail;refine hk hK fun A=>?_;clear hK K;refine tk 11 ?_;refine dn ?_;clear A A5 B9;cases kl
    ·have Ab:=Hy (by decide:¬ (!true||false)=true)
     have A6:=Hy (Qa HO.o Au.o);have Aj:=Hy (HB.trans (Au.mono HB.size));go_wp2_with fail;go_roundw
     case rel=>exact ⟨k+1,Y,u,c2,by rw [HN.o];omega,by omega,by go_num,rfl,(by unfold Hid;rw [Av.o,Aa.o,if_neg Ab.o,List.append_nil,T.o]),(by unfold Hid;rw [Av.o,Aa.o,if_neg Ab.o,List.append_nil];exact A6.o),Aj.o⟩
     case measure=>simp [intOf];omega
    have Ab:=Hy (by decide:(!true||true)=true)
    have Al:=A4.o w9 Au.o;have q0:=Al.2.2.2.1;have q1:=Al.2.2.2.2;have A6:=Hy (Qa HO.o Au.o);have A7:=Hy (show ((w9.alloc (.cells #[x.1,x.2] 46))).ownsRow w8.heap.size 46 2 (.slice u Y c2) Y ((restP true C.last (G.take k)).flatMap KeyL.cells) from A6.alloc _);have Aj:=Hy (HB.trans (Au.mono HB.size));have AN:w8.heap.size<=w9.heap.size:=Aj.size;have B7:=Hy (show Below w8.heap.size w8 ((w9.alloc (.cells #[x.1,x.2] 46))) from Aj.alloc AN _);clear Al;go_wp2_with (at_builtin;refine wa Qf underlying56 A7.o (Src.item1 w9 x) A1 A2 (by simp;omega) ?_;intro BO c3 w5 N AF;have BB:=Hy N;have J:=Hy (B7.grown AF (by simp;omega) (fun b hb=>(A7.lt b hb).1));clear N AF)
    go_roundw
    case rel=>exact ⟨k+1,Y+1,BO,c3,by rw [HN.o];omega,by omega,by go_num,rfl,(by unfold Hid;rw [Av.o,Aa.o,if_pos Ab.o,List.length_append,T.o];rfl),(by unfold Hid;rw [Av.o,Aa.o,if_pos Ab.o,List.flatMap_append,List.flatMap_cons,List.flatMap_nil,List.append_nil];exact BB.o),J.o⟩
    case measure=>simp [intOf];omega
   have Ab:=Hy (by simp:(!false||kless C.last x)=true)
   refine rg (fun w'=>Cl w' sb 3 (.bool false)/\Ci w' sb 4 C.last.1/\Ct w' sb (4+1) C.last.2/\Ci w' b1 (o1+k * 2) x.1/\Ct w' b1 (o1+k * 2+1) x.2) fun A=>?_;(iterate 12 first | refine tq 0 ?_ | refine tr 0 ?_);refine dn ?_
   clear A A5;have Al:=A4.o wr.drew g.o;have q0:=Al.2.2.2.1;have q1:=Al.2.2.2.2;have A6:=Hy (Qa HO.o g.o);have A7:=Hy (show ((wr.alloc (.cells #[x.1,x.2] 46)).drew).ownsRow w8.heap.size 46 2 (.slice u Y c2) Y ((restP false C.last (G.take k)).flatMap KeyL.cells) from A6.alloc _);have Aj:=Hy (HB.trans (g.mono HB.size));have AN:w8.heap.size<=wr.heap.size:=Aj.size;have B7:=Hy (show Below w8.heap.size w8 ((wr.alloc (.cells #[x.1,x.2] 46)).drew) from Aj.alloc AN _);clear Al
   go_wp2_with (at_builtin;refine wa Qf underlying56 A7.o (Src.item1 wr.drew x) A1 A2 (by simp;omega) ?_;intro BO c3 w5 N AF;have BB:=Hy N;have J:=Hy (B7.grown AF (by simp;omega) (fun b hb=>(A7.lt b hb).1));clear N AF);go_roundw
   case rel=>exact ⟨k+1,Y+1,BO,c3,by rw [HN.o];omega,by omega,by go_num,rfl,(by unfold Hid;rw [Av.o,Aa.o,if_pos Ab.o,List.length_append,T.o];rfl),(by unfold Hid;rw [Av.o,Aa.o,if_pos Ab.o,List.flatMap_append,List.flatMap_cons,List.flatMap_nil,List.append_nil];exact BB.o),J.o⟩
   case measure=>simp [intOf];omega
  obtain rfl:k=n:=by omega
  clear CY Ay;have D:=HO.o;rw [List.take_of_length_le (by rw [HN.o];exact Nat.le_refl _)] at D T;have ⟨AP,Cd⟩:=gn (restP C.heard C.last G);rw [Cd] at D T BE;have C5:=Hy (Za (enc:=KeyL.cells) (fun _=>rfl) T.o D);have C4:=Hy (show ∀ b o sp,u=some ⟨b,o,sp⟩->w8.heap.size<=b from fun b o sp e=>Xa D b (by rw [e];rfl));have C0:=Hy (Q2 D);have ⟨P,CX⟩:=gn (min ba Y);rw [T.o,CX] at BE;have Ca:P<=Y:=by omega
  have Ee:(if (Y:Int) < (ba:Int) then (Y:Int) else (ba:Int))=(P:Int):=by split <;> omega
  have D2:(if Y < ba then (Y:Int) else (ba:Int))=(P:Int):=by split <;> omega
  have BU:Below w.heap.size w wr:=B3.trans (HB.mono B3.size);have H:=HW.below BU (AgO.refl _ _);have C3:=Hy H;have BI:=Hy (CB.below HB.o CB.lt);have BL:=Hy (BK.below HB.o BK.lt);have BG:=Hy (Ar.below HB.o Ar.lt);have B6:=Hy BU;have x0:wr.cell? ⟨r,0,none⟩=some (.slice c.aw c.nw c.cw):=H.cell 0;have x1:wr.cell? ⟨r,1,none⟩=some (.slice c.ac c.nc c.cc):=H.cell 1;have x2:wr.cell? ⟨r,2,none⟩=some (.int .i64 c.wk):=H.cell 2;have x3:wr.cell? ⟨r,3,none⟩=some (.int .i64 c.cp):=H.cell 3;have x4:wr.cell? ⟨r,4,none⟩=some (.int .i64 c.sl):=H.cell 4
  have x5:Ci wr r 5 c.ba:=H.cell 5;have x6:wr.cell? ⟨r,6,none⟩=some (.int .i64 c.le):=H.cell 6;have x7:wr.cell? ⟨r,7,none⟩=some (.int .i64 c.he):=H.cell 7;have x8:wr.cell? ⟨r,8,none⟩=some (.int .i64 c.fi):=H.cell 8;have x9:wr.cell? ⟨r,9,none⟩=some (.int .i64 c.ca):=H.cell 9;have DT:wr.cell? ⟨r,10,none⟩=some (.int .i64 c.ji):=H.cell 10;have DU:wr.cell? ⟨r,11,none⟩=some (.int .i64 c.ne):=H.cell 11;rw [B4.o] at x5;have Bh:=zak c (sh:Nat) wr H.cf.ok;unfold CfgM.val at Bh;rw [Dp.o] at Bh;have B8:=Hy Bh;clear Bh H BU CX D;rw [B4.o] at B8
  go_wp2_with fail;clear x0 x1 x2 x3 x4 x5 x6 x7 x8 x9 DT DU;refine B8.mono ?_;clear B8;rintro e Ao ⟨ka,kn,kc,rfl,Cc,M⟩;have DC:kn=cp:=by have q:=Cc.1;unfold ints at q;rw [List.length_map,Cy.o] at q;exact q.symm
  subst DC;obtain ⟨kb,ko,DA,DB,CV⟩:=Cc.2.2.2.2 y (by omega);subst DA;rw [Cx.o] at CV;have Aq:=Hy (C3.below M (AgO.refl _ _));have C9:=Hy (BI.below M BI.lt);have Ac:=Hy (BL.below M BL.lt);have Bs:=Hy (BG.below M BG.lt);have A3:=Hy (B6.trans (M.mono B6.size));have BD:=Hy (C5.below M rfl);have xx:Ao.cell? ⟨w.heap.size,3,none⟩=some (.int .i64 v.x):=C9.cell 3;have k1:(0:Int)<=(y:Int):=by omega
  have k3:((kn:Int) == 0)=false:=by simp;omega
  have k2:(y:Int) < (kn:Int):=Dh;clear Cc M DB C3 BI BL BG B6 C5;go_wp2_with fail;refine (Bq.o _).mono ?_;rintro e w' ⟨rfl,rfl⟩;go_upto_region 139 with fail;clear Bq xx CV;have ⟨en,BV⟩:=gn (decide ((P:Int)=(Y:Int)));have Ei:((P:Int) == (Y:Int))=en:=by rw [<- BV];rfl
  have Dr:=Hy (by rw [<- BV];congr 1;exact propext ⟨fun h=>by omega,fun h=>by omega⟩:decide (P=Y)=en);clear BV;have Cf:∀ W:World,(Instr.sliceAt 56 (.slice u Y c2) none (some (.int .i64 (P:Int))) none).run prog W=.ok (.slice u P c2) W:=qaW u Y c2 P (by have:=C0.o;omega);let BN:World->Prop:=fun w'=>Ci w' sb 1 C.seq/\Cp w' r 13 B.le/\Ci w' B.le (wn * 3) EP;have z:=Hy (show BN Ao.drew from ⟨Bs.cell 1,Aq.cell 13,by have q:=RB.epoch (RWx.le Aq.o (fun q=>q)).1 HT.o wn (by omega);rw [Cv.o] at q;exact q⟩)
  have e1:(0:Int)<=(wn:Int):=by omega
  have e2:(wn:Int) < 6:=by omega
  have ⟨wd,Ag⟩:=gn Ao.drew;have B5:=Hy (by rw [<- Ag];exact below_drewN (bf Ao.heap.size Ao) 1:Below Ao.heap.size Ao wd);have Eb:=z;rw [Ag] at z;have AY:=Hy Ag;clear Ag;have BM:=Hy (show Blk wd (w.heap.size+1) 65 [(),(),(),(),(),(),.slice none 0 0,false] from Ac.below B5.o Ac.lt);obtain ⟨y0,y1,y2,y3,y4,y5,y6,y7⟩:=c8 BM.o;have fz:∀ o,wd.frozen? ⟨w.heap.size+1,o,none⟩=false:=fun o=>zk (o:=o) BM.o;have AE:Blk ((((((((wd.setCell ⟨w.heap.size+1,0,none⟩ (.int .i64 (j:Nat))).setCell ⟨w.heap.size+1,1,none⟩ (.int .i64 (id:Nat))).setCell ⟨w.heap.size+1,2,none⟩ (.int .i64 (sh:Nat))).setCell ⟨w.heap.size+1,3,none⟩ (.int .i64 C.seq)).setCell ⟨w.heap.size+1,4,none⟩ (.int .i64 (wn:Nat))).setCell ⟨w.heap.size+1,5,none⟩ (.int .i64 EP)).setCell ⟨w.heap.size+1,6,none⟩ (.slice u P c2)).setCell ⟨w.heap.size+1,7,none⟩ (.bool en)) (w.heap.size+1) 65 [(j:Nat),(id:Nat),(sh:Nat),C.seq,(wn:Nat),EP,.slice u P c2,.bool en]:=((((((((BM.set 0 (.int .i64 (j:Nat))).set 1 (.int .i64 (id:Nat))).set 2 (.int .i64 (sh:Nat))).set 3 (.int .i64 C.seq)).set 4 (.int .i64 (wn:Nat))).set 5 (.int .i64 EP)).set 6 (.slice u P c2)).set 7 (.bool en))
  have p:Frm (fun b=>b=w.heap.size+1) wd ((((((((wd.setCell ⟨w.heap.size+1,0,none⟩ (.int .i64 (j:Nat))).setCell ⟨w.heap.size+1,1,none⟩ (.int .i64 (id:Nat))).setCell ⟨w.heap.size+1,2,none⟩ (.int .i64 (sh:Nat))).setCell ⟨w.heap.size+1,3,none⟩ (.int .i64 C.seq)).setCell ⟨w.heap.size+1,4,none⟩ (.int .i64 (wn:Nat))).setCell ⟨w.heap.size+1,5,none⟩ (.int .i64 EP)).setCell ⟨w.heap.size+1,6,none⟩ (.slice u P c2)).setCell ⟨w.heap.size+1,7,none⟩ (.bool en)):=(((((((((Frm.refl (fun b=>b=w.heap.size+1) wd).setCell ⟨w.heap.size+1,0,none⟩ (.int .i64 (j:Nat)) (.inl rfl)).setCell ⟨w.heap.size+1,1,none⟩ (.int .i64 (id:Nat)) (.inl rfl)).setCell ⟨w.heap.size+1,2,none⟩ (.int .i64 (sh:Nat)) (.inl rfl)).setCell ⟨w.heap.size+1,3,none⟩ (.int .i64 C.seq) (.inl rfl)).setCell ⟨w.heap.size+1,4,none⟩ (.int .i64 (wn:Nat)) (.inl rfl)).setCell ⟨w.heap.size+1,5,none⟩ (.int .i64 EP) (.inl rfl)).setCell ⟨w.heap.size+1,6,none⟩ (.slice u P c2) (.inl rfl)).setCell ⟨w.heap.size+1,7,none⟩ (.bool en) (.inl rfl))
  have ⟨Bm,AO⟩:=gn ((((((((wd.setCell ⟨w.heap.size+1,0,none⟩ (.int .i64 (j:Nat))).setCell ⟨w.heap.size+1,1,none⟩ (.int .i64 (id:Nat))).setCell ⟨w.heap.size+1,2,none⟩ (.int .i64 (sh:Nat))).setCell ⟨w.heap.size+1,3,none⟩ (.int .i64 C.seq)).setCell ⟨w.heap.size+1,4,none⟩ (.int .i64 (wn:Nat))).setCell ⟨w.heap.size+1,5,none⟩ (.int .i64 EP)).setCell ⟨w.heap.size+1,6,none⟩ (.slice u P c2)).setCell ⟨w.heap.size+1,7,none⟩ (.bool en));rw [AO] at AE p;have Cw:=Hy AE;have Ak:=Hy p;have C7:=Hy AO;clear AE p AO;have BA:=Hy (show sb≠w.heap.size+1/\r≠w.heap.size+1/\B.le≠w.heap.size+1 from ⟨fun e=>by have q1:=Bs.o;rw [e] at q1;exact qv q1 Ac.o (by decide) rfl,fun e=>by have q1:=Aq.blk;rw [e] at q1;exact qv q1 Ac.o (by decide) rfl,fun e=>by have q1:=(RWx.le Aq.o (fun q=>q)).1;rw [e] at q1;exact qv q1 Ac.o (by decide) rfl⟩)
  have Es:=Hy (show BN Bm from by
   have Ay:∀ q:Addr,q.block≠w.heap.size+1->q.block < wd.heap.size->Bm.cell? q=wd.cell? q:=fun q h1 h2=>World.cell?_of_block (w:=wd) (Ak.block q.block h2 h1);exact ⟨(Ay _ BA.1 (cell?_lt z.1)).trans z.1,(Ay _ BA.2.1 (cell?_lt z.2.1)).trans z.2.1,(Ay _ BA.2.2 (cell?_lt z.2.2)).trans z.2.2⟩)
  refine rg BN fun A=>?_;rw [AY.o] at A ⊢;(iterate 24 refine tq 0 ?_);refine rdy 24 fun K hK=>?_;go_simp;rw [C7.o];refine hk hK fun A=>?_;clear hK K;refine tk 25 ?_;refine dn ?_;clear A;go_wp2_with fail;refine bodyPost_ret (XP rfl _ _ (w.heap.size+1) 65 #[(j:Nat),(id:Nat),(sh:Nat),C.seq,(wn:Nat),EP,.slice u P c2,.bool en] (0,0) _ rfl Cw.o underlying65 rfl qB _ rfl) rfl ?_;rw [Dv.o,BE.o];have E:=A3.o.trans (B5.o.mono A3.o.size)
  have D5:Below w.heap.size w Bm:=⟨Ak.os.trans E.os,Ak.tape.trans E.tape,Ak.output.trans E.output,nr E.size Ak.size,fun q hq=>(Ak.block q (nt hq E.size) (by show ¬ q=w.heap.size+1;omega)).trans (E.block q hq)⟩;have h8:=BK.lt;refine ⟨D5,u,c2,?_,?_,fun b o sp e=>nr B3.size (C4.o b o sp e)⟩
  ·show Ending.returned (.tuple #[.agg #[(j:Nat),(id:Nat),(sh:Nat),C.seq,(wn:Nat),EP,.slice u P c2,.bool en],true])=Ending.returned (.tuple #[.agg #[(j:Nat),(id:Nat),(sh:Nat),C.seq,(wn:Nat),EP,.slice u (AP.take P).length c2,.bool (decide (P=Y))],true])
   rw [List.length_take,T.o,Nat.min_eq_left Ca,Dr.o]
  have DF:=BD.take P Ca
  show RdE KeyL.cells 2 Bm u (AP.take P).length c2 (AP.take P);rw [List.length_take,T.o,Nat.min_eq_left Ca];exact RdE.frm (DF.below B5.o rfl) Ak.o (fun b o sp e q=>by have h1:=C4.o b o sp e;have h2:b=w.heap.size+1:=q;omega)
def AnyF (m:MV) (w:World) (e:Ending) (w':World):Prop:=e=.returned m.val/\Below w.heap.size w w'
theorem Xai (w0 l0:Int) (w:World):Calls prog 95 #[.agg #[.int .i64 1,w0,l0,(),(),(),(),(),(),(),(),.string ⟨#[]⟩,(),(),false,(),.string ⟨#[]⟩,(),(),(),(),(),(),.slice none 0 0,false,(),()]] w fun e w'=>AnyF (MV.hello w0 l0) w e w':=by
 have HB:=Hy ((bf w.heap.size w).alloc (nl _) (.cells #[.int .i64 1,w0,l0,(),(),(),(),(),(),(),(),.string ⟨#[]⟩,(),(),false,(),.string ⟨#[]⟩,(),(),(),(),(),(),.slice none 0 0,false,(),()] 101));have B:=Hy (show Blk (w.alloc (.cells #[.int .i64 1,w0,l0,(),(),(),(),(),(),(),(),.string ⟨#[]⟩,(),(),false,(),.string ⟨#[]⟩,(),(),(),(),(),(),.slice none 0 0,false,(),()] 101)) w.heap.size 101 [.int .i64 1,w0,l0,(),(),(),(),(),(),(),(),.string ⟨#[]⟩,(),(),false,(),.string ⟨#[]⟩,(),(),(),(),(),(),.slice none 0 0,false,(),()] from hn_ w _)
 have ⟨W0,A⟩:=gn (w.alloc (.cells #[.int .i64 1,w0,l0,(),(),(),(),(),(),(),(),.string ⟨#[]⟩,(),(),false,(),.string ⟨#[]⟩,(),(),(),(),(),(),.slice none 0 0,false,(),()] 101));rw [A] at HB B;obtain ⟨V,W,Y,Z,a,b,c,d,f,g,C,D,E,F,G,H,I,J,K,L,M,N,P,Q,R,T,U⟩:=c27 B.o;unfold AnyF;go_in;go_wp2_with (rw [A]);go_ret
 exact ⟨rfl,HB.o⟩
theorem Yai (w0 l0 e0:Int) (w:World):Calls prog 95 #[.agg #[.int .i64 2,(),(),w0,l0,e0,(),(),(),(),(),.string ⟨#[]⟩,(),(),false,(),.string ⟨#[]⟩,(),(),(),(),(),(),.slice none 0 0,false,(),()]] w fun e w'=>AnyF (MV.grant w0 l0 e0) w e w':=by
 have HB:=Hy ((bf w.heap.size w).alloc (nl _) (.cells #[.int .i64 2,(),(),w0,l0,e0,(),(),(),(),(),.string ⟨#[]⟩,(),(),false,(),.string ⟨#[]⟩,(),(),(),(),(),(),.slice none 0 0,false,(),()] 101));have B:=Hy (show Blk (w.alloc (.cells #[.int .i64 2,(),(),w0,l0,e0,(),(),(),(),(),.string ⟨#[]⟩,(),(),false,(),.string ⟨#[]⟩,(),(),(),(),(),(),.slice none 0 0,false,(),()] 101)) w.heap.size 101 [.int .i64 2,(),(),w0,l0,e0,(),(),(),(),(),.string ⟨#[]⟩,(),(),false,(),.string ⟨#[]⟩,(),(),(),(),(),(),.slice none 0 0,false,(),()] from hn_ w _)
 have ⟨W0,A⟩:=gn (w.alloc (.cells #[.int .i64 2,(),(),w0,l0,e0,(),(),(),(),(),.string ⟨#[]⟩,(),(),false,(),.string ⟨#[]⟩,(),(),(),(),(),(),.slice none 0 0,false,(),()] 101));rw [A] at HB B;obtain ⟨V,W,Y,Z,a,b,c,d,f,g,C,D,E,F,G,H,I,J,K,L,M,N,P,Q,R,T,U⟩:=c27 B.o;unfold AnyF;go_in;go_wp2_with (rw [A]);go_ret
 exact ⟨rfl,HB.o⟩
theorem YaJ (s q h' sq ep:Int) (tx:ByteArray) (k b:Int) (f:Bool) (d:Int) (wd:ByteArray) (w:World):Calls prog 95 #[.agg #[.int .i64 3,(),(),(),(),(),s,q,h',sq,ep,tx,k,b,.bool f,d,wd,(),(),(),(),(),(),.slice none 0 0,false,(),()]] w fun e w'=>AnyF (MV.ask s q h' sq ep tx k b f d wd) w e w':=by
 have HB:=Hy ((bf w.heap.size w).alloc (nl _) (.cells #[.int .i64 3,(),(),(),(),(),s,q,h',sq,ep,tx,k,b,.bool f,d,wd,(),(),(),(),(),(),.slice none 0 0,false,(),()] 101));have B:=Hy (show Blk (w.alloc (.cells #[.int .i64 3,(),(),(),(),(),s,q,h',sq,ep,tx,k,b,.bool f,d,wd,(),(),(),(),(),(),.slice none 0 0,false,(),()] 101)) w.heap.size 101 [.int .i64 3,(),(),(),(),(),s,q,h',sq,ep,tx,k,b,.bool f,d,wd,(),(),(),(),(),(),.slice none 0 0,false,(),()] from hn_ w _)
 have ⟨W0,A⟩:=gn (w.alloc (.cells #[.int .i64 3,(),(),(),(),(),s,q,h',sq,ep,tx,k,b,.bool f,d,wd,(),(),(),(),(),(),.slice none 0 0,false,(),()] 101));rw [A] at HB B;obtain ⟨V,W,Y,Z,a,c,g,h,i,j,C,D,E,F,G,H,I,J,K,L,M,N,P,Q,R,T,U⟩:=c27 B.o;unfold AnyF;go_in;go_wp2_with (rw [A]);go_ret;exact ⟨rfl,HB.o⟩
theorem Xax (s q:Int) (w:World):Calls prog 95 #[.agg #[.int .i64 5,(),(),(),(),(),(),(),(),(),(),.string ⟨#[]⟩,(),(),false,(),.string ⟨#[]⟩,(),(),(),(),(),(),.slice none 0 0,false,s,q]] w fun e w'=>AnyF (MV.stop s q) w e w':=by
 have HB:=Hy ((bf w.heap.size w).alloc (nl _) (.cells #[.int .i64 5,(),(),(),(),(),(),(),(),(),(),.string ⟨#[]⟩,(),(),false,(),.string ⟨#[]⟩,(),(),(),(),(),(),.slice none 0 0,false,s,q] 101));have B:=Hy (show Blk (w.alloc (.cells #[.int .i64 5,(),(),(),(),(),(),(),(),(),(),.string ⟨#[]⟩,(),(),false,(),.string ⟨#[]⟩,(),(),(),(),(),(),.slice none 0 0,false,s,q] 101)) w.heap.size 101 [.int .i64 5,(),(),(),(),(),(),(),(),(),(),.string ⟨#[]⟩,(),(),false,(),.string ⟨#[]⟩,(),(),(),(),(),(),.slice none 0 0,false,s,q] from hn_ w _)
 have ⟨W0,A⟩:=gn (w.alloc (.cells #[.int .i64 5,(),(),(),(),(),(),(),(),(),(),.string ⟨#[]⟩,(),(),false,(),.string ⟨#[]⟩,(),(),(),(),(),(),.slice none 0 0,false,s,q] 101));rw [A] at HB B;obtain ⟨V,W,Y,Z,a,b,c,d,f,g,C,D,E,F,G,H,I,J,K,L,M,N,P,Q,R,T,U⟩:=c27 B.o;unfold AnyF;go_in;go_wp2_with (rw [A]);go_ret
 exact ⟨rfl,HB.o⟩
theorem ZaJ (m:MV) (h:m.flat=true) (w:World):Calls prog 95 #[m.p5.1.msg m.p5.2] w fun e w'=>AnyF m w e w':=by
 cases m with
 | hello w0 l0=>exact Xai w0 l0 w
 | grant w0 l0 e0=>exact Yai w0 l0 e0 w
 | ask s q h' sq ep tx k b f d wd=>exact YaJ s q h' sq ep tx k b f d wd w
 | stop s q=>exact Xax s q w
 | _=>cases h
end Go.Proofs.YtinkbgeckjbnbaaGreat
