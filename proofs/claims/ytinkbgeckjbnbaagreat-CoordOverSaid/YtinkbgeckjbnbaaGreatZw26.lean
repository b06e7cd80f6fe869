/- Lemmas (part 26). -/
import Derived.Deep.CutBlock
import Derived.Test.YtinkbgeckjbnbaaGreatZw25
namespace Go.Proofs.YtinkbgeckjbnbaaGreat
open Go.RowKit Go.Proofs.Tryz
set_option autoImplicit true
set_option relaxedAutoImplicit true
set_option linter.unusedVariables false
set_option linter.unusedSimpArgs false
set_option maxRecDepth 100000
set_option maxHeartbeats 32000000
theorem xF (O:Own) (B:RA) (r:Nat) (c:CfgM) (S:CS) (p:P5) (ns wn:Nat) (b:Int) (w:World) (hw:RW w O B r c S) (hm:mayC c=true) (hz:c.short) (hr:RdE KeyL.cells 2 w p.ra p.rl.length p.rc p.rl) (M:p.rl≠[]->∀ b o sp,p.ra=some ⟨b,o,sp⟩->O b % 8≠2) (hx:∀ x∈p.rl,x.2.size<=1000000)
  (Q:S.OK ns b) (P:(ns:Int)=shardsC c) (f:b<=800000) (T:c.sl=(S.L.length:Int)) (U:S.tm.length<=24) (N:∀ (j i:Nat),S.L[j]?=some i->i≠0->∀ s,ns<=s->s < 6->hasL (6 * (j:Int)+(s:Nat)) S.tm=false) (V:c.wk=(wn:Int)) (Y:wn<=5):
  Calls prog 45 #[.pointer (some ⟨r,0,none⟩),p.msg 4] w (RGoE O B r c (S.rep ns wn p.rs p.rq p.rh p.rn p.rw p.re p.rl p.rb) w):=by
 unfold P5.msg;have ⟨W,Z⟩:=gn (w.alloc (.cells #[.int .i64 4,p.hw,p.hl,p.gw,p.gl,p.ge,p.ai,p.aq,p.ah,p.an,p.ae,p.ax,p.ak,p.ab,.bool p.af,p.ad,p.aw,p.rs,p.rq,p.rh,p.rn,p.rw,p.re,.slice p.ra p.rl.length p.rc,.bool p.rb,p.ss,p.sq] 101));have G:Below w.heap.size w W:=by rw [<- Z];exact (bf _ w).alloc (nl _) _
 have A:Blk W w.heap.size 101 [.int .i64 4,p.hw,p.hl,p.gw,p.gl,p.ge,p.ai,p.aq,p.ah,p.an,p.ae,p.ax,p.ak,p.ab,.bool p.af,p.ad,p.aw,p.rs,p.rq,p.rh,p.rn,p.rw,p.re,.slice p.ra p.rl.length p.rc,.bool p.rb,p.ss,p.sq]:=by rw [<- Z];exact hn_ w _
 have q:Ci W w.heap.size 0 4:=A.cell 0;have ⟨d,F⟩:=gn (O.upd w.heap.size 0);have D:AgO w.heap.size O d:=by rw [<- F];exact AgO.upd _ _ _
 have E:p.rl≠[]->∀ b o sp,p.ra=some ⟨b,o,sp⟩->d b % 8≠2:=fun g b o sp e=>by by_cases n:b < w.heap.size;(rw [D b n];exact M g b o sp e);(rw [<- F,Own.upd_ge (by omega)];decide)
 have C:=Hy (xaf d B r c S p.rs p.rq p.rh p.rn p.rw p.re p.rl p.rb p.ra p.rc ns wn b W (hw.below G D) hm hz (hr.below G rfl) E hx Q P f T U N V Y);unfold RreE at C;have HB:=Hy G;have h:=Hy D;have t:W.cell? ⟨w.heap.size,17,none⟩=some (.int .i64 p.rs):=A.cell 17;have u:W.cell? ⟨w.heap.size,17+1,none⟩=some (.int .i64 p.rq):=A.cell 18;have y:W.cell? ⟨w.heap.size,17+2,none⟩=some (.int .i64 p.rh):=A.cell 19;have z:W.cell? ⟨w.heap.size,17+3,none⟩=some (.int .i64 p.rn):=A.cell 20;have r4:W.cell? ⟨w.heap.size,17+4,none⟩=some (.int .i64 p.rw):=A.cell 21
 have r5:Ci W w.heap.size (17+5) p.re:=A.cell 22;have r6:W.cell? ⟨w.heap.size,17+6,none⟩=some (.slice p.ra p.rl.length p.rc):=A.cell 23;have r7:W.cell? ⟨w.heap.size,17+7,none⟩=some (.bool p.rb):=A.cell 24;have ⟨R,k⟩:=gn (S.rep ns wn p.rs p.rq p.rh p.rn p.rw p.re p.rl p.rb);rw [k] at C ⊢;clear k A G F D E hw hr M hx Q P T U N V hm hz;go_in;go_wp2_with (rw [Z]);clear Z q t u y z r4 r5 r6 r7;refine C.mono ?_;clear C;rintro e w2 ⟨v,m,l,rfl,I,K,H,J⟩;have a:=Hy (show RGoE O B r c R w (.returned v) w2 from ⟨v,m,l,rfl,I,K.base HB.size,fun b G=>(H b (nt G HB.size)).trans (h.o b G),ROut.trans (ROut.below (O:=O) HB.o) J h.o⟩)
 clear I K H J;go_wp2_with fail;go_ret;exact a.o
theorem XU (s t:ByteArray):distT s t=distT t s:=by
 unfold distT;cases runesO s <;> cases runesO t <;> try rfl
 exact qaz _ _
theorem ZaC {words:List ByteArray} {s:ByteArray} {k:Int} {x:KeyL}:x∈nearI words s k↔x.2∈words/\x.1=distT x.2 s/\0<=x.1/\x.1<=k:=by
 unfold nearI;rw [List.mem_filterMap];constructor
 ·rintro ⟨w,A,h⟩
  unfold nearO nearT at h
  by_cases hd:0<=distT s w/\distT s w<=k
  ·simp only [if_pos hd,if_true] at h
   obtain rfl:=Option.some.inj h;exact ⟨A,XU _ _,hd.1,hd.2⟩
  simp only [if_neg hd] at h
  cases h
 rintro ⟨A,h1,B,C⟩
 refine ⟨x.2,A,?_⟩;unfold nearO nearT;have D:0<=x.1/\x.1<=k:=⟨B,C⟩;rw [XU s x.2,<- h1];simp only [if_pos D];rfl
theorem QaJ {words:List ByteArray} {s:ByteArray} {k:Int} {x:KeyL}:x∈allL words s k↔x.2∈words/\x.1=distT x.2 s/\0<=x.1/\x.1<=k:=by unfold allL;rw [qaH];exact ZaC
section
def LFl (L:List LV):Prop:=(∀ x∈L,x.2.flat=true)/\L.length<=100
theorem LFl.nil:LFl []:=⟨fun x h=>(by cases h),nz _⟩
theorem XV (s i n:Nat) (hn:n<=5):LFl (stopsL s i n):=by
 refine ⟨fun x A=>?_,by rw [Qi];omega⟩;obtain ⟨w,_,rfl⟩:=List.mem_map.1 A;rfl
theorem yaB (S:CS) (v l:Int):LFl (S.helloL v l):=by
 unfold CS.helloL;split
 ·exact ⟨fun x A=>by simp at A;subst A;rfl,by simp⟩
 exact LFl.nil
theorem Xac (S:CS) (id n:Nat) (hn:n<=5):LFl (S.goesL id n):=by
 unfold CS.goesL;split
 ·exact XV _ _ _ hn
 exact LFl.nil
theorem xaX (S:CS) (q:ByteArray) (k n:Int) (ns wn:Nat) (hn:wn<=5):LFl (S.subLs q k n ns wn):=by
 unfold CS.subLs;split
 ·exact LFl.nil
 split
 ·exact LFl.nil
 exact Xac _ _ _ hn
theorem Zal (S:CS) (id:Int) (wn:Nat) (hn:wn<=5):LFl (S.cancelL id wn):=by
 unfold CS.cancelL;split
 ·exact XV _ _ _ hn
 exact LFl.nil
theorem Zav (S:CS) (ns wn:Nat) (s q i sq wk ep:Int) (l:List KeyL) (en:Bool) (hn:wn<=5):LFl (S.rep ns wn s q i sq wk ep l en).2:=by
 unfold CS.rep;split
 ·exact LFl.nil
 split
 ·exact LFl.nil
 split
 ·exact LFl.nil
 split
 ·exact LFl.nil
 exact Xac _ _ _ hn
theorem ZM (S:CS) (id s:Nat) (t:Int):∀ x∈S.askL id s t,x.2.flat=true:=by
 intro x A;unfold CS.askL at A;split at A
 ·cases A
 simp at A;subst A;rfl
theorem QaB (S:CS) (id s:Nat) (A:Int):∀ x∈(S.look id s A).2,x.2.flat=true:=by
 unfold CS.look;split
 ·exact ZM _ _ _ _
 split
 ·exact ZM _ _ _ _
 split
 ·exact ZM _ _ _ _
 intro x B;cases B
theorem Yal (S:CS) (id:Nat) (A:Int) (l:List Int):∀ x∈(S.lookN id A l).2,x.2.flat=true:=by
 refine zu (P:=fun l=>∀ x∈(S.lookN id A l).2,x.2.flat=true) (fun x B=>by cases B) (fun l s C=>?_) l;rw [Xf];intro x B;rcases List.mem_append.1 B with h | h
 ·exact C x h
 exact QaB _ _ _ _ x h
theorem zas (S:CS) (A:Int) (k:Nat):∀ x∈(S.wakeN A k).2,x.2.flat=true:=by
 induction k with
 | zero=>intro x B;cases B
 | succ k C=>
  rw [Zi];unfold CS.wakeA;split
  ·exact C
  ·intro x B
   rcases List.mem_append.1 B with h | h
   ·exact C x h
   ·exact Yal _ _ _ _ x h
theorem QaN {S:CS} {ns:Nat} {b:Int} (h:S.OK ns b) (A:Int) (B:S.c.cp<=3) (hb:3<=b) (C:ns<=6) (D:S.c.sl<=4):LFl (S.wake A).2:=by
 refine ⟨zas S A _,?_⟩;have:=(qy h A B hb C S.c.sl.toNat).2;unfold CS.wake;omega
structure Cf24 (c:CfgM) (ns wn sl:Nat):Prop where
 may:mayC c=true
 short:c.short
 ns:(ns:Int)=shardsC c
 wk:c.wk=(wn:Int)
 sl:c.sl=(sl:Int)
 gw:c.words.length<=80/\∀ x∈c.words,x.size<=100
theorem Cf24.bd {c:CfgM} {ns wn sl:Nat} (h:Cf24 c ns wn sl):1<=ns/\ns<=6/\1<=wn/\wn<=5/\1<=sl/\sl<=4/\1<=c.cp/\c.cp<=3/\c.cuts.length<=5/\ns=c.cuts.length+1:=by
 have h1:=Zf h.may;have A:=yd h.may;have B:=h.ns;have C:=h.wk;have D:=h.sl;omega
structure JS (w0 w:World) (O:Own) (A:CA) (p:Nat) (B:RA) (r:Nat) (c:CfgM) (S:CS) (ns sl:Nat) (b:Int):Prop where
 jn:JN w0 w O A p S B r c S
 fit:S.Fit S.c ns sl b
 cps:A.cps.length=ns
theorem CS.Fit.self {S:CS} {C:CfgM} {ns sl:Nat} {b:Int} (h:S.Fit C ns sl b):S.Fit S.c ns sl b:=⟨h.ok,h.ti,rfl,h.L,h.it,h.und,h.z⟩
section
variable {w0 w w2:World} {O O2:Own} {A A2:CA} {p r:Nat} {S S2:CS} {B B2:RA} {c:CfgM} {ns sl wn:Nat} {b:Int}
theorem JS.c_ (h:JS w0 w O A p B r c S ns sl b):S.c.wk=c.wk/\S.c.cp=c.cp/\S.c.sl=c.sl/\S.c.cuts=c.cuts/\S.c.ba=c.ba:=by
 obtain ⟨ac,cc,e⟩:=h.jn.rw.cc;rw [e];exact ⟨rfl,rfl,rfl,rfl,rfl⟩
theorem JS.zero (h:JS w0 w O A p B r c S ns sl b) (hf:Frm F w w2) (ha:AgO w.heap.size O O2) (hF:∀ b,b < w.heap.size->F b->O b=0):JS w0 w2 O2 A p B r c S ns sl b:=
 ⟨h.jn.zero hf ha hF,h.fit,h.cps⟩
theorem JS.below (h:JS w0 w O A p B r c S ns sl b) (hb:Below w.heap.size w w2) (ha:AgO w.heap.size O O2):JS w0 w2 O2 A p B r c S ns sl b:=⟨h.jn.below hb ha,h.fit,h.cps⟩
theorem JS.mono {b':Int} (h:JS w0 w O A p B r c S ns sl b) (hb:b<=b'):JS w0 w O A p B r c S ns sl b':=⟨h.jn,h.fit.mono hb,h.cps⟩
theorem JS.no4 (h:JS w0 w O A p B r c S ns sl b) (C:ns<=6):∀ (j s:Nat),j < 4->ns<=s->s < 6->hasL (6 * (j:Int)+(s:Nat)) S.tm=false:=fun j s _ h1 D=>h.fit.ti.no C j s h1 D
theorem JS.slot4 (h:JS w0 w O A p B r c S ns sl b):∀ i∈S.L,(S.Q i).slot<=4:=fun i hi=>by
 by_cases e:i=0
 ·subst e;rw [h.fit.z];omega
 ·exact Nat.le_succ_of_le ((h.fit.ok.q i hi e).slot4 h.fit.ok.sl)
end
structure AV.ok (v:AV) (w0:World):Prop where
 wi:(Lit.int .i64 v.i).wf=true
 ws:(Lit.int .i64 v.s).wf=true
 tx:v.tx.size<=100
 rd:RdE KeyL.cells 2 w0 v.a v.l.length v.c v.l
 sz:∀ x∈v.l,x.2.size<=100
def CS.act (S:CS) (c:CfgM) (ns wn:Nat) (v:AV):CS:=
 if v.d=0 then S.sub v.tx v.k v.n ns else if v.d=1 then S.cancel v.i ns else if v.d=2 then S.tick else if v.d=3 then S.hello v.i v.j
 else if v.d=4 then (S.rep ns wn v.s v.q v.h v.sq v.wk v.ep v.l v.en).1 else if v.d=5 then (S.wake v.x).1
 else if v.d=6 then (match S.rightV c v.i v.j v.x with | none=>S | some r=>(S.rep ns wn r.s r.q r.h r.sq r.wk r.ep r.l r.en).1) else S
theorem CS.Fit.act {S:CS} {C c:CfgM} {ns wn sl:Nat} {b:Int} (h:S.Fit C ns sl b) (B:C.cp<=3) (hb:3<=b) (D:ns<=6) (E:C.sl=(sl:Int)) (A:sl<=4) (v:AV) (hq:v.tx.size<=100):(S.act c ns wn v).Fit C ns sl (b+24):=by
 unfold CS.act;split
 ·exact (h.sub (by omega) _ _ _ hq).mono (by omega)
 split
 ·exact (h.cancel _).mono (by omega)
 split
 ·exact h.tick.mono (by omega)
 split
 ·exact (h.hello _ _).mono (by omega)
 split
 ·exact (h.rep _ _ _ _ _ _ _ _).mono (by omega)
 split
 ·exact h.wake B hb D E A _
 split
 ·split
  ·exact h.mono (by omega)
  exact (h.rep _ _ _ _ _ _ _ _).mono (by omega)
 exact h.mono (by omega)
theorem zaE {hd:Bool} {last:KeyL} {all:List KeyL}:∀ x∈restP hd last all,x∈all:=fun x A=>(List.mem_filter.1 A).1
theorem Zao {S:CS} {c:CfgM} (hc:∀ x∈c.words,x.size<=100) {i j x:Int} {r:RV} (h:S.rightV c i j x=some r):∀ y∈r.l,y.2.size<=100:=by
 unfold CS.rightV at h;split at h
 ·cases h
 cases h
 intro y B;have h1:=zaE y (List.mem_of_mem_take B);have A:=(QaJ.1 h1).1;exact hc _ (List.mem_filter.1 A).1
end
section
theorem c15 {w:World} {g:Nat} {e:TypeId} {v0 v1 v2 v3 v4 v5 v6 v7 v8 v9 v10 v11 v12 v13 v14:Value} (h:Blk w g e [v0,v1,v2,v3,v4,v5,v6,v7,v8,v9,v10,v11,v12,v13,v14]):w.cell? ⟨g,0,none⟩=some v0/\w.cell? ⟨g,1,none⟩=some v1/\w.cell? ⟨g,2,none⟩=some v2/\w.cell? ⟨g,3,none⟩=some v3/\w.cell? ⟨g,4,none⟩=some v4/\w.cell? ⟨g,5,none⟩=some v5/\w.cell? ⟨g,6,none⟩=some v6/\w.cell? ⟨g,7,none⟩=some v7/\w.cell? ⟨g,8,none⟩=some v8/\w.cell? ⟨g,9,none⟩=some v9/\w.cell? ⟨g,10,none⟩=some v10/\w.cell? ⟨g,11,none⟩=some v11/\w.cell? ⟨g,12,none⟩=some v12/\w.cell? ⟨g,13,none⟩=some v13/\w.cell? ⟨g,14,none⟩=some v14:=
 ⟨h.cell 0,h.cell 1,h.cell 2,h.cell 3,h.cell 4,h.cell 5,h.cell 6,h.cell 7,h.cell 8,h.cell 9,h.cell 10,h.cell 11,h.cell 12,h.cell 13,h.cell 14⟩
theorem c12 {w:World} {g:Nat} {e:TypeId} {v0 v1 v2 v3 v4 v5 v6 v7 v8 v9 v10 v11:Value} (h:Blk w g e [v0,v1,v2,v3,v4,v5,v6,v7,v8,v9,v10,v11]):w.cell? ⟨g,0,none⟩=some v0/\w.cell? ⟨g,1,none⟩=some v1/\w.cell? ⟨g,2,none⟩=some v2/\w.cell? ⟨g,3,none⟩=some v3/\w.cell? ⟨g,4,none⟩=some v4/\w.cell? ⟨g,5,none⟩=some v5/\w.cell? ⟨g,6,none⟩=some v6/\w.cell? ⟨g,7,none⟩=some v7/\w.cell? ⟨g,8,none⟩=some v8/\w.cell? ⟨g,9,none⟩=some v9/\w.cell? ⟨g,10,none⟩=some v10/\w.cell? ⟨g,11,none⟩=some v11:=
 ⟨h.cell 0,h.cell 1,h.cell 2,h.cell 3,h.cell 4,h.cell 5,h.cell 6,h.cell 7,h.cell 8,h.cell 9,h.cell 10,h.cell 11⟩
structure DS (w0 ws:World) (Os:Own) (w:World) (O:Own) (A:CA) (p:Nat) (S:CS) (B:RA) (r:Nat) (c:CfgM) (R:CS) (bx:List (Nat×TypeId×List Value)):Prop where
 jn:JN w0 w O A p S B r c R
 box:∀ x∈bx,Blk w x.1 x.2.1 x.2.2/\O x.1=0
 ag:AgO ws.heap.size Os O
 fr:Frm (fun b=>Os b % 8=1∨Os b % 8=2) ws w
section
variable {w0 ws w w2:World} {Os O O2:Own} {A A2:CA} {p r:Nat} {S S2 R R2:CS} {B B2:RA} {c:CfgM} {bx:List (Nat×TypeId×List Value)}
theorem DS.cstep (h:DS w0 ws Os w O A p S B r c R bx) (hc:CW w2 O2 A2 p S2) (ha:AgO w.heap.size O O2) (hf:COut O w w2):DS w0 ws Os w2 O2 A2 p S2 B r c R bx:=
 ⟨h.jn.cstep hc ha hf,fun x C=>⟨(h.box x C).1.frm hf (by rw [(h.box x C).2];decide),by rw [ha _ (h.box x C).1.lt];exact (h.box x C).2⟩,h.ag.trans ha h.fr.size,h.fr.trans hf (fun b D E=>by rw [h.ag b E] at D;exact .inl D)⟩
theorem DS.rstep (h:DS w0 ws Os w O A p S B r c R bx) (hc:RW w2 O2 B2 r c R2) (ha:AgO w.heap.size O O2) (hf:ROut O w w2):DS w0 ws Os w2 O2 A p S B2 r c R2 bx:=
 ⟨h.jn.rstep hc ha hf,fun x C=>⟨(h.box x C).1.frm hf (by rw [(h.box x C).2];decide),by rw [ha _ (h.box x C).1.lt];exact (h.box x C).2⟩,h.ag.trans ha h.fr.size,h.fr.trans hf (fun b D E=>by rw [h.ag b E] at D;exact .inr D)⟩
theorem DS.below (h:DS w0 ws Os w O A p S B r c R bx) (hb:Below w.heap.size w w2) (ha:AgO w.heap.size O O2):DS w0 ws Os w2 O2 A p S B r c R bx:=
 ⟨h.jn.below hb ha,fun x C=>⟨(h.box x C).1.below hb (h.box x C).1.lt,by rw [ha _ (h.box x C).1.lt];exact (h.box x C).2⟩,h.ag.trans ha h.fr.size,h.fr.trans (Frm.below (S:=fun _=>False) hb) (fun _ q _=>q.elim)⟩
theorem DS.bel0 (h:DS w0 ws Os w O A p S B r c R bx) (hb:Below w.heap.size w w2):DS w0 ws Os w2 O A p S B r c R bx:=h.below hb (AgO.refl _ _)
theorem DS.alloc (h:DS w0 ws Os w O A p S B r c R bx) (e:TypeId) (cs:List Value):DS w0 ws Os (w.alloc (.cells cs.toArray e)) (O.upd w.heap.size 0) A p S B r c R ((w.heap.size,e,cs) :: bx):=by
 have q:=h.below ((bf w.heap.size w).alloc (nl _) (.cells cs.toArray e)) (AgO.upd w.heap.size 0 O);refine ⟨q.jn,fun x C=>?_,q.ag,q.fr⟩;rcases List.mem_cons.1 C with rfl | C
 ·exact ⟨by unfold Blk;exact hn_ w _,Own.upd_ge (nl _)⟩
 exact q.box x C
theorem DS.drew (h:DS w0 ws Os w O A p S B r c R bx):DS w0 ws Os w.drew O A p S B r c R bx:=h.bel0 (below_drewN (bf _ w) 1)
theorem DS.hd {g:Nat} {e:TypeId} {cs:List Value} (h:DS w0 ws Os w O A p S B r c R ((g,e,cs) :: bx)):Blk w g e cs:=(h.box _ (List.mem_cons_self ..)).1
theorem DS.over (h:DS w0 ws Os w O A p S B r c R bx) (hf:Frm F w w2) (hF:∀ b,b < w.heap.size->F b->O b=0/\ws.heap.size<=b):JN w0 w2 O A p S B r c R/\Frm (fun b=>Os b % 8=1∨Os b % 8=2) ws w2:=
 ⟨h.jn.zero hf (AgO.refl _ _) (fun b D q=>(hF b D q).1),⟨hf.os.trans h.fr.os,hf.tape.trans h.fr.tape,hf.output.trans h.fr.output,nr h.fr.size hf.size,fun k C E=>(hf.block k (nt C h.fr.size) (fun q=>by have:=(hF k (nt C h.fr.size) q).2;omega)).trans (h.fr.block k C E)⟩⟩
end
theorem RLet.rde {base:Nat} {l:List LV} (h:RLet O w base v l):∃ A c,v=.slice A l.length c/\RdE RLV 28 w A l.length c l:=by
 obtain ⟨A,c,h1,B,_⟩:=h;exact ⟨A,c,h1,Za (enc:=RLV) YC rfl B⟩
theorem wf4 (n:Nat) (h:n < 4):Yk (n:Int):=by
 have:n=0∨n=1∨n=2∨n=3:=by omega
 rcases this with rfl | rfl | rfl | rfl <;> (unfold Yk;decide)
theorem Ya1 {S:CS} {c:CfgM} {i j x:Int} {r:RV} (hs:1<=c.sl/\c.sl<=4) (h:S.rightV c i j x=some r):Yk r.s:=by
 unfold CS.rightV at h;split at h
 ·cases h
 cases h
 have:=zh i c.sl hs.1;exact wf4 _ (by omega)
def DnE (O:Own) (w0:World) (p r:Nat) (c:CfgM) (S':CS) (ns sl:Nat) (b:Int) (w:World) (e:Ending) (w':World):Prop:=∃ O' A' B',e=.returned (.bool true)/\JS w0 w' O' A' p B' r c S' ns sl b/\AgO w.heap.size O O'/\Frm (fun b=>O b % 8=1∨O b % 8=2) w w'
theorem Qak (c:CfgM) (ns wn sl:Nat) (hc:Cf24 c ns wn sl) (w0:World) (O:Own) (A:CA) (p:Nat) (B:RA) (r:Nat) (S:CS) (b:Int) (v:AV) (w:World) (h:JS w0 w O A p B r c S ns sl b) (P:3<=b/\b<=90000) (hv:v.ok w0):
  Calls prog 37 #[.pointer (some ⟨p,0,none⟩),.pointer (some ⟨r,0,none⟩),.agg #[v.d,v.i,v.j,v.x,v.tx,v.k,v.n,v.s,v.q,v.h,v.sq,v.wk,v.ep,.slice v.a v.l.length v.c,.bool v.en]] w (DnE O w0 p r c (S.act c ns wn v) ns sl (b+24) w):=by
 have Bl:=hc.bd;have BK:=h.c_;have ⟨O1,Cs⟩:=gn (O.upd w.heap.size 0);have ⟨W1,BH⟩:=gn (w.alloc (.cells #[v.d,v.i,v.j,v.x,v.tx,v.k,v.n,v.s,v.q,v.h,v.sq,v.wk,v.ep,.slice v.a v.l.length v.c,.bool v.en] 67));have Av:DS w0 w O w O A p S B r c S []:=⟨h.jn,fun x hx=>(by cases hx),AgO.refl _ _,Frm.refl _ _⟩;have Aq:=Av.alloc 67 [v.d,v.i,v.j,v.x,v.tx,v.k,v.n,v.s,v.q,v.h,v.sq,v.wk,v.ep,.slice v.a v.l.length v.c,.bool v.en]
 rw [show w.alloc (.cells ([v.d,v.i,v.j,v.x,v.tx,v.k,v.n,v.s,v.q,v.h,v.sq,v.wk,v.ep,.slice v.a v.l.length v.c,.bool v.en]:List Value).toArray 67)=W1 from BH,Cs] at Aq;have HD:=Hy Aq;have g:=Hy h.fit;have T:=Hy h.cps;have Q:=Hy hc;have At:=Hy BK;have HV:=Hy hv;have Al:=Hy P;have C1:=Hy Bl;have BB:=Hy (h.no4 Bl.2.1);have A4:=Hy h.slot4;have Bc:=Hy (by rw [<- BH];simp:w.heap.size<=W1.heap.size)
 have CF:=Hy h.jn.old;have CD:=Hy h.jn.bel;have AP:=Hy ((h.fit.act (c:=c) (wn:=wn) (by rw [BK.2.1];omega) (by omega) Bl.2.1 (by rw [BK.2.2.1];exact hc.sl) Bl.2.2.2.2.2.1 v hv.tx).self);obtain ⟨t0,t1,t2,t3,t4,t5,t6,t7,t8,t9,AC,AD,AE,AF,AG⟩:=c15 Aq.hd;clear h hc BK hv P Av Aq Cs Bl;have Bl:=C1.o;go_in;go_upto_block 0 with (rw [BH]);clear BH
 by_cases Av:v.d=0
 ·have M:=Hy Av
  rw [Av] at t0 ⊢;clear Av;have C:=Hy (by unfold CS.act;rw [if_pos M.o]:S.act c ns wn v=S.sub v.tx v.k v.n ns);have I:=qJ O1 A p S v.tx v.k v.n wn W1 HD.jn.cw (by have:=HV.tx;unfold maxLen;omega) (by rw [T.o];omega) (by rw [T.o];omega) (by rw [At.1];exact Q.wk) (by omega) (by have:=g.ok.tl;have:=Al.o;omega) (by rw [At.2.2.2.1];omega) (by rw [At.2.2.2.1];exact xat Q.may);unfold SuE at I;rw [T.o] at I;have R:=fun (V:World) (OV:Own) (h:RW V OV B r c S)=>Qaf OV B r c S v.tx v.k v.n ns wn b V h Q.may Q.short (by have:=HV.tx;omega) g.ok (by have:=Al.o;omega) (by omega) (xat Q.may) Q.ns (by have:=Al.o;omega) g.ti.len BB.o Q.wk (by omega)
  unfold RSuE at R;have y:=xaX S v.tx v.k v.n ns wn (by omega);have ⟨L,hL⟩:=gn (S.subLs v.tx v.k v.n ns wn);have ⟨S2,f⟩:=gn (S.sub v.tx v.k v.n ns);obtain ⟨⟨u1,u2⟩,hu⟩:∃ x,S.subV v.tx v.k v.n=x:=⟨_,rfl⟩;rw [hL,f,hu] at I;rw [hL] at y;rw [f] at C;have Cx:∀ (V:World) (OV:Own),RW V OV B r c S->_:=R;clear Cx;simp only [hL,f,hu] at R;simp only at I;have Ag:=Hy I;have Ah:=Hy R;have D:=Hy y;clear I R y hL f hu;go_wp2_with fail;refine Ag.mono ?_;clear Ag t0 t1 t2 t3 t4 t5 t6 t7 t8 t9 AC AD AE AF AG;rintro e w2 ⟨v7,O2,A2,rfl,AT,Cw,Bu,Bt,AW⟩
  have G:=Hy (HD.cstep AT Bt AW);have Bo:=Hy (Bu.base Bc.o);have Aa:=Hy (by rw [Cw];exact T.o:A2.cps.length=ns);clear AT Cw Bu Bt AW HD;obtain ⟨t0,t1,t2,t3,t4,t5,t6,t7,t8,t9,AC,AD,AE,AF,AG⟩:=c15 G.hd;go_wp2_with fail;clear t0 t1 t2 t3 t4 t5 t6 t7 t8 t9 AC AD AE AF AG;refine (Ah.o w2 O2 G.jn.rw).mono ?_;clear Ah;rintro e w3 ⟨v8,O3,B3,rfl,AX,An,Ai,Af⟩;have H:=Hy (G.rstep AX Ai Af);have Ap:=Hy (Bo.rstep Af Ai);have BC:=Hy An;clear AX An Ai Af Bo G;obtain ⟨ao,lc,rfl,z,Ao⟩:=Ap.o
  obtain ⟨ro,rc,rfl,Aj⟩:=BC.rde;have u:=Hy (Xi ro rc L w3 Aj D.1 (nr D.2 (by decide)));have Am:=Hy z;have A6:=Hy Ao;clear z Ao Aj;go_wp2_with fail;refine u.mono ?_;clear u;rintro e wb ⟨bo,bc,rfl,N,P⟩;have Ab:=Hy (H.bel0 P);have Ac:=Hy (Qa Am.o P);have U:=qc ao bo lc bc L L wb (Za (enc:=LV.cells) LV.len rfl Ac.o) (Za (enc:=LV.cells) LV.len rfl N) D.1 D.1;rw [(Xs D.1).2 rfl] at U;have Ae:=Hy U;clear U N P Am;go_wp2_with fail
  refine Ae.mono ?_;clear Ae;rintro e wc ⟨rfl,P⟩;have W:=Hy (Ab.bel0 P);have Ad:=Hy (Qa Ac.o P);have E:=Hy (yh w.heap.size lc ao L wc Ad.o D.1 (nr D.2 (by decide)));clear P Ab Ac;go_wp2_with fail;refine E.mono ?_;clear E;rintro e wd ⟨rfl,hf⟩;have Y:=W.over hf (fun b P q=>⟨A6.o b q,Xa Ad.o b q⟩);have E:=Hy Y;have As:=Hy W.ag;clear hf Y W Ad;go_wp2_with fail;go_ret;exact ⟨O3,A2,B3,rfl,by rw [C.o];exact ⟨E.1,by have q:=AP.o;rw [C.o] at q;exact q,Aa.o⟩,As.o,E.2⟩
 by_cases Aq:v.d=1
 ·have M:=Hy Aq
  rw [Aq] at t0 ⊢;clear Aq;clear Av;have C:=Hy (by unfold CS.act;rw [if_neg (by rw [M.o];decide)];rw [if_pos M.o]:S.act c ns wn v=S.cancel v.i ns);have I:=Yaa O1 A p S v.i wn W1 HD.jn.cw HV.wi (by rw [T.o];omega) (by rw [At.1];exact Q.wk) (by omega) A4.o (by have:=g.ok.tl;have:=Al.o;omega);unfold CaE at I;rw [T.o] at I;have R:=fun (V:World) (OV:Own) (h:RW V OV B r c S)=>zae OV B r c S v.i ns wn b V h g.ok g.ti.len (by omega) (fun j i hj _ s h1 h2=>BB.o j s (by have:=(lg hj).1;have:=g.ok.sl.len;omega) h1 h2) Q.wk (by omega) (by have:=Al.o;omega)
  unfold RCaE at R;have y:=Zal S v.i wn (by omega);have ⟨L,hL⟩:=gn (S.cancelL v.i wn);have ⟨S2,f⟩:=gn (S.cancel v.i ns);obtain ⟨u1,hu⟩:∃ x:Int,(if S.has v.i=true then 0 else 4)=x:=⟨_,rfl⟩;rw [hL,f,hu] at I;rw [hL] at y;rw [f] at C;simp only [hL,f,hu] at R;have Ag:=Hy I;have Ah:=Hy R;have D:=Hy y;have Cj:=Hy (fun V=>qaZ u1 V);clear I R y hL f hu;go_wp2_with fail;refine Ag.mono ?_;clear Ag t0 t1 t2 t3 t4 t5 t6 t7 t8 t9 AC AD AE AF AG;rintro e w2 ⟨v7,O2,rfl,AT,Bu,Bt,AW⟩;have G:=Hy (HD.cstep AT Bt AW)
  have Bo:=Hy (Bu.base Bc.o);have Aa:=Hy T.o;clear AT Bu Bt AW HD;obtain ⟨t0,t1,t2,t3,t4,t5,t6,t7,t8,t9,AC,AD,AE,AF,AG⟩:=c15 G.hd;go_wp2_with fail;clear t0 t1 t2 t3 t4 t5 t6 t7 t8 t9 AC AD AE AF AG;refine (Ah.o w2 O2 G.jn.rw).mono ?_;clear Ah;rintro e w3 ⟨v8,O3,rfl,AX,An,Ai,Af⟩;have H:=Hy (G.rstep AX Ai Af);have Ap:=Hy (Bo.rstep Af Ai);have BC:=Hy An;clear AX An Ai Af Bo G;go_wp2_with fail;refine (Cj.o w3).mono ?_;clear Cj;rintro e w' ⟨rfl,rfl⟩;obtain ⟨ao,lc,rfl,z,Ao⟩:=Ap.o;obtain ⟨ro,rc,rfl,Aj⟩:=BC.rde
  have u:=Hy (Xi ro rc L w3 Aj D.1 (nr D.2 (by decide)));have Am:=Hy z;have A6:=Hy Ao;clear z Ao Aj;go_wp2_with fail;refine u.mono ?_;clear u;rintro e wb ⟨bo,bc,rfl,N,P⟩;have Ab:=Hy (H.bel0 P);have Ac:=Hy (Qa Am.o P);have U:=qc ao bo lc bc L L wb (Za (enc:=LV.cells) LV.len rfl Ac.o) (Za (enc:=LV.cells) LV.len rfl N) D.1 D.1;rw [(Xs D.1).2 rfl] at U;have Ae:=Hy U;clear U N P Am;go_wp2_with fail;refine Ae.mono ?_
  clear Ae;rintro e wc ⟨rfl,P⟩;have W:=Hy (Ab.bel0 P);have Ad:=Hy (Qa Ac.o P);have E:=Hy (yh w.heap.size lc ao L wc Ad.o D.1 (nr D.2 (by decide)));clear P Ab Ac;go_wp2_with fail;refine E.mono ?_;clear E;rintro e wd ⟨rfl,hf⟩;have Y:=W.over hf (fun b P q=>⟨A6.o b q,Xa Ad.o b q⟩);have E:=Hy Y;have As:=Hy W.ag;clear hf Y W Ad;go_wp2_with fail;go_ret;exact ⟨O3,A,B,rfl,by rw [C.o];exact ⟨E.1,by have q:=AP.o;rw [C.o] at q;exact q,Aa.o⟩,As.o,E.2⟩
 by_cases Ak:v.d=2
 focus
  have M:=Hy Ak
  rw [Ak] at t0 ⊢;clear Ak;clear Av;clear Aq;have C:=Hy (by unfold CS.act;rw [if_neg (by rw [M.o];decide)];rw [if_neg (by rw [M.o];decide)];rw [if_pos M.o]:S.act c ns wn v=S.tick);have BZ:=g.ok.now;have I:=ZaU W1 HD.jn.cw BZ.1 (by have:=Al.o;omega);have R:=fun (V:World) (OV:Own) (h:RW V OV B r c S)=>XaF V h BZ.1 (by have:=Al.o;omega);have ⟨S2,f⟩:=gn S.tick;rw [f] at C I;simp only [f] at R;have Ag:=Hy I;have Ah:=Hy R;clear I R f BZ;obtain ⟨L,hL⟩:∃ x:List LV,[]=x:=⟨_,rfl⟩;have D:=Hy (by rw [<- hL];exact LFl.nil:LFl L)
  go_wp2_with fail;refine Ag.mono ?_;clear Ag t0 t1 t2 t3 t4 t5 t6 t7 t8 t9 AC AD AE AF AG;rintro e w2 ⟨rfl,AT,AW⟩;have G:=Hy (HD.cstep AT (AgO.refl _ _) AW);have Aa:=Hy T.o;clear AT AW HD;go_wp2_with fail;refine (Ah.o w2 O1 G.jn.rw).mono ?_;clear Ah;rintro e w3 ⟨rfl,AX,Af⟩;have H:=Hy (G.rstep AX (AgO.refl _ _) Af);have Ap:=Hy (by rw [<- hL];exact LetAt.nil _ _ _:LetAt O1 w3 w.heap.size (.slice none 0 0) L);have BC:=Hy (by rw [<- hL];exact RLet.nil _ _ _:RLet O1 w3 w.heap.size (.slice none 0 0) L);clear AX Af G hL
  have u:=Hy (Xi none 0 [] w3 (show RdE RLV 28 w3 none ([]:List LV).length 0 [] from ⟨rfl,nl _,nz _,fun _=>rfl,fun i x h=>(by simp at h)⟩) (fun x h=>(by cases h)) (by decide))
 rotate_left
 focus
  by_cases Ax:v.d=3
  ·have M:=Hy Ax
   rw [Ax] at t0 ⊢;clear Ax;clear Av;clear Aq;clear Ak;have C:=Hy (by unfold CS.act;rw [if_neg (by rw [M.o];decide)];rw [if_neg (by rw [M.o];decide)];rw [if_neg (by rw [M.o];decide)];rw [if_pos M.o]:S.act c ns wn v=S.hello v.i v.j);have ⟨hx,BL⟩:=gn W1.heap.size;have ⟨W2,BI⟩:=gn (W1.alloc (.cells #[v.i,v.j] 36));have ⟨O2,Bj⟩:=gn (O1.upd W1.heap.size 0);have Ak:=HD.alloc 36 [v.i,v.j];rw [show W1.alloc (.cells ([v.i,v.j]:List Value).toArray 36)=W2 from BI,Bj,BL] at Ak
   have G:=Hy Ak.drew;have CE:=Hy (by rw [<- BL];exact Bc.o:w.heap.size<=hx);have C2:=Hy (show w.heap.size<=W2.drew.heap.size from nr Bc.o (by rw [<- BI];simp:W1.heap.size<=W2.heap.size));have I:=zJ O2 A p S v.i v.j W2.drew G.jn.cw g.ok.t;unfold HeE at I;have R:=fun (V:World) (OV:Own) (h:RW V OV B r c S)=>Zaf OV B r c S (⟨v.i,v.j,0,0,0,0,0,0,0,0,⟨#[]⟩,0,0,false,0,⟨#[]⟩,0,0,0,0,0,0,none,0,[],false,0,0⟩:P5) V h g.ok.t;unfold RLkE at R;have y:=yaB S v.i v.j;have ⟨L,hL⟩:=gn (S.helloL v.i v.j)
   have ⟨S2,f⟩:=gn (S.hello v.i v.j);rw [hL,f] at I;rw [hL] at y;rw [f] at C;simp only [hL,f] at R;have Ag:=Hy I;have Ah:=Hy R;have D:=Hy y;have AR:=Hy (fun V=>yaD v.i v.j V);let Bp:World->Prop:=fun w'=>Ci w' hx 0 v.i/\Ci w' hx 1 v.j;have A0:=Hy (show Bp W2.drew from ⟨G.hd.cell 0,G.hd.cell 1⟩);clear I R y hL f Bj Ak;go_upto_region 88 with (rw [BI]);clear BI t0 t1 t2 t3 t4 t5 t6 t7 t8 t9 AC AD AE AF AG;try rw [BL]
   clear BL;refine rg Bp fun J=>?_;(iterate 3 refine tq 0 ?_);(iterate 3 refine tq 4 ?_);refine rdy 3 fun K hK=>?_;go_simp;refine Ag.o.mono ?_;rintro e w3 ⟨v7,O3,rfl,A8,An,Ai,Af⟩;have H:=Hy (G.o.cstep A8 Ai Af);have Ap:=Hy (An.base C2.o);have Aa:=Hy T.o;clear A8 An Ai Af Ag;have A1:=Hy (show Bp w3 from ⟨H.o.hd.cell 0,H.o.hd.cell 1⟩)
   go_wp2_with fail;refine hk hK fun J=>?_;clear hK K
   refine rdy 7 fun K hK=>?_;go_simp;refine (AR.o w3).mono ?_;rintro e w4 ⟨rfl,Az⟩;have Z:=Hy (H.o.bel0 Az);have AQ:=Hy (Ap.o.ag Az (AgO.refl _ _));clear Az AR;have A4:=Hy (show Bp w4 from ⟨Z.o.hd.cell 0,Z.o.hd.cell 1⟩);go_wp2_with fail;refine hk hK fun J=>?_;clear hK K
   refine rdy 8 fun K hK=>?_;go_simp;refine (Ah.o w4 O3 Z.o.jn.rw).mono ?_;rintro e w5 ⟨v8,O5,rfl,AB,AA,Au,Aw⟩;have m:=Hy (Z.o.rstep AB Au Aw);have Ba:=Hy (AQ.o.rstep Aw Au);have Bb:=Hy AA;clear AB AA Au Aw Ah;have A5:=Hy (show Bp w5 from ⟨m.o.hd.cell 0,m.o.hd.cell 1⟩);go_wp2_with fail;refine hk hK fun J=>?_;clear hK K;refine tk 9 ?_;refine tk 10 ?_;refine dn ?_
   clear J A0 A1 A4 A5 G H Z Ap AQ HD;obtain ⟨ao,lc,rfl,z,Ao⟩:=Ba.o;obtain ⟨ro,rc,rfl,Aj⟩:=Bb.rde;have u:=Hy (Xi ro rc L w5 Aj D.1 (nr D.2 (by decide)));have Am:=Hy z;have A6:=Hy Ao;clear z Ao Aj;go_wp2_with fail;refine u.mono ?_;clear u;rintro e wb ⟨bo,bc,rfl,N,P⟩;have Ab:=Hy (m.bel0 P);have Ac:=Hy (Qa Am.o P);have U:=qc ao bo lc bc L L wb (Za (enc:=LV.cells) LV.len rfl Ac.o) (Za (enc:=LV.cells) LV.len rfl N) D.1 D.1
   rw [(Xs D.1).2 rfl] at U;have Ae:=Hy U;clear U N P Am;go_wp2_with fail;refine Ae.mono ?_;clear Ae;rintro e wc ⟨rfl,P⟩;have W:=Hy (Ab.bel0 P);have Ad:=Hy (Qa Ac.o P);have E:=Hy (yh w.heap.size lc ao L wc Ad.o D.1 (nr D.2 (by decide)));clear P Ab Ac;go_wp2_with fail;refine E.mono ?_;clear E;rintro e wd ⟨rfl,hf⟩;have Y:=W.over hf (fun b P q=>⟨A6.o b q,Xa Ad.o b q⟩);have E:=Hy Y;have As:=Hy W.ag;clear hf Y W Ad;go_wp2_with fail;go_ret
   exact ⟨O5,A,B,rfl,by rw [C.o];exact ⟨E.1,by have q:=AP.o;rw [C.o] at q;exact q,Aa.o⟩,As.o,E.2⟩
  by_cases AU:v.d=4
  ·have M:=Hy AU
   rw [AU] at t0 ⊢;clear AU;clear Av;clear Aq;clear Ak;clear Ax;have C:=Hy (by unfold CS.act;rw [if_neg (by rw [M.o];decide)];rw [if_neg (by rw [M.o];decide)];rw [if_neg (by rw [M.o];decide)];rw [if_neg (by rw [M.o];decide)];rw [if_pos M.o]:S.act c ns wn v=(S.rep ns wn v.s v.q v.h v.sq v.wk v.ep v.l v.en).1);have G:=Hy HD.drew
   have BQ:v.l≠[]->∀ b o sp,v.a=some ⟨b,o,sp⟩->b < w0.heap.size:=fun Ay b o sp e=>by
    obtain ⟨x,xs,hx⟩:=List.exists_cons_of_ne_nil Ay;obtain ⟨b',o',e',BX,_⟩:=HV.rd.2.2.2.2 0 x (by rw [hx];rfl);rw [e] at e';cases e';exact BX
   have Ch:=Hy BQ;have I:=ZD O1 A p S v.s v.q v.h v.sq v.wk v.ep v.l v.en v.a v.c b wn W1.drew G.jn.cw (HV.rd.below G.jn.bel rfl) (fun Ay b o sp e=>by rw [G.jn.old b (Ch.o Ay b o sp e)];decide) (fun x hx=>by have:=HV.sz x hx;unfold maxLen;omega) HV.ws (by rw [T.o];exact g.ok) (by have:=Al.o;omega) (by rw [T.o];omega) (by rw [At.1];exact Q.wk) (by omega) (by rw [At.2.1];omega) (by rw [At.2.1];omega);unfold ReE at I;rw [T.o] at I;have R:=fun (V:World) (OV:Own) (h:RW V OV B r c S) (C4:Below w0.heap.size w0 V) (C6:∀ b,b < w0.heap.size->OV b=3)=>xF OV B r c S (⟨0,0,0,0,0,0,0,0,0,0,⟨#[]⟩,0,0,false,0,⟨#[]⟩,v.s,v.q,v.h,v.sq,v.wk,v.ep,v.a,v.c,v.l,v.en,0,0⟩:P5) ns wn b V h Q.may Q.short (show RdE KeyL.cells 2 V v.a v.l.length v.c v.l from HV.rd.below C4 rfl) (fun Ay b o sp e=>by rw [C6 b (Ch.o Ay b o sp e)];decide) (fun x hx=>by have:=HV.sz x hx;omega) g.ok Q.ns (by have:=Al.o;omega) (by rw [Q.sl,<- g.L]) g.ti.len (fun j i hj _ s h1 h2=>BB.o j s (by have:=(lg hj).1;have:=g.ok.sl.len;omega) h1 h2) Q.wk (by omega)
   unfold RGoE at R;have y:=Zav S ns wn v.s v.q v.h v.sq v.wk v.ep v.l v.en (by omega);obtain ⟨⟨S2,L⟩,f⟩:∃ x,S.rep ns wn v.s v.q v.h v.sq v.wk v.ep v.l v.en=x:=⟨_,rfl⟩;rw [f] at I y C;simp only [f] at R;simp only at I y C;have Ag:=Hy I;have Ah:=Hy R;have D:=Hy y;have AR:=Hy (fun V=>yW v.s v.q v.h v.sq v.wk v.ep v.l v.en v.a v.c V);clear I R y f BQ;let Bq:World->Prop:=fun w'=>Ci w' w.heap.size 7 v.s/\Ci w' w.heap.size (7+1) v.q/\Ci w' w.heap.size (7+2) v.h/\Ci w' w.heap.size (7+3) v.sq/\Ci w' w.heap.size (7+4) v.wk/\Ci w' w.heap.size (7+5) v.ep/\Cl w' w.heap.size (7+6) (.slice v.a v.l.length v.c)/\Cl w' w.heap.size (7+7) (.bool v.en)
   have A0:=Hy (show Bq W1.drew from ⟨G.o.hd.cell 7,G.o.hd.cell 8,G.o.hd.cell 9,G.o.hd.cell 10,G.o.hd.cell 11,G.o.hd.cell 12,G.o.hd.cell 13,G.o.hd.cell 14⟩);go_upto_region 99 with fail;clear t0 t1 t2 t3 t4 t5 t6 t7 t8 t9 AC AD AE AF AG;refine rg Bq fun J=>?_;(iterate 4 refine tq 0 ?_);(iterate 4 refine tq 5 ?_);refine rdy 4 fun K hK=>?_;go_simp;refine Ag.o.mono ?_;rintro e w3 ⟨v7,O3,A3,rfl,A8,Bv,An,Ai,Af⟩;have H:=Hy (G.o.cstep A8 Ai Af);have Ap:=Hy (An.base (show w.heap.size<=W1.drew.heap.size from Bc.o));have Aa:=Hy (by rw [Bv];exact T.o:A3.cps.length=ns);clear A8 Bv An Ai Af Ag;have A1:=Hy (show Bq w3 from ⟨H.o.hd.cell 7,H.o.hd.cell 8,H.o.hd.cell 9,H.o.hd.cell 10,H.o.hd.cell 11,H.o.hd.cell 12,H.o.hd.cell 13,H.o.hd.cell 14⟩);go_wp2_with fail;refine hK.out _ _ (by first | with_reducible exact A0.o | with_reducible exact A1.o | with_reducible exact A4.o | with_reducible exact A5.o) (fun J=>?_)
   clear hK K;try go_frame
   refine rdy 9 fun K hK=>?_;go_simp;refine (AR.o w3).mono ?_;rintro e w4 ⟨rfl,Az⟩;have Z:=Hy (H.o.bel0 Az);have AQ:=Hy (Ap.o.ag Az (AgO.refl _ _));clear Az AR;have A4:=Hy (show Bq w4 from ⟨Z.o.hd.cell 7,Z.o.hd.cell 8,Z.o.hd.cell 9,Z.o.hd.cell 10,Z.o.hd.cell 11,Z.o.hd.cell 12,Z.o.hd.cell 13,Z.o.hd.cell 14⟩);go_wp2_with fail;refine hk hK fun J=>?_;clear hK K
   refine rdy 10 fun K hK=>?_;go_simp;refine (Ah.o w4 O3 Z.o.jn.rw Z.o.jn.bel Z.o.jn.old).mono ?_;rintro e w5 ⟨v8,O5,B5,rfl,AB,AA,Au,Aw⟩;have m:=Hy (Z.o.rstep AB Au Aw);have Ba:=Hy (AQ.o.rstep Aw Au);have Bb:=Hy AA;clear AB AA Au Aw Ah;have A5:=Hy (show Bq w5 from ⟨m.o.hd.cell 7,m.o.hd.cell 8,m.o.hd.cell 9,m.o.hd.cell 10,m.o.hd.cell 11,m.o.hd.cell 12,m.o.hd.cell 13,m.o.hd.cell 14⟩);go_wp2_with fail;refine hK.out _ _ (by first | with_reducible exact A0.o | with_reducible exact A1.o | with_reducible exact A4.o | with_reducible exact A5.o) (fun J=>?_)
   clear hK K;refine tk 11 ?_;refine tk 12 ?_;refine dn ?_;clear J A0 A1 A4 A5 G H Z Ap AQ HD;obtain ⟨ao,lc,rfl,z,Ao⟩:=Ba.o;obtain ⟨ro,rc,rfl,Aj⟩:=Bb.rde;have u:=Hy (Xi ro rc L w5 Aj D.1 (nr D.2 (by decide)));have Am:=Hy z;have A6:=Hy Ao;clear z Ao Aj;go_wp2_with fail;refine u.mono ?_;clear u;rintro e wb ⟨bo,bc,rfl,N,P⟩;have Ab:=Hy (m.bel0 P);have Ac:=Hy (Qa Am.o P);have U:=qc ao bo lc bc L L wb (Za (enc:=LV.cells) LV.len rfl Ac.o) (Za (enc:=LV.cells) LV.len rfl N) D.1 D.1
   rw [(Xs D.1).2 rfl] at U;have Ae:=Hy U;clear U N P Am;go_wp2_with fail;refine Ae.mono ?_;clear Ae;rintro e wc ⟨rfl,P⟩;have W:=Hy (Ab.bel0 P);have Ad:=Hy (Qa Ac.o P);have E:=Hy (yh w.heap.size lc ao L wc Ad.o D.1 (nr D.2 (by decide)));clear P Ab Ac;go_wp2_with fail;refine E.mono ?_;clear E;rintro e wd ⟨rfl,hf⟩;have Y:=W.over hf (fun b P q=>⟨A6.o b q,Xa Ad.o b q⟩);have E:=Hy Y;have As:=Hy W.ag;clear hf Y W Ad;go_wp2_with fail;go_ret
   exact ⟨O5,A3,B5,rfl,by rw [C.o];exact ⟨E.1,by have q:=AP.o;rw [C.o] at q;exact q,Aa.o⟩,As.o,E.2⟩
  by_cases Bf:v.d=5
  ·have M:=Hy Bf
   rw [Bf] at t0 ⊢;clear Bf;clear Av;clear Aq;clear Ak;clear Ax;clear AU;have C:=Hy (by unfold CS.act;rw [if_neg (by rw [M.o];decide)];rw [if_neg (by rw [M.o];decide)];rw [if_neg (by rw [M.o];decide)];rw [if_neg (by rw [M.o];decide)];rw [if_neg (by rw [M.o];decide)];rw [if_pos M.o]:S.act c ns wn v=(S.wake v.x).1);have G:=Hy HD.drew;have I:=YU O1 A p S v.x b sl W1.drew G.jn.cw (by rw [T.o];exact g.ok) Al.1 (by have:=Al.o;omega) (by rw [T.o];omega) (by rw [At.2.1];omega) (by rw [At.2.1];omega) (by rw [At.2.2.1];exact Q.sl) (by omega)
   unfold WkE at I;have R:=fun (V:World) (OV:Own) (h:RW V OV B r c S)=>qaG OV B r c S ns sl b v.x V h Q.may Q.short g.ok Q.ns g.ti.wk Al.1 (by have:=Al.o;omega) g.ti.len Q.sl;unfold RLkE at R;have y:=QaN g.ok v.x (by rw [At.2.1];omega) Al.1 (by omega) (by rw [At.2.2.1,Q.sl];omega);obtain ⟨⟨S2,L⟩,f⟩:∃ x,S.wake v.x=x:=⟨_,rfl⟩;rw [f] at I y C;simp only [f] at R;simp only at I y C;have Ag:=Hy I;have Ah:=Hy R;have D:=Hy y;clear I R y f;have A0:=Hy (show Ci W1.drew w.heap.size 3 v.x from G.hd.cell 3)
   go_upto_region 112 with fail;clear t0 t1 t2 t3 t4 t5 t6 t7 t8 t9 AC AD AE AF AG;refine rg (fun w'=>Ci w' w.heap.size 3 v.x) fun J=>?_;(iterate 3 refine tq 0 ?_);(iterate 3 refine tq 4 ?_);refine rdy 3 fun K hK=>?_;go_simp;refine Ag.o.mono ?_;rintro e w3 ⟨v7,O3,rfl,A8,An,Ai,Af⟩;have H:=Hy (G.o.cstep A8 Ai Af);have Ap:=Hy (An.base (show w.heap.size<=W1.drew.heap.size from Bc.o));have Aa:=Hy T.o;clear A8 An Ai Af Ag;have A1:=Hy (show Ci w3 w.heap.size 3 v.x from H.o.hd.cell 3)
   go_wp2_with fail;refine hk hK fun J=>?_;clear hK K
   refine rdy 7 fun K hK=>?_;go_simp;refine (Ah.o w3 O3 H.o.jn.rw).mono ?_;rintro e w5 ⟨v8,O5,rfl,AB,AA,Au,Aw⟩;have m:=Hy (H.o.rstep AB Au Aw);have Ba:=Hy (Ap.o.rstep Aw Au);have Bb:=Hy AA;clear AB AA Au Aw Ah;have A5:=Hy (show Ci w5 w.heap.size 3 v.x from m.o.hd.cell 3);go_wp2_with fail;refine hk hK fun J=>?_;clear hK K;refine tk 8 ?_;refine tk 9 ?_;refine dn ?_;clear J A0 A1 A5 G H Ap HD
   obtain ⟨ao,lc,rfl,z,Ao⟩:=Ba.o;obtain ⟨ro,rc,rfl,Aj⟩:=Bb.rde;have u:=Hy (Xi ro rc L w5 Aj D.1 (nr D.2 (by decide)));have Am:=Hy z;have A6:=Hy Ao;clear z Ao Aj;go_wp2_with fail;refine u.mono ?_;clear u;rintro e wb ⟨bo,bc,rfl,N,P⟩;have Ab:=Hy (m.bel0 P);have Ac:=Hy (Qa Am.o P);have U:=qc ao bo lc bc L L wb (Za (enc:=LV.cells) LV.len rfl Ac.o) (Za (enc:=LV.cells) LV.len rfl N) D.1 D.1;rw [(Xs D.1).2 rfl] at U;have Ae:=Hy U
   clear U N P Am;go_wp2_with fail;refine Ae.mono ?_;clear Ae;rintro e wc ⟨rfl,P⟩;have W:=Hy (Ab.bel0 P);have Ad:=Hy (Qa Ac.o P);have E:=Hy (yh w.heap.size lc ao L wc Ad.o D.1 (nr D.2 (by decide)));clear P Ab Ac;go_wp2_with fail;refine E.mono ?_;clear E;rintro e wd ⟨rfl,hf⟩;have Y:=W.over hf (fun b P q=>⟨A6.o b q,Xa Ad.o b q⟩);have E:=Hy Y;have As:=Hy W.ag;clear hf Y W Ad;go_wp2_with fail;go_ret;exact ⟨O5,A,B,rfl,by rw [C.o];exact ⟨E.1,by have q:=AP.o;rw [C.o] at q;exact q,Aa.o⟩,As.o,E.2⟩
  by_cases Bm:v.d=6
  ·have M:=Hy Bm
   rw [Bm] at t0 ⊢;clear Bm;clear Av;clear Aq;clear Ak;clear Ax;clear AU;clear Bf;have C:=Hy (show S.act c ns wn v=(match S.rightV c v.i v.j v.x with | none=>S | some r=>(S.rep ns wn r.s r.q r.h r.sq r.wk r.ep r.l r.en).1) from by unfold CS.act;rw [if_neg (by rw [M.o];decide)];rw [if_neg (by rw [M.o];decide)];rw [if_neg (by rw [M.o];decide)];rw [if_neg (by rw [M.o];decide)];rw [if_neg (by rw [M.o];decide)];rw [if_neg (by rw [M.o];decide)];rw [if_pos M.o];(try (cases S.rightV c v.i v.j v.x <;> rfl)));have Bw:=xaE O1 B r c S v ns b W1 HD.jn.rw Q.may Q.short Q.gw g.ok Q.ns g.ti.wk (by have:=Al.o;omega) (by rw [Q.sl,<- g.L]) (fun t ht=>(g.it t ht).2)
   rw [M.o] at Bw;unfold RiE at Bw;have ⟨F,Ca⟩:=gn (S.rightV c v.i v.j v.x);rw [Ca] at Bw C;have BE:=Hy Bw;have BU:=Hy Ca;clear Bw Ca;go_wp2_with fail;clear t0 t1 t2 t3 t4 t5 t6 t7 t8 t9 AC AD AE AF AG;rcases F with _ | F
   ·refine BE.mono ?_
    clear BE;rintro e w2 ⟨Bk,rfl⟩;have AL:=Hy (show S.act c ns wn v=S from C.o);clear C;have C:=AL;have Aa:=Hy T.o;have G:=Hy (HD.bel0 Bk);have H:=Hy (G.bel0 (show Below w2.heap.size w2 (w2.alloc (.cells #[(),(),(),(),(),(),.slice none 0 0,false] 65)) from (bf _ w2).alloc (nl _) _));clear HD G Bk;have u:=Hy (Xi none 0 [] (w2.alloc (.cells #[(),(),(),(),(),(),.slice none 0 0,false] 65)) (show RdE RLV 28 (w2.alloc (.cells #[(),(),(),(),(),(),.slice none 0 0,false] 65)) none ([]:List LV).length 0 [] from ⟨rfl,nl _,nz _,fun _=>rfl,fun i x h=>(by simp at h)⟩) (fun x h=>(by cases h)) (by decide))
    simp only [List.length_nil] at u;go_wp2_with fail;refine u.mono ?_;clear u;rintro e wb ⟨bo,bc,rfl,N,P⟩;have Ab:=Hy (H.bel0 P);have U:=qc none bo 0 bc [] [] wb ⟨rfl,nl _,nz _,fun _=>rfl,fun i x h=>(by simp at h)⟩ (Za (enc:=LV.cells) LV.len rfl N) (fun x h=>(by cases h)) (fun x h=>(by cases h));rw [show eqLs [] []=true from rfl] at U;simp only [List.length_nil] at U;have Ae:=Hy U;clear U N P;simp only [List.length_nil];go_wp2_with fail;refine Ae.mono ?_;clear Ae;rintro e wc ⟨rfl,P⟩;have W:=Hy (Ab.bel0 P)
    have Y:=yh 0 0 none [] wc (World.ownsRow_nil _ _ _ _) (fun x h=>(by cases h)) (by decide);simp only [List.length_nil] at Y;have E:=Hy Y;clear P Y Ab;go_wp2_with fail;refine E.mono ?_;clear E;rintro e wd ⟨rfl,hf⟩;have Y:=W.over hf (fun b P q=>(by simp [Value.ownBlock] at q));have E:=Hy Y;have As:=Hy W.ag;clear hf Y W;go_wp2_with fail;go_ret;exact ⟨O1,A,B,rfl,by rw [C.o];exact ⟨E.1,by have q:=AP.o;rw [C.o] at q;exact q,Aa.o⟩,As.o,E.2⟩
   refine BE.mono ?_
   clear BE;rintro e w2 ⟨Bk,a9,c9,rfl,Aj,Cv⟩;have AL:=Hy (show S.act c ns wn v=(S.rep ns wn F.s F.q F.h F.sq F.wk F.ep F.l F.en).1 from C.o);clear C;have C:=AL;clear AL;have ⟨O2,Bj⟩:=gn (O1.upd W1.heap.size 0);have Ak:=HD.below Bk (AgO.upd W1.heap.size 0 O1);rw [Bj] at Ak;have Ax:=Ak.alloc 65 [F.s,F.q,F.h,F.sq,F.wk,F.ep,.slice a9 F.l.length c9,.bool F.en];have ⟨rx,Cb⟩:=gn w2.heap.size;have ⟨W3,BJ⟩:=gn (w2.alloc (.cells #[F.s,F.q,F.h,F.sq,F.wk,F.ep,.slice a9 F.l.length c9,.bool F.en] 65))
   have ⟨O3,BG⟩:=gn (O2.upd w2.heap.size 0);rw [show w2.alloc (.cells ([F.s,F.q,F.h,F.sq,F.wk,F.ep,.slice a9 F.l.length c9,.bool F.en]:List Value).toArray 65)=W3 from BJ,BG,Cb] at Ax;have H:=Hy Ax.drew;have BY:Below w2.heap.size w2 W3.drew:=by rw [<- BJ];exact ((bf _ w2).alloc (nl _) _).drew
   have BD:=Hy (Aj.below BY rfl)
   have BT:=Hy (show F.l≠[]->∀ b o sp,a9=some ⟨b,o,sp⟩->O3 b=0 from fun Ay b o sp e=>by
    have h1:=Cv b o sp e;have h2:O2 b=0:=by rw [<- Bj,Own.upd_ge h1]
    by_cases hl:b < w2.heap.size
    ·rw [<- BG,Own.upd_lt hl];exact h2
    ·rw [<- BG,Own.upd_ge (by omega)])
   have C3:=Hy (show w.heap.size<=W3.drew.heap.size from nr Bc.o (nr Bk.size BY.size));have Ck:=Hy (Ya1 (by have:=Q.sl;omega) BU.o);have Cm:=Hy (Zao Q.gw.2 BU.o);have I:=ZD O3 A p S F.s F.q F.h F.sq F.wk F.ep F.l F.en a9 c9 b wn W3.drew H.jn.cw BD.o (fun Ay b o sp e=>by rw [BT.o Ay b o sp e];decide) (fun x hx=>by have:=Cm.o x hx;unfold maxLen;omega) Ck.o (by rw [T.o];exact g.ok) (by have:=Al.o;omega) (by rw [T.o];omega) (by rw [At.1];exact Q.wk) (by omega) (by rw [At.2.1];omega) (by rw [At.2.1];omega)
   unfold ReE at I;rw [T.o] at I;have R:=fun (V:World) (OV:Own) (h:RW V OV B r c S) (C7:RdE KeyL.cells 2 V a9 F.l.length c9 F.l) (C5:F.l≠[]->∀ b o sp,a9=some ⟨b,o,sp⟩->OV b % 8≠2)=>xF OV B r c S (⟨0,0,0,0,0,0,0,0,0,0,⟨#[]⟩,0,0,false,0,⟨#[]⟩,F.s,F.q,F.h,F.sq,F.wk,F.ep,a9,c9,F.l,F.en,0,0⟩:P5) ns wn b V h Q.may Q.short C7 C5 (fun x hx=>by have:=Cm.o x hx;omega) g.ok Q.ns (by have:=Al.o;omega) (by rw [Q.sl,<- g.L]) g.ti.len (fun j i hj _ s h1 h2=>BB.o j s (by have:=(lg hj).1;have:=g.ok.sl.len;omega) h1 h2) Q.wk (by omega)
   unfold RGoE at R;have y:=Zav S ns wn F.s F.q F.h F.sq F.wk F.ep F.l F.en (by omega);obtain ⟨⟨S2,L⟩,f⟩:∃ x,S.rep ns wn F.s F.q F.h F.sq F.wk F.ep F.l F.en=x:=⟨_,rfl⟩;rw [f] at I y C;simp only [f] at R;simp only at I y C;have Ag:=Hy I;have Ah:=Hy R;have D:=Hy y;have AR:=Hy (fun V=>yW F.s F.q F.h F.sq F.wk F.ep F.l F.en a9 c9 V);have Cn:=Hy BJ;clear I R y f Ak Ax Bj BG BJ Aj Cv Bk BY HD BU;let Br:World->Prop:=fun w'=>Ci w' rx 0 F.s/\Ci w' rx 1 F.q/\Ci w' rx 2 F.h/\Ci w' rx 3 F.sq/\Ci w' rx 4 F.wk/\Ci w' rx 5 F.ep/\Cl w' rx 6 (.slice a9 F.l.length c9)/\Cl w' rx 7 (.bool F.en)
   have A0:=Hy (show Br W3.drew from ⟨H.hd.cell 0,H.hd.cell 1,H.hd.cell 2,H.hd.cell 3,H.hd.cell 4,H.hd.cell 5,H.hd.cell 6,H.hd.cell 7⟩);go_upto_region 129 with (rw [Cn.o]);clear Cn;try rw [Cb]
   clear Cb;refine rg Br fun J=>?_;(iterate 3 refine tq 0 ?_);(iterate 3 refine tq 4 ?_);refine rdy 3 fun K hK=>?_;go_simp;refine Ag.o.mono ?_;rintro e w3 ⟨v7,O4,A3,rfl,A8,Bv,An,Ai,Af⟩;have Z:=Hy (H.o.cstep A8 Ai Af);have Ap:=Hy (An.base C3.o);have Aa:=Hy (by rw [Bv];exact T.o:A3.cps.length=ns);have BM:=Hy (BD.o.boxW Af (fun Ay b o sp e=>by rw [BT.o Ay b o sp e];decide));have Cg:=Hy (show F.l≠[]->∀ b o sp,a9=some ⟨b,o,sp⟩->O4 b % 8≠2 from fun Ay b o sp e=>by (obtain ⟨x,xs,hx⟩:=List.exists_cons_of_ne_nil Ay);(obtain ⟨b',o',e',BX,_⟩:=BD.o.2.2.2.2 0 x (by rw [hx];rfl));(have h0:=BT.o Ay b o sp e);rw [e] at e';cases e';rw [Ai _ BX,h0];decide);clear A8 Bv An Ai Af Ag;have A1:=Hy (show Br w3 from ⟨Z.o.hd.cell 0,Z.o.hd.cell 1,Z.o.hd.cell 2,Z.o.hd.cell 3,Z.o.hd.cell 4,Z.o.hd.cell 5,Z.o.hd.cell 6,Z.o.hd.cell 7⟩)
   go_wp2_with fail;refine hk hK fun J=>?_;clear hK K
   refine rdy 7 fun K hK=>?_;go_simp;refine (AR.o w3).mono ?_;rintro e w4 ⟨rfl,Az⟩;have m:=Hy (Z.o.bel0 Az);have AQ:=Hy (Ap.o.ag Az (AgO.refl _ _));have BN:=Hy (BM.o.below Az rfl);clear Az AR;have A4:=Hy (show Br w4 from ⟨m.o.hd.cell 0,m.o.hd.cell 1,m.o.hd.cell 2,m.o.hd.cell 3,m.o.hd.cell 4,m.o.hd.cell 5,m.o.hd.cell 6,m.o.hd.cell 7⟩);go_wp2_with fail;refine hK.out _ _ (by first | with_reducible exact A0.o | with_reducible exact A1.o | with_reducible exact A4.o | with_reducible exact A5.o) (fun J=>?_)
   clear hK K;try go_frame
   refine rdy 8 fun K hK=>?_;go_simp;refine (Ah.o w4 O4 m.o.jn.rw BN.o Cg.o).mono ?_;rintro e w5 ⟨v8,O5,B5,rfl,AB,AA,Au,Aw⟩;have AM:=Hy (m.o.rstep AB Au Aw);have Ba:=Hy (AQ.o.rstep Aw Au);have Bb:=Hy AA;clear AB AA Au Aw Ah;have A5:=Hy (show Br w5 from ⟨AM.o.hd.cell 0,AM.o.hd.cell 1,AM.o.hd.cell 2,AM.o.hd.cell 3,AM.o.hd.cell 4,AM.o.hd.cell 5,AM.o.hd.cell 6,AM.o.hd.cell 7⟩);go_wp2_with fail;refine hK.out _ _ (by first | with_reducible exact A0.o | with_reducible exact A1.o | with_reducible exact A4.o | with_reducible exact A5.o) (fun J=>?_)
   clear hK K;refine tk 9 ?_;refine tk 10 ?_;refine dn ?_;clear J A0 A1 A4 A5 H Z m Ap AQ BD BM BN;obtain ⟨ao,lc,rfl,z,Ao⟩:=Ba.o;obtain ⟨ro,rc,rfl,Aj⟩:=Bb.rde;have u:=Hy (Xi ro rc L w5 Aj D.1 (nr D.2 (by decide)));have Am:=Hy z;have A6:=Hy Ao;clear z Ao Aj;go_wp2_with fail;refine u.mono ?_;clear u;rintro e wb ⟨bo,bc,rfl,N,P⟩;have Ab:=Hy (AM.bel0 P);have Ac:=Hy (Qa Am.o P);have U:=qc ao bo lc bc L L wb (Za (enc:=LV.cells) LV.len rfl Ac.o) (Za (enc:=LV.cells) LV.len rfl N) D.1 D.1
   rw [(Xs D.1).2 rfl] at U;have Ae:=Hy U;clear U N P Am;go_wp2_with fail;refine Ae.mono ?_;clear Ae;rintro e wc ⟨rfl,P⟩;have W:=Hy (Ab.bel0 P);have Ad:=Hy (Qa Ac.o P);have E:=Hy (yh w.heap.size lc ao L wc Ad.o D.1 (nr D.2 (by decide)));clear P Ab Ac;go_wp2_with fail;refine E.mono ?_;clear E;rintro e wd ⟨rfl,hf⟩;have Y:=W.over hf (fun b P q=>⟨A6.o b q,Xa Ad.o b q⟩);have E:=Hy Y;have As:=Hy W.ag;clear hf Y W Ad;go_wp2_with fail;go_ret
   exact ⟨O5,A3,B5,rfl,by rw [C.o];exact ⟨E.1,by have q:=AP.o;rw [C.o] at q;exact q,Aa.o⟩,As.o,E.2⟩
  have f0:(v.d == 0)=false:=by simpa using Av
  have f1:(v.d == 1)=false:=by simpa using Aq
  have f2:(v.d == 2)=false:=by simpa using Ak
  have f3:(v.d == 3)=false:=by simpa using Ax
  have f4:(v.d == 4)=false:=by simpa using AU
  have f5:(v.d == 5)=false:=by simpa using Bf
  have f6:(v.d == 6)=false:=by simpa using Bm
  have C:=Hy (by unfold CS.act;rw [if_neg Av,if_neg Aq,if_neg Ak,if_neg Ax,if_neg AU,if_neg Bf,if_neg Bm]:S.act c ns wn v=S);clear Av;clear Aq;clear Ak;clear Ax;clear AU;clear Bf;clear Bm;have Aa:=Hy T.o;have H:=Hy HD.o;clear HD;have u:=Hy (Xi none 0 [] W1 (show RdE RLV 28 W1 none ([]:List LV).length 0 [] from ⟨rfl,nl _,nz _,fun _=>rfl,fun i x h=>(by simp at h)⟩) (fun x h=>(by cases h)) (by decide))
 all_goals
  simp only [List.length_nil] at u;go_wp2_with fail;refine u.mono ?_;clear u;rintro e wb ⟨bo,bc,rfl,N,P⟩;have Ab:=Hy (H.bel0 P);have U:=qc none bo 0 bc [] [] wb ⟨rfl,nl _,nz _,fun _=>rfl,fun i x h=>(by simp at h)⟩ (Za (enc:=LV.cells) LV.len rfl N) (fun x h=>(by cases h)) (fun x h=>(by cases h));rw [show eqLs [] []=true from rfl] at U
  simp only [List.length_nil] at U;have Ae:=Hy U;clear U N P;simp only [List.length_nil];go_wp2_with fail;refine Ae.mono ?_;clear Ae;rintro e wc ⟨rfl,P⟩;have W:=Hy (Ab.bel0 P);have Y:=yh 0 0 none [] wc (World.ownsRow_nil _ _ _ _) (fun x h=>(by cases h)) (by decide);simp only [List.length_nil] at Y;have E:=Hy Y;clear P Y Ab;go_wp2_with fail;refine E.mono ?_;clear E;rintro e wd ⟨rfl,hf⟩;have Y:=W.over hf (fun b P q=>(by simp [Value.ownBlock] at q));have E:=Hy Y;have As:=Hy W.ag;clear hf Y W;go_wp2_with fail
  go_ret;exact ⟨O1,A,B,rfl,by rw [C.o];exact ⟨E.1,by have q:=AP.o;rw [C.o] at q;exact q,Aa.o⟩,As.o,E.2⟩
end
def GrE (c:CfgM) (l:List AV) (most:Nat) (w:World) (e:Ending) (w':World):Prop:=∃ g:Bool,e=.returned (.bool g)/\(g=false->greatC c=false/\l.length<=most/\∀ x∈l,x.tx.size<=100/\greatI x.l=false)/\Below w.heap.size w w'
theorem Xab (c:CfgM) (a:Option Addr) (n cap:Nat) (l:List AV) (A:Nat) (w:World) (hc:CfgOK w c) (hr:RdE AV.cells 15 w a n cap l) (D:∀ x∈l,x.good w) (hm:A<=1000):
  Calls prog 35 #[c.val,.slice a n cap,(A:Nat)] w (GrE c l A w):=by
 have ⟨P,E⟩:=gn (w.alloc (.cells #[.slice c.aw c.nw c.cw,.slice c.ac c.nc c.cc,c.wk,c.cp,c.sl,c.ba,c.le,c.he,c.fi,c.ca,c.ji,c.ne] 25));have R:Below w.heap.size w P:=by rw [<- E];exact (bf _ w).alloc (nl _) _
 have V:Blk P w.heap.size 25 [.slice c.aw c.nw c.cw,.slice c.ac c.nc c.cc,c.wk,c.cp,c.sl,c.ba,c.le,c.he,c.fi,c.ca,c.ji,c.ne]:=by rw [<- E];exact hn_ w _
 have HB:=Hy R;have k:=Hy V;have HC:=Hy hc;have HR:=Hy hr;have b:=Hy D;have d:=Hy hr.1;have Av:=hr.2.1;have s:=hr.2.2.1;unfold maxLen at s;clear R V hc hr D;unfold CfgM.val GrE
 by_cases T:A < n
 ·have d1:decide (n<=A)=false:=by simp;omega
  have Ar:decide ((n:Int)<=(A:Int))=false:=by simp;omega
  have d2:decide ((A:Int) < (n:Int))=true:=by simp;omega
  have q:decide (A < n)=true:=by simp;omega
  go_in;go_wp2_with (rw [E]);clear E;go_loop [7] (fun v=>v=.int .i64 0) (fun v=>0)
  case atStart=>rfl
  case round=>
   subst hrel;obtain ⟨z,x1,x2,x3,x4,x5,x6,x7,x8,x9,L,M⟩:=c12 k.o;have B:=yO c P (HC.below HB.o rfl);unfold CfgM.val at B;have ⟨g,D⟩:=gn (greatC c);rw [D] at B;have G:=Hy B;have W:=Hy D;clear B D;go_wp2_with fail;clear z x1 x2 x3 x4 x5 x6 x7 x8 x9 L M;refine G.mono ?_;rintro e w4 ⟨rfl,Q⟩;have F:=Hy (HB.trans (Q.mono HB.size));clear Q G;cases g
   ·go_wp2_with fail
    go_ret;exact ⟨true,rfl,(fun h=>by cases h),F.o⟩
   go_wp2_with fail
   go_ret;exact ⟨true,rfl,(fun h=>by cases h),F.o⟩
 have r:n<=A:=by omega
 have Am:(n:Int)<=(A:Int):=by omega
 have d2:decide ((A:Int) < (n:Int))=false:=by simp;omega
 have q:decide (A < n)=false:=by simp;omega
 clear T;go_in;go_wp2_with (rw [E]);clear E;go_loopw [7] (fun v wr=>∃ i:Nat,i<=n/\v=.int .i64 i/\Hid (∀ (j:Nat) x,j < i->l[j]?=some x->x.tx.size<=100/\greatI x.l=false)/\Hid (Below P.heap.size P wr)) (fun v _=>n - (intOf v).toNat)
 case atStart=>exact ⟨0,nz _,rfl,fun j x Y _=>by omega,bf _ _⟩
 case round=>
  obtain ⟨i,hi,rfl,HT,I⟩:=hrel;have C:=Hy (HB.trans (I.mono HB.size))
  by_cases U:i < n
  ·obtain ⟨x,N⟩:∃ x,l[i]?=some x:=⟨l[i]'(by rw [d.o];exact U),le_ _⟩
   have H:=b.o x (lm N);have t:=H.2.2.2.1;unfold maxLen at t;obtain ⟨b1,o1,rfl,_,K⟩:=(HR.below C.o rfl).2.2.2.2 i x N;have u4:wr.cell? ⟨b1,o1+i * 15+4,none⟩=some (.string x.tx):=K 4 (by decide);have Aw:wr.cell? ⟨b1,o1+i * 15+7+6,none⟩=some (.slice x.a x.l.length x.c):=K 13 (by decide);have J:=Hy (qal x.a x.l.length x.c x.l wr (H.2.2.2.2.1.below C.o rfl) H.2.2.2.2.2);have p:=Hy N;have k1:(0:Int)<=(i:Int):=by omega
   have k2:(i:Int) < (n:Int):=by omega
   clear N H K
   by_cases Z:100 < x.tx.size
   ·have d3:decide (100 < x.tx.size)=true:=by simpa using Z
    have d4:decide ((100:Int) < (x.tx.size:Int))=true:=by simp;omega
    clear Z;go_wp2_with fail;go_ret;exact ⟨true,rfl,(fun h=>by cases h),C.o⟩
   have d3:decide (100 < x.tx.size)=false:=by simpa using Z
   have HS:=Hy (by omega:x.tx.size<=100);have An:x.tx.size<=100:=by omega
   have d4:decide ((100:Int) < (x.tx.size:Int))=false:=by simp;omega
   clear Z;have ⟨g,D⟩:=gn (greatI x.l);rw [D] at J;have W:=Hy D;clear D;go_wp2_with fail;refine J.mono ?_;rintro e w2 ⟨rfl,rfl⟩;clear J;cases g
   ·have f:Hid (∀ (j:Nat) y,j < i+1->l[j]?=some y->y.tx.size<=100/\greatI y.l=false):=by
     intro j y Y u;rcases (by omega:j < i∨j=i) with h | h
     ·exact HT.o j y h u
     ·subst h;rw [p.o] at u;cases u;exact ⟨HS.o,W.o⟩
    go_wp2_with fail;go_roundw
    case rel=>exact ⟨i+1,by omega,by go_num,f.o,I.o⟩
    case measure=>simp [intOf];omega
   go_wp2_with fail
   go_ret;exact ⟨true,rfl,(fun h=>by cases h),C.o⟩
  obtain rfl:i=n:=by omega
  clear U hi;have m:=Hy (k.below I.o k.lt);obtain ⟨z,x1,x2,x3,x4,x5,x6,x7,x8,x9,L,M⟩:=c12 m.o;have B:=yO c wr (HC.below C.o rfl);unfold CfgM.val at B;have ⟨g,D⟩:=gn (greatC c);rw [D] at B;have G:=Hy B;have W:=Hy D;clear B D;go_wp2_with fail;clear z x1 x2 x3 x4 x5 x6 x7 x8 x9 L M;refine G.mono ?_;rintro e w4 ⟨rfl,Q⟩;have F:=Hy (C.trans (Q.mono C.size));clear Q G;cases g
  ·go_wp2_with fail
   go_ret;exact ⟨false,rfl,(fun _=>⟨W.o,by rw [d.o];exact r,fun x N=>by obtain ⟨j,Y⟩:=List.getElem?_of_mem N;exact HT.o j x (by rw [<- d.o];exact (lg Y).1) Y⟩),F.o⟩
  go_wp2_with fail
  go_ret;exact ⟨true,rfl,(fun h=>by cases h),F.o⟩
section
structure LS (w0 w:World) (O:Own) (A:CA) (p:Nat) (B:RA) (r:Nat) (c:CfgM) (S:CS) (ns sl:Nat) (b:Int) (bx:List (Nat×TypeId×List Value)):Prop where
 js:JS w0 w O A p B r c S ns sl b
 box:∀ x∈bx,Blk w x.1 x.2.1 x.2.2/\O x.1=0
section
variable {w0 w w2:World} {O O2:Own} {A A2:CA} {p r:Nat} {S S2:CS} {B B2:RA} {c:CfgM} {ns sl:Nat} {b b2:Int} {bx:List (Nat×TypeId×List Value)}
theorem LS.act (h:LS w0 w O A p B r c S ns sl b bx) (hj:JS w0 w2 O2 A2 p B2 r c S2 ns sl b2) (ha:AgO w.heap.size O O2) (hf:Frm (fun b=>O b % 8=1∨O b % 8=2) w w2):LS w0 w2 O2 A2 p B2 r c S2 ns sl b2 bx:=
 ⟨hj,fun x C=>⟨(h.box x C).1.frm hf (by rw [(h.box x C).2];decide),by rw [ha _ (h.box x C).1.lt];exact (h.box x C).2⟩⟩
theorem LS.below (h:LS w0 w O A p B r c S ns sl b bx) (hb:Below w.heap.size w w2) (ha:AgO w.heap.size O O2):LS w0 w2 O2 A p B r c S ns sl b bx:=
 ⟨h.js.below hb ha,fun x C=>⟨(h.box x C).1.below hb (h.box x C).1.lt,by rw [ha _ (h.box x C).1.lt];exact (h.box x C).2⟩⟩
theorem LS.bel0 (h:LS w0 w O A p B r c S ns sl b bx) (hb:Below w.heap.size w w2):LS w0 w2 O A p B r c S ns sl b bx:=h.below hb (AgO.refl _ _)
theorem LS.mono (h:LS w0 w O A p B r c S ns sl b bx) (hb:b<=b2):LS w0 w O A p B r c S ns sl b2 bx:=⟨h.js.mono hb,h.box⟩
theorem LS.cell {g:Nat} {e:TypeId} {cs:List Value} (h:LS w0 w O A p B r c S ns sl b bx) (hx:(g,e,cs)∈bx) (j:Nat):w.cell? ⟨g,j,none⟩=cs[j]?:=(h.box _ hx).1.cell j
theorem LS.hd {g:Nat} {e:TypeId} {cs:List Value} (h:LS w0 w O A p B r c S ns sl b ((g,e,cs) :: bx)):Blk w g e cs:=(h.box _ (List.mem_cons_self ..)).1
theorem LS.bel (h:LS w0 w O A p B r c S ns sl b bx):Below w0.heap.size w0 w:=h.js.jn.bel
theorem LS.alloc (h:LS w0 w O A p B r c S ns sl b bx) (e:TypeId) (cs:List Value):LS w0 (w.alloc (.cells cs.toArray e)) (O.upd w.heap.size 0) A p B r c S ns sl b ((w.heap.size,e,cs) :: bx):=by
 have q:=h.below ((bf w.heap.size w).alloc (nl _) (.cells cs.toArray e)) (AgO.upd w.heap.size 0 O);refine ⟨q.js,fun x C=>?_⟩;rcases List.mem_cons.1 C with rfl | C
 ·exact ⟨by unfold Blk;exact hn_ w _,Own.upd_ge (nl _)⟩
 exact q.box x C
end
def lawO (w:World):Own:=fun b=>if b < w.heap.size then 3 else 0
theorem Qav {w:World} {b:Nat} (h:b < w.heap.size):lawO w b=3:=by unfold lawO;rw [if_pos h]
theorem zaX {w:World} {b:Nat} (h:w.heap.size<=b):lawO w b=0:=by unfold lawO;rw [if_neg (by omega)]
theorem CfA.law {O4:Own} {c:CfgM} (hc:CfgOK w c) (hb:Below w.heap.size w w4) (ha:∀ b,b < w.heap.size->O4 b=3):CfA O4 w4 c:=⟨w,hc,hb,ha⟩
theorem YaT {c:CfgM} (h:greatC c=false):c.short:=by
 unfold greatC at h;rw [Bool.or_eq_false_iff] at h;have h1:=QZ h.1;have B:=XD h.2;exact ⟨fun x A=>by have:=B.2 x A;omega,fun x A=>by have:=h1.2 x A;omega⟩
theorem ZaV {c:CfgM} (hm:mayC c=true) (h:greatC c=false):∃ ns wn sl,Cf24 c ns wn sl:=by
 have h1:=Zf hm;have C:=yd hm;have A:=h;unfold greatC at A;rw [Bool.or_eq_false_iff] at A;have B:=XD A.2;exact ⟨c.cuts.length+1,c.wk.toNat,c.sl.toNat,hm,YaT h,by omega,by omega,by omega,B⟩
theorem ZaB {c:CfgM} (h:mayC c=true) (ac:Option Addr) (cc:Nat):mayC (c.own ac cc)=true:=by
 unfold mayC at h ⊢;simp only [Bool.and_eq_true] at h ⊢;exact ⟨⟨by show decide (goodT []=0)=true;kernel_rfl,h.1.2⟩,h.2⟩
theorem LS.new {w:World} {c:CfgM} {ac:Option Addr} {cc ns wn sl:Nat} {bx:List (Nat×TypeId×List Value)} (hc:Cf24 c ns wn sl) (F:Below w.heap.size w w3) (D:∀ x∈bx,Blk w3 x.1 x.2.1 x.2.2/\w.heap.size<=x.1)
  (L:CW w4 O4 A p (CS.init (c.own ac cc))) (T:(A.cps.length:Int)=shardsC c) (J:AgO w3.heap.size (lawO w) O4) (C:Below w3.heap.size w3 w4)
  (P:∀ ac cc,RW w5 O5 B r c (CS.init (c.own ac cc))) (H:AgO w4.heap.size O4 O5) (E:Frm (fun _=>False) w4 w5):LS w w5 O5 A p B r c (CS.init (c.own ac cc)) ns sl 3 bx:=by
 have G:Below w4.heap.size w4 w5:=⟨E.os,E.tape,E.output,E.size,fun k M=>E.block k M (fun q=>q)⟩;have N:=(qaj hc.may).2.2;have Q:=hc.ns;refine ⟨⟨⟨L.apart E H (fun b _ q=>q.elim),P ac cc,fun b K=>?_,F.trans ((C.trans (G.mono C.size)).mono F.size)⟩,CS.Fit.init (c:=c.own ac cc) (ZaB hc.may ac cc) N (by decide) hc.sl,by omega⟩,fun x I=>⟨?_,?_⟩⟩
 ·rw [H b (Nat.lt_of_lt_of_le K (Nat.le_trans F.size C.size)),J b (Nat.lt_of_lt_of_le K F.size)];exact Qav K
 ·exact ((D x I).1.below C (D x I).1.lt).below G ((D x I).1.below C (D x I).1.lt).lt
 have R:=(D x I).1.lt
 rw [H _ (Nat.lt_of_lt_of_le R C.size),J _ R];exact zaX (D x I).2
theorem AV.good.below {v:AV} {w:World} (h:v.good w) (hb:Below w.heap.size w w'):v.good w':=⟨h.1,h.2.1,h.2.2.1,h.2.2.2.1,h.2.2.2.2.1.below hb rfl,h.2.2.2.2.2⟩
theorem AV.good.ok {v:AV} {w:World} (h:v.good w) (h1:v.tx.size<=100) (h2:greatI v.l=false):v.ok w:=⟨h.1,h.2.2.1,h1,h.2.2.2.2.1,(xZ h2).2⟩
end
section
open Go.RowKit Go.ChangeShapes Go.WideShapes Go.Deep Go.Joins
section
variable {H:Type} {enc:TypeId×Value->H} {w:World} {base:Nat} {spare:Nat->Bool} {held:Bool}
theorem QaD {a:Option Addr} {len cap:Nat}
  (h:DataW.Trod enc prog w base spare held 23 (.slice a len cap) d p):∃ l:List KeyL,RdE KeyL.cells 2 w a len cap l/\∀ x∈l,x.2.size<=maxLen:=by
 refine Qad KeyL.cells ⟨(0,⟨#[]⟩)⟩ underlying23 underlying107 (by kernel_rfl) (by kernel_rfl) (fun x=>x.2.size<=maxLen) ?_ h (by decide);intro L D;obtain ⟨J,M,h0⟩:=D 0 _ rfl;obtain ⟨K,N,h1⟩:=D 1 _ rfl;obtain ⟨E,B,_,I⟩:=DataW.trod_int underlying3 h0;obtain ⟨F,C,_,G⟩:=DataW.trod_string underlying9 h1;simp at B C;refine ⟨(E,F),G,fun j H=>?_⟩;have A:j < 2:=H;match j,A with
 | 0,_=>simp [KeyL.cells,B]
 | 1,_=>simp [KeyL.cells,C]
theorem open_cfg {v:Value} (hv:Value.okWide prog w r b0 25 v) (h:DataW.Trod enc prog w base spare held 25 v d p):
  ∃ c:CfgM,v=c.val/\CfgOK w c:=by
 obtain ⟨cs,rfl,L,A⟩:=xaD underlying25 (by kernel_rfl) (by kernel_rfl) hv h;obtain ⟨c0,c1,c2,c3,c4,c5,c6,c7,c8,c9,Ad,c11,rfl⟩:=Za9 L;obtain ⟨u0,n0,q,b,h0⟩:=A 0 _ rfl;obtain ⟨u1,n1,s,f,h1⟩:=A 1 _ rfl;obtain ⟨u2,n2,y2,g,h2⟩:=A 2 _ rfl;obtain ⟨u3,n3,y3,i,h3⟩:=A 3 _ rfl;obtain ⟨u4,n4,y4,j,h4⟩:=A 4 _ rfl;obtain ⟨u5,n5,y5,k,h5⟩:=A 5 _ rfl;obtain ⟨u6,n6,y6,l,h6⟩:=A 6 _ rfl;obtain ⟨u7,n7,y7,m,h7⟩:=A 7 _ rfl;obtain ⟨u8,n8,y8,n,h8⟩:=A 8 _ rfl;obtain ⟨u9,n9,y9,o,h9⟩:=A 9 _ rfl;obtain ⟨As,Ap,Au,D,H⟩:=A 10 _ rfl;obtain ⟨At,Aq,Av,E,I⟩:=A 11 _ rfl;simp at b f g i j k l m n o D E
 subst b f g i j k l m n o D E;obtain ⟨b2,R,_,_⟩:=DataW.trod_int underlying3 h2;obtain ⟨t,T,_,_⟩:=DataW.trod_int underlying3 h3;obtain ⟨u,U,_,_⟩:=DataW.trod_int underlying3 h4;obtain ⟨y,V,_,_⟩:=DataW.trod_int underlying3 h5;obtain ⟨z,W,_,_⟩:=DataW.trod_int underlying3 h6;obtain ⟨b7,Y,_,_⟩:=DataW.trod_int underlying3 h7;obtain ⟨b8,Z,_,_⟩:=DataW.trod_int underlying3 h8;obtain ⟨b9,a,_,_⟩:=DataW.trod_int underlying3 h9;obtain ⟨F,B,_,_⟩:=DataW.trod_int underlying3 H;obtain ⟨G,C,_,_⟩:=DataW.trod_int underlying3 I
 simp at R T U V W Y Z a B C;subst R T U V W Y Z a B C;obtain ⟨aw,nw,cw,P⟩:=slice_form underlying22 h0;obtain ⟨ac,nc,cc,Q⟩:=slice_form underlying23 h1;simp at P Q;subst P Q;obtain ⟨lw,M,N⟩:=Xam (d:=q.1) (p:=q.2) underlying22 underlying9 (by kernel_rfl) ⟨n0,by simpa [Value.cells] using h0⟩;obtain ⟨lk,J,K⟩:=QaD (d:=s.1) (p:=s.2) ⟨n1,by simpa [Value.cells] using h1⟩;exact ⟨⟨aw,nw,cw,ac,nc,cc,lw,lk,b2,t,u,y,z,b7,b8,b9,F,G⟩,rfl,M,J,N,K⟩
end
end
theorem ToA.frm {base:Nat} {it:Nat->Option Addr×Nat} {c:Nat} {l:List TS} {k:Nat} (h:ToA base w it ao c l k) (hf:Frm F w w') (hF:∀ b,base<=b->b < w.heap.size->¬ F b):ToA base w' it ao c l k:=
 ⟨za h.row hf (fun q A=>hF q (Xa h.row q A) (qg h.row q A)),fun i t hi B=>za (h.its i t hi B) hf (fun q A=>hF q (Xa (h.its i t hi B) q A) (qg (h.its i t hi B) q A)),h.ne⟩
theorem LS.set {w0 w:World} {O:Own} {A:CA} {p:Nat} {B:RA} {r:Nat} {c:CfgM} {S:CS} {ns sl:Nat} {b:Int} {bx:List (Nat×TypeId×List Value)} {g:Nat} {e:TypeId} {cs:List Value} (h:LS w0 w O A p B r c S ns sl b ((g,e,cs) :: bx)) (D:∀ x∈bx,x.1≠g) (j:Nat) (v:Value):LS w0 (w.setCell ⟨g,j,none⟩ v) O A p B r c S ns sl b ((g,e,cs.set j v) :: bx):=by
 have E:Frm (fun k=>k=g) w (w.setCell ⟨g,j,none⟩ v):=(Frm.refl (fun k=>k=g) w).setCell ⟨g,j,none⟩ v (.inl rfl);have h0:=h.box _ (List.mem_cons_self ..);refine ⟨h.js.zero E (AgO.refl _ _) (fun b _ q=>by subst q;exact h0.2),fun x C=>?_⟩;rcases List.mem_cons.1 C with rfl | C
 ·exact ⟨h0.1.set j v,h0.2⟩
 exact ⟨(h.box x (List.mem_cons_of_mem _ C)).1.frm E (D x C),(h.box x (List.mem_cons_of_mem _ C)).2⟩
theorem c8 {w:World} {g:Nat} {e:TypeId} {v0 v1 v2 v3 v4 v5 v6 v7:Value} (h:Blk w g e [v0,v1,v2,v3,v4,v5,v6,v7]):w.cell? ⟨g,0,none⟩=some v0/\w.cell? ⟨g,1,none⟩=some v1/\w.cell? ⟨g,2,none⟩=some v2/\w.cell? ⟨g,3,none⟩=some v3/\w.cell? ⟨g,4,none⟩=some v4/\w.cell? ⟨g,5,none⟩=some v5/\w.cell? ⟨g,6,none⟩=some v6/\w.cell? ⟨g,7,none⟩=some v7:=
 ⟨h.cell 0,h.cell 1,h.cell 2,h.cell 3,h.cell 4,h.cell 5,h.cell 6,h.cell 7⟩
theorem qbd {S:CS} {ns wn:Nat} {s q i sq wk ep:Int} {l:List KeyL} {en:Bool} (h:S.t.epoch wk≠ep):S.rep ns wn s q i sq wk ep l en=(S,[]):=by
 have B:(S.t.seen wk ep S.now).2=false:=by
  unfold Tab.seen;split
  ·rename_i A
   exfalso;unfold okSeen at A;simp only [Bool.and_eq_true,decide_eq_true_eq] at A;refine h ?_;unfold Tab.epoch;rw [if_pos A.1.1];exact A.1.2.2
  ·rfl
 unfold CS.rep;split
 ·rfl
 split
 ·rfl
 first | rfl | rw [if_pos B]
end Go.Proofs.YtinkbgeckjbnbaaGreat
