/- Lemmas (part 9). -/
import Derived.Test.YtinkbgeckjbnbaaGreatZw8
namespace Go.Proofs.YtinkbgeckjbnbaaGreat
open Go.RowKit Go.Proofs.Tryz
set_option autoImplicit true
set_option relaxedAutoImplicit true
set_option linter.unusedVariables false
set_option linter.unusedSimpArgs false
set_option maxRecDepth 100000
set_option maxHeartbeats 32000000
section
theorem QaH (n:Int):∀ (f:Nat) (S:List PS) (T A:List KeyL),(tellA n f S T A).1.length<=A.length+f/\(tellA n f S T A).2.2.length<=T.length+f/\(tellA n f S T A).2.1.length=S.length:=by
 intro f;induction f with
 | zero=>intro S T A;exact ⟨nl _,nl _,rfl⟩
 | succ f B=>
  intro S T A;unfold tellA;split
  ·exact ⟨by show A.length<=_;omega,by show T.length<=_;omega,rfl⟩
  ·rename_i x b s _
   have:=B (S.set b s) (T++[x]) (A++[x]);simp only [List.length_append,List.length_singleton,List.length_set] at this;exact ⟨by omega,by omega,this.2.2⟩
theorem yu {n:Int} {S:List PS} {T:List KeyL} (hT:(T.length:Int)<=n):(tellP n S T).1.length<=n.toNat/\((tellP n S T).2.2.length:Int)<=n/\(tellP n S T).2.1.length=S.length:=by
 have:=QaH n (n.toNat - T.length) S T [];unfold tellP;simp only [List.length_nil] at this;exact ⟨by omega,by omega,this.2.2⟩
def CS.tof (S:CS) (id:Nat):TS:=S.told.getD (id - 1) TS.zero
def CS.tellR (S:CS) (id:Nat):List KeyL×List PS×List KeyL:=tellP (S.Q id).n (S.Q id).S (S.Q id).T
def CS.setT (S:CS) (i:Nat) (t:TS):CS:={S with told:=S.told.set i t}
def CS.tell (S:CS) (id:Nat):CS:=(S.setQ id {S.Q id with S:=(S.tellR id).2.1,T:=(S.tellR id).2.2}).setT (id - 1) {S.tof id with items:=(S.tof id).items++(S.tellR id).1}
def CS.fin (S:CS) (id:Nat):CS:=S.setT (id - 1) {S.tof id with done:=true}
def CS.isDone (S:CS) (id:Nat):Bool:=doneP (S.Q id).n (S.Q id).S (S.Q id).T
def CS.goes (S:CS) (id n:Nat):CS:=if (S.tell id).isDone id=true then ((S.tell id).fin id).over id n else S.tell id
def CS.goesL (S:CS) (id wk:Nat):List LV:=if (S.tell id).isDone id=true then stopsL (S.Q id).slot id wk else []
section
variable {w:World} {O:Own} {A:CA} {p:Nat} {S:CS}
theorem qY (it:Nat->Option Addr×Nat) (l:List TS) (i:Nat) (t':TS) (a:Option Addr×Nat) (hi:i < l.length) (x:Nat):toldF (fun j=>if j=i then a else it j) (l.set i t') x=if x=i then t'.cells ((i:Int)+1) a else toldF it l x:=by
 show ((l.set i t').getD x TS.zero).cells ((x:Int)+1) (if x=i then a else it x)=_
 by_cases e:x=i
 ·subst e
  rw [if_pos rfl,if_pos rfl,List.getD_eq_getElem?_getD,List.getElem?_set_self hi];rfl
 rw [if_neg e,if_neg e,List.getD_eq_getElem?_getD,List.getElem?_set_ne (fun q=>e q.symm)];unfold toldF;rw [List.getD_eq_getElem?_getD]
theorem CW.with_it {i:Nat} {t':TS} (h:CWx (fun t=>t=ct 6∨t=ct (9+3 * i)) w O A p S) (hi:i < S.told.length) (a:Option Addr×Nat)
  (hr:Row O (ct 6) w 58 7 (.slice A.ta S.told.length A.tc) S.told.length (rowF (fun x=>if x=i then t'.cells ((i:Int)+1) a else toldF A.it S.told x) S.told.length))
  (ht:Row O (ct (9+3 * i)) w 46 2 (.slice a.1 t'.items.length a.2) t'.items.length (t'.items.flatMap KeyL.cells)):
  CW w O {A with it:=fun j=>if j=i then a else A.it j} p (S.setT i t'):=by
 have n:∀ k,k≠6->k≠9+3 * i->¬ (ct k=ct 6∨ct k=ct (9+3 * i)):=fun k h1 B h=>h.elim (Ya h1) (Ya B);have C:(S.setT i t').told.length=S.told.length:=List.length_set;have D:(S.setT i t').cells {A with it:=fun j=>if j=i then a else A.it j}=S.cells A:=by unfold CS.cells;rw [C];rfl
 refine ⟨fun _=>by rw [D];exact h.blk (n _ (by omega) (by omega)),fun _=>by have q:=h.imm (n _ (by omega) (by omega));exact ⟨q.cuts,q.row,q.each⟩,fun _=>h.le (n _ (by omega) (by omega)),fun _=>by rw [C];exact h.sl (n _ (by omega) (by omega)),fun _=>h.ti (n _ (by omega) (by omega)),fun _=>by rw [C];exact h.qm (n _ (by omega) (by omega)),fun _=>?_,
  fun id h1 B _=>h.qb id h1 B (n _ (by omega) (by omega)),fun id h1 B _=>h.mg id h1 B (n _ (by omega) (by omega)),fun j t h1 _=>?_⟩
 ·rw [C]
  rw [show rowF (toldF (fun j=>if j=i then a else A.it j) (S.setT i t').told) S.told.length=rowF (fun x=>if x=i then t'.cells ((i:Int)+1) a else toldF A.it S.told x) S.told.length from Qo (fun x _=>qY A.it S.told i t' a hi x)];exact hr
 by_cases e:j=i
 ·subst e
  rw [show (S.setT j t').told[j]?=some t' from List.getElem?_set_self hi] at h1;cases h1;show Row O _ w _ 2 (.slice (if j=j then a else A.it j).1 _ (if j=j then a else A.it j).2) _ _;rw [if_pos rfl];exact ht
 rw [show (S.setT i t').told[j]?=S.told[j]? from List.getElem?_set_ne (fun q=>e q.symm)] at h1
 show Row O _ w _ 2 (.slice (if j=i then a else A.it j).1 _ (if j=i then a else A.it j).2) _ _;rw [if_neg e];exact h.it j t h1 (n _ (by omega) (by omega))
theorem CW.with_flag {i:Nat} {t t':TS} (h:CWx (fun t=>t=ct 6) w O A p S) (hi:S.told[i]?=some t) (B:t'.items=t.items)
  (hr:Row O (ct 6) w 58 7 (.slice A.ta S.told.length A.tc) S.told.length (rowF (fun x=>if x=i then t'.cells ((i:Int)+1) (A.it i) else toldF A.it S.told x) S.told.length)):CW w O A p (S.setT i t'):=by
 have q:=CW.with_it (a:=A.it i) (t':=t') (CWx.frm h (Frm.refl (fun _=>False) w) (AgO.refl _ _) (fun _ q=>.inl q) (fun _ _ q=>q.elim)) (lg hi).1 hr (by rw [B];exact h.it i t hi (Ya (by omega)));rw [show (fun j=>if j=i then A.it i else A.it j)=A.it from funext fun j=>by by_cases e:j=i <;> simp [e]] at q;exact q
theorem CW.toldRow (h:CW w O A p S):Row O (ct 6) w 58 7 (.slice A.ta S.told.length A.tc) S.told.length (rowF (toldF A.it S.told) S.told.length):=CWx.told h (fun q=>q)
theorem xf {it:Nat->Option Addr×Nat} {l:List TS} {ta:Option Addr} {n tc:Nat} (A:Row O tg w 58 7 (.slice ta n tc) n (rowF (toldF it l) n)) {i tb:Nat} {t:TS} (hi:l[i]?=some t) (hn:i < n) (ht:ta=some ⟨tb,0,none⟩) (j:Nat) (hj:j < 7):w.cell? ⟨tb,i * 7+j,none⟩=(t.cells ((i:Int)+1) (it i))[j]?:=by
 have A:=A.1;subst ht;obtain ⟨sp,C,B⟩:=ze A;rw [B.cell,List.getElem?_append_left (by rw [qu (Yi it l)];omega),YaQ (Yi it l) hn hj];unfold toldF;rw [List.getD_eq_getElem?_getD,hi];rfl
theorem qo {ta:Option Addr} {n tc:Nat} (A:Row O tg w 58 7 (.slice ta n tc) n xs) {tb:Nat} (ht:ta=some ⟨tb,0,none⟩) (j:Nat):w.frozen? ⟨tb,j,none⟩=false:=by
 have A:=A.1;subst ht;obtain ⟨sp,C,B⟩:=ze A;exact zk B
theorem CWx.tcell (h:CWx X w O A p S) (hX:¬ X (ct 6)) {i tb j:Nat} {t:TS} (hi:S.told[i]?=some t) (ht:A.ta=some ⟨tb,0,none⟩) (hj:j < 7) (v:Value):
  CWx (fun t=>X t∨t=ct 6) (w.setCell ⟨tb,i * 7+j,none⟩ v) O A p S/\Row O (ct 6) (w.setCell ⟨tb,i * 7+j,none⟩ v) 58 7 (.slice A.ta S.told.length A.tc) S.told.length (rowF (fun x=>if x=i then (t.cells ((i:Int)+1) (A.it i)).set j v else toldF A.it S.told x) S.told.length)/\COut O w (w.setCell ⟨tb,i * 7+j,none⟩ v):=by
 have C:=h.told hX;have F:=(lg hi).1;have D:O tb=ct 6:=C.2 tb (by rw [ht];rfl);have E:Frm (fun b=>b=tb) w (w.setCell ⟨tb,i * 7+j,none⟩ v):=(Frm.refl _ w).setCell ⟨tb,i * 7+j,none⟩ v (.inl rfl);refine ⟨h.frm E (AgO.refl _ _) (fun _ q=>.inl q) (fun b _ e=>.inl (.inr (by subst e;exact D))),⟨?_,C.2⟩,COut.of (i:=6) (OFrm.of E (fun b e _=>by subst e;exact D))⟩;have B:=C.1;rw [ht] at B ⊢;have q:=ZJ B (i * 7+j) v (by rw [qu (Yi A.it S.told)];omega);rw [zaf (Yi A.it S.told) F hj] at q;rw [show toldF A.it S.told i=t.cells ((i:Int)+1) (A.it i) from by unfold toldF;rw [List.getD_eq_getElem?_getD,hi];rfl] at q
 exact q
end
theorem COut.undrew {w:World} (h:COut O w.drew w'):COut O w w':=⟨h.os,h.tape,h.output,h.size,h.block⟩
theorem LetAt.base {b':Nat} {l:List LV} (h:LetAt O w b v l) (hb:b'<=b):LetAt O w b' v l:=by
 obtain ⟨A,c,h1,B,C⟩:=h;exact ⟨A,c,h1,zi B hb,C⟩
theorem QC (S:CS) (id:Nat):(S.tell id).Q id={S.Q id with S:=(S.tellR id).2.1,T:=(S.tellR id).2.2}:=by
 show (if id=id then _ else _)=_;rw [if_pos rfl]
theorem xI (S:CS) {i:Nat} (hi:i < S.told.length):(S.tell (i+1)).told[i]?=some {S.tof (i+1) with items:=(S.tof (i+1)).items++(S.tellR (i+1)).1}:=by
 show (S.told.set (i+1 - 1) _)[i]?=_;rw [Nat.add_sub_cancel,List.getElem?_set_self hi]
theorem Xp (S:CS) (id:Nat):(S.tell id).told.length=S.told.length:=List.length_set
theorem qn {S:CS} {i:Nat} {t:TS} (h:S.told[i]?=some t):S.tof (i+1)=t:=by unfold CS.tof;rw [Nat.add_sub_cancel,List.getD_eq_getElem?_getD,h];rfl
def GoE (O:Own) (A:CA) (p:Nat) (S:CS) (id:Nat) (wk:Nat) (w:World) (e:Ending) (w':World):Prop:=∃ v O' A',e=.returned v/\CW w' O' A' p (S.goes id A.cps.length)/\A'.cps=A.cps/\A'.ta=A.ta/\LetAt O' w' w.heap.size v (S.goesL id wk)/\AgO w.heap.size O O'/\COut O w w'
theorem zO (O:Own) (A:CA) (p:Nat) (S:CS) (id wk:Nat) (w:World) (h:CW w O A p S) (hm:id∈S.L) (h0:id≠0) (BF:A.cps.length<=6) (Bj:S.c.wk=(wk:Int)) (Bk:wk<=5) (AE:(S.Q id).slot<=4) (BD:id<=1000000)
  (Ba:id<=S.told.length) (BE:(S.tof id).items.length<=1000) (hT:((S.Q id).T.length:Int)<=(S.Q id).n) (BQ:(S.Q id).n<=10):
  Calls prog 66 #[.pointer (some ⟨p,0,none⟩),.pointer (some ⟨A.q id,0,none⟩)] w (GoE O A p S id wk w):=by
 obtain ⟨i0,hi,Bm,Bn,Bo⟩:=info_parts Qf;have HI:=Hy hi;have B8:=Hy Bm;have B9:=Hy Bn;have BA:=Hy Bo;clear hi Bm Bn Bo;obtain ⟨i,rfl⟩:∃ i,id=i+1:=⟨id - 1,by omega⟩;obtain ⟨B,AG⟩:∃ B,S.told[i]?=some B:=⟨S.told[i]'(by omega),le_ _⟩;have V:S.tof (i+1)=B:=by unfold CS.tof;rw [Nat.add_sub_cancel,List.getD_eq_getElem?_getD,AG];rfl
 rw [V] at BE;obtain ⟨N,AF,_⟩:=Qc h.toldRow.1 (by omega);obtain ⟨⟨l,S',T'⟩,hR⟩:∃ R,S.tellR (i+1)=R:=⟨_,rfl⟩;have Ad:=yu (S:=(S.Q (i+1)).S) hT;have A6:tellP (S.Q (i+1)).n (S.Q (i+1)).S (S.Q (i+1)).T=(l,S',T'):=hR;rw [A6] at Ad;obtain ⟨AX,AC,AY⟩:=Ad;simp only at AX AC AY;have BO:l.length<=10:=by omega
 have HC:=Hy (show CW w.drew O A p S from h.below (below_drewN (bf _ w) 1) (AgO.refl _ _));have HM:=Hy hm;have B7:=Hy Bj;have A3:=Hy AG;have J:=Hy AF;have B6:=Hy V;have HR:=Hy A6;have HT:=Hy hT;have BU:=Hy AC;clear h hm Bj AG V hR A6 hT AX AC AY;have ⟨n,hn⟩:=gn S.told.length;have HN:=Hy hn;have AB:i < n:=by omega
 clear Ba hn;have k2:(i:Int) < (n:Int):=by omega
 have k1:(0:Int)<=(i:Int):=by omega
 have k3:IntKind.i64.wrap (i:Int)=(i:Int):=zq _ (by omega) (by omega);have Aq:=Hy (show w.drew.cell? ⟨p,18,none⟩=some (.slice (some ⟨N,0,none⟩) n A.tc) from by have q:Cl w.drew p 18 (.slice A.ta S.told.length A.tc):=HC.blk.cell 18;rw [AF,HN.o] at q;exact q);have AL:=Hy (show w.drew.cell? ⟨A.q (i+1),0,none⟩=some (.int .i64 ((i:Int)+1)) from by have q:Ci w.drew (A.q (i+1)) 0 ((i+1:Nat):Int):=(CWx.qb HC.o (i+1) HM.o h0 (fun h=>h)).1.cell 0;rw [Int.natCast_add] at q;exact q);clear AF;go_in;go_upto_region 1 with fail
 refine wp_region_held_drew (S:=(fun w'=>Cl w' p 18 (.slice (some ⟨N,0,none⟩) n A.tc)/\Ci w' (A.q (i+1)) 0 ((i:Int)+1))) (by kernel_rfl) (by exact ⟨Aq.o,AL.o⟩) (fun C=>?_);(iterate 11 refine tq 0 ?_);refine dn ?_;clear Aq AL;have u:=Hy (show CW w.drew.drew O A p S from CW.below HC.o (below_drewN (bf _ w.drew) 1) (AgO.refl _ _));have Aw:=Hy (by rw [HN.o];exact AB:i < S.told.length)
 have Bp:Cl w.drew.drew N (i * 7+4) (.slice (A.it i).1 B.items.length (A.it i).2):=xf u.toldRow A3.o Aw.o J.o 4 (by omega);let r:World->Prop:=fun w'=>Cp w' (A.q (i+1)) 5 (A.m (i+1));have B2:=Hy (show r w.drew.drew from (CWx.qb u.o (i+1) HM.o h0 (fun h=>h)).1.cell 5);have An:=Hy (xaO (CWx.mg u.o (i+1) HM.o h0 (fun h=>h)) HT.o HR.o);clear HC k1 k2 k3;go_upto_region 2 with fail;refine rg r fun C=>?_
 (iterate 4 refine tq 0 ?_);(iterate 4 refine tq 5 ?_);refine wpAnyH_ready (rs:=[4,9]) (by kernel_rfl) (by simp) ?_;refine AllReadyH.cons rfl (fun K P=>?_) (AllReadyH.cons rfl (fun K P=>?_) AllReadyH.nil)
 focus
  go_simp
  go_wp2_with fail;refine hk P fun C=>?_;clear P K
  refine rdy 9 fun K P=>?_
  go_simp
  refine An.mono ?_;rintro e w1 ⟨ao,co,rfl,F,Ae,hf⟩;clear An Bp;have I:=CW.with_mg (CW.only u.o (8+3 * (i+1)) hf (AgO.upd w.drew.drew.heap.size (ct (8+3 * (i+1))) O)) _ _ Ae;have ⟨O1,U⟩:=gn (O.upd w.drew.drew.heap.size (ct (8+3 * (i+1))));rw [U] at I;have Aj:=Hy (by rw [<- U];exact AgO.upd _ _ _:AgO w.heap.size O O1);have ⟨S1,D⟩:=gn (S.setQ (i+1) {S.Q (i+1) with S:=S',T:=T'});rw [D] at I;have Az:=Hy D;have E:=Hy (by rw [<- D];exact A3.o:S1.told[i]?=some B);have Am:=Hy (by rw [<- D];exact HN.o:S1.told.length=n)
  have G:=Hy (by rw [Am.o];exact AB:i < S1.told.length);have f:=Hy (by rw [<- D];exact HM.o:i+1∈S1.L);have H:=Hy I;have Ak:=Hy (COut.of hf);have Ay:=Hy F;clear F Ae hf I U D;have Bq:w1.cell? ⟨N,i * 7+4,none⟩=some (.slice (A.it i).1 B.items.length (A.it i).2):=xf H.toldRow E.o G.o J.o 4 (by omega);have Ar:=Hy (show r w1 from (CWx.qb H.o (i+1) f.o h0 (fun h=>h)).1.cell 5);have A1:B.items.length+l.length<=maxLen:=(by unfold maxLen;omega);have A2:(B.items.length+l.length) * 24<=140737488355328:=(by omega)
  have g:=Hy (CWx.it H.o i B E.o (fun h=>h))
 rotate_left
 focus
  go_simp
  refine An.mono ?_;rintro e w1 ⟨ao,co,rfl,F,Ae,hf⟩;clear An Bp;have I:=CW.with_mg (CW.only u.o (8+3 * (i+1)) hf (AgO.upd w.drew.drew.heap.size (ct (8+3 * (i+1))) O)) _ _ Ae;have ⟨O1,U⟩:=gn (O.upd w.drew.drew.heap.size (ct (8+3 * (i+1))));rw [U] at I;have Aj:=Hy (by rw [<- U];exact AgO.upd _ _ _:AgO w.heap.size O O1);have ⟨S1,D⟩:=gn (S.setQ (i+1) {S.Q (i+1) with S:=S',T:=T'});rw [D] at I;have Az:=Hy D;have E:=Hy (by rw [<- D];exact A3.o:S1.told[i]?=some B);have Am:=Hy (by rw [<- D];exact HN.o:S1.told.length=n)
  have G:=Hy (by rw [Am.o];exact AB:i < S1.told.length);have f:=Hy (by rw [<- D];exact HM.o:i+1∈S1.L);have H:=Hy I;have Ak:=Hy (COut.of hf);have Ay:=Hy F;clear F Ae hf I U D;have Bq:w1.cell? ⟨N,i * 7+4,none⟩=some (.slice (A.it i).1 B.items.length (A.it i).2):=xf H.toldRow E.o G.o J.o 4 (by omega);have Ar:=Hy (show r w1 from (CWx.qb H.o (i+1) f.o h0 (fun h=>h)).1.cell 5);have A1:B.items.length+l.length<=maxLen:=(by unfold maxLen;omega);have A2:(B.items.length+l.length) * 24<=140737488355328:=(by omega)
  have g:=Hy (CWx.it H.o i B E.o (fun h=>h));go_wp2_with fail;refine hk P fun C=>?_;clear P K
  refine rdy 4 fun K P=>?_
  go_simp
 all_goals
  go_wp2_with fail;refine hk P fun C=>?_;clear P K
  refine rdy 10 fun K P=>?_
  refine Zz rfl (.tmp 20) (.tmp 25) 56 56 rfl 0 46 i0 (.agg #[(),.string ⟨#[]⟩]) 2 24 underlying56 HI.o B8.o B9.o BA.o rfl (by decide) (A.it i).1 B.items.length (A.it i).2 (B.items.flatMap KeyL.cells) (by kernel_rfl) g.1 (.slice ao l.length co) l.length (l.flatMap KeyL.cells) (by kernel_rfl) (Src.ofRdE (enc:=KeyL.cells) (size:=2) underlying56 (fun _=>rfl) itemOne (Za (enc:=KeyL.cells) (fun _=>rfl) rfl Ay.o)) A1 A2 (nz _) ?_
  intro M c3 w2 F hg AP;clear Bq;have AA:OFrm O1 (ct (9+3 * i)) w1 w2:=OFrm.of (S:=fun b=>(Value.slice (A.it i).1 B.items.length (A.it i).2).ownBlock=some b) (Frm.grown hg (fun _ h=>h)) (fun b hb _=>g.2 b hb);have A7:=CW.only H.o (9+3 * i) AA (AgO.upd w1.heap.size (ct (9+3 * i)) O1);have Af:Row (O1.upd w1.heap.size (ct (9+3 * i))) (ct (9+3 * i)) w2 46 2 (.slice M (B.items.length+l.length) c3) (B.items.length+l.length) (B.items.flatMap KeyL.cells++l.flatMap KeyL.cells):=⟨F,fun k Ao=>by rcases AP with e | e;exact (AgO.upd w1.heap.size (ct (9+3 * i)) O1 k (qg g.1 k (e ▸ Ao))).trans (g.2 k (e ▸ Ao));rw [e] at Ao;cases Ao;exact Own.upd_ge (nl _)⟩
  have ⟨O2,A5⟩:=gn (O1.upd w1.heap.size (ct (9+3 * i)));rw [A5] at A7 Af;have Y:=Hy (by rw [<- A5];exact Aj.trans (AgO.upd _ _ _) Ak.size:AgO w.heap.size O O2);have AJ:=Hy (show COut O w w2 from COut.trans (show COut O w w1 from COut.undrew (COut.undrew Ak.o)) (COut.of AA) Aj.o);have Z:=Hy A7;have As:=Hy Af;clear A7 Af A5 AA F hg AP;have AM:=Hy (show r w2 from (Z.qb (i+1) f.o h0 (Ya (by omega))).1.cell 5);have BI:w2.cell? ⟨N,i * 7+4,none⟩=some (.slice (A.it i).1 B.items.length (A.it i).2):=xf (Z.told (Ya (by omega))) E.o G.o J.o 4 (by omega)
  have fz:w2.frozen? ⟨N,i * 7+4,none⟩=false:=qo (Z.told (Ya (by omega))) J.o (i * 7+4);have BG:=Z.tcell (Ya (by omega)) E.o J.o (j:=4) (by omega) (.slice M (B.items.length+l.length) c3);obtain ⟨hx,Bd,AT⟩:=BG;have Ac:=CW.with_it (t':={B with items:=B.items++l}) (hx.frm (Frm.refl (fun _=>False) _) (AgO.refl _ _) (fun t q=>q.elim .inr .inl) (fun _ _ q=>q.elim)) G.o (M,c3) (by rw [show (TS.cells {B with items:=B.items++l} ((i:Int)+1) (M,c3))=(B.cells ((i:Int)+1) (A.it i)).set 4 (.slice M (B.items.length+l.length:Nat) c3) from by unfold TS.cells;rw [List.length_append];rfl];exact Bd) (by rw [List.length_append,List.flatMap_append];exact Row.frm As.o ((Frm.refl (fun b=>b=N) w2).setCell ⟨N,i * 7+4,none⟩ _ (.inl rfl)) (fun b _ ho e=>by subst e;rw [(Z.told (Ya (by omega))).2 b (by rw [J.o];rfl)] at ho;exact Ya (by omega) ho) (AgO.refl _ _))
  have a:=Hy Ac;have Au:=Hy (show COut O w _ from COut.trans AJ.o AT Y.o);clear hx Bd AT Ac;have z:=Hy (show r (w2.setCell ⟨N,i * 7+4,none⟩ (.slice M (B.items.length+l.length:Nat) c3)) from (CWx.qb a.o (i+1) f.o h0 (fun h=>h)).1.cell 5);refine hk P fun C=>?_;clear P K;refine tk 11 ?_;refine tk 12 ?_;refine rdy 13 fun K P=>?_
  go_simp
  go_wp2_with fail;refine hk P fun C=>?_;clear P K
  refine dn ?_;clear Z As g AM Ar AJ Ak Ay C BI fz A1 A2 B2;have ⟨w4,Bh⟩:=gn (w2.setCell ⟨N,i * 7+4,none⟩ (.slice M (B.items.length+l.length) c3));rw [Bh] at a Au z ⊢;clear Bh;have AN:S1.setT i {B with items:=B.items++l}=S.tell (i+1):=by unfold CS.tell CS.tellR;rw [HR.o,B6.o,<- Az.o];rfl
  have ⟨A4,s⟩:=gn ({A with it:=fun j=>if j=i then (M,c3) else A.it j});rw [AN,s] at a;have Bc:A4.q=A.q:=by rw [<- s]
  have Bb:A4.m=A.m:=by rw [<- s]
  have Ac:A4.cps=A.cps:=by rw [<- s]
  have Bf:A4.ta=A.ta:=by rw [<- s]
  have B4:=Hy (show i+1∈(S.tell (i+1)).L from HM.o);have A8:=Ys 0 (A4.m (i+1)) _ _ _ w4 (CWx.mg a.o (i+1) B4.o h0 (fun h=>h)).mg;have ⟨d,hd⟩:=gn ((S.tell (i+1)).isDone (i+1));rw [show doneP ((S.tell (i+1)).Q (i+1)).n ((S.tell (i+1)).Q (i+1)).S ((S.tell (i+1)).Q (i+1)).T=d from hd,Bb] at A8;have AI:=Hy A8;have HD:=Hy hd;have B5:=Hy Bc;have W:=Hy Ac;have A0:=Hy Bf;have k5:w4.cell? ⟨A.q (i+1),5,none⟩=some (.pointer (some ⟨A.m (i+1),0,none⟩)):=z.o;clear AN s Bc Bb Ac Bf A8 hd z Az E Am G f H Aj;go_wp2_with fail
  clear k5;refine AI.mono ?_;clear AI;rintro e w5 ⟨rfl,hb⟩;have y:=Hy (a.below hb (AgO.refl _ _));have Av:=Hy (COut.trans Au.o (COut.below hb) Y.o);clear hb a Au;cases d
  case false=>
   go_wp2_with fail;go_ret;refine ⟨.slice none 0 0,O2,A4,rfl,?_,W.o,A0.o,?_,Y.o,Av.o⟩
   ·unfold CS.goes;rw [if_neg (by rw [HD.o];decide)];exact y.o
   unfold CS.goesL;rw [if_neg (by rw [HD.o];decide)];exact LetAt.nil _ _ _
  have Bg:=xI S Aw.o;have Aa:=Hy Bg;have Ab:=Hy (show A4.ta=some ⟨N,0,none⟩ from A0.trans J.o);have AK:=Hy (by rw [Xp];exact Aw.o:i < (S.tell (i+1)).told.length);have k5:=xf y.toldRow Aa.o AK.o Ab.o 5 (by omega);have BH:w5.cell? ⟨N,i * 7+5,none⟩=some (.bool (S.tof (i+1)).done):=k5;clear k5 Bg;have fz:w5.frozen? ⟨N,i * 7+5,none⟩=false:=qo y.toldRow Ab.o (i * 7+5);obtain ⟨hx,Be,AU⟩:=CWx.tcell y.o (fun h=>h) Aa.o Ab.o (j:=5) (by omega) (.bool true);have AR:=CW.with_flag (hx.frm (Frm.refl (fun _=>False) _) (AgO.refl _ _) (fun t q=>q.elim False.elim id) (fun _ _ q=>q.elim)) Aa.o (t':={(S.tell (i+1)).tof (i+1) with done:=true}) (by rw [qn Aa.o]) (by rw [qn Aa.o];exact Be)
  have AH:=Hy (show CW (w5.setCell ⟨N,i * 7+5,none⟩ (.bool true)) O2 A4 p ((S.tell (i+1)).fin (i+1)) from AR);have Al:=Hy (COut.trans Av.o AU Y.o);clear hx Be AU AR y Av;go_wp2_with fail;clear BH fz;have ⟨w6,Bi⟩:=gn (w5.setCell ⟨N,i * 7+5,none⟩ (.bool true));rw [Bi] at AH Al ⊢;clear Bi;have AD:=QP O2 A4 p ((S.tell (i+1)).fin (i+1)) (i+1) wk w6 AH.o HM.o h0 (by rw [W.o];exact BF) B7.o Bk (by show ((S.tell (i+1)).Q (i+1)).slot<=4;rw [QC];exact AE) BD;rw [B5.o] at AD;refine AD.mono ?_;clear AD;rintro e w7 ⟨v,O3,rfl,AS,AZ,AO,AW⟩
  have B0:=Hy AS;have B3:=Hy AZ;have Bz:=Hy AO;have B1:=Hy AW;clear AS AZ AO AW;go_wp2_with fail;go_ret;refine ⟨v,O3,A4,rfl,?_,W.o,A0.o,?_,Y.trans Bz.o Al.size,COut.trans Al.o B1.o Y.o⟩
  ·unfold CS.goes;rw [if_pos (by rw [HD.o])];have q:=B0.o;rw [W.o] at q;exact q
  unfold CS.goesL;rw [if_pos (by rw [HD.o])];have q:=B3.base Al.size;rw [show (((S.tell (i+1)).fin (i+1)).Q (i+1)).slot=(S.Q (i+1)).slot from by show ((S.tell (i+1)).Q (i+1)).slot=_;rw [QC]] at q;exact q
end
theorem yJ (t:Tab) (v life now:Int):
  (okHello t v life now=false/\t.hello v life now=(t,0,2))∨(okHello t v life now=true/\life < (t.at v).life/\t.hello v life now=(t,0,4))∨
  (okHello t v life now=true/\life=(t.at v).life/\t.hello v life now=(t.put v ((t.at v).on (now+t.term)),(t.at v).epoch,0))∨
  (okHello t v life now=true/\(t.at v).life < life/\t.hello v life now=(t.put v (((t.at v).told life).on (now+t.term)),(t.at v).epoch+1,0)):=by
 unfold Tab.hello;cases h:okHello t v life now with
 | false=>exact .inl ⟨rfl,by simp⟩
 | true=>
  refine .inr ?_;rcases Int.lt_trichotomy life (t.at v).life with h1 | h1 | h1
  ·exact .inl ⟨rfl,h1,by simp [h1]⟩
  ·refine .inr (.inl ⟨rfl,h1,?_⟩)
   have A:¬ life < (t.at v).life:=by omega
   have B:(t.at v).told life=t.at v:=by unfold L1.told;rw [io]
   simp [A,B]
  ·refine .inr (.inr ⟨rfl,h1,?_⟩)
   have A:¬ life < (t.at v).life:=by omega
   have B:((t.at v).told life).epoch=(t.at v).epoch+1:=by unfold L1.told;rw [if_pos h1]
   simp [A,B]
theorem zR (t:Tab) (v ep now:Int):
  (okSeen t v ep now=false/\t.seen v ep now=(t,false))∨(okSeen t v ep now=true/\t.seen v ep now=(t.put v ((t.at v).on (now+t.term)),true)):=by
 unfold Tab.seen;cases h:okSeen t v ep now with
 | false=>exact .inl ⟨rfl,by simp⟩
 | true=>exact .inr ⟨rfl,by simp⟩
theorem Xaz (w:World) (g:Nat) (t:Tab) (v life now:Int) (h:TB w g t) (ho:t.ok):
  Calls prog 105 #[.pointer (some ⟨g,0,none⟩),v,life,now] w fun e w'=>e=.returned (.tuple #[.int .i64 (t.hello v life now).2.1,.int .i64 (t.hello v life now).2.2])/\TB w' g (t.hello v life now).1/\w.grownBy w' (some g):=by
 rcases yJ t v life now with ⟨h1,e⟩ | ⟨h1,h2,e⟩ | ⟨h1,h2,e⟩ | ⟨h1,h2,e⟩
 ·rw [e]
  refine (qaA w g t v life now h ho h1).mono fun e w' A=>⟨A.1,?_,?_⟩
  ·rw [<- A.2];exact h
  rw [<- A.2];exact World.grownBy.refl _ _
 ·rw [e]
  refine (yaA w g t v life now h ho h1 h2).mono fun e w' A=>⟨A.1,?_,?_⟩
  ·rw [<- A.2];exact h
  rw [<- A.2];exact World.grownBy.refl _ _
 ·rw [e];exact yal w g t v life now h ho h1 h2
 rw [e];exact zaA w g t v life now h ho h1 h2
theorem qaT (w:World) (g:Nat) (t:Tab) (v ep now:Int) (h:TB w g t) (ho:t.ok):
  Calls prog 109 #[.pointer (some ⟨g,0,none⟩),v,ep,now] w fun e w'=>e=.returned (.bool (t.seen v ep now).2)/\TB w' g (t.seen v ep now).1/\w.grownBy w' (some g):=by
 rcases zR t v ep now with ⟨h1,e⟩ | ⟨h1,e⟩
 ·rw [e]
  refine (zaT w g t v ep now h ho h1).mono fun e w' A=>⟨A.1,?_,?_⟩
  ·rw [<- A.2];exact h
  rw [<- A.2];exact World.grownBy.refl _ _
 rw [e];exact YaG w g t v ep now h ho h1
theorem yS (w:World) (h:CW w O A p S):Calls prog 33 #[.pointer (some ⟨p,0,none⟩)] w fun e w'=>e=.returned (.int .i64 (S.tm.length:Nat))/\w=w':=by
 have F:Cp w p 16 A.ti:=h.blk.cell 16;have G:=fun V=>yn p 0 V;obtain ⟨C,h1,D,E⟩:=CWx.ti h (fun q=>q);have B:=Hy (Xba A.ti w C 24 S.tm h1);clear h h1 D E;go_in;go_wp2_with fail;refine B.mono ?_;rintro e w' ⟨rfl,rfl⟩;go_wp2_with fail;go_ret;exact ⟨rfl,rfl⟩
theorem Xbc (v:Int) (w:World) (h:CW w O A p S) (ho:S.t.ok):Calls prog 34 #[.pointer (some ⟨p,0,none⟩),v] w fun e w'=>e=.returned (.int .i64 (S.t.epoch v))/\w=w':=by
 have C:Cp w p 14 A.le:=h.blk.cell 14;have D:=fun V=>yn p 0 V;have B:=Hy (yaz w A.le S.t v (CWx.le h (fun q=>q)).1 ho);clear h;go_in;go_wp2_with fail;refine B.mono ?_;rintro e w' ⟨rfl,rfl⟩;go_wp2_with fail;go_ret;exact ⟨rfl,rfl⟩
def CS.tick (S:CS):CS:={S with now:=min (S.now+1) 1099511627776}
theorem ZaU (w:World) (h:CW w O A p S) (h1:0<=S.now) (h2:S.now<=1099511627776):Calls prog 23 #[.pointer (some ⟨p,0,none⟩)] w fun e w'=>e=.returned (.tuple #[])/\CW w' O A p S.tick/\COut O w w':=by
 have H:Ci w p 13 S.now:=h.blk.cell 13;have J:∀ W:World,(binOp .neq 29 (.pointer (some ⟨p,0,none⟩)) (.pointer none)).run prog W=.ok (.bool true) W:=fun W=>by kernel_rfl
 have I:=zk (o:=13) h.blk;have ⟨r,G⟩:=gn (if 1099511627776 < S.now+1 then 1099511627776 else S.now+1);have B:min (S.now+1) 1099511627776=r:=by rw [<- G];split <;> omega
 have D:Frm (fun b=>b=p) w (w.setCell ⟨p,13,none⟩ (.int .i64 r)):=(Frm.refl _ w).setCell ⟨p,13,none⟩ _ (.inl rfl);have C:OFrm O (ct 0) w (w.setCell ⟨p,13,none⟩ (.int .i64 r)):=OFrm.of D (fun b e _=>by subst e;exact (CWx.blk h (fun q=>q)).2);have E:=Hy (by unfold CS.tick;rw [B];exact CW.with_now (CW.only h 0 C (AgO.refl _ _)) r ⟨h.blk.set 13 (.int .i64 r),(CWx.blk h (fun q=>q)).2⟩:CW (w.setCell ⟨p,13,none⟩ (.int .i64 r)) O A p S.tick);have F:=Hy (COut.of C);clear h D C B;go_in;go_wp2_with fail;go_end0;exact ⟨rfl,E.o,F.o⟩
theorem LetAt.one (O:Own) (w:World) (base:Nat) (td:Int) (m:MV) (hb:base<=w.heap.size):LetAt (O.upd w.heap.size 0) (w.alloc (.cells #[td,m.val] 51)) base (.slice (some ⟨w.heap.size,0,none⟩) 1 1) [(td,m)]:=
 ⟨some ⟨w.heap.size,0,none⟩,1,rfl,⟨rfl,.inr ⟨w.heap.size,1,#[td,m.val],rfl,hb,hn_ w _,nl 1,by decide,rfl,rfl⟩⟩,fun k A=>by simp only [Value.ownBlock,Option.some.injEq] at A;subst A;exact Own.upd_ge (nl _)⟩
def CS.hello (S:CS) (v life:Int):CS:={S with t:=(S.t.hello v life S.now).1}
def CS.helloL (S:CS) (v life:Int):List LV:=if (S.t.hello v life S.now).2.2=0 then [(v,.grant v life (S.t.hello v life S.now).2.1)] else []
def HeE (O:Own) (A:CA) (p:Nat) (S:CS) (v life:Int) (w:World) (e:Ending) (w':World):Prop:=∃ u O',e=.returned u/\CW w' O' A p (S.hello v life)/\LetAt O' w' w.heap.size u (S.helloL v life)/\AgO w.heap.size O O'/\COut O w w'
theorem Zaj (O:Own) (A:CA) (p:Nat) (S:CS) (v life:Int) (w:World) (h:CW w O A p S) (ho:S.t.ok):
  Calls prog 61 #[.pointer (some ⟨p,0,none⟩),.agg #[v,life]] w (HeE O A p S v life w):=by
 have ⟨R,Q⟩:=gn (S.t.hello v life S.now);have U:=Hy (by unfold CS.hello;rw [Q]:CS.hello S v life={S with t:=R.1});have J:=Hy (by unfold CS.helloL;rw [Q]:S.helloL v life=if R.2.2=0 then [(v,.grant v life R.2.1)] else []);have L:=Hy (fun W j=>by have q:=Xaz W A.le S.t v life S.now j ho;rw [Q] at q;exact q);have ⟨W,T⟩:=gn (w.alloc (.cells #[v,life] 36));have I:Below w.heap.size w W:=by rw [<- T];exact (bf _ w).alloc (nl _) _
 have c:=Hy (by rw [<- T];exact hn_ w _:Blk W w.heap.size 36 [v,life]);have i:=Hy (show CW W O A p S from h.below I (AgO.refl _ _));have HB:=Hy I;clear h I Q;go_in;go_upto_region 1 with (rw [T]);clear T;have B:=Hy (show CW W.drew O A p S from i.below (below_drewN (bf _ W) 1) (AgO.refl _ _));have D:=Hy (show Blk W.drew w.heap.size 36 [v,life] from c.o);have M:=Hy (L.o W.drew (CWx.le B.o (fun q=>q)).1);clear L c;have V:=Hy (show w.heap.size≠A.le from fun e=>by have q:=D.o;rw [e] at q;exact Qe q (CWx.le B.o (fun q=>q)).1 (by decide) rfl)
 refine wp_region_held_drew (S:=(fun w'=>Cp w' p 14 A.le/\Ci w' p 13 S.now/\Ci w' w.heap.size 0 v/\Ci w' w.heap.size 1 life)) (by kernel_rfl) (by first | exact ⟨B.blk.cell 14,B.blk.cell 13,D.cell 0,D.cell 1⟩ | exact ⟨C.blk.cell 14,C.blk.cell 13,E.cell 0,E.cell 1⟩) (fun F=>?_);(iterate 12 refine tq 0 ?_);refine rdy 12 fun K f=>?_;go_simp;refine M.mono ?_;rintro e G ⟨rfl,P,a⟩;clear M;have Y:OFrm O (ct 2) W.drew G:=OFrm.of (S:=fun b=>b=A.le) (Frm.grown a (fun g e=>(Option.some.inj e).symm)) (fun b e _=>by subst e;exact (CWx.le B.o (fun q=>q)).2);have N:CW G O A p {S with t:=R.1}:=CW.with_le (CW.only B.o 2 Y (AgO.refl _ _)) _ ⟨P,(CWx.le B.o (fun q=>q)).2⟩;have C:=Hy N;have E:=Hy (show Blk G w.heap.size 36 [v,life] from D.kept a (fun e=>V.o (Option.some.inj e)));have H:=Hy (show COut O w G from COut.trans (show COut O w W.drew from Frm.drew (Frm.below HB.o)) (COut.of Y) (AgO.refl _ _));clear P a Y N
 go_wp2_with fail;refine f.out _ _ (by first | exact ⟨B.blk.cell 14,B.blk.cell 13,D.cell 0,D.cell 1⟩ | exact ⟨C.blk.cell 14,C.blk.cell 13,E.cell 0,E.cell 1⟩) (fun F=>?_);clear f K;(iterate 5 refine tq 13 ?_);refine dn ?_;have l:G.cell? ⟨w.heap.size,0,none⟩=some (.int .i64 v):=E.cell 0;have m:G.cell? ⟨w.heap.size,1,none⟩=some (.int .i64 life):=E.cell 1;clear F;obtain ⟨t',ep,d⟩:=R;simp only at C U J
 by_cases Z:d=0
 ·subst Z
  go_wp2_with fail;go_ret
  first | rw [if_pos rfl] at J | rw [if_pos trivial] at J
  refine ⟨.slice (some ⟨G.heap.size,0,none⟩) 1 1,O.upd G.heap.size 0,rfl,?_,?_,AgO.upd' H.size 0 O,COut.trans H.o (COut.below ((bf _ G).alloc (nl _) _)) (AgO.refl _ _)⟩
  ·rw [U.o];exact C.below ((bf _ G).alloc (nl _) _) (AgO.upd _ _ _)
  rw [J.o];exact LetAt.one O G w.heap.size v (.grant v life ep) H.size
 have k:(d == (0:Int))=false:=by rw [beq_eq_false_iff_ne];exact Z
 go_wp2_with fail;go_ret;rw [if_neg Z] at J;exact ⟨.slice none 0 0,O,rfl,by rw [U.o];exact C.o,by rw [J.o];exact LetAt.nil _ _ _,AgO.refl _ _,H.o⟩
def CS.has (S:CS) (id:Int):Bool:=decide (0 < id/\id.toNat∈S.L)
def CS.stop (S:CS) (id:Nat):CS:=S.setT (id - 1) {S.tof id with canc:=true}
def CS.cancel (S:CS) (id:Int) (n:Nat):CS:=if S.has id=true then (S.stop id.toNat).over id.toNat n else S
def CS.cancelL (S:CS) (id:Int) (wk:Nat):List LV:=if S.has id=true then stopsL (S.Q id.toNat).slot id.toNat wk else []
def CaE (O:Own) (A:CA) (p:Nat) (S:CS) (id:Int) (wk:Nat) (w:World) (e:Ending) (w':World):Prop:=∃ v O',e=.returned (.tuple #[v,.int .i64 (if S.has id=true then 0 else 4)])/\CW w' O' A p (S.cancel id A.cps.length)/\LetAt O' w' w.heap.size v (S.cancelL id wk)/\AgO w.heap.size O O'/\COut O w w'
theorem qa1 (b:Nat) (W:World):(binOp .eql 136 (.pointer (some ⟨b,0,none⟩)) (.pointer none)).run prog W=.ok (.bool false) W:=by kernel_rfl
theorem Xa0 (W:World):(binOp .eql 136 (.pointer none) (.pointer none)).run prog W=.ok (.bool true) W:=by kernel_rfl
theorem qzero (W:World):(zeroValue 136).run prog W=.ok (encP none) W:=by kernel_rfl
theorem Yaa (O:Own) (A:CA) (p:Nat) (S:CS) (id:Int) (wk:Nat) (w:World) (h:CW w O A p S) (Ab:Yk id) (Af:A.cps.length<=6) (f:S.c.wk=(wk:Int)) (g:wk<=5) (F:∀ i∈S.L,(S.Q i).slot<=4) (Aj:S.told.length<=1000000):
  Calls prog 30 #[.pointer (some ⟨p,0,none⟩),id] w (CaE O A p S id wk w):=by
 have J:=Hy h;have Ag:w.cell? ⟨p,17,none⟩=some (.map (some A.qm)):=h.blk.cell 17;have hq:=fun V=>yn p 0 V;have C:=MapF.look (CWx.qm h (fun q=>q)).1 codP underlying114 none (qzero w) Ab;have y:=Hy (CWx.sl h (fun q=>q)).1.ok;clear h;cases M:S.has id with
 | false=>
  have E:qF A.q S.L id=none:=by unfold qF;rw [if_neg (by unfold CS.has at M;simpa using M)]
  rw [E] at C;have I:(Instr.lookup 114 (.map (some A.qm)) (.int .i64 id) false).run prog w=.ok (.pointer none) w:=C;have K:=Hy M;have Ae:=Xa0;clear C E M;go_in;go_wp2_with fail;go_ret2;refine ⟨.slice none 0 0,O,by rw [K.o];rfl,?_,?_,AgO.refl _ _,Frm.refl _ _⟩
  ·unfold CS.cancel;rw [if_neg (by rw [K.o];decide)];exact J.o
  ·unfold CS.cancelL;rw [if_neg (by rw [K.o];decide)];exact LetAt.nil _ _ _
 | true=>
  have N:=M;unfold CS.has at N;simp only [decide_eq_true_eq] at N;obtain ⟨i,rfl⟩:∃ i:Nat,id=(i:Int)+1:=⟨id.toNat - 1,by omega⟩;obtain ⟨Ac,N⟩:=N;have E:qF A.q S.L ((i:Int)+1)=some (A.q (i+1)):=by unfold qF;rw [if_pos ⟨Ac,N⟩];congr 2
  rw [E] at C;have I:(Instr.lookup 114 (.map (some A.qm)) (.int .i64 ((i:Int)+1)) false).run prog w=.ok (.pointer (some ⟨A.q (i+1),0,none⟩)) w:=C;have H:i+1∈S.L:=N;have Aq:=y.le _ H;have K:=Hy M;have Ae:=fun V=>qa1 (A.q (i+1)) V;have B:=Qc J.toldRow.1 (by omega);obtain ⟨k,B,_⟩:=B;have Am:=Hy B;have ⟨n,hn⟩:=gn S.told.length;have HN:=Hy hn;have Ah:w.cell? ⟨p,18,none⟩=some (.slice (some ⟨k,0,none⟩) n A.tc):=by have q:Cl w p 18 (.slice A.ta S.told.length A.tc):=J.blk.cell 18;rw [B,hn] at q;exact q
  have s:=Hy (by omega:i < S.told.length);obtain ⟨tx,D⟩:∃ tx,S.told[i]?=some tx:=⟨S.told[i]'(by omega),le_ _⟩;have k6:w.cell? ⟨k,i * 7+6,none⟩=some (.bool tx.canc):=xf J.toldRow D s.o B 6 (by omega);have fz:w.frozen? ⟨k,i * 7+6,none⟩=false:=qo J.toldRow B (i * 7+6);have k1:(0:Int)<=(i:Int):=by omega
  have k2:(i:Int) < (n:Int):=by omega
  obtain ⟨hx,a,W⟩:=CWx.tcell J.o (fun h=>h) D B (j:=6) (by omega) (.bool true);have T:=CW.with_flag (hx.frm (Frm.refl (fun _=>False) _) (AgO.refl _ _) (fun t q=>q.elim False.elim (fun q=>q)) (fun _ _ q=>q.elim)) D (t':={S.tof (i+1) with canc:=true}) (by rw [qn D]) (by rw [qn D];exact a);have P:=Hy (show CW (w.setCell ⟨k,i * 7+6,none⟩ (.bool true)) O A p (S.stop (i+1)) from T);have G:=Hy W;have HM:=Hy H;have z:=Hy (F _ H);have Aa:=Hy f;have k4:IntKind.i64.wrap (i:Int)=(i:Int):=zq _ (by omega) (by omega);clear C E M N H hx a W T D B F f hn J
  go_in;go_wp2_with fail;clear Ag Ah k6 fz I;have ⟨w6,d⟩:=gn (w.setCell ⟨k,i * 7+6,none⟩ (.bool true));rw [d] at P G ⊢;clear d;refine (QP O A p (S.stop (i+1)) (i+1) wk w6 P.o HM.o (by omega) Af Aa.o g z.o (by omega)).mono ?_;rintro e w7 ⟨v,O3,rfl,U,Z,R,Y⟩;have m:=Hy U;have u:=Hy Z;have l:=Hy R;have r:=Hy Y;clear U Z R Y;go_wp2_with fail;go_ret2;refine ⟨v,O3,by rw [K.o];rfl,?_,?_,fun b hb=>l.o b (nt hb G.size),COut.trans G.o r.o (AgO.refl _ _)⟩
  ·unfold CS.cancel;rw [if_pos K.o];exact m.o
  ·unfold CS.cancelL;rw [if_pos K.o];exact u.base G.size
theorem qam {w:World} {g:Nat} {e:TypeId} {cs:List Value} {V:Type} {R:Value->Option (DataW Unit×List MemPlace)} {lt:V->Lit} {b m c:Nat} {f:Int->Option V} (h:Blk w g e cs) (h':MapF R lt w b m c f):g≠b:=by
 obtain ⟨D,⟨B,A,h1,_⟩,_⟩:=h';rintro rfl;unfold Blk at h;rw [h1] at h;simp at h
def leastQ (c:CfgM) (q:ByteArray) (k:Int) (s:Int):Int:=if k < leastN c.cuts s (tLen q) then -1 else leastN c.cuts s (tLen q)
theorem Y0 {q:ByteArray} {k n:Int} (h:mayQ q k n=true):(0<=tLen q/\tLen q<=16)/\0<=k/\k<=4/\1<=n/\n<=10:=by
 unfold mayQ askedB at h;simp only [Bool.and_eq_true,decide_eq_true_eq] at h;obtain ⟨⟨⟨⟨h1,A⟩,B⟩,C⟩,D⟩:=h;exact ⟨h1,A,B,C,D⟩
theorem XaA (l:List KeyL) (k m:Int) (A:∀ x∈l,-1000<=x.1/\x.1<=1000) (hm:0<=m/\m<=16): -1<=leastN l k m/\leastN l k m<=2000:=by
 have:=Q0 l k A;unfold leastN;split
 ·omega
 split
 ·omega
 split <;> omega
def CS.newQ (S:CS) (q:ByteArray) (k n:Int) (s ns:Nat):QS:=⟨s,q,k,n,((List.range ns).map (fun j:Nat=>leastQ S.c q k (j:Nat))).map newPS,[],List.replicate 6 SH.zero⟩
def CS.add (S:CS) (q:ByteArray) (k n:Int) (s ns:Nat):CS:={S with L:=S.L.set s (S.told.length+1),Q:=fun j=>if j=S.told.length+1 then S.newQ q k n s ns else S.Q j,told:=S.told++[⟨q,k,n,[],false,false⟩]}
def CS.sub (S:CS) (q:ByteArray) (k n:Int) (ns:Nat):CS:=if mayQ q k n=false then S else match freeS S.L with | none=>S | some s=>(S.add q k n s ns).goes (S.told.length+1) ns
def CS.subV (S:CS) (q:ByteArray) (k n:Int):Int×Int:=((subS q k n S.L S.told.length).1,(subS q k n S.L S.told.length).2.1)
def CS.subLs (S:CS) (q:ByteArray) (k n:Int) (ns wk:Nat):List LV:=if mayQ q k n=false then [] else match freeS S.L with | none=>[] | some s=>(S.add q k n s ns).goesL (S.told.length+1) wk
theorem Yaj (p:Nat) (c:CfgM) (cs:List Value) (s:Int) (q:ByteArray) (k n:Int) (w:World) (C:Blk w p 120 cs) (hc:cs[1]?=some (.slice c.ac c.nc c.cc)) (hr:RdE KeyL.cells 2 w c.ac c.nc c.cc c.cuts) (hl:c.cuts.length<=100) (P:∀ x∈c.cuts,-1000<=x.1/\x.1<=1000) (hq:q.size<=maxLen) (hm:0<=tLen q/\tLen q<=16):
  Calls prog 64 #[.pointer (some ⟨p,0,none⟩),s,.agg #[q,k,n]] w fun e w'=>e=.returned (.int .i64 (leastQ c q k s))/\Below w.heap.size w w':=by
 have L:=Hy (fun V=>xE q V hq);have ⟨W,Q⟩:=gn (w.alloc (.cells #[q,k,n] 40));have D:Below w.heap.size w W:=by rw [<- Q];exact (bf _ w).alloc (nl _) _
 have HB:=Hy D;have T:=Hy (by rw [<- Q];exact hn_ w _:Blk W w.heap.size 40 [q,k,n]);have U:=Hy (C.below D C.lt);have g:=Hy (hr.below D rfl);have f:=Hy hc;have ⟨z,a⟩:=gn (tLen q);have J:=Hy (fun V (h:RdE KeyL.cells 2 V c.ac c.nc c.cc c.cuts)=>qaB c.ac c.nc c.cc c.cuts s z V h hl P (by omega));have Z:=XaA c.cuts s z P (by omega);unfold leastQ;rw [a];rw [a] at L;have ⟨d,hd⟩:=gn (leastN c.cuts s z);rw [hd] at J Z ⊢;have ⟨R,N⟩:=gn (if k < d then (-1:Int) else d)
 rw [N];clear C hr D hc a hd hm;go_in;go_upto_region 1 with (rw [Q]);clear Q;have F:=Hy (show Cl W.drew p 1 (.slice c.ac c.nc c.cc) from (U.cell 1).trans f.o);have E:=Hy (show Ct W.drew w.heap.size 0 q from T.cell 0);refine wp_region_held_drew (S:=(fun w'=>Cl w' p 1 (.slice c.ac c.nc c.cc)/\Ct w' w.heap.size 0 q)) (by kernel_rfl) (by first | exact ⟨F.o,E.o⟩ | exact ⟨G.o,B.cell 0⟩) (fun A=>?_);(iterate 8 refine tq 0 ?_);refine rdy 8 fun K M=>?_;go_simp;refine (L.o _).mono ?_;rintro e b ⟨rfl,C⟩;have G:=Hy (show Cl b p 1 (.slice c.ac c.nc c.cc) from ((Blk.below (w:=W.drew) U.o C U.lt).cell 1).trans f.o);have B:=Hy (Blk.below (w:=W.drew) T.o C T.lt);have Y:=Hy (RdE.below (w:=W.drew) (show RdE KeyL.cells 2 W.drew c.ac c.nc c.cc c.cuts from g.o) C rfl);have I:=Hy (HB.trans (show Below w.heap.size W b from ((show Below w.heap.size W W.drew from (bf _ W).drew).trans (C.mono HB.size))));clear C
 go_wp2_with fail;refine M.out _ _ (by first | exact ⟨F.o,E.o⟩ | exact ⟨G.o,B.cell 0⟩) (fun A=>?_);clear M K;try go_frame
 refine rdy 9 fun K M=>?_;go_simp;refine (J.o _ Y.o).mono ?_;rintro e w' ⟨rfl,rfl⟩;go_wp2_with fail;refine M.out _ _ (by first | exact ⟨F.o,E.o⟩ | exact ⟨G.o,B.cell 0⟩) (fun A=>?_);clear M K;refine tk 10 ?_;refine dn ?_;have l:b.cell? ⟨w.heap.size,1,none⟩=some (.int .i64 k):=B.cell 1
 by_cases H:k < d
 ·rw [if_pos H] at N
  subst N;go_wp2_with fail;go_ret;exact ⟨rfl,I.o⟩
 rw [if_neg H] at N
 subst N;have i:d<=k:=by omega
 have j:decide (k < d)=false:=decide_eq_false H;go_wp2_with fail;go_ret;exact ⟨rfl,I.o⟩
theorem CWx.sl_back {S:CS} (h:CWx (fun t=>t=ct 3) w O A p S) (hs:SlO O (ct 3) w A.sl A.sf A.sa S.L S.told.length):CW w O A p S:=
 ⟨fun _=>h.blk (Ya (by omega)),fun _=>h.imm (Ya (by omega)),fun _=>h.le (Ya (by omega)),fun _=>hs,fun _=>h.ti (Ya (by omega)),fun _=>h.qm (Ya (by omega)),fun _=>h.told (Ya (by omega)),fun id h1 B _=>h.qb id h1 B (Ya (by omega)),fun id h1 B _=>h.mg id h1 B (Ya (by omega)),fun i t h1 _=>h.it i t h1 (Ya (by omega))⟩
theorem Imm.rde {c:CfgM} (h:Imm O w A c):RdE KeyL.cells 2 w c.ac c.nc c.cc c.cuts:=by
 have B:=h.cuts.1.1;rw [zc KeyL.cells 2 (fun _=>rfl)] at B;exact Za (enc:=KeyL.cells) (fun _=>rfl) (by omega) h.cuts.1
theorem qf:(Tryz.prog.info? 58).map (fun i=>(i.zero,i.size,i.bytes))=some (some (.agg #[(),.string ⟨#[]⟩,(),(),.slice none 0 0,false,false]),7,72):=by kernel_rfl
theorem Src.told1 (w:World) (cs:List Value) (h7:cs.length=7) (h1:∀ u∈cs,u.oneCell'=true):Src prog 7 72 (.slice (some ⟨w.heap.size,0,none⟩) 1 1) 1 cs (w.alloc (.cells cs.toArray 58)):=
 Src.ofSlice _ underlying72 ⟨w.heap.size,0,none⟩ 1 1 cs (by omega) (World.news_of_block (hn_ w _)) h1
theorem Row.nil (O:Own) (t:Nat) (w:World) (e:TypeId) (size:Nat):Row O t w e size (.slice none 0 0) 0 []:=⟨World.ownsRow_nil _ _ _ _,fun k A=>by simp [Value.ownBlock] at A⟩
theorem Qa7 {q:Nat->Nat} {s yb:Nat} (ho:SlOK L last) (hs:L[s]?=some 0) (k:Int):(qF (fun j=>if j=last+1 then yb else q j) (L.set s (last+1)) k).map some=mputF (fun k=>(qF q L k).map some) ((last:Int)+1) (some (some yb)) k:=by
 show Option.map some (if 0 < k/\k.toNat∈L.set s (last+1) then some (if k.toNat=last+1 then yb else q k.toNat) else none)=if k=(last:Int)+1 then some (some yb) else Option.map some (if 0 < k/\k.toNat∈L then some (q k.toNat) else none);have F:s < L.length:=(lg hs).1;have C:last+1∈L.set s (last+1):=lm (List.getElem?_set_self F)
 by_cases e:k=(last:Int)+1
 ·subst e
  rw [if_pos ⟨by omega,by rw [show ((last:Int)+1).toNat=last+1 from by omega];exact C⟩,if_pos rfl,ip];rfl
 rw [if_neg e]
 by_cases A:0 < k
 ·have B:k.toNat∈L.set s (last+1)↔k.toNat∈L:=by
   constructor
   ·intro h
    rcases List.mem_or_eq_of_mem_set h with h | h
    ·exact h
    ·omega
   ·intro h
    obtain ⟨j,D⟩:=List.getElem?_of_mem h
    have:s≠j:=by
     intro E;rw [<- E,hs] at D;have:(0:Nat)=k.toNat:=by simpa using D
     omega
    exact lm (by rw [List.getElem?_set_ne this];exact D)
  by_cases h:k.toNat∈L
  ·rw [if_pos ⟨A,B.2 h⟩,if_neg (by omega:¬ k.toNat=last+1),if_pos ⟨A,h⟩]
  rw [if_neg (fun q=>h (B.1 q.2)),if_neg (fun q=>h q.2)]
 rw [if_neg (fun q=>A q.1),if_neg (fun q=>A q.1)]
def CA.add (A:CA) (n yb mp:Nat) (ta:Option Addr) (tc:Nat):CA:={A with q:=fun j=>if j=n+1 then yb else A.q j,m:=fun j=>if j=n+1 then mp else A.m j,ta:=ta,tc:=tc,it:=fun j=>if j=n then (none,0) else A.it j}
theorem CWx.add {S:CS} {q:ByteArray} {k n:Int} {s ns yb mp tc:Nat} {ta:Option Addr} (ho:SlOK S.L S.told.length) (hs:S.L[s]?=some 0) (h:CWx (fun t=>t=ct 0∨t=ct 3∨t=ct 5∨t=ct 6) w O A p S)
  (h0:BlkO O (ct 0) w p 120 ((S.cells A).set 18 (.slice ta (S.told.length+1:Nat) tc))) (h3:SlO O (ct 3) w A.sl A.sf A.sa (S.L.set s (S.told.length+1)) (S.told.length+1))
  (h5:MapO O (ct 5) w A.qm (S.told.length+1) (cntS (S.L.set s (S.told.length+1))) (qF (fun j=>if j=S.told.length+1 then yb else A.q j) (S.L.set s (S.told.length+1))))
  (h6:Row O (ct 6) w 58 7 (.slice ta (S.told.length+1) tc) (S.told.length+1) (rowF (toldF A.it S.told) S.told.length++TS.cells ⟨q,k,n,[],false,false⟩ ((S.told.length:Int)+1) (none,0)))
  (h7:BlkO O (ct (7+3 * (S.told.length+1))) w yb 141 ((S.newQ q k n s ns).cells (S.told.length+1) mp)) (h8:MGo O (ct (8+3 * (S.told.length+1))) w mp n (((List.range ns).map (fun j:Nat=>leastQ S.c q k (j:Nat))).map newPS) []):
  CW w O (A.add S.told.length yb mp ta tc) p (S.add q k n s ns):=by
 have C:∀ i,i≠0->i≠3->i≠5->i≠6->¬ (ct i=ct 0∨ct i=ct 3∨ct i=ct 5∨ct i=ct 6):=fun i a b c d h=>h.elim (Ya a) (fun h=>h.elim (Ya b) (fun h=>h.elim (Ya c) (Ya d)));have D:(S.add q k n s ns).told.length=S.told.length+1:=by show (S.told++[_]).length=_;simp
 have B:∀ j,j∈S.L.set s (S.told.length+1)->j≠S.told.length+1->j∈S.L:=fun j F e=>(List.mem_or_eq_of_mem_set F).elim id (fun h=>absurd h e);have H:∀ j,j∈S.L->j≠S.told.length+1:=fun j F e=>by have:=ho.le j F;omega
 refine ⟨fun _=>?_,fun _=>?_,fun _=>h.le (C _ (by omega) (by omega) (by omega) (by omega)),fun _=>by rw [D];exact h3,fun _=>h.ti (C _ (by omega) (by omega) (by omega) (by omega)),fun _=>by rw [D];exact h5,fun _=>?_,fun id h1 E _=>?_,fun id h1 E _=>?_,fun i t h1 _=>?_⟩
 ·have e:(S.add q k n s ns).cells (A.add S.told.length yb mp ta tc)=(S.cells A).set 18 (.slice ta (S.told.length+1:Nat) tc):=by unfold CS.cells;rw [D];rfl
  rw [e];exact h0
 ·have q:=h.imm (C _ (by omega) (by omega) (by omega) (by omega));exact ⟨q.cuts,q.row,q.each⟩
 ·rw [D,Qk]
  rw [Qo (G:=toldF A.it S.told) (fun i hi=>by
   show ((S.told++[_]).getD i TS.zero).cells _ (if i=S.told.length then _ else A.it i)=_;rw [io,List.getD_eq_getElem?_getD,List.getElem?_append_left hi];unfold toldF;rw [List.getD_eq_getElem?_getD])]
  rw [show toldF (A.add S.told.length yb mp ta tc).it (S.add q k n s ns).told S.told.length=TS.cells ⟨q,k,n,[],false,false⟩ ((S.told.length:Int)+1) (none,0) from by
   show ((S.told++[_]).getD S.told.length TS.zero).cells _ (if S.told.length=S.told.length then _ else A.it _)=_;rw [if_pos rfl,List.getD_eq_getElem?_getD,List.getElem?_append_right (Nat.le_refl _),Nat.sub_self];rfl]
  exact h6
 ·show BlkO O _ w (if id=S.told.length+1 then yb else A.q id) _ (QS.cells (if id=S.told.length+1 then _ else S.Q id) id (if id=S.told.length+1 then mp else A.m id))
  by_cases e:id=S.told.length+1
  ·subst e;rw [if_pos rfl,if_pos rfl,if_pos rfl];exact h7
  rw [if_neg e,if_neg e,if_neg e];exact h.qb id (B id h1 e) E (C _ (by omega) (by omega) (by omega) (by omega))
 ·show MGo O _ w (if id=S.told.length+1 then mp else A.m id) (if id=S.told.length+1 then S.newQ q k n s ns else S.Q id).n (if id=S.told.length+1 then S.newQ q k n s ns else S.Q id).S (if id=S.told.length+1 then S.newQ q k n s ns else S.Q id).T
  by_cases e:id=S.told.length+1
  ·subst e;rw [if_pos rfl,if_pos rfl];exact h8
  rw [if_neg e,if_neg e];exact h.mg id (B id h1 e) E (C _ (by omega) (by omega) (by omega) (by omega))
 show Row O _ w _ 2 (.slice (if i=S.told.length then _ else A.it i).1 _ (if i=S.told.length then _ else A.it i).2) _ _
 by_cases e:i=S.told.length
 ·subst e
  rw [show (S.add q k n s ns).told[S.told.length]?=some ⟨q,k,n,[],false,false⟩ from by show (S.told++[_])[S.told.length]?=_;rw [List.getElem?_append_right (Nat.le_refl _),Nat.sub_self];rfl] at h1;cases h1;rw [if_pos rfl];exact Row.nil _ _ _ _ _
 have hi:i < S.told.length:=by have:=(lg h1).1;rw [D] at this;omega
 rw [show (S.add q k n s ns).told[i]?=S.told[i]? from List.getElem?_append_left hi] at h1;rw [if_neg e];exact h.it i t h1 (C _ (by omega) (by omega) (by omega) (by omega))
def SuE (O:Own) (A:CA) (p:Nat) (S:CS) (q:ByteArray) (k n:Int) (wk:Nat) (w:World) (e:Ending) (w':World):Prop:=∃ v O' A',e=.returned (.tuple #[.int .i64 (S.subV q k n).1,.int .i64 (S.subV q k n).2,v])/\CW w' O' A' p (S.sub q k n A.cps.length)/\A'.cps=A.cps/\LetAt O' w' w.heap.size v (S.subLs q k n A.cps.length wk)/\AgO w.heap.size O O'/\COut O w w'
theorem qJ (O:Own) (A:CA) (p:Nat) (S:CS) (q:ByteArray) (k n:Int) (wk:Nat) (w:World) (h:CW w O A p S) (hq:q.size<=maxLen) (Bd:A.cps.length<=6) (AL:1<=A.cps.length) (BQ:S.c.wk=(wk:Int)) (BR:wk<=5) (CE:S.told.length<=100000) (Cz:S.c.cuts.length<=100) (BB:∀ x∈S.c.cuts,-1000<=x.1/\x.1<=1000):
  Calls prog 17 #[.pointer (some ⟨p,0,none⟩),.agg #[q,k,n]] w (SuE O A p S q k n wk w):=by
 obtain ⟨i0,hi,AE,AF,Ag⟩:=info_parts Xc;clear hi AE AF Ag;obtain ⟨i1,hi,AE,AF,Ag⟩:=info_parts qf;have HJ:=Hy hi;have Ck:=Hy AE;have Cm:=Hy AF;have Cn:=Hy Ag;clear hi AE AF Ag;have ⟨W,hW⟩:=gn (w.alloc (.cells #[q,k,n] 40));have AY:Below w.heap.size w W:=by rw [<- hW];exact (bf _ w).alloc (nl _) _
 have HB:=Hy AY;have HK:=Hy (by rw [<- hW];exact hn_ w _:Blk W.drew w.heap.size 40 [q,k,n]);have HC:=Hy (show CW W.drew O A p S from (h.below AY (AgO.refl _ _)).below (below_drewN (bf _ W) 1) (AgO.refl _ _));have A6:=Hy (ZaS q k n A.sl A.sf A.sa S.L S.told.length W.drew (CWx.sl HC.o (fun q=>q)).1 hq (by omega));obtain ⟨⟨v0,Bg,s0⟩,Bf⟩:∃ x,subS q k n S.L S.told.length=x:=⟨_,rfl⟩;obtain ⟨⟨L',a⟩,Be⟩:∃ x,subL q k n S.L S.told.length=x:=⟨_,rfl⟩;unfold SubE at A6;rw [Bf,Be] at A6;have Ad:=Hy Bf;have AU:=Hy Be
 have CU:=fun V=>yn p 0 V;have Cv:=Hy BQ;have Ch:=Hy BB;have CO:=Hy (by rw [<- hW];simp:w.heap.size < W.heap.size);have A7:=Hy (CWx.sl HC.o (fun q=>q)).1.ok;have Co:=Hy (show ¬ (w.heap.size=A.qm) from qam HK.o (CWx.qm HC.o (fun q=>q)).1);clear h AY Bf Be BQ BB;go_in;go_upto_region 3 with (rw [hW]);clear hW;refine wp_region_held_drew (S:=(fun w'=>Cp w' p 15 A.sl/\Ct w' w.heap.size 0 q/\Ci w' w.heap.size 1 k/\Ci w' w.heap.size 2 n)) (by kernel_rfl) (by first | exact ⟨HC.blk.cell 15,HK.cell 0,HK.cell 1,HK.cell 2⟩ | exact ⟨(T.blk (Ya (by omega))).1.cell 15,U.cell 0,U.cell 1,U.cell 2⟩) (fun E=>?_)
 (iterate 5 refine tq 0 ?_);refine rdy 5 fun K f=>?_;go_simp;refine A6.mono ?_;rintro e w1 ⟨rfl,hs,hf⟩;clear A6;have hO:OFrm O (ct 3) W.drew w1:=OFrm.of hf (fun b J _=>by obtain ⟨_,o1,o2,o3⟩:=CWx.sl HC.o (fun q=>q);rcases J with rfl | rfl | rfl;exact o1;exact o2;exact o3);have T:=Hy (CW.only HC.o 3 hO (AgO.refl _ _));have A5:=Hy (show SlO O (ct 3) w1 A.sl A.sf A.sa L' a from ⟨hs,(CWx.sl HC.o (fun q=>q)).2⟩);have U:=Hy (show Blk w1 w.heap.size 40 [q,k,n] from HK.frm hf (fun e=>by obtain ⟨a1,_,_⟩:=CWx.sl HC.o (fun q=>q);rcases e with e | e | e;exact Qe HK.o a1.blk (by decide) e;exact qam HK.o a1.of e;exact qam HK.o a1.at_ e));have An:=Hy (show COut O w w1 from COut.trans (show COut O w W.drew from Frm.drew (Frm.below HB.o)) (COut.of hO) (AgO.refl _ _));clear hs hf hO HC HK
 go_wp2_with fail;refine f.out _ _ (by first | exact ⟨HC.blk.cell 15,HK.cell 0,HK.cell 1,HK.cell 2⟩ | exact ⟨(T.blk (Ya (by omega))).1.cell 15,U.cell 0,U.cell 1,U.cell 2⟩) (fun E=>?_);clear f K;(iterate 7 refine tq 6 ?_);refine dn ?_;clear E;cases hm:mayQ q k n
 case false=>
  have z:=Ad.o;unfold subS at z;rw [if_pos hm] at z;obtain ⟨rfl,rfl,rfl⟩:v0=1/\Bg=0/\s0=0:=by simpa [eq_comm] using z
  have N:=AU.o;unfold subL at N;rw [if_pos hm] at N;obtain ⟨rfl,rfl⟩:L'=S.L/\a=S.told.length:=by simpa [eq_comm] using N
  clear z N;have HM:=Hy hm;clear hm;go_wp2_with fail;go_ret3;refine ⟨.slice none 0 0,O,A,by unfold CS.subV;rw [Ad.o];rfl,?_,rfl,?_,AgO.refl _ _,An.o⟩
  ·unfold CS.sub;rw [if_pos HM.o];exact CWx.sl_back T.o A5.o
  unfold CS.subLs;rw [if_pos HM.o];exact LetAt.nil _ _ _
 cases Z:freeS S.L
 case none=>
  have z:=Ad.o;unfold subS at z;rw [if_neg (by rw [hm];decide),Z] at z;obtain ⟨rfl,rfl,rfl⟩:v0=2/\Bg=0/\s0=0:=by simpa [eq_comm] using z
  have N:=AU.o;unfold subL at N;rw [if_neg (by rw [hm];decide),Z] at N;obtain ⟨rfl,rfl⟩:L'=S.L/\a=S.told.length:=by simpa [eq_comm] using N
  clear z N;have HM:=Hy hm;have Ao:=Hy Z;clear hm Z;go_wp2_with fail;go_ret3;refine ⟨.slice none 0 0,O,A,by unfold CS.subV;rw [Ad.o];rfl,?_,rfl,?_,AgO.refl _ _,An.o⟩
  ·unfold CS.sub;rw [if_neg (by rw [HM.o];decide),Ao.o];exact CWx.sl_back T.o A5.o
  unfold CS.subLs;rw [if_neg (by rw [HM.o];decide),Ao.o];exact LetAt.nil _ _ _
 rename_i sf;have z:=Ad.o;unfold subS at z;rw [if_neg (by rw [hm];decide),Z] at z;obtain ⟨rfl,rfl,rfl⟩:v0=3/\Bg=((S.told.length+1:Nat):Int)/\s0=(sf:Int):=by simpa [eq_comm] using z
 have N:=AU.o;unfold subL at N;rw [if_neg (by rw [hm];decide),Z] at N;obtain ⟨rfl,rfl⟩:L'=S.L.set sf (S.told.length+1)/\a=S.told.length+1:=by simpa [eq_comm] using N
 clear z N;obtain ⟨BD,_⟩:=qH Z;have Am:=Hy BD;have HM:=Hy hm;have Ao:=Hy Z;obtain ⟨C2,CF,CG,BK,AJ⟩:=Y0 hm;clear hm Z BD;have ⟨ns,AC⟩:=gn A.cps.length;have A0:=Hy AC;have C9:w1.cell? ⟨p,12,none⟩=some (.slice A.cpa ns A.cpc):=by have e:Cl w1 p 12 (.slice A.cpa A.cps.length A.cpc):=(T.blk (Ya (by omega))).1.cell 12;rw [AC] at e;exact e
 rw [AC] at Bd AL;clear AC;go_wp2_with fail;clear C9;go_loopw [10,36] (fun CC CD wr=>∃ (j:Nat) (ao:Option Addr) (c2:Nat),j<=ns/\CD=.int .i64 j/\CC=.slice ao j c2/\Hid (wr.ownsRow w1.heap.size 3 1 (.slice ao j c2) j (ints ((List.range j).map (fun j:Nat=>leastQ S.c q k (j:Nat)))))/\Hid (Below w1.heap.size w1 wr)) (fun _ v _=>ns - (intOf v).toNat)
 case atStart=>exact ⟨0,none,0,nz _,rfl,rfl,World.ownsRow_nil _ _ _ _,bf _ _⟩
 case round=>
  obtain ⟨j,ao,c2,hj,rfl,rfl,HO,Y⟩:=hrel;have AT:=Hy (U.below Y.o U.lt)
  by_cases C1:j < ns
  ·have z:(j:Int) < (ns:Int):=by omega
   obtain ⟨n0,n1,n2⟩:=c3 AT.o;have Bn:=Hy (Yaj p S.c (S.cells A) (j:Int) q k n wr ((T.blk (Ya (by omega))).1.below Y.o (T.blk (Ya (by omega))).1.lt) rfl ((T.imm (Ya (by omega))).rde.below Y.o rfl) Cz Ch.o hq C2);go_wp2_with fail;clear n0 n1 n2;refine Bn.mono ?_;clear Bn;rintro e w2 ⟨rfl,J⟩;have l:=Hy (Y.trans (J.mono Y.size));have Bv:=Hy (Qa HO.o J);clear J HO;have A1:j+1<=maxLen:=by unfold maxLen;omega
   have A2:(j+1) * 8<=140737488355328:=by omega
   have ⟨d,hd⟩:=gn (leastQ S.c q k (j:Int));have HD:=Hy hd;rw [hd];clear hd;have Ag:=l.size;go_wp2_with (at_builtin;refine wa Xc underlying26 (Bv.alloc _) (Src.one' underlying26 w2 _ 3 rfl) A1 A2 (by simp;omega) ?_;intro I Cx w5 At BH;have Cs:=Hy At;have Cf:=Hy ((l.alloc Ag _).grown BH (by simp;omega) (fun b J=>(Bv.lt b J).1));clear At BH);go_roundw
   case rel=>(refine ⟨_,_,_,_,_,_,_,_,_,_,_,_,_,?rel2,rfl⟩;exact ⟨j+1,I,Cx,by omega,by go_num,rfl,(by unfold Hid;rw [List.range_succ,List.map_append,List.map_cons,List.map_nil,HD.o,Yd];exact Cs.o),Cf.o⟩)
   case measure=>simp [intOf];omega
  obtain rfl:j=ns:=by omega
  clear C1 hj;have n2:wr.cell? ⟨w.heap.size,2,none⟩=some (.int .i64 n):=AT.cell 2;have Bu:=Hy (XaX (O:=O) (ct (8+3 * (S.told.length+1))) ao j c2 ((List.range j).map (fun j:Nat=>leastQ S.c q k (j:Nat))) n wr (Yc HO.o) AL Bd BK AJ);go_wp2_with fail;clear n2;refine Bu.mono ?_;clear Bu;rintro e w2 ⟨rfl,AB,J⟩;have l:=Hy (show Below w1.heap.size w1 w2 from Y.trans (J.mono Y.size));have C3:=Y.size;have ⟨mp,Ba⟩:=gn wr.heap.size;rw [Ba] at AB ⊢;have ⟨O1,AX⟩:=gn (O.upd mp (ct (8+3 * (S.told.length+1))));rw [AX] at AB
  have Aw:=Hy (by rw [<- AX];exact AgO.upd' (by omega) _ _:AgO w1.heap.size O O1);have Br:=Hy AB;have Az:=Hy (U.below l.o U.lt);have Bt:=Hy (by rw [<- Ba];exact J.size:mp<=w2.heap.size);have Bi:=Hy (CWx.below T.o l.o Aw.o);have By:=Hy (SlO.frm A5.o (Frm.below (S:=fun _=>False) l.o) (fun _ _ _ q=>q) Aw.o);have Al:=Hy (show AgO w.heap.size O O1 from fun b J=>Aw.o b (nt J An.size));have AR:=Hy (COut.trans An.o (COut.below l.o) (AgO.refl _ _));clear AB Ba J AX HO Y T A5 Aw l An AT
  obtain ⟨n0,n1,n2⟩:=c3 Az.o;have ⟨w3,AD⟩:=gn (w2.alloc (.cells #[.int .i64 ((S.told.length:Int)+1),(sf:Nat),q,k,n,.pointer (some ⟨mp,0,none⟩),(),(),(),false,(),(),(),false,(),(),(),false,(),(),(),false,(),(),(),false,(),(),(),false] 141));have Ae:Below w2.heap.size w2 w3:=by rw [<- AD];exact (bf _ w2).alloc (nl _) _
  have A8:=Hy (show BlkO (O1.upd w2.heap.size (ct (7+3 * (S.told.length+1)))) (ct (7+3 * (S.told.length+1))) w3 w2.heap.size 141 ((S.newQ q k n sf j).cells (S.told.length+1) mp) from ⟨by rw [<- AD];exact hn_ w2 _,Own.upd_ge (nl _)⟩);go_upto_region 14 with (rw [AD]);clear AD n0 n1 n2;have ⟨yb,BS⟩:=gn w2.heap.size;have H:AgO w2.heap.size O1 (O1.upd w2.heap.size (ct (7+3 * (S.told.length+1)))):=AgO.upd _ _ _;have ⟨O2,B2⟩:=gn (O1.upd w2.heap.size (ct (7+3 * (S.told.length+1))));rw [B2] at H A8;have Ax:=Hy (CWx.below Bi.o Ae H)
  have Bz:=Hy (SlO.frm By.o (Frm.below (S:=fun _=>False) Ae) (fun _ _ _ q=>q) H);have Bo:=Hy (MGo.frm Br.o (Frm.below (S:=fun _=>False) Ae) (fun _ _ _ q=>q) H);have Bm:=Hy (Az.below Ae Az.lt);have AN:=Hy (show AgO w.heap.size O O2 from fun b J=>(H b (nt J AR.size)).trans (Al.o b J));have Bk:=Hy (COut.trans AR.o (COut.below (O:=O1) Ae) Al.o);rw [BS] at A8 ⊢;clear Ae H B2 BS Bi By Br Az AR Al Bt C3;have As:=Ax.qm (Ya (by omega));have BI:Yk ((S.told.length:Int)+1):=zo (by omega) (by omega)
  have BL:S.told.length < maxLen:=by unfold maxLen;omega
  have Bs:=Hy As.1;have BM:(qF A.q S.L ((S.told.length:Int)+1)).map some=(none:Option (Option Nat)):=by unfold qF;rw [if_neg (fun hh=>by have:=A7.le _ hh.2;omega)];rfl
  have BC:=yD (y:=S.told.length+1) Am.o;rw [if_neg (by decide),ip] at BC;have C4:w3.cell? ⟨p,17,none⟩=some (.map (some A.qm)):=(Ax.blk (Ya (by omega))).1.cell 17;go_upto_region 15 with (refine qU (R:=rdP) (lt:=ltP) (enc:=encP) rfl _ _ _ 114 136 rfl underlying114 codP A.qm S.told.length (cntS S.L) (fun k=>(qF A.q S.L k).map some) rfl Bs.o BL ((S.told.length:Int)+1) rfl BI (some yb) rfl ?_;intro M AA BE;simp only [BM] at AA;rw [if_neg (by decide)] at AA;have Bp:=Hy AA;have s:=Hy BE;clear AA BE);clear C4 BM BI BL Bs
  have A3:=Hy As.2;clear As;have nf:∀ i,i≠5->∀ b,b < w3.heap.size->O2 b=ct i->¬ (b=A.qm):=fun i hi b _ ho e=>by subst e;rw [A3.o] at ho;exact Ya (fun h=>hi h.symm) ho
  have m:=Hy (show CWx (fun t=>t=ct 3∨t=ct 5) M O2 A p S from CWx.frm Ax.o s.o (AgO.refl _ _) (fun _ q=>.inl q) (fun b _ e=>.inl (.inr (by subst e;exact A3.o))));have B0:=Hy (SlO.frm Bz.o s.o (nf 3 (by omega)) (AgO.refl _ _));have Bq:=Hy (MGo.frm Bo.o s.o (nf _ (by omega)) (AgO.refl _ _));have B1:=Hy (BlkO.frm A8.o s.o (nf _ (by omega)) (AgO.refl _ _));have Bw:=Hy (show MapO O2 (ct 5) M A.qm (S.told.length+1) (cntS (S.L.set sf (S.told.length+1))) (qF (fun j=>if j=S.told.length+1 then yb else A.q j) (S.L.set sf (S.told.length+1))) from ⟨by rw [show cntS (S.L.set sf (S.told.length+1))=cntS S.L+1 from by omega];exact Bp.cong (fun k=>(Qa7 A7.o Am.o k).symm),A3.o⟩)
  have B:=Hy (show Blk M.drew w.heap.size 40 [q,k,n] from show Blk M w.heap.size 40 [q,k,n] from Bm.frm s.o Co.o);have AS:=Hy (COut.trans Bk.o (COut.of (i:=5) (OFrm.of s.o (fun b e _=>by subst e;exact A3.o))) AN.o);clear nf Ax Bz Bo A8 Bm Bk s Bp BC;have Cq:=Hy (by have:=(lg Am.o).1;have:=A7.len.2;omega:sf<=4);have AP:=Hy (show Blk (M.alloc (.cells #[.int .i64 ((S.told.length:Int)+1),q,k,n,.slice none 0 0,false,false] 58)).drew p 120 (S.cells A) from ((m.blk (fun h=>h.elim (Ya (by omega)) (Ya (by omega)))).1.alloc _).drewN 1)
  have Ap:=Hy (m.blk (fun h=>h.elim (Ya (by omega)) (Ya (by omega)))).2;have Bx:=Hy (m.blk (fun h=>h.elim (Ya (by omega)) (Ya (by omega)))).1.lt;have Aq:=Hy (show Row O2 (ct 6) (M.alloc (.cells #[.int .i64 ((S.told.length:Int)+1),q,k,n,.slice none 0 0,false,false] 58)).drew 58 7 (.slice A.ta S.told.length A.tc) S.told.length (rowF (toldF A.it S.told) S.told.length) from (m.told (fun h=>h.elim (Ya (by omega)) (Ya (by omega)))).frm (F:=fun _=>False) (((Frm.refl _ M).alloc _).drew) (fun _ _ _ q=>q) (AgO.refl _ _))
  have BT:Cl M.drew p 18 (.slice A.ta S.told.length A.tc):=(m.blk (fun h=>h.elim (Ya (by omega)) (Ya (by omega)))).1.cell 18;have BU:(M.alloc (.cells #[.int .i64 ((S.told.length:Int)+1),q,k,n,.slice none 0 0,false,false] 58)).drew.cell? ⟨p,18,none⟩=some (.slice A.ta S.told.length A.tc):=AP.cell 18;have C:=Hy (show Blk (M.alloc (.cells #[.int .i64 ((S.told.length:Int)+1),q,k,n,.slice none 0 0,false,false] 58)).drew w.heap.size 40 [q,k,n] from Blk.alloc (w:=M) B.o _)
  have CN:=Hy (show w.heap.size < M.heap.size from Blk.lt (w:=M) B.o);have A1:S.told.length+1<=maxLen:=by unfold maxLen;omega
  have A2:(S.told.length+1) * 72<=140737488355328:=by omega
  clear E;have Cu:=Hy (show ∀ b,(Value.slice A.ta S.told.length A.tc).ownBlock=some b->b < M.heap.size from fun b J=>qg (m.told (fun h=>h.elim (Ya (by omega)) (Ya (by omega)))).1 b J);refine wp_region_held_drew (S:=(fun w'=>Ct w' w.heap.size 0 q/\Ci w' w.heap.size 1 k/\Ci w' w.heap.size 2 n)) (by kernel_rfl) (by first | exact ⟨B.cell 0,B.cell 1,B.cell 2⟩ | exact ⟨C.cell 0,C.cell 1,C.cell 2⟩ | exact ⟨D.cell 0,D.cell 1,D.cell 2⟩ | exact ⟨G.cell 0,G.cell 1,G.cell 2⟩) (fun E=>?_)
  (iterate 4 refine tq 0 ?_);(iterate 3 refine tq 5 ?_);refine wpAnyH_ready (rs:=[4,8]) (by kernel_rfl) (by simp) ?_;refine AllReadyH.cons rfl (fun K f=>?_) (AllReadyH.cons rfl (fun K f=>?_) AllReadyH.nil)
  focus
   go_simp
   go_wp2_with fail;refine f.out _ _ (by first | exact ⟨B.cell 0,B.cell 1,B.cell 2⟩ | exact ⟨C.cell 0,C.cell 1,C.cell 2⟩ | exact ⟨D.cell 0,D.cell 1,D.cell 2⟩ | exact ⟨G.cell 0,G.cell 1,G.cell 2⟩) (fun E=>?_);clear f K;try go_frame
   refine rdy 8 fun K f=>?_
  rotate_left
  focus
   go_simp
   go_wp2_with fail;refine f.out _ _ (by first | exact ⟨B.cell 0,B.cell 1,B.cell 2⟩ | exact ⟨C.cell 0,C.cell 1,C.cell 2⟩ | exact ⟨D.cell 0,D.cell 1,D.cell 2⟩ | exact ⟨G.cell 0,G.cell 1,G.cell 2⟩) (fun E=>?_);clear f K;try go_frame
   refine rdy 4 fun K f=>?_
  all_goals
   go_simp
   go_wp2_with fail;refine f.out _ _ (by first | exact ⟨B.cell 0,B.cell 1,B.cell 2⟩ | exact ⟨C.cell 0,C.cell 1,C.cell 2⟩ | exact ⟨D.cell 0,D.cell 1,D.cell 2⟩ | exact ⟨G.cell 0,G.cell 1,G.cell 2⟩) (fun E=>?_);clear f K;try go_frame
   refine rdy 9 fun K f=>?_
   refine Zz rfl (.tmp 70) (.tmp 74) 72 72 rfl 0 58 i1 (.agg #[(),.string ⟨#[]⟩,(),(),.slice none 0 0,false,false]) 7 72 underlying72 HJ.o Ck.o Cm.o Cn.o rfl (by decide) A.ta S.told.length A.tc (rowF (toldF A.it S.told) S.told.length) (by kernel_rfl) Aq.1 (.slice (some ⟨M.heap.size,0,none⟩) 1 1) 1 [.int .i64 ((S.told.length:Int)+1),q,k,n,.slice none 0 0,false,false] (by kernel_rfl) (Src.told1 M.drew [.int .i64 ((S.told.length:Int)+1),q,k,n,.slice none 0 0,false,false] rfl (by intro u hu;simp only [List.mem_cons,List.not_mem_nil,or_false] at hu;rcases hu with rfl | rfl | rfl | rfl | rfl | rfl | rfl <;> rfl)) A1 A2 (nz _) ?_
   intro I c3 w5 AK hg B6;clear BT BU;have P:∀ b,(Value.slice A.ta S.told.length A.tc).ownBlock=some b->O2 b=ct 6:=Aq.2;have Bb:∀ b,(Value.slice A.ta S.told.length A.tc).ownBlock=some b->b≠p:=fun b J e=>by have q:=P b J;rw [e,Ap.o] at q;exact Ya (by omega) q
   have r:=AP.kept hg (fun e=>Bb p e.symm rfl);have C5:w5.cell? ⟨p,18,none⟩=some (.slice A.ta S.told.length A.tc):=r.cell 18;have fz:w5.frozen? ⟨p,18,none⟩=false:=zk r;have D:=Hy (C.kept hg (fun e=>Qb Aq.1 C.o (by decide) _ e.symm rfl));have BF:Frm (fun b=>(Value.slice A.ta S.told.length A.tc).ownBlock=some b∨b=p) M w5:=Frm.trans (((Frm.refl (fun b=>(Value.slice A.ta S.told.length A.tc).ownBlock=some b∨b=p) M).alloc _).drew) (Frm.grown (S:=(fun b=>(Value.slice A.ta S.told.length A.tc).ownBlock=some b∨b=p)) hg (fun g e=>.inl e)) (fun i h _=>h)
   have Aa:Frm (fun b=>(Value.slice A.ta S.told.length A.tc).ownBlock=some b∨b=p) M (w5.setCell ⟨p,18,none⟩ (.slice I (S.told.length+1:Nat) c3)):=BF.setCell _ _ (.inl (.inr rfl));have H:AgO M.heap.size O2 (O2.upd M.heap.size (ct 6)):=AgO.upd _ _ _;have nf:∀ i,i≠0->i≠6->∀ b,b < M.heap.size->O2 b=ct i->¬ ((Value.slice A.ta S.told.length A.tc).ownBlock=some b∨b=p):=fun i h1 h2 b _ ho e=>by rcases e with e | e;rw [P b e] at ho;exact Ya (fun h=>h2 h.symm) ho;rw [e,Ap.o] at ho;exact Ya (fun h=>h1 h.symm) ho
   have B8:CWx (fun t=>t=ct 0∨t=ct 3∨t=ct 5∨t=ct 6) (w5.setCell ⟨p,18,none⟩ (.slice I (S.told.length+1:Nat) c3)) (O2.upd M.heap.size (ct 6)) A p S:=m.frm Aa H (fun t q=>q.elim (fun e=>.inr (.inl e)) (fun e=>.inr (.inr (.inl e)))) (fun b _ e=>.inl (e.elim (fun e=>.inr (.inr (.inr (P b e)))) (fun e=>.inl (by rw [e];exact Ap.o))));have B7:BlkO (O2.upd M.heap.size (ct 6)) (ct 0) (w5.setCell ⟨p,18,none⟩ (.slice I (S.told.length+1:Nat) c3)) p 120 ((S.cells A).set 18 (.slice I (S.told.length+1:Nat) c3)):=⟨r.set 18 _,(H p Bx.o).trans Ap.o⟩;have Ar:∀ b,(Value.slice I (S.told.length+1) c3).ownBlock=some b->((Value.slice A.ta S.told.length A.tc).ownBlock=some b)∨b=M.heap.size+1:=fun b J=>by rcases B6 with e | e;exact .inl (by rw [<- e];exact J);rw [J] at e;exact .inr (by have:=Option.some.inj e;simpa using this)
   have BO:Row (O2.upd M.heap.size (ct 6)) (ct 6) (w5.setCell ⟨p,18,none⟩ (.slice I (S.told.length+1:Nat) c3)) 58 7 (.slice I (S.told.length+1) c3) (S.told.length+1) (rowF (toldF A.it S.told) S.told.length++TS.cells ⟨q,k,n,[],false,false⟩ ((S.told.length:Int)+1) (none,0)):=⟨za AK ((Frm.refl (fun b=>b=p) w5).setCell ⟨p,18,none⟩ _ (.inl rfl)) (fun b J e=>by rcases Ar b J with N | N;exact Bb b N e;have:=Bx.o;omega),fun b J=>by rcases Ar b J with N | N;exact (H b (by have q:=qg Aq.1 b N;simp at q;by_cases hx:b < M.heap.size;exact hx;exact absurd (P b N) (by have:=Cu.o b N;omega))).trans (P b N);rw [N];exact Own.upd_ge (by omega)⟩
   have B9:=CWx.add (ns:=j) A7.o Am.o B8 B7 (SlO.frm B0.o Aa (nf 3 (by omega) (by omega)) H) (MapO.frm Bw.o Aa (nf 5 (by omega) (by omega)) H) BO (BlkO.frm B1.o Aa (nf _ (by omega) (by omega)) H) (MGo.frm Bq.o Aa (nf _ (by omega) (by omega)) H);have AQ:=Hy B9;have Ay:=Hy (show COut O w (w5.setCell ⟨p,18,none⟩ (.slice I (S.told.length+1:Nat) c3)) from COut.trans AS.o (Aa.mono (fun b e _=>by rcases e with e | e;rw [P b e];exact YG 6;rw [e,Ap.o];exact YG 0)) AN.o);have AO:=Hy (show AgO w.heap.size O (O2.upd M.heap.size (ct 6)) from fun b J=>(H b (nt J AS.size)).trans (AN.o b J))
   have G:=Hy (show Blk (w5.setCell ⟨p,18,none⟩ (.slice I (S.told.length+1:Nat) c3)) w.heap.size 40 [q,k,n] from D.frm ((Frm.refl (fun b=>b=p) w5).setCell ⟨p,18,none⟩ _ (.inl rfl)) (fun e=>Qe D.o r (by decide) e));clear P Bb r BF Aa H nf B8 B7 Ar BO B9 AK hg B6;refine f.out _ _ (by first | exact ⟨B.cell 0,B.cell 1,B.cell 2⟩ | exact ⟨C.cell 0,C.cell 1,C.cell 2⟩ | exact ⟨D.cell 0,D.cell 1,D.cell 2⟩ | exact ⟨G.cell 0,G.cell 1,G.cell 2⟩) (fun E=>?_)
   clear f K;refine tk 10 ?_;refine tk 11 ?_;refine rdy 12 fun K f=>?_
   go_simp
   go_wp2_with fail;refine f.out _ _ (by first | exact ⟨B.cell 0,B.cell 1,B.cell 2⟩ | exact ⟨C.cell 0,C.cell 1,C.cell 2⟩ | exact ⟨D.cell 0,D.cell 1,D.cell 2⟩ | exact ⟨G.cell 0,G.cell 1,G.cell 2⟩) (fun E=>?_);clear f K;try go_frame
   refine dn ?_;clear E C5 fz;have ⟨w6,BP⟩:=gn (w5.setCell ⟨p,18,none⟩ (.slice I (S.told.length+1:Nat) c3));rw [BP] at AQ Ay ⊢;clear BP G D C B Aq AP m B0 Bq B1 Bw AS A1 A2;have ⟨O3,B3⟩:=gn (O2.upd M.heap.size (ct 6));rw [B3] at AQ AO;clear B3;have BN:(A.add S.told.length yb mp I c3).q (S.told.length+1)=yb:=by show (if S.told.length+1=S.told.length+1 then yb else _)=yb;rw [if_pos rfl]
   have A9:(S.add q k n sf j).Q (S.told.length+1)=S.newQ q k n sf j:=by show (if S.told.length+1=S.told.length+1 then _ else _)=_;rw [if_pos rfl]
   have AH:(S.add q k n sf j).told[S.told.length]?=some ⟨q,k,n,[],false,false⟩:=by show (S.told++[_])[S.told.length]?=_;rw [List.getElem?_append_right (Nat.le_refl _),Nat.sub_self];rfl
   have AZ:=zO O3 (A.add S.told.length yb mp I c3) p (S.add q k n sf j) (S.told.length+1) wk w6 AQ.o (lm (List.getElem?_set_self (lg Am.o).1)) (by omega) (by show A.cps.length<=6;rw [A0.o];exact Bd) Cv.o BR (by rw [A9];exact Cq.o) (by omega) (by show _<=(S.told++[_]).length;simp) (by rw [qn AH];simp) (by rw [A9];show ((0:Nat):Int)<=n;omega) (by rw [A9];exact AJ);rw [BN] at AZ;have Bl:=Hy AZ;clear BN A9 AH AZ;go_wp2_with fail;refine Bl.mono ?_;clear Bl;rintro e w7 ⟨v,O4,A4,rfl,BA,AI,_,BJ,B5,BG⟩
   have Cg:=Hy BA;have Bj:=Hy AI;have Cr:=Hy BJ;have Ce:=Hy B5;have Cj:=Hy BG;clear BA AI BJ B5 BG;go_wp2_with fail;go_ret3;refine ⟨v,O4,A4,by unfold CS.subV;rw [Ad.o];rfl,?_,Bj.o,?_,AO.trans Ce.o Ay.size,COut.trans Ay.o Cj.o AO.o⟩
   ·unfold CS.sub;rw [if_neg (by rw [HM.o];decide),Ao.o,A0.o];have q9:=Cg.o;rw [show (A.add S.told.length yb mp I c3).cps.length=j from A0.o] at q9;exact q9
   unfold CS.subLs;rw [if_neg (by rw [HM.o];decide),Ao.o,A0.o];exact Cr.base Ay.size
end Go.Proofs.YtinkbgeckjbnbaaGreat
