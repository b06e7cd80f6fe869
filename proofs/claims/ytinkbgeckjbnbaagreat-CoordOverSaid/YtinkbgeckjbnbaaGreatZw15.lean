/- Lemmas (part 15). -/
import Derived.Test.YtinkbgeckjbnbaaGreatZw14
namespace Go.Proofs.YtinkbgeckjbnbaaGreat
open Go.RowKit Go.Proofs.Tryz
set_option autoImplicit true
set_option relaxedAutoImplicit true
set_option linter.unusedVariables false
set_option linter.unusedSimpArgs false
set_option maxRecDepth 100000
set_option maxHeartbeats 32000000
def Z8 (q:Nat) (n:Int) (S:List PS) (T:List KeyL) (qs c:Nat) (R:List MS) (sp:List Value) (ta:Option Addr) (tc:Nat) (w:World) (P:Bool×List PS) (e:Ending) (w':World):Prop:=
 e=.returned (.bool P.1)/\(∃ R',RMx w' q n P.2 T qs c R' sp ta tc/\∀ k,Xb ta R' k->Xb ta R k∨w.heap.size<=k)/\Frm (fun i=>i=qs) w w'
theorem xaR {P:Bool×List PS} (hx:RMx w q n S T qs c R sp ta tc) (hP:P=(false,S)) (hb:Below w.heap.size w w'):Z8 q n S T qs c R sp ta tc w P (.returned (.bool false)) w':=by
 subst hP;exact ⟨rfl,⟨R,hx.below hb,fun k h=>.inl h⟩,Frm.below hb⟩
theorem Yab {l:List KeyL} {d:KeyL} (hd:d.2.size<=1000000) (hl:∀ x∈l,x.2.size<=1000000):(l.getLastD d).2.size<=1000000:=by
 cases l with
 | nil=>exact hd
 | cons a l=>
  have:(a :: l).getLastD d∈a :: l:=by
   rw [List.getLastD_cons,List.getLastD_eq_getLast?];cases h:l.getLast? with
   | none=>simp
   | some y=>simp [List.mem_of_getLast? h]
  exact hl _ this
theorem QaR (hx:RMx w q n S T qs c R sp ta tc) (I:∀ k,Xb ta R k->k≠qs) {k:Nat} {ms:MS} {s:PS} (hm:R[k]?=some ms) (hs:S[k]?=some s) {lb:Nat} (Q:w.heap.size<=lb) {cs:List Value} (hl:Blk u lb 172 cs)
  (hb:Below w.heap.size w u) {ao:Option Addr} {mm c2:Nat} {l:List KeyL} {e:Bool} (ho:u.ownsRow w.heap.size 46 2 (.slice ao mm c2) mm (l.flatMap KeyL.cells)) (E:l.length=mm) (h5:mm<=5) (hz:∀ x∈l,x.2.size<=1000000) (h0:Frm (fun i=>i=lb) u W0) (h1:Frm (fun i=>i=qs) W0 W') {m':MS}
  (F:m'=⟨s.least,s.seq+1,e,s.heard||decide (0 < l.length),l.getLastD s.last,ao,mm,c2⟩)
  (hg:Blk W0 qs 172 (R.flatMap MS.cells++sp)->Blk W' qs 172 ((((((((R.flatMap MS.cells++sp).set (k * 7) (.int .i64 m'.least)).set (k * 7+1) (.int .i64 m'.seq)).set (k * 7+2) (.bool m'.ended)).set (k * 7+3) (.bool m'.heard)).set (k * 7+4) (.int .i64 m'.last.1)).set (k * 7+5) (.string m'.last.2)).set (k * 7+6) (.slice m'.wa m'.wn m'.wc)))
  {P:Bool×List PS} (hP:P=(true,S.set k (s.put l e))):Z8 q n S T qs c R sp ta tc w P (.returned (.bool true)) W':=by
 subst hP;rw [za2 hm] at hg
 have K:∀ j,Xb ta R j->j < w.heap.size:=by
  rintro j (⟨o,s',A⟩ | ⟨i,m,o,s',h,A⟩)
  ·exact hx.tlt _ _ _ A
  ·have hi:=(lg h).1
   exact (hx.sh i m _ h (le_ (show i < S.length by rw [<- hx.len];exact hi))).lt _ _ _ A
 have U:=hx.below hb
 have D:RMx W0 q n S T qs c R sp ta tc:=U.keep h0 (fun j L=>by
  subst L;refine ⟨?_,?_,fun h=>?_⟩
  ·have:=hx.P.lt;omega
  ·have:=hx.G.lt;omega
  ·have:=K _ h;omega)
 have H:=za ho h0 (fun g C A=>Qb ho hl (by decide) g C A);have B:=za H h1 (fun g C A=>by have:=Xa ho g C;have:=hx.G.lt;omega);refine ⟨rfl,⟨R.set k m',qaQ D (fun o s' A=>I qs (Or.inl ⟨o,s',A⟩) rfl) (fun i m o s' h A=>I qs (Or.inr ⟨i,m,o,s',h,A⟩) rfl) h1 (hg D.G) (fun _=>?_) ?_,fun j L=>?_⟩,?_⟩
 ·subst F
  exact ⟨rfl,rfl,rfl,rfl,rfl,Za (enc:=KeyL.cells) (fun _=>rfl) E B,fun b o s' A=>by
   rw [show ao=some ⟨b,o,s'⟩ from A] at B;obtain ⟨N,J⟩:=(ql B).2;exact J.lt,by rw [show (s.put l e).waits=l from rfl,E];exact h5⟩
 ·exact ⟨Yab (hx.sz s (lm hs)).1 hz,hz⟩
 ·rcases L with ⟨o,s',A⟩ | ⟨i,m,o,s',h,A⟩
  ·exact .inl (Or.inl ⟨o,s',A⟩)
  by_cases M:k=i
  ·subst M
   rw [yi hm] at h;cases h;subst F;rw [show ao=some ⟨j,o,s'⟩ from A] at ho;exact .inr (ql ho).1
  rw [List.getElem?_set_ne M] at h
  exact .inl (Or.inr ⟨i,m,o,s',h,A⟩)
 exact ((Frm.below (S:=fun i=>i=qs) hb).trans h0 (fun i A hi=>by omega)).trans h1 (fun i A _=>A)
def put7 (W:World) (g o:Nat) (m:MS):World:=((((((W.setCell ⟨g,o,none⟩ (.int .i64 m.least)).setCell ⟨g,o+1,none⟩ (.int .i64 m.seq)).setCell ⟨g,o+2,none⟩ (.bool m.ended)).setCell ⟨g,o+3,none⟩ (.bool m.heard)).setCell ⟨g,o+4,none⟩ (.int .i64 m.last.1)).setCell ⟨g,o+5,none⟩ (.string m.last.2)).setCell ⟨g,o+6,none⟩ (.slice m.wa m.wn m.wc)
theorem Frm.put7 (W:World) (g o:Nat) (m:MS):Frm (fun i=>i=g) W (put7 W g o m):=by
 unfold Go.Proofs.YtinkbgeckjbnbaaGreat.put7;exact (((((((Frm.refl (fun i=>i=g) W).setCell _ _ (.inl rfl)).setCell _ _ (.inl rfl)).setCell _ _ (.inl rfl)).setCell _ _ (.inl rfl)).setCell _ _ (.inl rfl)).setCell _ _ (.inl rfl)).setCell _ _ (.inl rfl)
theorem Blk.put7 {W:World} {g:Nat} {t:TypeId} {cs:List Value} (h:Blk W g t cs) (o:Nat) (m:MS):Blk (put7 W g o m) g t (((((((cs.set o (.int .i64 m.least)).set (o+1) (.int .i64 m.seq)).set (o+2) (.bool m.ended)).set (o+3) (.bool m.heard)).set (o+4) (.int .i64 m.last.1)).set (o+5) (.string m.last.2)).set (o+6) (.slice m.wa m.wn m.wc)):=by
 unfold Go.Proofs.YtinkbgeckjbnbaaGreat.put7;exact Blk.set (Blk.set (Blk.set (Blk.set (Blk.set (Blk.set (Blk.set h o _) _ _) _ _) _ _) _ _) _ _) _ _
theorem Blk.drew1 {w:World} {g:Nat} {e:TypeId} {cs:List Value} (h:Blk w g e cs):Blk w.drew g e cs:=h
def RpuR (w0:World) (s:PS) (l:List KeyL) (OK:Bool) (v:Value) (wr:World):Prop:=∃ j:Nat,j<=l.length/\v=.int .i64 j/\Hid (okI s.least (s.heard||decide (0 < j)) ((l.take j).getLastD s.last) (l.drop j)=OK)/\Hid (s.heard=true->0 < j->kless s.last ((l.take j).getLastD s.last)=true)/\Hid (Below w0.heap.size w0 wr)
theorem ZaR (q:Nat) (n i seq:Int) (S:List PS) (T:List KeyL) (l:List KeyL) (e:Bool) (a:Option Addr) (m cap:Nat) (w:World) (qs c:Nat) (R:List MS) (sp:List Value) (ta:Option Addr) (tc:Nat) (hX:RMx w q n S T qs c R sp ta tc) (hT:(T.length:Int)<=n) (hr:RdE KeyL.cells 2 w a m cap l)
  (hz:∀ x∈l,x.2.size<=1000000) (hs:∀ s∈S,0<=s.seq/\s.seq<=1000000) (BE:∀ k,Xb ta R k->k≠qs) (CZ:m<=1000):
  Calls prog 155 #[.pointer (some ⟨q,0,none⟩),i,seq,.slice a m cap,.bool e] w (Z8 q n S T qs c R sp ta tc w (putP n S T i seq l e)):=by
 obtain ⟨i0,hi,Cn,Co,Cq⟩:=info_parts Qf;clear hi Cn Co Cq;have HX:=Hy hX;have HR:=Hy hr;have HZ:=Hy hz;have Bf:=Hy hs;have Bd:=Hy BE;have M:=Hy hr.1;have Bg:=Hy (XQ q n S T w qs c R sp ta tc hX hT);have Br:=yai n S T;have Ck:=hX.bd.1;have ⟨PP,Bn⟩:=gn (putP n S T i seq l e);rw [Bn];have A9:=Hy Bn;have AJ:=Hy (qW (n:=n) (S:=S) (T:=T) (i:=i));have AK:=Hy (fun h=>yaf (n:=n) (S:=S) (T:=T) (i:=i) (seq:=seq) (l:=l) (e:=e) h);have ⟨wl,AU⟩:=gn (wantsP n S T);rw [AU] at Bg AJ AK Br
 clear hX hr hz hs BE Bn AU;have Cm:wl.length<=6:=nr Br Ck;clear Br;go_in;go_wp2_with fail;refine Bg.mono ?_;rintro e' w1 ⟨ao,wc,rfl,ho,hb⟩;have HB:=Hy hb;have HW:=Hy (show Rd w1 ao wl.length wc (ints wl) from Yc ho);clear ho hb Bg;go_wp2_with fail;have ⟨wn,Bs⟩:=gn wl.length;rw [Bs] at HW Cm ⊢;have B1:=Hy Bs;clear Bs;go_loop [11,13] (fun Cu Cv=>∃ (j:Nat) (g:Bool),j<=wn/\Cv=.int .i64 j/\Cu=.bool g/\Hid (g=decide (i∈wl.take j))) (fun _ v=>wn - (intOf v).toNat)
 case atStart=>exact ⟨0,false,nz _,rfl,rfl,by unfold Hid;simp⟩
 case round=>
  obtain ⟨j,g,hj,rfl,rfl,HG⟩:=hrel
  by_cases Aj:j < wn
  ·have k1:(0:Int)<=(j:Int):=by omega
   have k2:(j:Int) < (wn:Int):=by omega
   obtain ⟨x,hx⟩:∃ x,wl[j]?=some x:=⟨_,le_ (show j < wl.length by rw [B1.o];exact Aj)⟩;have BH:wl.take (j+1)=wl.take j++[x]:=by rw [List.take_add_one,hx];rfl
   have A4:=Hy BH;obtain ⟨b,o,rfl,CX,B5⟩:=HW.2.2.2.2 j Aj;have CY:w1.cell? ⟨b,o+j,none⟩=some (.int .i64 x):=by rw [B5];simp [ints,hx]
   clear BH B5 hx;cases g with
   | true=>
    have A8:Hid (true=decide (i∈wl.take (j+1))):=by
     have:=HG.o;unfold Hid;rw [A4.o];symm;rw [decide_eq_true_eq,List.mem_append];exact .inl (by simpa using this.symm)
    clear HG A4;go_wp2_with fail;go_round
    case rel=>exact ⟨j+1,true,by omega,by go_num,rfl,A8.o⟩
    case measure=>simp [intOf];omega
   | false=>
    have Bp:¬ i∈wl.take j:=by have:=HG.o;simpa using this.symm
    by_cases AQ:x=i
    ·subst AQ
     have d1:(x == x)=true:=by simp
     have A8:Hid (true=decide (x∈wl.take (j+1))):=by
      unfold Hid;rw [A4.o];symm;rw [decide_eq_true_eq,List.mem_append];exact .inr (by simp)
     clear HG A4 Bp;go_wp2_with fail;go_round
     case rel=>exact ⟨j+1,true,by omega,by go_num,rfl,A8.o⟩
     case measure=>simp [intOf];omega
    ·have d1:(x == i)=false:=by rw [beq_eq_false_iff_ne];exact AQ
     have A8:Hid (false=decide (i∈wl.take (j+1))):=by
      unfold Hid;rw [A4.o];symm;rw [decide_eq_false_iff_not,List.mem_append];rintro (h | h)
      ·exact Bp h
      ·simp at h;exact AQ h.symm
     clear HG A4 Bp AQ;go_wp2_with fail;go_round
     case rel=>exact ⟨j+1,false,by omega,by go_num,rfl,A8.o⟩
     case measure=>simp [intOf];omega
  have Av:j=wn:=by omega
  subst Av;clear Aj hj;have hG:=HG.o;rw [List.take_of_length_le (by rw [B1.o];exact Nat.le_refl _)] at hG;clear HG HW;cases g with
  | false=>
   have hP:PP=(false,S):=by rw [<- A9.o];exact AK.o (by simpa using hG.symm)
   have HE:=Hy (fun W hb=>xaR (w':=W) HX.o hP hb);clear hG hP A9 AJ AK HX HR HZ Bf Bd M;go_wp2_with fail;go_ret;exact HE.o _ HB.o
  | true=>
   obtain ⟨hd,s,AL,hw⟩:=AJ.1 (by simpa using hG.symm);obtain ⟨k,Cc,I⟩:=YM AL;subst Cc;have f:=Hy (fun (h:s.seq≠seq∨5 < l.length∨(l.length=0/\e=false)∨okI s.least s.heard s.last l=false) W hb=>xaR (w':=W) HX.o (A9.symm.trans (Y5 (.inr ⟨s,AL,.inr (.inr h)⟩))) hb)
   have Y:=Hy (fun (h1:s.seq=seq) (h2:¬ 5 < l.length) (h3:¬ (l.length=0/\e=false)) (h4:okI s.least s.heard s.last l=true)=>A9.symm.trans (xa8 (n:=n) (T:=T) (seq:=seq) (e:=e) AL (by
    rintro (h | h | h | h | h | h)
    ·rw [hd] at h;cases h
    ·rw [hw] at h;cases h
    ·exact h h1
    ·exact h2 h
    ·exact h3 h
    ·rw [h4] at h;cases h)))
   have Bx:=Hy I;have B9:k < S.length:=(lg I).1;obtain ⟨Z,s',BA,BF,A5,AT⟩:=(HX.below HB.o).at B9;rw [I] at BF;cases BF;obtain ⟨y0,y1,y2,y3,y4,y5,y6⟩:=AT.c2;rw [A5.least] at y0;rw [A5.seq] at y1;rw [A5.ended] at y2;rw [A5.heard] at y3;rw [A5.last] at y4 y5;have c0:=(HX.below HB.o).c3.1;have ⟨sl,Bq⟩:=gn S.length;rw [Bq] at c0 B9;have k1:(0:Int)<=(k:Int):=by omega
   have k2:(k:Int) < (sl:Int):=by omega
   have AI:=Hy BA;have AP:=Bf.o s (lm I);have BG:=HX.sz s (lm I);have B0:=Hy BG;have BB:=(HX.below HB.o).P.lt;have Ax:=(HX.below HB.o).G.lt;have C3:=HX.G.lt;have Bz:=Hy Bq;clear hG hd AL hw I BA A5 AT A9 AJ AK BG Bf Bq
   by_cases N:s.seq=seq
   ·have d1:(s.seq != seq)=false:=by simp [N]
    by_cases h5:5 < m
    ·have d2:decide (5 < m)=true:=by simpa using h5
     have BX:decide ((5:Int) < (m:Int))=true:=by simp;omega
     have HE:=Hy (f.o (.inr (.inl (by rw [M.o];exact h5))));clear f Y;go_wp2_with fail;go_ret;exact HE.o _ HB.o
    ·have d2:decide (5 < m)=false:=by simpa using h5
     have BX:decide ((5:Int) < (m:Int))=false:=by simp;omega
     by_cases h0:m=0
     ·subst h0
      cases e with
      | false=>
       have HE:=Hy (f.o (.inr (.inr (.inl ⟨M.o,rfl⟩))));clear f Y;go_wp2_with fail;go_ret;exact HE.o _ HB.o
      | true=>
       have Bj:¬ (l.length=0/\true=false):=by simp
       rw [N] at y1;have AD:Blk (w1.alloc (.cells #[s.least,seq,.bool s.ended,.bool s.heard,s.last.1,s.last.2,.slice Z.wa Z.wn Z.wc] 172)) w1.heap.size 172 [s.least,seq,.bool s.ended,.bool s.heard,s.last.1,s.last.2,.slice Z.wa Z.wn Z.wc]:=hn_ w1 _;have AC:=HB.alloc HB.size (.cells #[s.least,seq,.bool s.ended,.bool s.heard,s.last.1,s.last.2,.slice Z.wa Z.wn Z.wc] 172);have An:w.heap.size<=w1.heap.size:=HB.size;have AG:qs < w1.heap.size:=Ax;have Af:=Hy AD
       have U:=Hy AC;clear AD AC HB;go_wp2_with fail;generalize w1.alloc (.cells #[s.least,seq,.bool s.ended,.bool s.heard,s.last.1,s.last.2,.slice Z.wa Z.wn Z.wc] 172)=w2 at Af U ⊢;generalize w1.heap.size=lb at Af An AG ⊢;clear y0 y1 y2 y3 y4 y5 y6 c0 BB Ax;have ⟨OK,AB⟩:=gn (okI s.least s.heard s.last l);have Ak:=Hy AB;clear AB;go_loopw [15] (fun v wr=>RpuR w2 s l OK v wr) (fun v _=>0 - (intOf v).toNat)
       case atStart=>exact ⟨0,nz _,rfl,(by unfold Hid;rw [<- Ak.o];simp),(fun _ h=>by omega),bf _ _⟩
       case round=>
        obtain ⟨j,hj,rfl,HO,Ab,L⟩:=hrel;rw [M.o] at hj;have Aw:lb < w2.heap.size:=Af.lt
        by_cases Aj:j < 0
        ·exact absurd Aj (by omega)
        ·have Bo:j=0:=by omega
         subst Bo;clear Aj
         obtain rfl:OK=true:=by
          rw [<- HO.o,List.drop_eq_nil_of_le (by rw [M.o];exact Nat.le_refl _)];rfl
         have hP:=Y.o N (by rw [M.o];exact h5) Bj Ak.o;clear HO Ab f Y;have t:=Af.below L.o Aw;have AO:=(HR.below U.o rfl).below L.o rfl;have As:=U.trans (L.mono U.size);have Be:=Hy (show Src prog 2 56 (.slice a 0 cap) 0 (l.flatMap KeyL.cells) wr from Src.ofRdE (enc:=KeyL.cells) (size:=2) underlying56 (fun _=>rfl) itemOne AO);have AZ:=Hy t;have AW:=Hy As;have A1:0+0<=maxLen:=by unfold maxLen;omega
         have A2:(0+0) * 24<=140737488355328:=by omega
         have A3:w.heap.size<=wr.heap.size:=As.size;have Ch:0<=seq:=by rw [<- N];exact AP.1
         have Cj:seq<=1000000:=by rw [<- N];exact AP.2
         have Cf:qs≠lb:=by omega
         have BC:lb≠qs:=by omega
         have Cg:q < w.heap.size:=HX.P.lt;have BD:lb≠q:=by omega
         clear t As;go_wp2_with (at_builtin;refine wa (base:=w.heap.size) Qf underlying56 (World.ownsRow_nil _ _ _ _) Be.o A1 A2 A3 ?_;intro H c2 u Ae hg;rw [Nat.zero_add,List.nil_append] at Ae;have Al:Frm (fun _=>False) wr u:=Frm.grown (S:=fun _=>False) hg (fun g h=>by simp [Value.ownBlock] at h);have F:=AZ.frm Al (fun h=>h);have Ba:=Hy F;have At:=AW.trans (Al.toBelow A3 (fun _ _ h=>h));have AX:=Hy At;have Bc:=Hy Ae;have J:=HX.below At;have BT:=Hy J;have Ap:=ShAt.of_row2 J.G AI.o;have n0:=(F.cell 0).trans (show _=some (.int .i64 s.least) from rfl);have n1:=(F.cell 1).trans (show _=some (.int .i64 seq) from rfl);have n2:=(F.cell 2).trans (show _=some (.bool s.ended) from rfl);have n3:=(F.cell 3).trans (show _=some (.bool s.heard) from rfl);have n4:=(F.cell 4).trans (show _=some (.int .i64 s.last.1) from rfl);have n5:=(F.cell 5).trans (show _=some (.string s.last.2) from rfl);have n6:=(F.cell 6).trans (show _=some (.slice Z.wa Z.wn Z.wc) from rfl);have g1:=F.frozen 1;have g2:=F.frozen 2;have g3:=F.frozen 3;have g4:=F.frozen 4;have g5:=F.frozen 5;have g6:=F.frozen 6;obtain ⟨t0,t1,t2,t3,t4,t5,t6⟩:=Ap.c2;have f0:=J.G.frozen (k * 7);have f1:=J.G.frozen (k * 7+1);have f2:=J.G.frozen (k * 7+2);have f3:=J.G.frozen (k * 7+3);have f4:=J.G.frozen (k * 7+4);have f5:=J.G.frozen (k * 7+5);have f6:=J.G.frozen (k * 7+6);have c0:=J.c3.1;rw [Bz.o] at c0;clear Ae hg Al F At J Ap)
         go_region
         all_goals
          go_wp2_with fail;go_ret;rw [Int.toNat_natCast] at hP;have Bm:Frm (fun i=>i=lb) u (((u.setCell ⟨lb,6,none⟩ (.slice H 0 c2)).setCell ⟨lb,1,none⟩ (.int .i64 (seq+1))).setCell ⟨lb,2,none⟩ (.bool true)):=(((Frm.refl (fun i=>i=lb) u).setCell _ _ (.inl rfl)).setCell _ _ (.inl rfl)).setCell _ _ (.inl rfl);have Bl:(⟨s.least,seq+1,true,s.heard,s.last,H,0,c2⟩:MS)=⟨s.least,s.seq+1,true,s.heard||decide (0 < l.length),l.getLastD s.last,H,0,c2⟩:=by have hn:=List.eq_nil_of_length_eq_zero M.o;rw [hn,N];simp
          have Bt:Z8 q n S T qs c R sp ta tc w PP (.returned (.bool true)) (put7 (((u.setCell ⟨lb,6,none⟩ (.slice H 0 c2)).setCell ⟨lb,1,none⟩ (.int .i64 (seq+1))).setCell ⟨lb,2,none⟩ (.bool true)) qs (k * 7) ⟨s.least,seq+1,true,s.heard,s.last,H,0,c2⟩).drew:=
           QaR (u:=u) (W0:=((u.setCell ⟨lb,6,none⟩ (.slice H 0 c2)).setCell ⟨lb,1,none⟩ (.int .i64 (seq+1))).setCell ⟨lb,2,none⟩ (.bool true)) (W':=(put7 (((u.setCell ⟨lb,6,none⟩ (.slice H 0 c2)).setCell ⟨lb,1,none⟩ (.int .i64 (seq+1))).setCell ⟨lb,2,none⟩ (.bool true)) qs (k * 7) ⟨s.least,seq+1,true,s.heard,s.last,H,0,c2⟩).drew) HX.o Bd.o AI.o Bx.o An Ba.o AX.o Bc.o M.o (by omega) HZ.o Bm (Frm.put7 (((u.setCell ⟨lb,6,none⟩ (.slice H 0 c2)).setCell ⟨lb,1,none⟩ (.int .i64 (seq+1))).setCell ⟨lb,2,none⟩ (.bool true)) qs (k * 7) ⟨s.least,seq+1,true,s.heard,s.last,H,0,c2⟩).drew Bl (fun h=>(Blk.put7 h (k * 7) ⟨s.least,seq+1,true,s.heard,s.last,H,0,c2⟩).drew1) hP
          exact Bt
     ·have d4:((m:Int) == 0)=false:=by rw [beq_eq_false_iff_ne];omega
      have Bj:¬ (l.length=0/\e=false):=by rw [M.o];omega
      rw [N] at y1;have AD:Blk (w1.alloc (.cells #[s.least,seq,.bool s.ended,.bool s.heard,s.last.1,s.last.2,.slice Z.wa Z.wn Z.wc] 172)) w1.heap.size 172 [s.least,seq,.bool s.ended,.bool s.heard,s.last.1,s.last.2,.slice Z.wa Z.wn Z.wc]:=hn_ w1 _;have AC:=HB.alloc HB.size (.cells #[s.least,seq,.bool s.ended,.bool s.heard,s.last.1,s.last.2,.slice Z.wa Z.wn Z.wc] 172);have An:w.heap.size<=w1.heap.size:=HB.size;have AG:qs < w1.heap.size:=Ax;have Af:=Hy AD
      have U:=Hy AC;clear AD AC HB;go_wp2_with fail;generalize w1.alloc (.cells #[s.least,seq,.bool s.ended,.bool s.heard,s.last.1,s.last.2,.slice Z.wa Z.wn Z.wc] 172)=w2 at Af U ⊢;generalize w1.heap.size=lb at Af An AG ⊢;clear y0 y1 y2 y3 y4 y5 y6 c0 BB Ax;have ⟨OK,AB⟩:=gn (okI s.least s.heard s.last l);have Ak:=Hy AB;clear AB;go_loopw [15] (fun v wr=>RpuR w2 s l OK v wr) (fun v _=>m - (intOf v).toNat)
      case atStart=>exact ⟨0,nz _,rfl,(by unfold Hid;rw [<- Ak.o];simp),(fun _ h=>by omega),bf _ _⟩
      case round=>
       obtain ⟨j,hj,rfl,HO,Ab,L⟩:=hrel;rw [M.o] at hj;have Aw:lb < w2.heap.size:=Af.lt
       by_cases Aj:j < m
       ·obtain ⟨x,hx⟩:∃ x,l[j]?=some x:=⟨_,le_ (show j < l.length by rw [M.o];exact Aj)⟩
        have hO:=HO.o;rw [yad hx] at hO;obtain ⟨b,o,rfl,z0,z1,E⟩:=((HR.below U.o rfl).below L.o rfl).atI hx;have t:=Af.below L.o Aw;have D:=t.lt;have l0:=(t.cell 0).trans (show _=some (.int .i64 s.least) from rfl);have l3:=(t.cell 3).trans (show _=some (.bool s.heard) from rfl);have l4:=(t.cell 4).trans (show _=some (.int .i64 s.last.1) from rfl);have l5:=(t.cell 5).trans (show _=some (.string s.last.2) from rfl);have z:(l.take (j+1)).getLastD s.last=x:=Yy hx;have BI:=HZ.o x (lm hx);have Ah:(s.heard||decide (0 < j+1))=true:=by simp
        have j1:(0:Int)<=(j:Int):=by omega
        have j2:(j:Int) < (m:Int):=by omega
        have C7:=Hy hx;have Bh:=Hy BI;clear hx t HO BI
        by_cases AN:x.1 < s.least
        ·have AF:OK=false:=by rw [<- hO];simp [AN]
         have HE:=Hy (f.o (.inr (.inr (.inr (by rw [Ak.o];exact AF)))));have e1:decide (x.1 < s.least)=true:=by simpa using AN
         clear hO z Ah f Y Ab;go_wp2_with fail;go_quiet (fail);go_wp2_with fail;go_ret;exact HE.o _ (U.trans ((below_drewN L.o _).mono U.size))
        ·have e1:decide (x.1 < s.least)=false:=by simpa using AN
         have CB:¬ x.1 < s.least:=AN
         by_cases Cd:j=0
         ·subst Cd
          rw [Nat.zero_mul,Nat.add_zero] at z0 z1;cases hh:s.heard with
          | false=>
           rw [hh] at l3
           have A0:Hid (okI s.least (s.heard||decide (0 < 0+1)) ((l.take (0+1)).getLastD s.last) (l.drop (0+1))=OK):=by
            rw [hh] at hO;rw [if_neg (by simp [e1])] at hO;rw [z,Ah];exact hO
           have Ac:Hid (s.heard=true->0 < 0+1->kless s.last ((l.take (0+1)).getLastD s.last)=true):=fun h=>by rw [hh] at h;cases h
           clear hO z Ah Ab hh;go_wp2_with fail;go_quiet (fail);go_wp2_with fail;go_roundw
           case rel=>exact ⟨0+1,by rw [M.o];omega,by go_num,A0.o,Ac.o,below_drewN L.o _⟩
           case measure=>simp [intOf];omega
          | true=>
           rw [hh] at l3;have Ag:=Hy (fun W=>ritless s.last x W B0.1 Bh.o);have A:Hid (Below wr.heap.size wr wr.drew):=below_drewN (bf _ _) 1;have C:=Hy (And.intro l0 (And.intro l3 (And.intro l4 (And.intro l5 (And.intro z0 z1)))));cases I:kless s.last x with
           | false=>
            rw [I] at Ag;have AF:OK=false:=by rw [<- hO,hh];simp [I]
            have HE:=Hy (f.o (.inr (.inr (.inr (by rw [Ak.o];exact AF)))));clear hO z Ah f Y Ab hh I;go_wp2_with fail;refine wp_region_held_drew (S:=(fun w'=>Ci w' lb 0 s.least/\Cl w' lb 3 (.bool true)/\Ci w' lb 4 s.last.1/\Ct w' lb 5 s.last.2/\Ci w' b o x.1/\Ct w' b (o+1) x.2)) (by kernel_rfl) (by exact ⟨(A.cell (p:=⟨lb,0,none⟩) D).trans C.1,(A.cell (p:=⟨lb,3,none⟩) D).trans C.2.1,(A.cell (p:=⟨lb,4,none⟩) D).trans C.2.2.1,(A.cell (p:=⟨lb,5,none⟩) D).trans C.2.2.2.1,(A.cell (p:=⟨b,o,none⟩) E).trans C.2.2.2.2.1,(A.cell (p:=⟨b,o+1,none⟩) E).trans C.2.2.2.2.2⟩) (fun Q=>?_)
            (iterate 32 first | refine tq 0 ?_ | refine tr 0 ?_)
            (iterate 3 refine tq 32 ?_);refine rdy 35 fun K hK=>?_;go_simp;go_at_call 194;refine (Ag.o _).mono ?_;rintro e' Ay ⟨rfl,hb⟩;have V:=Hy (A.trans (hb.mono A.size));clear A;have A:=V;clear V;clear hb;go_wp2_with fail;refine hK.out _ _ (by exact ⟨(A.cell (p:=⟨lb,0,none⟩) D).trans C.1,(A.cell (p:=⟨lb,3,none⟩) D).trans C.2.1,(A.cell (p:=⟨lb,4,none⟩) D).trans C.2.2.1,(A.cell (p:=⟨lb,5,none⟩) D).trans C.2.2.2.1,(A.cell (p:=⟨b,o,none⟩) E).trans C.2.2.2.2.1,(A.cell (p:=⟨b,o+1,none⟩) E).trans C.2.2.2.2.2⟩) (fun Q=>?_)
            clear hK K;(iterate 3 refine tq 36 ?_);refine dn ?_;go_wp2_with fail;go_ret;exact HE.o _ (U.trans ((L.trans (A.mono L.size)).mono U.size))
           | true=>
            rw [I] at Ag
            have A0:Hid (okI s.least (s.heard||decide (0 < 0+1)) ((l.take (0+1)).getLastD s.last) (l.drop (0+1))=OK):=by
             rw [if_neg (by simp [e1,I])] at hO;rw [z,Ah];exact hO
            have Ac:Hid (s.heard=true->0 < 0+1->kless s.last ((l.take (0+1)).getLastD s.last)=true):=fun _ _=>by rw [z];exact I
            clear hO z Ah Ab hh I;go_wp2_with fail;refine wp_region_held_drew (S:=(fun w'=>Ci w' lb 0 s.least/\Cl w' lb 3 (.bool true)/\Ci w' lb 4 s.last.1/\Ct w' lb 5 s.last.2/\Ci w' b o x.1/\Ct w' b (o+1) x.2)) (by kernel_rfl) (by exact ⟨(A.cell (p:=⟨lb,0,none⟩) D).trans C.1,(A.cell (p:=⟨lb,3,none⟩) D).trans C.2.1,(A.cell (p:=⟨lb,4,none⟩) D).trans C.2.2.1,(A.cell (p:=⟨lb,5,none⟩) D).trans C.2.2.2.1,(A.cell (p:=⟨b,o,none⟩) E).trans C.2.2.2.2.1,(A.cell (p:=⟨b,o+1,none⟩) E).trans C.2.2.2.2.2⟩) (fun Q=>?_)
            (iterate 32 first | refine tq 0 ?_ | refine tr 0 ?_)
            (iterate 3 refine tq 32 ?_);refine rdy 35 fun K hK=>?_;go_simp;go_at_call 194;refine (Ag.o _).mono ?_;rintro e' Ay ⟨rfl,hb⟩;have V:=Hy (A.trans (hb.mono A.size));clear A;have A:=V;clear V;clear hb;go_wp2_with fail;refine hK.out _ _ (by exact ⟨(A.cell (p:=⟨lb,0,none⟩) D).trans C.1,(A.cell (p:=⟨lb,3,none⟩) D).trans C.2.1,(A.cell (p:=⟨lb,4,none⟩) D).trans C.2.2.1,(A.cell (p:=⟨lb,5,none⟩) D).trans C.2.2.2.1,(A.cell (p:=⟨b,o,none⟩) E).trans C.2.2.2.2.1,(A.cell (p:=⟨b,o+1,none⟩) E).trans C.2.2.2.2.2⟩) (fun Q=>?_)
            clear hK K;(iterate 3 refine tq 36 ?_);refine dn ?_;go_wp2_with fail;go_roundw
            case rel=>exact ⟨0+1,by rw [M.o];omega,by go_num,A0.o,Ac.o,L.trans (A.mono L.size)⟩
            case measure=>simp [intOf];omega
         ·obtain ⟨i,hi⟩:∃ i,j=i+1:=⟨j - 1,by omega⟩
          obtain ⟨y,hy⟩:∃ y,l[i]?=some y:=⟨_,le_ (show i < l.length by rw [M.o];omega)⟩;have Ao:(l.take j).getLastD s.last=y:=by rw [hi];exact Yy hy
          have AM:(s.heard||decide (0 < j))=true:=by simp;omega
          rw [Ao,AM] at hO;have Av:=Ab.o;rw [Ao] at Av;obtain ⟨b',o',BZ,p0,p1,_⟩:=((HR.below U.o rfl).below L.o rfl).atI hy;cases BZ;have BU:=Hy (HZ.o y (lm hy));have e2:decide ((0:Int) < (j:Int))=true:=by simp;omega
          have CC:decide (0 < j)=true:=by simp;omega
          have e3:IntKind.i64.wrap ((j:Int) - 1)=(i:Int):=by rw [show ((j:Int) - 1)=(i:Int) from by omega];exact IntWalk.i64_in _ (by omega)
          have i1:(0:Int)<=(i:Int):=by omega
          have i2:(i:Int) < (m:Int):=by omega
          have Ag:=Hy (fun W=>ritless y x W BU.o Bh.o);have A:Hid (Below wr.heap.size wr wr.drew):=below_drewN (bf _ _) 1;have r:=Hy (And.intro p0 p1);cases I:kless y x with
          | false=>
           rw [I] at Ag;have AF:OK=false:=by rw [<- hO];simp [I]
           have HE:=Hy (f.o (.inr (.inr (.inr (by rw [Ak.o];exact AF)))));have ⟨Cb,B7⟩:=gn s.heard;rw [B7] at l3;have C:=Hy (And.intro l0 (And.intro l3 (And.intro l4 (And.intro l5 (And.intro z0 z1)))));clear hO z Ah Av Ao AM f Y Ab I hy hi B7;go_wp2_with fail;refine wp_region_held_drew (S:=(fun w'=>Ci w' lb 0 s.least/\Cl w' lb 3 (.bool Cb)/\Ci w' lb 4 s.last.1/\Ct w' lb 5 s.last.2/\Ci w' b (o+j * 2) x.1/\Ct w' b (o+j * 2+1) x.2/\Ci w' b (o+i * 2) y.1/\Ct w' b (o+i * 2+1) y.2)) (by kernel_rfl) (by exact ⟨(A.cell (p:=⟨lb,0,none⟩) D).trans C.1,(A.cell (p:=⟨lb,3,none⟩) D).trans C.2.1,(A.cell (p:=⟨lb,4,none⟩) D).trans C.2.2.1,(A.cell (p:=⟨lb,5,none⟩) D).trans C.2.2.2.1,(A.cell (p:=⟨b,o+j * 2,none⟩) E).trans C.2.2.2.2.1,(A.cell (p:=⟨b,o+j * 2+1,none⟩) E).trans C.2.2.2.2.2,(A.cell (p:=⟨b,o+i * 2,none⟩) E).trans r.1,(A.cell (p:=⟨b,o+i * 2+1,none⟩) E).trans r.2⟩) (fun Q=>?_)
           (iterate 21 refine tq 0 ?_);refine rdy 21 fun K hK=>?_;go_simp;go_at_call 194;refine (Ag.o _).mono ?_;rintro e' Ay ⟨rfl,hb⟩;have V:=Hy (A.trans (hb.mono A.size));clear A;have A:=V;clear V;clear hb
           go_wp2_with fail;refine hK.out _ _ (by exact ⟨(A.cell (p:=⟨lb,0,none⟩) D).trans C.1,(A.cell (p:=⟨lb,3,none⟩) D).trans C.2.1,(A.cell (p:=⟨lb,4,none⟩) D).trans C.2.2.1,(A.cell (p:=⟨lb,5,none⟩) D).trans C.2.2.2.1,(A.cell (p:=⟨b,o+j * 2,none⟩) E).trans C.2.2.2.2.1,(A.cell (p:=⟨b,o+j * 2+1,none⟩) E).trans C.2.2.2.2.2,(A.cell (p:=⟨b,o+i * 2,none⟩) E).trans r.1,(A.cell (p:=⟨b,o+i * 2+1,none⟩) E).trans r.2⟩) (fun Q=>?_);clear hK K;(iterate 3 refine tq 22 ?_)
           (iterate 14 first | refine tq 25 ?_ | refine tr 25 ?_);refine dn ?_;go_wp2_with fail;go_ret;exact HE.o _ (U.trans ((L.trans (A.mono L.size)).mono U.size))
          | true=>
           rw [I] at Ag
           have A0:Hid (okI s.least (s.heard||decide (0 < j+1)) ((l.take (j+1)).getLastD s.last) (l.drop (j+1))=OK):=by
            rw [if_neg (by simp [e1,I])] at hO;rw [z,Ah];exact hO
           cases hh:s.heard with
           | false=>
            rw [hh] at l3;have Ac:Hid (s.heard=true->0 < j+1->kless s.last ((l.take (j+1)).getLastD s.last)=true):=fun h=>by rw [hh] at h;cases h
            have C:=Hy (And.intro l0 (And.intro l3 (And.intro l4 (And.intro l5 (And.intro z0 z1)))));clear hO z Ah Av Ao AM Ab I hy hi hh;go_wp2_with fail;refine wp_region_held_drew (S:=(fun w'=>Ci w' lb 0 s.least/\Cl w' lb 3 (.bool false)/\Ci w' lb 4 s.last.1/\Ct w' lb 5 s.last.2/\Ci w' b (o+j * 2) x.1/\Ct w' b (o+j * 2+1) x.2/\Ci w' b (o+i * 2) y.1/\Ct w' b (o+i * 2+1) y.2)) (by kernel_rfl) (by exact ⟨(A.cell (p:=⟨lb,0,none⟩) D).trans C.1,(A.cell (p:=⟨lb,3,none⟩) D).trans C.2.1,(A.cell (p:=⟨lb,4,none⟩) D).trans C.2.2.1,(A.cell (p:=⟨lb,5,none⟩) D).trans C.2.2.2.1,(A.cell (p:=⟨b,o+j * 2,none⟩) E).trans C.2.2.2.2.1,(A.cell (p:=⟨b,o+j * 2+1,none⟩) E).trans C.2.2.2.2.2,(A.cell (p:=⟨b,o+i * 2,none⟩) E).trans r.1,(A.cell (p:=⟨b,o+i * 2+1,none⟩) E).trans r.2⟩) (fun Q=>?_)
            (iterate 21 refine tq 0 ?_);refine rdy 21 fun K hK=>?_;go_simp;go_at_call 194;refine (Ag.o _).mono ?_;rintro e' Ay ⟨rfl,hb⟩;have V:=Hy (A.trans (hb.mono A.size));clear A;have A:=V;clear V;clear hb
            go_wp2_with fail;refine hK.out _ _ (by exact ⟨(A.cell (p:=⟨lb,0,none⟩) D).trans C.1,(A.cell (p:=⟨lb,3,none⟩) D).trans C.2.1,(A.cell (p:=⟨lb,4,none⟩) D).trans C.2.2.1,(A.cell (p:=⟨lb,5,none⟩) D).trans C.2.2.2.1,(A.cell (p:=⟨b,o+j * 2,none⟩) E).trans C.2.2.2.2.1,(A.cell (p:=⟨b,o+j * 2+1,none⟩) E).trans C.2.2.2.2.2,(A.cell (p:=⟨b,o+i * 2,none⟩) E).trans r.1,(A.cell (p:=⟨b,o+i * 2+1,none⟩) E).trans r.2⟩) (fun Q=>?_);clear hK K;(iterate 3 refine tq 22 ?_)
            (iterate 14 first | refine tq 25 ?_ | refine tr 25 ?_);refine dn ?_;go_wp2_with fail;go_roundw
            case rel=>exact ⟨j+1,by rw [M.o];omega,by go_num,A0.o,Ac.o,L.trans (A.mono L.size)⟩
            case measure=>simp [intOf];omega
           | true=>
            rw [hh] at l3;have AE:kless s.last x=true:=kless_trans (Av hh (by omega)) I;have By:=Hy (fun W=>ritless s.last x W B0.1 Bh.o);rw [AE] at By;have Ac:Hid (s.heard=true->0 < j+1->kless s.last ((l.take (j+1)).getLastD s.last)=true):=fun _ _=>by rw [z];exact AE
            have C:=Hy (And.intro l0 (And.intro l3 (And.intro l4 (And.intro l5 (And.intro z0 z1)))));clear hO z Ah Av Ao AM Ab I hy hi hh AE;go_wp2_with fail;refine wp_region_held_drew (S:=(fun w'=>Ci w' lb 0 s.least/\Cl w' lb 3 (.bool true)/\Ci w' lb 4 s.last.1/\Ct w' lb 5 s.last.2/\Ci w' b (o+j * 2) x.1/\Ct w' b (o+j * 2+1) x.2/\Ci w' b (o+i * 2) y.1/\Ct w' b (o+i * 2+1) y.2)) (by kernel_rfl) (by exact ⟨(A.cell (p:=⟨lb,0,none⟩) D).trans C.1,(A.cell (p:=⟨lb,3,none⟩) D).trans C.2.1,(A.cell (p:=⟨lb,4,none⟩) D).trans C.2.2.1,(A.cell (p:=⟨lb,5,none⟩) D).trans C.2.2.2.1,(A.cell (p:=⟨b,o+j * 2,none⟩) E).trans C.2.2.2.2.1,(A.cell (p:=⟨b,o+j * 2+1,none⟩) E).trans C.2.2.2.2.2,(A.cell (p:=⟨b,o+i * 2,none⟩) E).trans r.1,(A.cell (p:=⟨b,o+i * 2+1,none⟩) E).trans r.2⟩) (fun Q=>?_)
            (iterate 21 refine tq 0 ?_);refine rdy 21 fun K hK=>?_;go_simp;go_at_call 194;refine (Ag.o _).mono ?_;rintro e' Ay ⟨rfl,hb⟩;have V:=Hy (A.trans (hb.mono A.size));clear A;have A:=V;clear V;clear hb
            go_wp2_with fail;refine hK.out _ _ (by exact ⟨(A.cell (p:=⟨lb,0,none⟩) D).trans C.1,(A.cell (p:=⟨lb,3,none⟩) D).trans C.2.1,(A.cell (p:=⟨lb,4,none⟩) D).trans C.2.2.1,(A.cell (p:=⟨lb,5,none⟩) D).trans C.2.2.2.1,(A.cell (p:=⟨b,o+j * 2,none⟩) E).trans C.2.2.2.2.1,(A.cell (p:=⟨b,o+j * 2+1,none⟩) E).trans C.2.2.2.2.2,(A.cell (p:=⟨b,o+i * 2,none⟩) E).trans r.1,(A.cell (p:=⟨b,o+i * 2+1,none⟩) E).trans r.2⟩) (fun Q=>?_);clear hK K;(iterate 3 refine tq 22 ?_)
            (iterate 10 refine tq 25 ?_);refine rdy 35 fun K hK=>?_;go_simp;go_at_call 194;refine (By.o _).mono ?_;rintro e' C5 ⟨rfl,hb⟩;have V:=Hy (A.trans (hb.mono A.size));clear A;have A:=V;clear V;clear hb;go_wp2_with fail;refine hK.out _ _ (by exact ⟨(A.cell (p:=⟨lb,0,none⟩) D).trans C.1,(A.cell (p:=⟨lb,3,none⟩) D).trans C.2.1,(A.cell (p:=⟨lb,4,none⟩) D).trans C.2.2.1,(A.cell (p:=⟨lb,5,none⟩) D).trans C.2.2.2.1,(A.cell (p:=⟨b,o+j * 2,none⟩) E).trans C.2.2.2.2.1,(A.cell (p:=⟨b,o+j * 2+1,none⟩) E).trans C.2.2.2.2.2,(A.cell (p:=⟨b,o+i * 2,none⟩) E).trans r.1,(A.cell (p:=⟨b,o+i * 2+1,none⟩) E).trans r.2⟩) (fun Q=>?_)
            clear hK K;(iterate 3 refine tq 36 ?_);refine dn ?_;go_wp2_with fail;go_roundw
            case rel=>exact ⟨j+1,by rw [M.o];omega,by go_num,A0.o,Ac.o,L.trans (A.mono L.size)⟩
            case measure=>simp [intOf];omega
       ·have Bo:j=m:=by omega
        subst Bo;clear Aj
        obtain rfl:OK=true:=by
         rw [<- HO.o,List.drop_eq_nil_of_le (by rw [M.o];exact Nat.le_refl _)];rfl
        have hP:=Y.o N (by rw [M.o];exact h5) Bj Ak.o;clear HO Ab f Y;have t:=Af.below L.o Aw;have AO:=(HR.below U.o rfl).below L.o rfl;have As:=U.trans (L.mono U.size);have Be:=Hy (show Src prog 2 56 (.slice a j cap) j (l.flatMap KeyL.cells) wr from Src.ofRdE (enc:=KeyL.cells) (size:=2) underlying56 (fun _=>rfl) itemOne AO);have AZ:=Hy t;have AW:=Hy As;have A1:0+j<=maxLen:=by unfold maxLen;omega
        have A2:(0+j) * 24<=140737488355328:=by omega
        have A3:w.heap.size<=wr.heap.size:=As.size;obtain ⟨i,hi⟩:∃ i,j=i+1:=⟨j - 1,by omega⟩;obtain ⟨y,hy⟩:∃ y,l[i]?=some y:=⟨_,le_ (show i < l.length by rw [M.o];omega)⟩
        have Ao:l.getLastD s.last=y:=by
         have h7:=Yy (d:=s.last) hy;rw [<- hi,List.take_of_length_le (by rw [M.o];exact Nat.le_refl _)] at h7;exact h7
        obtain ⟨b,o,rfl,p0,p1,E⟩:=AO.atI hy;obtain ⟨b2,o2,BY,_,_,Ca⟩:=HR.atI hy;cases BY;have C1:lb≠b:=by omega
        have Ce:b≠lb:=by omega
        clear Ca;have BR:=Hy Ao;have HY:=Hy hy;have i1:(0:Int)<=(i:Int):=by omega
        have i2:(i:Int) < (j:Int):=by omega
        have e3:IntKind.i64.wrap ((j:Int) - 1)=(i:Int):=by rw [show ((j:Int) - 1)=(i:Int) from by omega];exact IntWalk.i64_in _ (by omega)
        have e4:decide ((0:Int) < (j:Int))=true:=by simp;omega
        have CE:decide (0 < j)=true:=by simp;omega
        clear Ao hy hi;have Ch:0<=seq:=by rw [<- N];exact AP.1
        have Cj:seq<=1000000:=by rw [<- N];exact AP.2
        have Cf:qs≠lb:=by omega
        have BC:lb≠qs:=by omega
        have Cg:q < w.heap.size:=HX.P.lt;have BD:lb≠q:=by omega
        clear t As;go_wp2_with (at_builtin;refine wa (base:=w.heap.size) Qf underlying56 (World.ownsRow_nil _ _ _ _) Be.o A1 A2 A3 ?_;intro H c2 u Ae hg;rw [Nat.zero_add,List.nil_append] at Ae;have Al:Frm (fun _=>False) wr u:=Frm.grown (S:=fun _=>False) hg (fun g h=>by simp [Value.ownBlock] at h);have F:=AZ.frm Al (fun h=>h);have Ba:=Hy F;have At:=AW.trans (Al.toBelow A3 (fun _ _ h=>h));have AX:=Hy At;have Bc:=Hy Ae;have J:=HX.below At;have BT:=Hy J;have Ap:=ShAt.of_row2 J.G AI.o;have n0:=(F.cell 0).trans (show _=some (.int .i64 s.least) from rfl);have n1:=(F.cell 1).trans (show _=some (.int .i64 seq) from rfl);have n2:=(F.cell 2).trans (show _=some (.bool s.ended) from rfl);have n3:=(F.cell 3).trans (show _=some (.bool s.heard) from rfl);have n4:=(F.cell 4).trans (show _=some (.int .i64 s.last.1) from rfl);have n5:=(F.cell 5).trans (show _=some (.string s.last.2) from rfl);have n6:=(F.cell 6).trans (show _=some (.slice Z.wa Z.wn Z.wc) from rfl);have g1:=F.frozen 1;have g2:=F.frozen 2;have g3:=F.frozen 3;have g4:=F.frozen 4;have g5:=F.frozen 5;have g6:=F.frozen 6;obtain ⟨t0,t1,t2,t3,t4,t5,t6⟩:=Ap.c2;have f0:=J.G.frozen (k * 7);have f1:=J.G.frozen (k * 7+1);have f2:=J.G.frozen (k * 7+2);have f3:=J.G.frozen (k * 7+3);have f4:=J.G.frozen (k * 7+4);have f5:=J.G.frozen (k * 7+5);have f6:=J.G.frozen (k * 7+6);have c0:=J.c3.1;rw [Bz.o] at c0;have Bk:=Al.toBelow (B:=wr.heap.size) (nl _) (fun _ _ h=>h);have q0:=(Bk.cell (p:=⟨b,o+i * 2,none⟩) E).trans p0;have q1:=(Bk.cell (p:=⟨b,o+i * 2+1,none⟩) E).trans p1;clear Bk;clear Ae hg Al F At J Ap)
        go_region
        all_goals
         go_wp2_with fail;go_ret;rw [Int.toNat_natCast] at hP;have Bm:Frm (fun i=>i=lb) u ((((((u.setCell ⟨lb,6,none⟩ (.slice H j c2)).setCell ⟨lb,4,none⟩ (.int .i64 y.1)).setCell ⟨lb,4+1,none⟩ (.string y.2)).setCell ⟨lb,3,none⟩ (.bool true)).setCell ⟨lb,1,none⟩ (.int .i64 (seq+1))).setCell ⟨lb,2,none⟩ (.bool e)):=((((((Frm.refl (fun i=>i=lb) u).setCell _ _ (.inl rfl)).setCell _ _ (.inl rfl)).setCell _ _ (.inl rfl)).setCell _ _ (.inl rfl)).setCell _ _ (.inl rfl)).setCell _ _ (.inl rfl);have Bl:(⟨s.least,seq+1,e,true,y,H,j,c2⟩:MS)=⟨s.least,s.seq+1,e,s.heard||decide (0 < l.length),l.getLastD s.last,H,j,c2⟩:=by rw [BR.o,N,show (s.heard||decide (0 < l.length))=true from by rw [M.o];simp;omega]
         have Bt:Z8 q n S T qs c R sp ta tc w PP (.returned (.bool true)) (put7 ((((((u.setCell ⟨lb,6,none⟩ (.slice H j c2)).setCell ⟨lb,4,none⟩ (.int .i64 y.1)).setCell ⟨lb,4+1,none⟩ (.string y.2)).setCell ⟨lb,3,none⟩ (.bool true)).setCell ⟨lb,1,none⟩ (.int .i64 (seq+1))).setCell ⟨lb,2,none⟩ (.bool e)) qs (k * 7) ⟨s.least,seq+1,e,true,y,H,j,c2⟩).drew:=
          QaR (u:=u) (W0:=(((((u.setCell ⟨lb,6,none⟩ (.slice H j c2)).setCell ⟨lb,4,none⟩ (.int .i64 y.1)).setCell ⟨lb,4+1,none⟩ (.string y.2)).setCell ⟨lb,3,none⟩ (.bool true)).setCell ⟨lb,1,none⟩ (.int .i64 (seq+1))).setCell ⟨lb,2,none⟩ (.bool e)) (W':=(put7 ((((((u.setCell ⟨lb,6,none⟩ (.slice H j c2)).setCell ⟨lb,4,none⟩ (.int .i64 y.1)).setCell ⟨lb,4+1,none⟩ (.string y.2)).setCell ⟨lb,3,none⟩ (.bool true)).setCell ⟨lb,1,none⟩ (.int .i64 (seq+1))).setCell ⟨lb,2,none⟩ (.bool e)) qs (k * 7) ⟨s.least,seq+1,e,true,y,H,j,c2⟩).drew) HX.o Bd.o AI.o Bx.o An Ba.o AX.o Bc.o M.o (by omega) HZ.o Bm (Frm.put7 ((((((u.setCell ⟨lb,6,none⟩ (.slice H j c2)).setCell ⟨lb,4,none⟩ (.int .i64 y.1)).setCell ⟨lb,4+1,none⟩ (.string y.2)).setCell ⟨lb,3,none⟩ (.bool true)).setCell ⟨lb,1,none⟩ (.int .i64 (seq+1))).setCell ⟨lb,2,none⟩ (.bool e)) qs (k * 7) ⟨s.least,seq+1,e,true,y,H,j,c2⟩).drew Bl (fun h=>(Blk.put7 h (k * 7) ⟨s.least,seq+1,e,true,y,H,j,c2⟩).drew1) hP
         exact Bt
   ·have d1:(s.seq != seq)=true:=by simp [N]
    have HE:=Hy (f.o (.inl N));clear f Y N;go_wp2_with fail;go_ret;exact HE.o _ HB.o
end Go.Proofs.YtinkbgeckjbnbaaGreat
