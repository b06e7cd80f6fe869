/- Lemmas (part 14). -/
import Derived.Test.YtinkbgeckjbnbaaGreatZw13
namespace Go.Proofs.YtinkbgeckjbnbaaGreat
open Go.RowKit Go.Proofs.Tryz
set_option autoImplicit true
set_option relaxedAutoImplicit true
set_option linter.unusedVariables false
set_option linter.unusedSimpArgs false
set_option maxRecDepth 100000
set_option maxHeartbeats 32000000
def Qa4 (q:Nat) (n:Int) (qs c:Nat) (sp:List Value) (ta0:Option Addr) (R0:List MS) (w:World) (Res:List KeyL×List PS×List KeyL) (e:Ending) (w':World):Prop:=∃ (ao:Option Addr) (c':Nat),e=.returned (.slice ao Res.1.length c')/\w'.ownsRow w.heap.size 46 2 (.slice ao Res.1.length c') Res.1.length (Res.1.flatMap KeyL.cells)∧
 (∃ (R:List MS) (ta:Option Addr) (tc:Nat),RMx w' q n Res.2.1 Res.2.2 qs c R sp ta tc/\∀ k,Xb ta R k->Xb ta0 R0 k∨w.heap.size<=k)/\Frm (fun i=>i=q∨i=qs) w w'
theorem Zap {out:List KeyL} {w:World} {ao:Option Addr} {lc:Nat} {Res:List KeyL×List PS×List KeyL} (hx:RMx wr q n S T qs c R sp ta tc) (ho:wr.ownsRow w.heap.size 46 2 (.slice ao out.length lc) out.length (out.flatMap KeyL.cells))
  (hi:∀ k,Xb ta R k->Xb ta0 R0 k∨w.heap.size<=k) (hf:Frm (fun i=>i=q∨i=qs) w wr) (hR:(out,S,T)=Res) (hb:Below wr.heap.size wr w'):Qa4 q n qs c sp ta0 R0 w Res (.returned (.slice ao out.length lc)) w':=by
 subst hR;exact ⟨ao,lc,rfl,za (S:=fun _=>False) ho (Frm.below hb) (fun _ _ h=>h.elim),⟨R,ta,tc,hx.below hb,hi⟩,hf.trans (Frm.below (S:=fun i=>i=q∨i=qs) hb) (fun i h _=>h)⟩
def RtlR (q:Nat) (n:Int) (qs c:Nat) (sp:List Value) (ta0:Option Addr) (R0:List MS) (w:World) (Res:List KeyL×List PS×List KeyL) (v3:Value) (wr:World):Prop:=∃ (S:List PS) (T out:List KeyL) (R:List MS) (ta:Option Addr) (tc:Nat) (ao:Option Addr) (lc:Nat),
 v3=.slice ao out.length lc/\Hid (RMx wr q n S T qs c R sp ta tc)/\Hid (wr.ownsRow w.heap.size 46 2 (.slice ao out.length lc) out.length (out.flatMap KeyL.cells))/\Hid (∀ k,Xb ta R k->(Value.slice ao out.length lc).ownBlock≠some k)/\Hid (∀ k,Xb ta R k->Xb ta0 R0 k∨w.heap.size<=k)/\Hid (∀ k,Xb ta R k->k≠qs/\k≠q)∧
 Hid (Frm (fun i=>i=q∨i=qs) w wr)/\Hid ((T.length:Int)<=n)/\Hid (tellA n (n.toNat - T.length) S T out=Res)/\Hid (out.length<=T.length)
def rtM (v:Value):Nat:=match v with | .slice _ n _=>10 - n | _=>0
theorem YaF (q:Nat) (n:Int) (S:List PS) (T:List KeyL) (w:World) (qs c:Nat) (R0:List MS) (sp:List Value) (Ac:Option Addr) (tc:Nat) (hX:RMx w q n S T qs c R0 sp Ac tc) (hT:(T.length:Int)<=n) (C0:∀ k,Xb Ac R0 k->k≠qs/\k≠q):
  Calls prog 182 #[.pointer (some ⟨q,0,none⟩)] w (Qa4 q n qs c sp Ac R0 w (tellP n S T)):=by
 obtain ⟨i0,hi,CE,CF,CG⟩:=info_parts Qf;have HI:=Hy hi;have Dj:=Hy CE;have Dk:=Hy CF;have Dl:=Hy CG;clear hi CE CF CG;have ⟨Ce,hR⟩:=gn (tellP n S T);rw [hR];unfold tellP at hR;have Ed:=hX.P.lt;have DO:=hX.G.lt;have H0:Hid (RtlR q n qs c sp Ac R0 w Ce (.slice none 0 0) w):=⟨S,T,[],R0,Ac,tc,none,0,rfl,hX,World.ownsRow_nil _ _ _ _,fun k _=>by simp [Value.ownBlock],fun k h=>.inl h,C0,Frm.refl _ _,hT,hR,nz _⟩;clear hX hR hT C0;go_in;go_wp2_with fail;go_loopw [3] (fun v3 wr=>RtlR q n qs c sp Ac R0 w Ce v3 wr) (fun v _=>rtM v)
 case atStart=>exact H0.o
 case round=>
  clear H0;obtain ⟨S',T',F,R',Ab,Bl,ao,lc,rfl,HX,HO,HA,r,At,HF,HT,HR,HL⟩:=hrel;have HD:=Hy (zI q n S' T' wr qs c R' sp Ab Bl HX.o HT.o);cases hd:doneP n S' T' with
  | true=>
   rw [hd] at HD;have HE:=Hy (fun W N=>Zap (w':=W) HX.o HO.o r.o HF.o ((Zk (QX hd) _ _).symm.trans HR.o) N);clear hd HX HO HA r At HF HT HR HL;go_wp2_with fail;refine HD.mono ?_;rintro e w1 ⟨rfl,N⟩;have U:=Hy (N.below wr.heap.size);clear N HD;go_wp2_with fail;go_ret;exact HE.o _ U.o
  | false=>
   rw [hd] at HD;have Aw:=zad hd HT.o;have AW:=Hy hd;have AA:=Hy Aw;clear hd Aw HT;go_wp2_with fail;refine HD.mono ?_;rintro e w1 ⟨rfl,N⟩;have BD:=N.below wr.heap.size;have Af:=Hy (HX.below BD);have U:=Hy BD;clear N HD BD;have ⟨sl,BH⟩:=gn S'.length;have Ae:=Hy BH;have Ec:=Af.P.lt;have DN:=Af.G.lt;have Ds:=Af.bd;rw [BH] at Ds;clear BH;go_wp2_with fail;go_loopw [4,5] (fun v4 v5 w2=>∃ i:Nat,i<=sl/\v5=.int .i64 i/\v4=.int .i64 (bestI (aheadP S' i))/\Hid (Below w1.heap.size w1 w2)) (fun _ v _=>sl - (intOf v).toNat)
   case atStart=>exact ⟨0,nz _,rfl,rfl,bf _ _⟩
   case round=>
    obtain ⟨i,hi,rfl,rfl,K⟩:=hrel;have D:=Af.below K.o;have c0:=D.c3.1;rw [Ae.o] at c0;have j1:(0:Int)<=(i:Int):=by omega
    by_cases Aw:i < sl
    ·skip
     have j2:(i:Int) < (sl:Int):=by omega
     obtain ⟨m,s,hm,hs,J,M⟩:=D.at (show i < S'.length by rw [Ae.o];exact Aw);have y6:=M.c2.2.2.2.2.2.2;have Aa:=J.wlen
     by_cases hw:m.wn=0
     ·have hA:aheadP S' (i+1)=aheadP S' i:=X8 hs (by rw [<- Aa];exact hw)
      rw [hw] at y6;have l:=Hy hA;clear hA hm hs J M Aa hw D;generalize Cs:bestI (aheadP S' i)=bv;have CZ:=Hy Cs;clear Cs;go_wp2_with fail;go_quiet (fail);go_wp2_with fail;go_roundw
      case rel=>exact ⟨i+1,by omega,by go_num,by rw [l.o,CZ.o],below_drewN K.o _⟩
      case measure=>simp [intOf];omega
     ·have Bj:0 < s.waits.length:=by rw [<- Aa];omega
      obtain ⟨wb,f,AR,p0,p1⟩:=J.head Bj;obtain ⟨E,AN⟩:∃ k,m.wn=k+1:=⟨m.wn - 1,by omega⟩;rw [AR,AN] at y6;have d1:decide ((0:Int) < ((E+1:Nat):Int))=true:=by rw [decide_eq_true_eq];omega
      have CC:(0:Int) < ((E+1:Nat):Int):=by omega
      have CD:(0:Int) < (E:Int)+1:=by omega
      have Ak:=(D.sz s (lm hs)).2 (headP s) (lm (qE Bj));have Cc:=Hy Ak;have ⟨x,hx⟩:=gn (headP s);rw [hx] at p0 p1 Cc;have Be:=Hy hx;have Bg:=D.P.lt;have Z:=D.G.lt;have Ap:=cell?_lt p0;cases ha:aheadP S' i with
      | none=>
       have hA:aheadP S' (i+1)=some i:=Q9 hs Bj ha;have l:=Hy hA;clear hA hm hs J M Aa hw D hx ha Ak;rw [show bestI none= -1 from rfl];go_wp2_with fail;go_quiet (fail);go_wp2_with fail;go_roundw
       case rel=>exact ⟨i+1,by omega,by go_num,by rw [l.o];rfl,below_drewN K.o _⟩
       case measure=>simp [intOf];omega
      | some b=>
       obtain ⟨Cr,t,ht,C7⟩:=yo ha;have AM:b < S'.length:=(lg ht).1;obtain ⟨mb,t',Dw,C6,AQ,Bw⟩:=D.at AM;rw [ht] at C6;cases C6;obtain ⟨vb,vo,C9,v0,v1⟩:=AQ.head C7;have z6:=Bw.c2.2.2.2.2.2.2;obtain ⟨kb,Dv⟩:∃ k,mb.wn=k+1:=⟨mb.wn - 1,by have:=AQ.wlen;omega⟩;rw [C9,Dv] at z6;have Ee:(0:Int) < ((kb+1:Nat):Int):=by omega
       have DQ:(0:Int) < (kb:Int)+1:=by omega
       have B3:=(D.sz t (lm ht)).2 (headP t) (lm (qE C7));have AD:=Hy B3;have ⟨y,hy⟩:=gn (headP t);rw [hy] at v0 v1 AD;have Ao:=cell?_lt v0;have hA:aheadP S' (i+1)=if kless x y=true then some i else some b:=by rw [<- hx,<- hy];exact Z9 hs Bj ha ht
       have b1:(0:Int)<=(b:Int):=by omega
       have b2:(b:Int) < (sl:Int):=by have:=Ae.o;omega
       have b3:decide ((b:Int) < 0)=false:=by simp
       have AZ:=Hy (fun W=>ritless x y W Cc.o AD.o);have C:Hid (Below wr.heap.size wr wr.drew):=below_drewN (bf _ _) 1;have H:=Hy (And.intro c0 (And.intro y6 (And.intro p0 (And.intro p1 (And.intro z6 (And.intro v0 v1))))));have l:=Hy hA;clear hA hm hs J M Aa hw D hx ha Ak ht Dw AQ Bw C9 hy B3 AM;rw [show bestI (some b)=(b:Int) from rfl];cases z:kless x y with
       | true=>
        rw [z] at AZ l;clear z;go_wp2_with fail;go_region_held3 (fun w'=>w'.cell? ⟨q,0,none⟩=some (.slice (some ⟨qs,0,none⟩) sl c)/\w'.cell? ⟨qs,i * 7+6,none⟩=some (.slice (some ⟨wb,f,none⟩) (E+1:Nat) m.wc)/\w'.cell? ⟨wb,f,none⟩=some (.int .i64 x.1)/\w'.cell? ⟨wb,f+1,none⟩=some (.string x.2)/\w'.cell? ⟨qs,b * 7+6,none⟩=some (.slice (some ⟨vb,vo,none⟩) (kb+1:Nat) mb.wc)/\w'.cell? ⟨vb,vo,none⟩=some (.int .i64 y.1)/\w'.cell? ⟨vb,vo+1,none⟩=some (.string y.2)) (exact ⟨(C.cell (p:=⟨q,0,none⟩) Bg).trans H.1,(C.cell (p:=⟨qs,i * 7+6,none⟩) Z).trans H.2.1,(C.cell (p:=⟨wb,f,none⟩) Ap).trans H.2.2.1,(C.cell (p:=⟨wb,f+1,none⟩) Ap).trans H.2.2.2.1,(C.cell (p:=⟨qs,b * 7+6,none⟩) Z).trans H.2.2.2.2.1,(C.cell (p:=⟨vb,vo,none⟩) Ao).trans H.2.2.2.2.2.1,(C.cell (p:=⟨vb,vo+1,none⟩) Ao).trans H.2.2.2.2.2.2⟩) (first | (go_at_call 194;refine (AZ.o _).mono ?_;rintro e u ⟨rfl,N⟩;have AE:=Hy (C.trans (N.mono C.size));clear C;have C:=AE;clear AE;clear N))
        all_goals
         go_wp2_with fail;go_roundw
         case rel=>exact ⟨i+1,by omega,by go_num,by rw [l.o];rfl,K.trans (C.mono K.size)⟩
         case measure=>simp [intOf];omega
       | false=>
        rw [z] at AZ l;clear z;go_wp2_with fail;go_region_held3 (fun w'=>w'.cell? ⟨q,0,none⟩=some (.slice (some ⟨qs,0,none⟩) sl c)/\w'.cell? ⟨qs,i * 7+6,none⟩=some (.slice (some ⟨wb,f,none⟩) (E+1:Nat) m.wc)/\w'.cell? ⟨wb,f,none⟩=some (.int .i64 x.1)/\w'.cell? ⟨wb,f+1,none⟩=some (.string x.2)/\w'.cell? ⟨qs,b * 7+6,none⟩=some (.slice (some ⟨vb,vo,none⟩) (kb+1:Nat) mb.wc)/\w'.cell? ⟨vb,vo,none⟩=some (.int .i64 y.1)/\w'.cell? ⟨vb,vo+1,none⟩=some (.string y.2)) (exact ⟨(C.cell (p:=⟨q,0,none⟩) Bg).trans H.1,(C.cell (p:=⟨qs,i * 7+6,none⟩) Z).trans H.2.1,(C.cell (p:=⟨wb,f,none⟩) Ap).trans H.2.2.1,(C.cell (p:=⟨wb,f+1,none⟩) Ap).trans H.2.2.2.1,(C.cell (p:=⟨qs,b * 7+6,none⟩) Z).trans H.2.2.2.2.1,(C.cell (p:=⟨vb,vo,none⟩) Ao).trans H.2.2.2.2.2.1,(C.cell (p:=⟨vb,vo+1,none⟩) Ao).trans H.2.2.2.2.2.2⟩) (first | (go_at_call 194;refine (AZ.o _).mono ?_;rintro e u ⟨rfl,N⟩;have AE:=Hy (C.trans (N.mono C.size));clear C;have C:=AE;clear AE;clear N))
        all_goals
         go_wp2_with fail;go_roundw
         case rel=>exact ⟨i+1,by omega,by go_num,by rw [l.o];rfl,K.trans (C.mono K.size)⟩
         case measure=>simp [intOf];omega
    ·have Du:i=sl:=by omega
     subst Du;clear Aw;cases ha:aheadP S' i with
     | none=>
      have AK:aheadP S' S'.length=none:=by rw [Ae.o];exact ha
      have HE:=Hy (fun W N=>Zap (w':=W) HX.o HO.o r.o HF.o ((Zk (ZX AK) _ _).symm.trans HR.o) N);have a:=Hy (U.trans (K.mono U.size));clear ha AK HX HO HA r At HF HR HL D AW AA Af U K;rw [show bestI none= -1 from rfl];go_wp2_with fail;go_ret;exact HE.o _ a.o
     | some b=>
      have AK:aheadP S' S'.length=some b:=by rw [Ae.o];exact ha
      obtain ⟨Cr,s,hs,Bh⟩:=yo ha;have AM:b < S'.length:=(lg hs).1;obtain ⟨m,s',hm,C2,J,M⟩:=D.at AM;rw [hs] at C2;cases C2;obtain ⟨wb,f,AR,p0,p1⟩:=J.head Bh;have y6:=M.c2.2.2.2.2.2.2;obtain ⟨E,AN⟩:∃ k,m.wn=k+1:=⟨m.wn - 1,by have:=J.wlen;omega⟩;rw [AR,AN] at y6;have Ak:=(D.sz s (lm hs)).2 (headP s) (lm (qE Bh));have ⟨x,hx⟩:=gn (headP s);have CC:(0:Int) < ((E+1:Nat):Int):=by omega
      have CD:(0:Int) < (E:Int)+1:=by omega
      have b1:(0:Int)<=(b:Int):=by omega
      have b2:(b:Int) < (i:Int):=by omega
      have b3:decide ((b:Int) < 0)=false:=by simp
      rw [hx] at p0 p1 Ak;have Au:=Hy (ZaF q n S' T' x wr qs c R' sp Ab Bl D Ak);have Be:=Hy hx;have BQ:=Hy AK;have HS:=Hy hs;have HM:=Hy hm;have Cd:=Hy AR;have B7:=Hy AN;have DW:=Hy Bh;have B8:=Hy D;clear ha AK hs AM hm J M AR AN Ak hx Bh D Cr;rw [show bestI (some b)=(b:Int) from rfl];cases Av:S'.any (fun t=>t.might x) with
      | true=>
       rw [Av] at Au;have HE:=Hy (fun W N=>Zap (w':=W) HX.o HO.o r.o HF.o ((Zk (QR BQ.o HS.o (by rw [Be.o];exact Av)) _ _).symm.trans HR.o) N);have a:=Hy (U.trans (K.mono U.size));clear Av HX HO HA r At HF HR HL AW AA Af U K;go_wp2_with fail;refine Au.mono ?_;rintro e u ⟨rfl,N⟩;have CY:=Hy (a.trans (N.mono a.size));clear N a Au;go_wp2_with fail;go_ret;exact HE.o _ CY.o
      | false=>
       rw [Av] at Au;have Aj:=YX AW.o BQ.o HS.o (by rw [Be.o];exact Av);rw [Be.o] at Aj;have C1:=(Zah Aj AA.o F).symm.trans HR.o;have Dg:=Hy C1;have a:=Hy (U.trans (K.mono U.size));clear Av Aj C1 HR AW Af U K;go_wp2_with fail;refine Au.mono ?_;rintro e u ⟨rfl,N⟩;have BF:=a.trans (N.mono a.size);have BE:=BF.alloc BF.size (.cells #[x.1,x.2] 46);have Cu:Blk (u.alloc (.cells #[x.1,x.2] 46)) u.heap.size 46 [x.1,x.2]:=hn_ u _
       have A8:=Hy BE;have B6:=Hy Cu;have d:=HX.below BE;have Ag:=Hy d;have DF:=(N.cell (p:=⟨qs,b * 7+6,none⟩) B8.G.lt).trans y6;have D4:=(N.cell (p:=⟨wb,f,none⟩) (cell?_lt p0)).trans p0;have D5:=(N.cell (p:=⟨wb,f+1,none⟩) (cell?_lt p1)).trans p1;have Cf:=((B8.below N).c3).1;rw [Ae.o] at Cf;clear N BF BE Cu Au a B8 y6 p0 p1 c0 d;go_wp2_with fail;generalize u.alloc (.cells #[x.1,x.2] 46)=u1 at *;generalize u.heap.size=xb at *;have d:=Ag.o;obtain ⟨m2,s2,Cy,C3,J,M⟩:=d.at (show b < S'.length from (lg HS.o).1)
       rw [HM.o] at Cy;cases Cy;rw [HS.o] at C3;cases C3;have t6:=M.c2.2.2.2.2.2.2;rw [Cd.o,B7.o] at t6;have q0:=d.c3.1;rw [Ae.o] at q0;have AP:=J.waits;rw [Cd.o,B7.o] at AP;have Ef:E+1<=m.wc:=AP.2.1;have Dz:m.wc<=maxLen:=AP.2.2.1;unfold maxLen at Dz
       obtain ⟨o',Cz,Dt⟩:∃ o',(1 < E+1->o'=f+1 * 2)/\(if m.wc=1 then some (⟨wb,f,none⟩:Addr) else some ⟨wb,f+2,none⟩)=some ⟨wb,o',none⟩:=by
        by_cases h:m.wc=1
        ·exact ⟨f,fun h'=>by omega,by rw [if_pos h]⟩
        ·exact ⟨f+2,fun _=>rfl,by rw [if_neg h]⟩
       have BG:=AP.drop 1 (by omega) o' Cz;rw [show E+1 - 1=E from rfl] at BG;have Aa:=J.wlen;have Dx:=J.small;have Cx:E=s.waits.length - 1:=by rw [<- Aa,B7.o];rfl
       have Ea:E<=5:=by omega
       have Cb:Hid (Src prog 2 56 (.slice (some ⟨wb,o',none⟩) E (m.wc - 1)) E ((s.waits.drop 1).flatMap KeyL.cells) u1.drew):=Src.ofRdE (enc:=KeyL.cells) (size:=2) underlying56 (fun _=>rfl) itemOne (BG.below (below_drewN (bf _ _) 1) rfl);have A1:0+E<=maxLen:=by unfold maxLen;omega
       have A2:(0+E) * 24<=140737488355328:=by omega
       have DP:w.heap.size<=u1.heap.size:=nr HF.size A8.size;have Db:=Hy Cx;have Z:=d.G.lt;have Bg:=d.P.lt;have k5:(0:Int)<=1:=by decide
       have k6:(1:Int)<=(E:Int)+1:=by omega
       have fq:=d.G.frozen (b * 7+6);clear d J M AP BG Aa Dx Cx Cz DF D4 D5 Cf;go_region_law (first | (refine sa (base:=u1.heap.size) Qf underlying56 (World.ownsRow_nil _ _ _ _) Cb.o A1 A2 (nl _) ?_;intro I c2 u2 A hg;rw [Nat.zero_add,List.nil_append] at A;have R:Frm (fun _=>False) u1 u2:=(Frm.refl (fun _=>False) u1).drew.trans (Frm.grown (S:=fun _=>False) hg (fun g h=>by simp [Value.ownBlock] at h)) (fun _ h _=>h);have Q:=R.toBelow (B:=u1.heap.size) (nl _) (fun _ _ h=>h);have D7:=(Q.cell (p:=⟨q,0,none⟩) Bg).trans q0;have DA:=(Q.cell (p:=⟨qs,b * 7+6,none⟩) Z).trans t6;have Dp:=(Ag.keep R (fun _ h=>h.elim)).G.frozen (b * 7+6);have AY:=Hy R;have BX:=Hy A;clear A hg R Q))
       all_goals
        have BI:=qa2 Ag.o (fun k h=>(At.o k h).1) HM.o HS.o AY.o BX.o Db.o;have Cm:=BI.1;have Bf:=BI.2
        have B1:∀ k,Xb Ab (R'.set b (m.wait I E c2)) k->k≠qs/\k≠q:=fun k h=>by
         rcases Bf k h with h | h
         ·exact At.o k h
         ·have h1:=Ag.P.lt;have h2:=Ag.G.lt;exact ⟨by omega,by omega⟩
        have BB:Frm (fun i=>i=qs) u1 (u2.setCell ⟨qs,b * 7+6,none⟩ (.slice I E c2)):=(Frm.mono (S':=fun i=>i=qs) AY.o (fun _ h _=>h.elim)).setCell _ _ (.inl rfl);have Bx:=(B6.frm AY.o (fun h=>h)).far ⟨qs,b * 7+6,none⟩ (.slice I E c2) (Qe B6.o Ag.G (by decide));have Cj:=za (za HO.o (Frm.below (S:=fun i=>i=qs) A8.o) (fun j hj e=>Qb HO.o HX.G (by decide) j hj e)) BB (fun j hj e=>Qb HO.o HX.G (by decide) j hj e)
        have Bu:∀ k,Xb Ab (R'.set b (m.wait I E c2)) k->(Value.slice ao F.length lc).ownBlock≠some k:=fun k h e=>by
         rcases Bf k h with h | h
         ·exact HA.o k h e
         ·have h1:=(HO.lt k e).2;have h2:=A8.size;omega
        have Bz:∀ k,Xb Ab (R'.set b (m.wait I E c2)) k->Xb Ac R0 k∨w.heap.size<=k:=fun k h=>by
         rcases Bf k h with h | h
         ·exact r.o k h
         ·exact .inr (by omega)
        have AH:=(HF.trans (Frm.below (S:=fun i=>i=q∨i=qs) A8.o) (fun i h _=>h)).trans BB (fun i h _=>.inr h);have L:=Hy Cm;have AC:=Hy B1;have Y:=Hy Bx;have Ba:=Hy Cj;have Bn:=Hy Bu;have Br:=Hy Bz;have Bq:=Hy AH;have Dy:w.heap.size<=(u2.setCell ⟨qs,b * 7+6,none⟩ (.slice I E c2)).heap.size:=AH.size;clear BI Cm Bf B1 BB Bx Cj Bu Bz AH q0 D7 t6 DA fq Dp AY BX Ag B6 HO HA r At HF HX A8 Cb Dt A1 A2;generalize u2.setCell ⟨qs,b * 7+6,none⟩ (.slice I E c2)=u3 at *;have ⟨tl,Ay⟩:=gn T'.length
        have Dh:=Hy Ay;have q2:=L.c3.2.2;rw [Ay] at q2;have C8:tl+1<=10:=by have:=AA.o;have:=L.bd;omega
        have Bi:=L.told;rw [Ay] at Bi;have x0:=(Y.cell 0).trans (show _=some (.int .i64 x.1) from rfl);have x1:=(Y.cell 1).trans (show _=some (.string x.2) from rfl);have Dq:=L.P.frozen 2;have AO:=L.P.lt;have Aq:=Y.lt;have Cq:Below u3.heap.size u3 u3.drew:=below_drewN (bf _ _) 1;have AL:Below u3.heap.size u3 (u3.alloc (.cells #[x.1,x.2] 46)).drew:=below_drewN ((bf _ _).alloc (nl _) _) 1;have Ca:Hid (Src prog 2 56 (.slice Ab tl Bl) tl (T'.flatMap KeyL.cells) u3.drew):=Src.ofRdE (enc:=KeyL.cells) (size:=2) underlying56 (fun _=>rfl) itemOne (Bi.below Cq rfl)
        have AD:Hid (Src prog 2 56 (.slice Ab tl Bl) tl (T'.flatMap KeyL.cells) (u3.alloc (.cells #[x.1,x.2] 46)).drew):=Src.ofRdE (enc:=KeyL.cells) (size:=2) underlying56 (fun _=>rfl) itemOne (Bi.below AL rfl);have BW:Hid (Blk (u3.alloc (.cells #[x.1,x.2] 46)).drew u3.heap.size 46 [x.1,x.2]):=hn_ u3 _;have D8:=(AL.cell (p:=⟨q,2,none⟩) AO).trans q2;have CX:=Hy AL;have A3:u3.heap.size<=(u3.alloc (.cells #[x.1,x.2] 46)).drew.heap.size:=AL.size;have A4:0+tl<=maxLen:=by unfold maxLen;omega
        have A5:(0+tl) * 24<=140737488355328:=by omega
        have A6:tl+1<=maxLen:=by unfold maxLen;omega
        have A7:(tl+1) * 24<=140737488355328:=by omega
        clear Bi Ay Cq AL;go_wp2_with fail;go_region_law (first | (refine sa (base:=u3.heap.size) Qf underlying56 (World.ownsRow_nil _ _ _ _) Ca.o A4 A5 (nl _) ?_;intro BA c1 v1 A hg;rw [Nat.zero_add,List.nil_append] at A;have Ah:Frm (fun _=>False) u3 v1:=((Frm.refl (fun _=>False) u3).drew).trans (Frm.grown (S:=fun _=>False) hg (fun g h=>by simp [Value.ownBlock] at h)) (fun _ h _=>h);have Q:=Ah.toBelow (B:=u3.heap.size) (nl _) (fun _ _ h=>h);have CH:=(Q.cell (p:=⟨q,2,none⟩) AO).trans q2;have CI:=(Q.cell (p:=⟨xb,0,none⟩) Aq).trans x0;have CJ:=(Q.cell (p:=⟨xb,1,none⟩) Aq).trans x1;have Ar:=Hy Ah;have As:=Hy A;clear A hg Ah Q) | (refine sa (base:=u3.heap.size) Qf underlying56 (World.ownsRow_nil _ _ _ _) AD.o A4 A5 A3 ?_;intro BA c1 v1 A hg;rw [Nat.zero_add,List.nil_append] at A;have Ah:Frm (fun _=>False) u3 v1:=(((Frm.refl (fun _=>False) u3).alloc _).drew).trans (Frm.grown (S:=fun _=>False) hg (fun g h=>by simp [Value.ownBlock] at h)) (fun _ h _=>h);have Q:=Ah.toBelow (B:=u3.heap.size) (nl _) (fun _ _ h=>h);have CH:=(Q.cell (p:=⟨q,2,none⟩) AO).trans q2;have CI:=(Q.cell (p:=⟨xb,0,none⟩) Aq).trans x0;have CJ:=(Q.cell (p:=⟨xb,1,none⟩) Aq).trans x1;have Ar:=Hy Ah;have As:=Hy A;have Dd:=Hy (BW.frm (Frm.grown (S:=fun _=>False) hg (fun g h=>by simp [Value.ownBlock] at h)) (fun h=>h));clear A hg Ah Q) | (refine sa Qf underlying56 (As.alloc _) (Src.two underlying56 v1 _ _ 46 rfl rfl) A6 A7 (nr Ar.size (World.alloc_size_le _ _)) ?_;intro V c3 v2 A hg;have R:Frm (fun _=>False) u3 v2:=(Ar.trans ((Frm.refl (fun _=>False) v1).alloc _) (fun _ h _=>h)).trans (Frm.grown (S:=fun i=>(Value.slice BA tl c1).ownBlock=some i) hg (fun _ h=>h)) (fun i h hi=>by have:=Xa As.o i h;omega);have Al:=L.keep R (fun _ h=>h.elim);have B5:=Al.c3.2.2;have AG:=Al.P.frozen 2;have A9:=Hy R;have Bb:=Hy A;clear A hg R Al) | (refine sa Qf underlying56 As.o (Src.ofSlice _ underlying56 ⟨u3.heap.size,0,none⟩ 1 1 [x.1,x.2] rfl (World.news_of_block Dd.o) (itemOne x)) A6 A7 Ar.size ?_;intro V c3 v2 A hg;have R:Frm (fun _=>False) u3 v2:=(Ar.trans (Frm.refl (fun _=>False) v1) (fun _ h _=>h)).trans (Frm.grown (S:=fun i=>(Value.slice BA tl c1).ownBlock=some i) hg (fun _ h=>h)) (fun i h hi=>by have:=Xa As.o i h;omega);have Al:=L.keep R (fun _ h=>h.elim);have B5:=Al.c3.2.2;have AG:=Al.P.frozen 2;have A9:=Hy R;have Bb:=Hy A;clear A hg R Al))
        all_goals
         have Ay:=Dh.o;subst Ay;have Cn:=Xa1 L.o (fun k h=>(AC.o k h).2) (x:=x) C8 A9.o Bb.o
         have An:∀ k,Xb V (R'.set b (m.wait I E c2)) k->Xb Ab (R'.set b (m.wait I E c2)) k∨u3.heap.size<=k:=fun k h=>by
          rcases h with ⟨o,s',e'⟩ | h
          ·have h7:=Bb.o
           rw [e'] at h7;exact .inr (ql h7).1
          ·exact .inl (Or.inr h)
         have BC:Frm (fun i=>i=q) u3 (v2.setCell ⟨q,2,none⟩ (.slice V (T'.length+1) c3)):=(Frm.mono (S':=fun i=>i=q) A9.o (fun _ h _=>h.elim)).setCell _ _ (.inl rfl);have By:=(Y.frm A9.o (fun h=>h)).far ⟨q,2,none⟩ (.slice V (T'.length+1) c3) (Qe Y.o L.P (by decide));have Ck:=za Ba.o BC (fun j hj e=>Qb Ba.o L.P (by decide) j hj e)
         have Bv:∀ k,Xb V (R'.set b (m.wait I E c2)) k->(Value.slice ao F.length lc).ownBlock≠some k:=fun k h e=>by
          rcases An k h with h | h
          ·exact Bn.o k h e
          ·have h1:=(Ba.lt k e).2;omega
         have B0:∀ k,Xb V (R'.set b (m.wait I E c2)) k->Xb Ac R0 k∨w.heap.size<=k:=fun k h=>by
          rcases An k h with h | h
          ·exact Br.o k h
          ·exact .inr (by omega)
         have B2:∀ k,Xb V (R'.set b (m.wait I E c2)) k->k≠qs/\k≠q:=fun k h=>by
          rcases An k h with h | h
          ·exact AC.o k h
          ·have h1:=L.P.lt;have h2:=L.G.lt;exact ⟨by omega,by omega⟩
         have AI:=Bq.trans BC (fun i h _=>.inl h);have Bd:=Hy Cn;have Bp:=Hy By;have Bc:=Hy Ck;have Bo:=Hy Bv;have BV:=Hy B0;have BY:=Hy B2;have BT:=Hy AI;have C4:w.heap.size<=(v2.setCell ⟨q,2,none⟩ (.slice V (T'.length+1) c3)).heap.size:=AI.size;have Eb:=HL.o;clear Cn An BC By Ck Bv B0 B2 AI L AC Y Ba Bn Br Bq A9 Bb Ar As q2 CH B5 Dq AG x0 x1 CI CJ D8 Ca AD BW CX A3 A4 A5 A6 A7;generalize v2.setCell ⟨q,2,none⟩ (.slice V (T'.length+1) c3)=u6 at *;have y0:=(Bp.cell 0).trans (show _=some (.int .i64 x.1) from rfl)
         have y1:=(Bp.cell 1).trans (show _=some (.string x.2) from rfl);have De:Hid ((u6.alloc (.cells #[x.1,x.2] 46)).ownsRow w.heap.size 46 2 (.slice ao F.length lc) F.length (F.flatMap KeyL.cells)):=Bc.alloc _;have Dc:Hid (∀ j u,([x.1,x.2]:List Value)[j]?=some u->(u6.alloc (.cells #[x.1,x.2] 46)).cell? ((⟨u6.heap.size,0,none⟩:Addr).add j)=some u):=World.news_of_block (hn_ u6 _);have D1:F.length+1<=maxLen:=by unfold maxLen;omega
         have D2:(F.length+1) * 24<=140737488355328:=by omega
         have D3:w.heap.size<=(u6.alloc (.cells #[x.1,x.2] 46)).heap.size:=nr C4 (World.alloc_size_le _ _);go_wp2_with (at_builtin;refine wpList_append_lies _ rfl _ _ 56 rfl w.heap.size 46 i0 (.agg #[(),.string ⟨#[]⟩]) 2 24 underlying56 HI.o Dj.o Dk.o Dl.o rfl (by decide) (.slice ao F.length lc) F.length (F.flatMap KeyL.cells) rfl De.o ⟨u6.heap.size,0,none⟩ 1 1 [x.1,x.2] rfl rfl Dc.o (itemOne x) (by decide) D1 D2 D3 (u6.heap.size+1) (by simp) ?_;intro g cap u7 A Cv M Aw;have Df:=Hy A;have Da:=Hy Cv;have CV:=Hy M;clear A Cv M)
         have Cg:Frm (fun i=>(Value.slice ao F.length lc).ownBlock=some i) u6 u7:=((Frm.refl (fun i=>(Value.slice ao F.length lc).ownBlock=some i) u6).alloc _).trans (Frm.grown (S:=fun i=>(Value.slice ao F.length lc).ownBlock=some i) Da.o (fun _ h=>h)) (fun i h _=>h);have Dr:=Bd.keep Cg (fun k z=>⟨Qb Bc.o Bd.P (by decide) k z,Qb Bc.o Bd.G (by decide) k z,fun h=>Bo.o k h z⟩)
         have Co:∀ k,Xb V (R'.set b (m.wait I E c2)) k->(Value.slice (some ⟨g,0,none⟩) (F++[x]).length cap).ownBlock≠some k:=fun k h e=>by
          simp only [Value.ownBlock,Option.some.injEq] at e;subst e;rcases CV.o with h1 | h1
          ·exact Bo.o _ h h1
          ·have:=Bd.itlt _ h;omega
         have Ch:=BT.trans Cg (fun i h hi=>by have:=Xa Bc.o i h;omega);have Di:=Hy Dr;have BR:=Hy Co;have BU:=Hy Ch;have DM:=AA.o;go_wp2_with fail;go_roundw
         case rel=>exact ⟨S'.set b s.less,T'++[x],F++[x],R'.set b (m.wait I E c2),V,c3,some ⟨g,0,none⟩,cap,by rw [List.length_append];rfl,Di.o,by rw [List.length_append,List.flatMap_append,List.flatMap_singleton];exact Df.o,BR.o,BV.o,BY.o,BU.o,by rw [List.length_append,List.length_singleton];unfold Hid;omega,Dg.o,by rw [List.length_append,List.length_append];unfold Hid;omega⟩
         case measure=>simp [rtM];omega
section
def rt (i:Nat):Nat:=8 * i+2
theorem Zb {i j:Nat} (h:i≠j):rt i≠rt j:=by unfold rt;omega
theorem ye (i:Nat):rt i % 8=2:=by unfold rt;omega
def ROut (O:Own) (w w':World):Prop:=Frm (fun b=>O b % 8=2) w w'
theorem ROut.of {i:Nat} (h:OFrm O (rt i) w w'):ROut O w w':=h.mono (fun b A _=>by rw [A];exact ye i)
theorem ROut.trans {a c:World} (h:ROut O a b) (k:ROut O' b c) (ha:AgO a.heap.size O O'):ROut O a c:=Frm.trans h k (fun i hi A=>by rw [<- ha i A];exact hi)
theorem ROut.below {w:World} (h:Below w.heap.size w w'):ROut O w w':=Frm.below h
def RTo (O:Own) (t:Nat) (w:World) (q:Nat) (L:List One):Prop:=∃ ao cap,BlkO O t w q 209 [.slice ao L.length cap,.int .i64 24]/\Row O t w 278 2 (.slice ao L.length cap) L.length (L.flatMap refCells)
def RMo (O:Own) (t:Nat) (w:World) (m:Nat) (n:Int) (S:List PS) (T:List KeyL):Prop:=∃ qs c R sp ta tc,RMx w m n S T qs c R sp ta tc/\(∀ k,Xb ta R k->k≠qs/\k≠m)/\((T.length:Int)<=n)/\O m=t/\O qs=t/\∀ k,Xb ta R k->O k=t
section
variable {O O':Own} {t:Nat} {F:Nat->Prop} {w w':World}
theorem RTo.frm {q:Nat} {L:List One} (h:RTo O t w q L) (hf:Frm F w w') (hF:∀ b,b < w.heap.size->O b=t->¬ F b) (ha:AgO w.heap.size O O'):RTo O' t w' q L:=by
 obtain ⟨A,cap,h1,B⟩:=h;exact ⟨A,cap,h1.frm hf hF ha,B.frm hf hF ha⟩
theorem RMo.frm {m:Nat} {n:Int} {S:List PS} {T:List KeyL} (h:RMo O t w m n S T) (hf:Frm F w w') (hF:∀ b,b < w.heap.size->O b=t->¬ F b) (ha:AgO w.heap.size O O'):RMo O' t w' m n S T:=by
 obtain ⟨J,c,R,sp,ta,tc,h1,K,L,C,D,E⟩:=h;have H:=h1.P.lt;have I:=h1.G.lt;have B:Frm (fun b=>F b/\b < w.heap.size) w w':=⟨hf.os,hf.tape,hf.output,hf.size,fun i hi M=>hf.block i hi (fun q=>M ⟨q,hi⟩)⟩;exact ⟨J,c,R,sp,ta,tc,h1.keep B (fun k A=>⟨fun e=>by subst e;exact hF _ H C A.1,fun e=>by subst e;exact hF _ I D A.1,fun hi=>hF k A.2 (E k hi) A.1⟩),K,L,(ha m H).trans C,(ha J I).trans D,fun k A=>(ha k (h1.itlt k A)).trans (E k A)⟩
end
def QS.rcells (y:QS) (m:Nat):List Value:=[.pointer (some ⟨m,0,none⟩)]++y.sh.flatMap SH.cells
structure RA where
 le:Nat
 sl:Nat
 sf:Nat
 ti:Nat
 aa:Option Addr
 ac:Nat
 q:Nat->Nat
 m:Nat->Nat
 it:Nat->Option Addr×Nat
def rqV (L:List Nat) (q:Nat->Nat) (j:Nat):Value:=if L.getD j 0=0 then .pointer none else .pointer (some ⟨q (L.getD j 0),0,none⟩)
def CfgM.cells (c:CfgM):List Value:=[.slice c.aw c.nw c.cw,.slice c.ac c.nc c.cc,.int .i64 c.wk,.int .i64 c.cp,.int .i64 c.sl,.int .i64 c.ba,.int .i64 c.le,.int .i64 c.he,.int .i64 c.fi,.int .i64 c.ca,.int .i64 c.ji,.int .i64 c.ne]
def CS.rcells (S:CS) (c:CfgM) (B:RA):List Value:=c.cells++[.int .i64 S.now,.pointer (some ⟨B.le,0,none⟩),.pointer (some ⟨B.sl,0,none⟩),.pointer (some ⟨B.ti,0,none⟩),rqV S.L B.q 0,rqV S.L B.q 1,rqV S.L B.q 2,rqV S.L B.q 3,.slice B.aa S.told.length B.ac]
def CfA (O:Own) (w:World) (c:CfgM):Prop:=∃ w0:World,CfgOK w0 c/\Below w0.heap.size w0 w/\∀ b,b < w0.heap.size->O b=3
theorem CfA.ok {c:CfgM} (h:CfA O w c):CfgOK w c:=by obtain ⟨B,h1,A,_⟩:=h;exact h1.below A rfl
theorem CfA.frm {c:CfgM} (h:CfA O w c) (hf:Frm F w w') (ha:AgO w.heap.size O O') (hF:∀ b,b < w.heap.size->F b->O b≠3):CfA O' w' c:=by
 obtain ⟨G,h1,A,D⟩:=h;refine ⟨G,h1,⟨hf.os.trans A.os,hf.tape.trans A.tape,hf.output.trans A.output,nr A.size hf.size,fun k B=>?_⟩,fun b E=>(ha b (nt E A.size)).trans (D b E)⟩;have C:=nt B A.size;exact (hf.block k C (fun q=>hF k C q (D k B))).trans (A.block k B)
structure RWx (X:Nat->Prop) (w:World) (O:Own) (B:RA) (r:Nat) (c:CfgM) (S:CS):Prop where
 cf:CfA O w c
 cc:∃ ac cc,S.c=c.own ac cc
 blk:¬ X (rt 0)->BlkO O (rt 0) w r 159 (S.rcells c B)
 le:¬ X (rt 1)->BlkO O (rt 1) w B.le 191 S.t.rcells
 sl:¬ X (rt 2)->BlkO O (rt 2) w B.sl 183 [.slice (some ⟨B.sf,0,none⟩) S.L.length S.L.length,(S.told.length:Nat)]/\BlkO O (rt 2) w B.sf 3 (slV S.L)
 ti:¬ X (rt 3)->RTo O (rt 3) w B.ti S.tm
 told:¬ X (rt 4)->Row O (rt 4) w 58 7 (.slice B.aa S.told.length B.ac) S.told.length (rowF (toldF B.it S.told) S.told.length)
 it:¬ X (rt 5)->∀ (i:Nat) t,S.told[i]?=some t->Row O (rt 5) w 46 2 (.slice (B.it i).1 t.items.length (B.it i).2) t.items.length (t.items.flatMap KeyL.cells)
 qb:∀ id∈S.L,id≠0->¬ X (rt (6+2 * id))->BlkO O (rt (6+2 * id)) w (B.q id) 181 ((S.Q id).rcells (B.m id))
 mg:∀ id∈S.L,id≠0->¬ X (rt (7+2 * id))->RMo O (rt (7+2 * id)) w (B.m id) (S.Q id).n (S.Q id).S (S.Q id).T
def RW (w:World) (O:Own) (B:RA) (r:Nat) (c:CfgM) (S:CS):Prop:=RWx (fun _=>False) w O B r c S
theorem RWx.frm {Y:Nat->Prop} {c:CfgM} {S:CS} (h:RWx X w O B r c S) (hf:Frm F w w') (ha:AgO w.heap.size O O') (C:∀ t,X t->Y t) (hF:∀ b,b < w.heap.size->F b->(Y (O b)/\O b % 8=2)∨(O b % 8≠2/\O b≠3)):RWx Y w' O' B r c S:=by
 have D:∀ i,¬ Y (rt i)->∀ b,b < w.heap.size->O b=rt i->¬ F b:=fun i A b H I E=>by
  rcases hF b H E with h1 | h1
  ·rw [I] at h1;exact A h1.1
  ·rw [I] at h1;exact h1.1 (ye i)
 exact ⟨h.cf.frm hf ha (fun b H E=>by rcases hF b H E with h1 | h1;(intro e;rw [e] at h1;exact absurd h1.2 (by decide));exact h1.2),h.cc,
  fun A=>(h.blk (fun q=>A (C _ q))).frm hf (D 0 A) ha,fun A=>(h.le (fun q=>A (C _ q))).frm hf (D 1 A) ha,fun A=>⟨(h.sl (fun q=>A (C _ q))).1.frm hf (D 2 A) ha,(h.sl (fun q=>A (C _ q))).2.frm hf (D 2 A) ha⟩,
  fun A=>(h.ti (fun q=>A (C _ q))).frm hf (D 3 A) ha,fun A=>(h.told (fun q=>A (C _ q))).frm hf (D 4 A) ha,fun A i t h1=>(h.it (fun q=>A (C _ q)) i t h1).frm hf (D 5 A) ha,
  fun id h1 G A=>(h.qb id h1 G (fun q=>A (C _ q))).frm hf (D _ A) ha,fun id h1 G A=>(h.mg id h1 G (fun q=>A (C _ q))).frm hf (D _ A) ha⟩
theorem RWx.below {c:CfgM} {S:CS} (h:RWx X w O B r c S) (hb:Below w.heap.size w w') (ha:AgO w.heap.size O O'):RWx X w' O' B r c S:=
 h.frm (F:=fun _=>False) (Frm.below hb) ha (fun _ q=>q) (fun _ _ q=>q.elim)
theorem RW.below {c:CfgM} {S:CS} (h:RW w O B r c S) (hb:Below w.heap.size w w') (ha:AgO w.heap.size O O'):RW w' O' B r c S:=RWx.below h hb ha
theorem RW.only {c:CfgM} {S:CS} (h:RW w O B r c S) (i:Nat) (hf:OFrm O (rt i) w w') (ha:AgO w.heap.size O O'):RWx (fun t=>t=rt i) w' O' B r c S:=
 RWx.frm h hf ha (fun _ q=>q.elim) (fun _ _ q=>.inl ⟨q,by rw [q];exact ye i⟩)
theorem RW.apart {c:CfgM} {S:CS} (h:RW w O B r c S) (hf:Frm F w w') (ha:AgO w.heap.size O O') (hF:∀ b,b < w.heap.size->F b->O b % 8≠2/\O b≠3):RW w' O' B r c S:=
 RWx.frm h hf ha (fun _ q=>q) (fun b A q=>.inr (hF b A q))
theorem RW.cout {c:CfgM} {S:CS} (h:RW w O B r c S) (hf:COut O w w') (ha:AgO w.heap.size O O'):RW w' O' B r c S:=
 h.apart hf ha (fun b _ q=>⟨by rw [q];decide,fun e=>by rw [e] at q;exact absurd q (by decide)⟩)
theorem CW.rout {S:CS} (h:CW w O A p S) (hf:ROut O w w') (ha:AgO w.heap.size O O'):CW w' O' A p S:=
 h.apart hf ha (fun b _ q=>by rw [q];decide)
section
variable {w:World} {O:Own} {B:RA} {r:Nat} {c:CfgM} {S:CS}
theorem RW.blk (h:RW w O B r c S):Blk w r 159 (S.rcells c B):=(RWx.blk h id).1
theorem RW.with_le (h:RWx (fun t=>t=rt 1) w O B r c S) (t':Tab) (hn:BlkO O (rt 1) w B.le 191 t'.rcells):RW w O B r c {S with t:=t'}:=
 ⟨h.cf,h.cc,fun _=>h.blk (Zb (by omega)),fun _=>hn,fun _=>h.sl (Zb (by omega)),fun _=>h.ti (Zb (by omega)),fun _=>h.told (Zb (by omega)),fun _=>h.it (Zb (by omega)),fun id h1 A _=>h.qb id h1 A (Zb (by omega)),fun id h1 A _=>h.mg id h1 A (Zb (by omega))⟩
theorem RW.with_ti (h:RWx (fun t=>t=rt 3) w O B r c S) (L:List One) (hn:RTo O (rt 3) w B.ti L):RW w O B r c {S with tm:=L}:=
 ⟨h.cf,h.cc,fun _=>h.blk (Zb (by omega)),fun _=>h.le (Zb (by omega)),fun _=>h.sl (Zb (by omega)),fun _=>hn,fun _=>h.told (Zb (by omega)),fun _=>h.it (Zb (by omega)),fun id h1 A _=>h.qb id h1 A (Zb (by omega)),fun id h1 A _=>h.mg id h1 A (Zb (by omega))⟩
theorem RW.with_now (h:RWx (fun t=>t=rt 0) w O B r c S) (now:Int) (hn:BlkO O (rt 0) w r 159 (CS.rcells {S with now:=now} c B)):RW w O B r c {S with now:=now}:=
 ⟨h.cf,h.cc,fun _=>hn,fun _=>h.le (Zb (by omega)),fun _=>h.sl (Zb (by omega)),fun _=>h.ti (Zb (by omega)),fun _=>h.told (Zb (by omega)),fun _=>h.it (Zb (by omega)),fun id h1 A _=>h.qb id h1 A (Zb (by omega)),fun id h1 A _=>h.mg id h1 A (Zb (by omega))⟩
theorem RW.with_qb {id:Nat} (h:RWx (fun t=>t=rt (6+2 * id)) w O B r c S) (sh:List SH) (hn:BlkO O (rt (6+2 * id)) w (B.q id) 181 (QS.rcells {S.Q id with sh:=sh} (B.m id))):RW w O B r c (S.setQ id {S.Q id with sh:=sh}):=
 ⟨h.cf,h.cc,fun _=>h.blk (Zb (by omega)),fun _=>h.le (Zb (by omega)),fun _=>h.sl (Zb (by omega)),fun _=>h.ti (Zb (by omega)),fun _=>h.told (Zb (by omega)),fun _=>h.it (Zb (by omega)),
  fun j h1 A _=>by
   show BlkO O _ w (B.q j) _ (QS.rcells (if j=id then _ else S.Q j) (B.m j))
   by_cases e:j=id
   ·subst e;rw [if_pos rfl];exact hn
   ·rw [if_neg e];exact h.qb j h1 A (Zb (by omega)),
  fun j h1 A _=>by
   show RMo O _ w (B.m j) (if j=id then _ else S.Q j).n (if j=id then _ else S.Q j).S (if j=id then _ else S.Q j).T
   by_cases e:j=id
   ·subst e;rw [if_pos rfl];exact h.mg j h1 A (Zb (by omega))
   ·rw [if_neg e];exact h.mg j h1 A (Zb (by omega))⟩
theorem RW.with_mg {id:Nat} (h:RWx (fun t=>t=rt (7+2 * id)) w O B r c S) (S':List PS) (T':List KeyL) (hn:RMo O (rt (7+2 * id)) w (B.m id) (S.Q id).n S' T'):RW w O B r c (S.setQ id {S.Q id with S:=S',T:=T'}):=
 ⟨h.cf,h.cc,fun _=>h.blk (Zb (by omega)),fun _=>h.le (Zb (by omega)),fun _=>h.sl (Zb (by omega)),fun _=>h.ti (Zb (by omega)),fun _=>h.told (Zb (by omega)),fun _=>h.it (Zb (by omega)),
  fun j h1 A _=>by
   show BlkO O _ w (B.q j) _ (QS.rcells (if j=id then _ else S.Q j) (B.m j))
   by_cases e:j=id
   ·subst e;rw [if_pos rfl];exact h.qb j h1 A (Zb (by omega))
   ·rw [if_neg e];exact h.qb j h1 A (Zb (by omega)),
  fun j h1 A _=>by
   show RMo O _ w (B.m j) (if j=id then _ else S.Q j).n (if j=id then _ else S.Q j).S (if j=id then _ else S.Q j).T
   by_cases e:j=id
   ·subst e;rw [if_pos rfl];exact hn
   ·rw [if_neg e];exact h.mg j h1 A (Zb (by omega))⟩
end
end
theorem QaE (a:Option Addr) (n cap:Nat) (l:List KeyL) (k:Int) (w:World) (hr:RdE KeyL.cells 2 w a n cap l) (hl:l.length<=100) (F:∀ x∈l,-1000<=x.1/\x.1<=1000):
  Calls prog 180 #[.slice a n cap,k] w fun e w'=>e=.returned (.tuple #[.int .i64 (lenLo l k),.int .i64 (lenHi l k)])/\w=w':=by
 have i:=hr.1;subst i;have M:=Hy hr;clear hr;unfold lenLo lenHi
 by_cases h1:k < 0∨l.length < k
 ·rw [if_pos h1,if_pos h1]
  have D:=M.2.1
  by_cases s:k < 0
  ·clear h1
   go_in;go_wp2_with fail;go_ret2;exact ⟨rfl,rfl⟩
  have c:l.length < k:=by omega
  clear h1;have r:decide ((l.length:Int) < k)=true:=by simpa using c
  go_in;go_wp2_with fail;go_ret2;exact ⟨rfl,rfl⟩
 rw [if_neg h1,if_neg h1]
 obtain ⟨k,rfl⟩:∃ m:Nat,k=(m:Int):=⟨k.toNat,by omega⟩;have g:k<=l.length:=by omega
 clear h1;have D:=M.2.1;have Z:decide ((l.length:Int) < k)=false:=by simp;omega
 have R:∃ lo:Int,-1000<=lo/\lo<=1000/\(if (0:Int) < k then (keyAt l ((k:Int).toNat - 1)).1 else 1)=lo/\(0 < k->∃ b off,a=some ⟨b,off,none⟩/\w.cell? ⟨b,off+(k - 1) * 2,none⟩=some (.int .i64 lo))/\(k=0->lo=1):=by
  by_cases T:0 < k
  ·obtain ⟨b,off,J,P,N⟩:=M.2.2.2.2 (k - 1) _ (qd (by omega))
   have C:=F (keyAt l (k - 1)) (List.mem_iff_getElem?.2 ⟨_,qd (by omega)⟩);refine ⟨_,C.1,C.2,?_,fun _=>⟨b,off,J,N 0 (by decide)⟩,fun h=>by omega⟩;rw [ip,Int.toNat_natCast]
  ·exact ⟨1,by omega,by omega,by rw [io],fun h=>absurd h T,fun _=>rfl⟩
 have Q:∃ (hi:Int) (H:ByteArray),-1000<=hi/\hi<=1000/\(if (k:Int) < l.length then (if (keyAt l (k:Int).toNat).2.toList=[] then (keyAt l (k:Int).toNat).1 - 1 else (keyAt l (k:Int).toNat).1) else 12)=(if k < l.length then (if H.toList=[] then hi - 1 else hi) else 12)∧
   (k < l.length->∃ b off,a=some ⟨b,off,none⟩/\w.cell? ⟨b,off+k * 2,none⟩=some (.int .i64 hi)/\w.cell? ⟨b,off+k * 2+1,none⟩=some (.string H)):=by
  by_cases A:k < l.length
  ·obtain ⟨b,off,J,P,N⟩:=M.2.2.2.2 k _ (qd A)
   have C:=F (keyAt l k) (List.mem_iff_getElem?.2 ⟨_,qd A⟩);refine ⟨(keyAt l k).1,(keyAt l k).2,C.1,C.2,?_,fun _=>⟨b,off,J,N 0 (by decide),N 1 (by decide)⟩⟩;rw [ip,if_pos A,Int.toNat_natCast]
  ·exact ⟨0,⟨#[]⟩,by omega,by omega,by rw [io,if_neg A],fun h=>absurd h A⟩
 obtain ⟨lo,j,o,L,E,I⟩:=R;obtain ⟨hi,H,d,f,K,B⟩:=Q;rw [L,K];clear L K F
 by_cases T:0 < k
 ·obtain ⟨b,off,rfl,p⟩:=E T
  have q:decide ((0:Int) < k)=true:=by simp;omega
  clear I E
  by_cases A:k < l.length
  ·obtain ⟨b',Y,J,V,c3⟩:=B A
   simp only [Option.some.injEq,Addr.mk.injEq,and_true] at J;obtain ⟨rfl,rfl⟩:=J;clear B;rw [if_pos A]
   by_cases G:H.toList=[]
   ·rw [if_pos G]
    go_in;go_wp2_with fail;go_ret2;exact ⟨rfl,rfl⟩
   rw [if_neg G]
   have U:H.toList.isEmpty=false:=by simpa using G
   go_in;go_wp2_with fail;go_ret2;exact ⟨rfl,rfl⟩
  obtain rfl:k=l.length:=by omega
  rw [if_neg A];clear B;go_in;go_wp2_with fail;go_ret2;exact ⟨rfl,rfl⟩
 obtain rfl:k=0:=by omega
 obtain rfl:=I rfl;clear I E Z
 by_cases A:0 < l.length
 ·obtain ⟨b,off,rfl,V,c3⟩:=B A
  clear B;rw [if_pos A];have W:off+0 * 2=off:=by omega
  rw [W] at V c3;clear W
  by_cases G:H.toList=[]
  ·rw [if_pos G]
   go_in;go_wp2_with fail;go_ret2;exact ⟨rfl,rfl⟩
  rw [if_neg G]
  have U:H.toList.isEmpty=false:=by simpa using G
  go_in;go_wp2_with fail;go_ret2;exact ⟨rfl,rfl⟩
 have h0:l.length=0:=by omega
 rw [if_neg A];clear B;rw [h0] at D ⊢;go_in;go_wp2_with fail;go_ret2;exact ⟨rfl,rfl⟩
theorem QB (a:Option Addr) (n cap:Nat) (l:List KeyL) (k m:Int) (w:World) (hr:RdE KeyL.cells 2 w a n cap l) (hl:l.length<=100) (A:∀ x∈l,-1000<=x.1/\x.1<=1000) (hm: -1000<=m/\m<=1000):
  Calls prog 131 #[.slice a n cap,k,m] w fun e w'=>e=.returned (.int .i64 (leastN l k m))/\w=w':=by
 have B:=Hy (QaE a n cap l k w hr hl A);obtain ⟨⟨I,b2⟩,J,K⟩:=Q0 l k A;obtain ⟨L,M⟩:=hm;unfold leastN;generalize lenLo l k=lo at *;generalize lenHi l k=hi at *;clear hr A
 by_cases h1:hi < lo
 ·rw [if_pos h1]
  have F:decide (hi < lo)=true:=by simpa using h1
  go_in;go_wp2_with fail;refine (B.o).mono ?_;rintro e E ⟨rfl,rfl⟩;go_wp2_with fail;go_ret;exact ⟨rfl,rfl⟩
 rw [if_neg h1]
 have F:decide (hi < lo)=false:=by simpa using h1
 by_cases C:m < lo
 ·rw [if_pos C]
  have G:decide (m < lo)=true:=by simpa using C
  go_in;go_wp2_with fail;refine (B.o).mono ?_;rintro e E ⟨rfl,rfl⟩;go_wp2_with fail;go_ret;exact ⟨rfl,rfl⟩
 rw [if_neg C]
 have G:decide (m < lo)=false:=by simpa using C
 by_cases D:hi < m
 ·rw [if_pos D]
  have H:decide (hi < m)=true:=by simpa using D
  go_in;go_wp2_with fail;refine (B.o).mono ?_;rintro e E ⟨rfl,rfl⟩;go_wp2_with fail;go_ret;exact ⟨rfl,rfl⟩
 rw [if_neg D]
 have H:decide (hi < m)=false:=by simpa using D
 go_in;go_wp2_with fail;refine (B.o).mono ?_;rintro e E ⟨rfl,rfl⟩;go_wp2_with fail;go_ret;exact ⟨rfl,rfl⟩
theorem qI (x m:Int) (w:World):Calls prog 190 #[x,m] w fun e w'=>e=.returned (.int .i64 (min (max x 0) m))/\w=w':=by
 have ⟨R,A⟩:=gn (min (max x 0) m);rw [A];have ⟨p,B⟩:=gn (if x < 0 then 0 else x);have C:(if m < p then m else p)=R:=by rw [<- A,<- B];split <;> split <;> omega
 clear A;go_in;go_wp2;go_ret;exact ⟨rfl,rfl⟩
theorem Y3 (x:Int) (w:World):Calls prog 190 #[x,.int .i64 1000] w fun e w'=>e=.returned (.int .i64 (clipI x))/\w=w':=
 (qI x 1000 w).mono fun e w' h=>⟨h.1.trans (by rw [show min (max x 0) 1000=clipI x from by unfold clipI;omega]),h.2⟩
theorem ya1 (x:Int) (w:World):Calls prog 190 #[x,.int .i64 6] w fun e w'=>e=.returned (.int .i64 (tryN x:Nat))/\w=w':=
 (qI x 6 w).mono fun e w' h=>⟨h.1.trans (by rw [show ((tryN x:Nat):Int)=min (max x 0) 6 from by unfold tryN;omega]),h.2⟩
theorem Yap (t:Int) (w:World):Calls prog 148 #[t] w fun e w'=>e=.returned (.int .i64 (tryI t))/\w=w':=by
 have C:=Hy (qI t 6 w);have ⟨q,B⟩:=gn (min (max t 0) 6);rw [B] at C;have ⟨R,A⟩:=gn (tryI t);rw [A];have D:0<=q/\q<=6:=by omega
 have E:(if 6 < q+1 then 6 else q+1)=R:=by rw [<- A];unfold tryI;rw [B];split <;> omega
 obtain ⟨q1,q2⟩:=D;clear A B;go_in;go_wp2_with fail;refine C.mono ?_;rintro e w' ⟨rfl,rfl⟩;go_wp2_with fail;go_ret;exact ⟨rfl,rfl⟩
def powN (F:Int) (k:Nat):Int:=F * 2 ^ k
theorem Z2 (F:Int):powN F 0=F:=by unfold powN;rw [Int.pow_zero,Int.mul_one]
theorem qz (F:Int) (k:Nat):powN F (k+1)=2 * powN F k:=by unfold powN;rw [Int.pow_succ,<- Int.mul_assoc,Int.mul_comm]
theorem ya0 {F:Int} (h0:0<=F) (h1:F<=1000) {k:Nat} (A:k<=6):0<=powN F k/\powN F k<=64000:=by
 have e:k=0∨k=1∨k=2∨k=3∨k=4∨k=5∨k=6:=by omega
 rcases e with rfl | rfl | rfl | rfl | rfl | rfl | rfl <;> simp only [qz,Z2] <;> omega
theorem xa0 {F:Int} (h0:0<=F) (k:Nat):0<=powN F k:=by
 induction k with
 | zero=>rw [Z2];exact h0
 | succ k A=>rw [qz];omega
theorem zai {F p:Int} (h0:0<=F) (hp:0<=p):∀ {r:Nat},min (powN F r) p=min (waitN F p r) p
 | 0=>by rw [Z2];rfl
 | r+1=>by
  have ih:=zai h0 hp (r:=r)
  have A:=xa0 h0 r
  rw [qz]
  show _=min (min (2 * waitN F p r) p) p
  omega
theorem yK (c:CfgM) (t d:Int) (w:World):
  Calls prog 151 #[c.val,t,d] w fun e w'=>e=.returned (.int .i64 (waitC c t d))/\Below w.heap.size w w':=by
 unfold CfgM.val;have ⟨R,A⟩:=gn (waitC c t d);rw [A];unfold waitC at A;have E:=Hy (fun w=>Y3 c.fi w);have B:=Hy (fun w=>Y3 c.ca w);have C:=Hy (fun w=>Y3 c.ji w);have L:=zj c.fi;have M:=zj c.ca;have b2:=zj c.ji;have ⟨F,T⟩:=gn (clipI c.fi);have ⟨p,U⟩:=gn (clipI c.ca);have ⟨q,V⟩:=gn (clipI c.ji);rw [T] at A L E;rw [U] at A M B;rw [V] at A b2 C;obtain ⟨Z,i⟩:=M;obtain ⟨j,l⟩:=b2;obtain ⟨P,a⟩:=L;clear T U V;have ⟨N,J⟩:=gn (tryN t);have I:=Hy (fun w=>ya1 t w)
 have f:N<=6:=by rw [<- J];unfold tryN;omega
 rw [J] at A I;rw [<- zai P Z] at A;clear J;have H:=Hy A;clear A;go_in;have G:=Hy (show Blk (w.alloc (.cells #[.slice c.aw c.nw c.cw,.slice c.ac c.nc c.cc,c.wk,c.cp,c.sl,c.ba,c.le,c.he,c.fi,c.ca,c.ji,c.ne] 25)) w.heap.size 25 [.slice c.aw c.nw c.cw,.slice c.ac c.nc c.cc,c.wk,c.cp,c.sl,c.ba,c.le,c.he,c.fi,c.ca,c.ji,c.ne] from hn_ w _)
 have HB:=Hy ((bf _ w).alloc (nl _) (.cells #[.slice c.aw c.nw c.cw,.slice c.ac c.nc c.cc,c.wk,c.cp,c.sl,c.ba,c.le,c.he,c.fi,c.ca,c.ji,c.ne] 25));have ⟨W,K⟩:=gn (w.alloc (.cells #[.slice c.aw c.nw c.cw,.slice c.ac c.nc c.cc,c.wk,c.cp,c.sl,c.ba,c.le,c.he,c.fi,c.ca,c.ji,c.ne] 25));rw [K] at G HB;have c8:W.cell? ⟨w.heap.size,8,none⟩=some (.int .i64 c.fi):=G.cell 8
 have m:Ci W w.heap.size 9 c.ca:=G.cell 9;have b:W.cell? ⟨w.heap.size,10,none⟩=some (.int .i64 c.ji):=G.cell 10;clear G;go_wp2_with (rw [K]);clear K;refine (E.o W).mono ?_;rintro e w' ⟨rfl,rfl⟩;go_wp2_with fail;go_loop [7,8] (fun Y D=>∃ k:Nat,k<=N/\Y=.int .i64 (powN F k)/\D=.int .i64 k) (fun Y D=>N - (intOf D).toNat)
 case atStart=>exact ⟨0,nz _,by rw [Z2],rfl⟩
 case round=>
  obtain ⟨k,g,rfl,rfl⟩:=hrel;obtain ⟨z1,z2⟩:=ya0 P a (show k<=6 by omega)
  by_cases h:k < N
  ·have n:(k:Int) < (N:Int):=by omega
   have Q:=qz F k;generalize powN F k=x at *;go_wp2_with fail;refine (I.o _).mono ?_;rintro e w' ⟨rfl,rfl⟩;go_wp2_with fail;go_round
   case rel=>exact ⟨k+1,by omega,by rw [Q],by go_num⟩
   case measure=>simp [intOf];omega
  obtain rfl:k=N:=by omega
  have Q:(if p < powN F k then p else powN F k)=min (powN F k) p:=by split <;> omega
  generalize powN F k=x at *;have r:=Xal d (q+1) (by omega) (by omega);go_wp2_with fail;refine (I.o _).mono ?_;rintro e w' ⟨rfl,rfl⟩;go_wp2_with fail;go_quiet (first | (go_at_call 190;first | exact Calls.quiet_of_same (qt (B.o _)) | exact Calls.quiet_of_same (qt (C.o _)) | exact Calls.quiet_of_same (B.o _) | exact Calls.quiet_of_same (C.o _)));go_wp2_with fail;go_ret;exact ⟨X3 ((IntWalk.wrap64_in _ ⟨by have:=zh d (q+1) (by omega);omega,by have:=zh d (q+1) (by omega);omega⟩).trans H.o),below_drewN HB.o _⟩
theorem Yao (la:Int) (ta:ByteArray) (lb:Int) (tb:ByteArray) (w:World) (h1:ta.size<=1000000) (h2:tb.size<=1000000):
  Calls prog 178 #[.agg #[la,ta],.agg #[lb,tb]] w fun e w'=>e=.returned (.bool (decide (cmpK la ta lb tb < 0)))/\Below w.heap.size w w':=by
 have ⟨g,A⟩:=gn (decide (cmpK la ta lb tb < 0));rw [A];have B:Hid (g=decide (la < lb∨la=lb/\cmpT ta tb < 0)):=by rw [<- A];exact decide_eq_decide.2 (zD la ta lb tb)
 clear A;have H:=Hy (fun W=>YP ta tb W h1 h2);have C:Hid (Below w.heap.size w ((w.alloc (.cells #[la,ta] 107)).alloc (.cells #[lb,tb] 107))):=((bf _ w).alloc (nl _) _).alloc (by simp) _;generalize cmpT ta tb=z at *
 by_cases D:la < lb
 ·obtain rfl:g=true:=by rw [B.o];simp [D]
  have I:decide (la < lb)=true:=by simpa using D
  go_in;go_wp2_with fail;go_ret;exact ⟨rfl,C.o⟩
 have I:decide (la < lb)=false:=by simpa using D
 by_cases F:la=lb
 ·subst F
  have A:g=decide (z < 0):=by rw [B.o];exact decide_eq_decide.2 (by omega)
  have J:(la == la)=true:=by simp
  clear B;cases E:decide (z < 0) with
  | true=>
   have G:decide (z < 0)=true:=E;obtain rfl:g=true:=by rw [A,G]
   clear A E;go_in;go_wp2_with fail;refine (H.o _).mono ?_;rintro e w' ⟨rfl,hd⟩;have HB:=Hy (C.trans (hd.below _));clear hd;go_wp2_with fail;go_ret;exact ⟨rfl,HB.o⟩
  | false=>
   have G:decide (z < 0)=false:=E;obtain rfl:g=false:=by rw [A,G]
   clear A E;go_in;go_wp2_with fail;refine (H.o _).mono ?_;rintro e w' ⟨rfl,hd⟩;have HB:=Hy (C.trans (hd.below _));clear hd;go_wp2_with fail;go_ret;exact ⟨rfl,HB.o⟩
 obtain rfl:g=false:=by rw [B.o];simp [D,F]
 have J:(la == lb)=false:=by simpa using F
 go_in;go_wp2_with fail;go_ret;exact ⟨rfl,C.o⟩
theorem zao (a:Option Addr) (n cap:Nat) (l:List KeyL) (w:World) (hr:RdE KeyL.cells 2 w a n cap l) (hs:∀ x∈l,x.2.size<=1000000):
  Calls prog 127 #[.slice a n cap] w fun e w'=>e=.returned (.int .i64 (goodE l))/\Below w.heap.size w w':=by
 have hn:=hr.1;subst hn;have Ap:=hr.2.1;have Ai:=hr.2.2.1;unfold maxLen at Ai;have HR:=Hy hr;clear hr;have ⟨g,hg⟩:=gn (goodE l);rw [hg];have P:=Hy hg;clear hg
 by_cases h5:5 < l.length
 ·obtain rfl:g=3:=by rw [<- P.o];exact yau h5
  have d5:decide (5 < l.length)=true:=by simpa using h5
  go_in;go_wp2_with fail;go_ret;exact ⟨rfl,bf _ _⟩
 have d5:decide (5 < l.length)=false:=by simpa using h5
 have d:l.length<=5:=by omega
 go_in;go_wp2_with fail;go_loopw [3] (fun i wr=>∃ k:Nat,k<=l.length/\i=.int .i64 k/\Hid ((l.take k).any badK=false)/\Hid (Below w.heap.size w wr)) (fun i _=>l.length - (intOf i).toNat)
 case atStart=>exact ⟨0,by omega,rfl,by simp [Hid],bf _ w⟩
 case round=>
  obtain ⟨k,M,rfl,HA,HB⟩:=hrel
  by_cases V:k < l.length
  ·obtain ⟨⟨C,tc⟩,Z⟩:∃ x,l[k]?=some x:=⟨l[k],le_ V⟩
   obtain ⟨b,off,rfl,u,T⟩:=(HR.below HB.o rfl).2.2.2.2 k (C,tc) Z;have c0:wr.cell? ⟨b,off+k * 2,none⟩=some (.int .i64 C):=T 0 (by decide);have c1:wr.cell? ⟨b,off+k * 2+1,none⟩=some (.string tc):=T 1 (by decide);clear T;have Y:=hs _ (List.mem_iff_getElem?.2 ⟨k,Z⟩);have HL:=Hy (fun W=>Xt tc W Y);have L:=xM badK l k (C,tc) Z;have R:=Zai badK l k (C,tc) Z;have A:badK (C,tc)=(decide (C < 1)||decide (12 < C)||decide (tLen tc < 0)||decide (12 < tLen tc)):=rfl;have ⟨z,hz⟩:=gn (tLen tc);rw [hz] at HL A;rw [HA.o,Bool.false_or] at L;have ⟨t,N⟩:=gn (badK (C,tc))
   rw [N] at L R A;have Ae:=Hy L;have H:=Hy R;clear L R hz N Z;clear HA;go_wp2_with fail;refine (HL.o _).mono ?_;rintro e w' ⟨rfl,f⟩;have e0:=(f.cell (p:=⟨b,off+k * 2,none⟩) u).trans c0;have B:=Hy (HB.trans (f.mono HB.size));clear f c0 c1
   by_cases p1:C < 1
   ·have c:decide (C < 1)=true:=by simpa using p1
    have I:Hid (t=true):=by rw [A,c];rfl
    clear A;go_wp2_with fail;go_ret;obtain rfl:g=2:=by rw [<- P.o];exact Yq d (H.o I.o)
    exact ⟨rfl,B.o⟩
   have c:decide (C < 1)=false:=by simpa using p1
   by_cases p2:12 < C
   ·have F:decide (12 < C)=true:=by simpa using p2
    have I:Hid (t=true):=by rw [A,c,F];rfl
    clear A;go_wp2_with fail;go_ret;obtain rfl:g=2:=by rw [<- P.o];exact Yq d (H.o I.o)
    exact ⟨rfl,B.o⟩
   have F:decide (12 < C)=false:=by simpa using p2
   by_cases p3:z < 0
   ·have K:decide (z < 0)=true:=by simpa using p3
    have I:Hid (t=true):=by rw [A,c,F,K];rfl
    clear A;go_wp2_with fail;go_ret;obtain rfl:g=2:=by rw [<- P.o];exact Yq d (H.o I.o)
    exact ⟨rfl,B.o⟩
   have K:decide (z < 0)=false:=by simpa using p3
   by_cases p4:12 < z
   ·have Q:decide (12 < z)=true:=by simpa using p4
    have I:Hid (t=true):=by rw [A,c,F,K,Q];rfl
    clear A;go_wp2_with fail;go_ret;obtain rfl:g=2:=by rw [<- P.o];exact Yq d (H.o I.o)
    exact ⟨rfl,B.o⟩
   have Q:decide (12 < z)=false:=by simpa using p4
   have I:Hid (t=false):=by rw [A,c,F,K,Q];rfl
   clear A;go_wp2_with fail;go_roundw
   case rel=>exact ⟨k+1,by omega,by go_num,by rw [Ae.o];exact I.o,B.o⟩
   case measure=>simp [intOf];omega
  obtain rfl:k=l.length:=by omega
  have r:Hid (l.any badK=false):=by
   have:=HA.o;rw [List.take_length] at this;exact this
  clear HA;have Y:=HB.size;go_wp2_with fail;obtain ⟨wo,rfl⟩:∃ wo:World,wo=wr:=⟨_,rfl⟩;go_loopw [5] (fun i wr=>∃ k:Nat,1<=k/\(k<=l.length∨k=1)/\i=.int .i64 k/\Hid (risesK l (k - 1)=true)/\Hid (Below w.heap.size w wr)) (fun i _=>l.length - (intOf i).toNat)
  case atStart=>exact ⟨1,by omega,.inr rfl,rfl,rfl,HB.o⟩
  case round=>
   clear HB Y M;obtain ⟨k,Az,M,rfl,s,HB⟩:=hrel
   by_cases V:k < l.length
   ·have k1:=qd (l:=l) (i:=k - 1) (by omega)
    have k2:=qd (l:=l) (i:=k) V;have D:=XJ l (k - 1);rw [show k - 1+1=k from by omega] at D;revert D k1 k2;generalize Z:keyAt l (k - 1)=x;generalize hy:keyAt l k=y;obtain ⟨h,m⟩:=x;obtain ⟨j,q⟩:=y;intro k1 k2 D;rw [s.o,Bool.true_and] at D;obtain ⟨b,off,rfl,u,T⟩:=(HR.below HB.o rfl).2.2.2.2 (k - 1) (h,m) k1;obtain ⟨b',As,he,v,U⟩:=(HR.below HB.o rfl).2.2.2.2 k (j,q) k2;simp only [Option.some.injEq,Addr.mk.injEq,and_true] at he;obtain ⟨rfl,rfl⟩:=he;have c0:wr.cell? ⟨b,off+(k - 1) * 2,none⟩=some (.int .i64 h):=T 0 (by decide);have c1:wr.cell? ⟨b,off+(k - 1) * 2+1,none⟩=some (.string m):=T 1 (by decide)
    have c2:Ci wr b (off+k * 2) j:=U 0 (by decide);have c3:wr.cell? ⟨b,off+k * 2+1,none⟩=some (.string q):=U 1 (by decide);have Am:=Hy k1;have An:=Hy k2;clear T U v k1 k2 Z hy;have J:=Hy D;clear D;have Ak:=hs _ (List.mem_iff_getElem?.2 ⟨k - 1,Am.out⟩);have Al:=hs _ (List.mem_iff_getElem?.2 ⟨k,An.out⟩);have HL:=Hy (fun W=>Yao h m j q W Ak Al);go_wp2_with fail;have w1:IntKind.i64.wrap ((k:Int) - 1)=(k:Int) - 1:=IntWalk.i64_in _ (by omega);have w2:((k:Int) - 1).toNat=k - 1:=by omega
    have w3:(0:Int)<=(k:Int) - 1:=by omega
    have w4:(k:Int) - 1 < l.length:=by omega
    have w5:(1:Int)<=(k:Int):=by omega
    go_still_tail 9,(by kernel_rfl);clear w1 w2 w3 w4 w5;go_wp2_with fail;refine (HL.o _).mono ?_;rintro e w' ⟨rfl,f⟩;have B:=Hy (show Below w.heap.size w w' from (below_drewN HB.o 1).trans (f.mono (below_drewN HB.o 1).size));clear f;cases hd:decide (cmpK h m j q < 0) with
    | true=>
     have G:kless (h,m) (j,q)=true:=hd;have E:Hid (risesK l k=true):=by have:=J.o;rw [G] at this;exact this
     clear J G;go_wp2_with fail;go_roundw
     case rel=>exact ⟨k+1,by omega,by omega,by go_num,E.o,B.o⟩
     case measure=>simp [intOf];omega
    | false=>
     have G:kless (h,m) (j,q)=false:=hd;have E:Hid (risesK l k=false):=by have:=J.o;rw [G] at this;exact this
     clear J G;obtain rfl:g=7:=by rw [<- P.o];exact xau d r.o k (by omega) E.o
     go_wp2_with fail;go_ret;exact ⟨rfl,B.o⟩
   have E:Hid (risesK l (l.length - 1)=true):=by
    rcases M with M | rfl
    ·obtain rfl:k=l.length:=by omega
     exact s.o
    ·have:l.length - 1=0:=by omega
     rw [this];rfl
   obtain rfl:g=0:=by rw [<- P.o];exact zau d r.o E.o
   go_wp2_with fail;go_ret;exact ⟨rfl,HB.o⟩
theorem qao (a:Option Addr) (n cap:Nat) (l:List ByteArray) (w:World) (hr:RdT w a n cap l) (hs:∀ x∈l,x.size<=1000000):
  Calls prog 126 #[.slice a n cap] w fun e w'=>e=.returned (.int .i64 (goodT l))/\Below w.heap.size w w':=by
 have hn:=hr.len;subst hn;have y:=hr.2.1;have q:=hr.2.2.1;unfold maxLen at q;have j:=Hy hr;clear hr;have ⟨g,r⟩:=gn (goodT l);rw [r];have d:=Hy r;clear r
 by_cases m:60 < l.length
 ·obtain rfl:g=3:=by rw [<- d.o];exact Zau m
  have d5:decide (60 < l.length)=true:=by simpa using m
  go_in;go_wp2_with fail;go_ret;exact ⟨rfl,bf _ _⟩
 have d5:decide (60 < l.length)=false:=by simpa using m
 have p:l.length<=60:=by omega
 go_in;go_wp2_with fail;go_loopw [3] (fun i wr=>∃ k:Nat,k<=l.length/\i=.int .i64 k/\Hid (((l.take k).any fun s=>!isWord s)=false)/\Hid (Below w.heap.size w wr)) (fun i _=>l.length - (intOf i).toNat)
 case atStart=>exact ⟨0,by omega,rfl,by simp [Hid],bf _ w⟩
 case round=>
  obtain ⟨k,G,rfl,c,HB⟩:=hrel
  by_cases J:k < l.length
  ·obtain ⟨tc,K⟩:∃ x,l[k]?=some x:=⟨l[k],le_ J⟩
   obtain ⟨b,off,rfl,Q,c0⟩:=(j.below HB.o rfl).at K;have H:=hs _ (List.mem_iff_getElem?.2 ⟨k,K⟩);have M:=Hy (fun W=>qX tc W H);have F:=QG (fun s=>!isWord s) l k tc K;have I:=QY (fun s=>!isWord s) l k tc K;rw [c.o,Bool.false_or] at F;clear H Q K;have ⟨bk,P⟩:=gn (isWord tc);rw [P] at F I M;have h:=Hy F;have f:=Hy I;clear F I P c;go_wp2_with fail;refine (M.o _).mono ?_;rintro e w' ⟨rfl,v⟩;have B:=Hy (HB.trans (v.mono HB.size));clear v;cases bk with
   | true=>
    go_wp2_with fail;go_roundw
    case rel=>exact ⟨k+1,by omega,by go_num,by rw [h.o];rfl,B.o⟩
    case measure=>simp [intOf];omega
   | false=>
    go_wp2_with fail;go_ret;obtain rfl:g=6:=by rw [<- d.o];exact Yau p (f.o rfl)
    exact ⟨rfl,B.o⟩
  obtain rfl:k=l.length:=by omega
  have L:Hid ((l.any fun s=>!isWord s)=false):=by
   have:=c.o;rw [List.take_length] at this;exact this
  clear c;have H:=HB.size;go_wp2_with fail;obtain ⟨wo,rfl⟩:∃ wo:World,wo=wr:=⟨_,rfl⟩;go_loopw [4] (fun i wr=>∃ k:Nat,1<=k/\(k<=l.length∨k=1)/\i=.int .i64 k/\Hid (risesT l (k - 1)=true)/\Hid (Below w.heap.size w wr)) (fun i _=>l.length - (intOf i).toNat)
  case atStart=>exact ⟨1,by omega,.inr rfl,rfl,rfl,HB.o⟩
  case round=>
   clear HB H G;obtain ⟨k,Ah,G,rfl,N,HB⟩:=hrel
   by_cases J:k < l.length
   ·have Y:=XF (l:=l) (i:=k - 1) (by omega)
    have Z:=XF (l:=l) (i:=k) J;have A:=qK l (k - 1);rw [show k - 1+1=k from by omega] at A;revert A Y Z;generalize K:tAt l (k - 1)=tx;generalize hy:tAt l k=ty;intro Y Z A;rw [N.o,Bool.true_and] at A;obtain ⟨b,off,rfl,Q,c0⟩:=(j.below HB.o rfl).at Y;obtain ⟨b',Ab,he,R,c1⟩:=(j.below HB.o rfl).at Z;simp only [Option.some.injEq,Addr.mk.injEq,and_true] at he;obtain ⟨rfl,rfl⟩:=he;have t:=Hy Y;have u:=Hy Z;clear R Y Z K hy;have E:=Hy A;clear A;have T:tx.size<=1000000:=hs _ (List.mem_iff_getElem?.2 ⟨k - 1,t.out⟩)
    have U:ty.size<=1000000:=hs _ (List.mem_iff_getElem?.2 ⟨k,u.out⟩);have M:=Hy (fun W=>YP tx ty W T U);have V:tless tx ty=decide (cmpT tx ty < 0):=rfl;have D:=Hy V;clear V T U;generalize cmpT tx ty=z at D M;go_wp2_with fail;have w1:IntKind.i64.wrap ((k:Int) - 1)=(k:Int) - 1:=IntWalk.i64_in _ (by omega);have w2:((k:Int) - 1).toNat=k - 1:=by omega
    have w3:(0:Int)<=(k:Int) - 1:=by omega
    have w4:(k:Int) - 1 < l.length:=by omega
    have w5:(1:Int)<=(k:Int):=by omega
    go_still_tail 9,(by kernel_rfl);clear w1 w2 w3 w4 w5;go_wp2_with fail;refine (M.o _).mono ?_;rintro e w' ⟨rfl,hd⟩;have B:=Hy (show Below w.heap.size w w' from (below_drewN HB.o 1).trans (hd.below _));clear hd
    by_cases hz:z < 0
    ·have d1:decide (0<=z)=false:=by simp;omega
     have C:Hid (risesT l k=true):=by
      have:=E.o;rw [D.o] at this;exact this.trans (by simp;omega)
     clear E D;go_wp2_with fail;go_roundw
     case rel=>exact ⟨k+1,by omega,by omega,by go_num,C.o,B.o⟩
     case measure=>simp [intOf];omega
    have d1:decide (0<=z)=true:=by simp;omega
    have C:Hid (risesT l k=false):=by
     have:=E.o;rw [D.o] at this;exact this.trans (by simp;omega)
    clear E D;obtain rfl:g=7:=by rw [<- d.o];exact Xau p L.o k (by omega) C.o
    go_wp2_with fail;go_ret;exact ⟨rfl,B.o⟩
   have C:Hid (risesT l (l.length - 1)=true):=by
    rcases G with G | rfl
    ·obtain rfl:k=l.length:=by omega
     exact N.o
    ·have:l.length - 1=0:=by omega
     rw [this];rfl
   obtain rfl:g=0:=by rw [<- d.o];exact Qau p L.o C.o
   go_wp2_with fail;go_ret;exact ⟨rfl,HB.o⟩
theorem yf (n lo hi:Int) (w:World):Calls prog 128 #[n,lo,hi] w fun e w'=>e=.returned (.bool (inB n lo hi))/\w=w':=by
 unfold inB;go_in
 by_cases h1:lo<=n
 ·have A:decide (lo<=n)=true:=by simpa using h1
  rw [A];go_wp2_with fail;go_ret;exact ⟨by simp,rfl⟩
 have A:decide (lo<=n)=false:=by simpa using h1
 rw [A];go_wp2_with fail;go_ret;exact ⟨by simp,rfl⟩
def CfgM.short (c:CfgM):Prop:=(∀ x∈c.words,x.size<=1000000)/\∀ x∈c.cuts,x.2.size<=1000000
theorem zQ (c:CfgM) (w:World) (hr:CfgOK w c) (hz:c.short):
  Calls prog 78 #[c.val] w fun e w'=>e=.returned (.bool (mayC c))/\Below w.heap.size w w':=by
 unfold CfgM.val;have R:=Hy hr;have b:=Hy hz;clear hr hz;have ⟨m,T⟩:=gn (mayC c);rw [T];have N:=Hy T;clear T;go_in;go_wp2_with fail;have L:=Hy (show Blk (w.alloc (.cells #[.slice c.aw c.nw c.cw,.slice c.ac c.nc c.cc,c.wk,c.cp,c.sl,c.ba,c.le,c.he,c.fi,c.ca,c.ji,c.ne] 25)) w.heap.size 25 [.slice c.aw c.nw c.cw,.slice c.ac c.nc c.cc,c.wk,c.cp,c.sl,c.ba,c.le,c.he,c.fi,c.ca,c.ji,c.ne] from hn_ w _)
 have HB:=Hy ((bf _ w).alloc (nl _) (.cells #[.slice c.aw c.nw c.cw,.slice c.ac c.nc c.cc,c.wk,c.cp,c.sl,c.ba,c.le,c.he,c.fi,c.ca,c.ji,c.ne] 25));generalize (w.alloc (.cells #[.slice c.aw c.nw c.cw,.slice c.ac c.nc c.cc,c.wk,c.cp,c.sl,c.ba,c.le,c.he,c.fi,c.ca,c.ji,c.ne] 25))=W at L HB ⊢;have i:W.cell? ⟨w.heap.size,0,none⟩=some (.slice c.aw c.nw c.cw):=L.cell 0;have a:=Hy (qao c.aw c.nw c.cw c.words W (R.rw.below HB.o rfl) b.1)
 refine a.mono ?_;rintro e d ⟨rfl,I⟩;have F:=Hy (HB.trans (I.mono HB.size));have H:=Hy (L.below I L.lt);clear I HB L;have j:d.cell? ⟨w.heap.size,1,none⟩=some (.slice c.ac c.nc c.cc):=H.cell 1;clear a;have Z:=Hy (zao c.ac c.nc c.cc c.cuts d (R.rk.below F.o rfl) b.2);clear R
 by_cases h1:goodT c.words=0
 rotate_left
 ·obtain rfl:m=false:=by rw [<- N.o];unfold mayC;rw [decide_eq_false h1];rfl
  go_wp2_with fail;go_ret;exact ⟨rfl,F.o⟩
 go_wp2_with fail;refine Z.mono ?_;rintro e E ⟨rfl,I⟩;have A:=Hy (F.trans (I.mono F.size));have D:=Hy (H.below I H.lt);clear I F H;have k:E.cell? ⟨w.heap.size,2,none⟩=some (.int .i64 c.wk):=D.cell 2;have c3:E.cell? ⟨w.heap.size,3,none⟩=some (.int .i64 c.cp):=D.cell 3;have l:E.cell? ⟨w.heap.size,4,none⟩=some (.int .i64 c.sl):=D.cell 4;have n:E.cell? ⟨w.heap.size,5,none⟩=some (.int .i64 c.ba):=D.cell 5;have p:E.cell? ⟨w.heap.size,6,none⟩=some (.int .i64 c.le):=D.cell 6;have q:E.cell? ⟨w.heap.size,7,none⟩=some (.int .i64 c.he):=D.cell 7
 have c8:Ci E w.heap.size 8 c.fi:=D.cell 8;have r:E.cell? ⟨w.heap.size,9,none⟩=some (.int .i64 c.ca):=D.cell 9;have g:E.cell? ⟨w.heap.size,10,none⟩=some (.int .i64 c.ji):=D.cell 10;have c11:E.cell? ⟨w.heap.size,11,none⟩=some (.int .i64 c.ne):=D.cell 11;clear D Z
 by_cases P:goodE c.cuts=0
 rotate_left
 ·obtain rfl:m=false:=by rw [<- N.o];unfold mayC;rw [decide_eq_false P];simp
  go_wp2_with fail;go_ret;exact ⟨rfl,A.o⟩
 have B:=Hy (by rw [<- N.o];unfold mayC;rw [decide_eq_true h1,decide_eq_true P];simp:(nodesC c&&sizesC c&&timesC c)=m);rw [P];clear N h1 P;have ⟨V,U⟩:=gn (if c.wk < 3 then c.wk else 3);have C:=Hy (by rw [<- U];split <;> omega:min 3 c.wk=V);go_wp2_with fail;refine (yf (c.wk) (1) (5) E).mono ?_;rintro e w' ⟨rfl,rfl⟩;rcases Bool.eq_false_or_eq_true (inB (c.wk) (1) (5)) with hb0 | hb0;rotate_left
 ·rw [hb0]
  obtain rfl:m=false:=by rw [<- B.o];unfold nodesC sizesC timesC;rw [C.o];simp [hb0]
  clear hb0;go_wp2_with fail;go_ret;exact ⟨rfl,A.o⟩
 rw [hb0];have G:=Hy hb0;clear hb0;go_wp2_with fail;refine (yf (c.cp) (1) (V) E).mono ?_;rintro e w' ⟨rfl,rfl⟩;rcases Bool.eq_false_or_eq_true (inB (c.cp) (1) (V)) with hb1 | hb1;rotate_left
 ·rw [hb1]
  obtain rfl:m=false:=by rw [<- B.o];unfold nodesC sizesC timesC;rw [C.o];simp [hb1,G.out]
  clear hb1;go_wp2_with fail;go_ret;exact ⟨rfl,A.o⟩
 rw [hb1];have q1:=Hy hb1;clear hb1;go_wp2_with fail;refine (yf (c.sl) (1) (4) E).mono ?_;rintro e w' ⟨rfl,rfl⟩;rcases Bool.eq_false_or_eq_true (inB (c.sl) (1) (4)) with hb2 | hb2;rotate_left
 ·rw [hb2]
  obtain rfl:m=false:=by rw [<- B.o];unfold nodesC sizesC timesC;rw [C.o];simp [hb2,G.out,q1.out]
  clear hb2;go_wp2_with fail;go_ret;exact ⟨rfl,A.o⟩
 rw [hb2];have q2:=Hy hb2;clear hb2;go_wp2_with fail;refine (yf (c.ba) (1) (5) E).mono ?_;rintro e w' ⟨rfl,rfl⟩;rcases Bool.eq_false_or_eq_true (inB (c.ba) (1) (5)) with hb3 | hb3;rotate_left
 ·rw [hb3]
  obtain rfl:m=false:=by rw [<- B.o];unfold nodesC sizesC timesC;rw [C.o];simp [hb3,G.out,q1.out,q2.out]
  clear hb3;go_wp2_with fail;go_ret;exact ⟨rfl,A.o⟩
 rw [hb3];have J:=Hy hb3;clear hb3;go_wp2_with fail;refine (yf (c.le) (1) (1000) E).mono ?_;rintro e w' ⟨rfl,rfl⟩;rcases Bool.eq_false_or_eq_true (inB (c.le) (1) (1000)) with hb4 | hb4;rotate_left
 ·rw [hb4]
  obtain rfl:m=false:=by rw [<- B.o];unfold nodesC sizesC timesC;rw [C.o];simp [hb4,G.out,q1.out,q2.out,J.out]
  clear hb4;go_wp2_with fail;go_ret;exact ⟨rfl,A.o⟩
 rw [hb4];have K:=Hy hb4;clear hb4;go_wp2_with fail;refine (yf (c.he) (1) (1000) E).mono ?_;rintro e w' ⟨rfl,rfl⟩;rcases Bool.eq_false_or_eq_true (inB (c.he) (1) (1000)) with hb5 | hb5;rotate_left
 ·rw [hb5]
  obtain rfl:m=false:=by rw [<- B.o];unfold nodesC sizesC timesC;rw [C.o];simp [hb5,G.out,q1.out,q2.out,J.out,K.out]
  clear hb5;go_wp2_with fail;go_ret;exact ⟨rfl,A.o⟩
 rw [hb5];have M:=Hy hb5;clear hb5;go_wp2_with fail;refine (yf (c.fi) (1) (10) E).mono ?_;rintro e w' ⟨rfl,rfl⟩;rcases Bool.eq_false_or_eq_true (inB (c.fi) (1) (10)) with hb6 | hb6;rotate_left
 ·rw [hb6]
  obtain rfl:m=false:=by rw [<- B.o];unfold nodesC sizesC timesC;rw [C.o];simp [hb6,G.out,q1.out,q2.out,J.out,K.out,M.out]
  clear hb6;go_wp2_with fail;go_ret;exact ⟨rfl,A.o⟩
 rw [hb6];have Q:=Hy hb6;clear hb6;go_wp2_with fail;refine (yf (c.ca) (c.fi) (50) E).mono ?_;rintro e w' ⟨rfl,rfl⟩;rcases Bool.eq_false_or_eq_true (inB (c.ca) (c.fi) (50)) with hb7 | hb7;rotate_left
 ·rw [hb7]
  obtain rfl:m=false:=by rw [<- B.o];unfold nodesC sizesC timesC;rw [C.o];simp [hb7,G.out,q1.out,q2.out,J.out,K.out,M.out,Q.out]
  clear hb7;go_wp2_with fail;go_ret;exact ⟨rfl,A.o⟩
 rw [hb7];have Y:=Hy hb7;clear hb7;go_wp2_with fail;refine (yf (c.ji) (0) (10) E).mono ?_;rintro e w' ⟨rfl,rfl⟩;rcases Bool.eq_false_or_eq_true (inB (c.ji) (0) (10)) with hb8 | hb8;rotate_left
 ·rw [hb8]
  obtain rfl:m=false:=by rw [<- B.o];unfold nodesC sizesC timesC;rw [C.o];simp [hb8,G.out,q1.out,q2.out,J.out,K.out,M.out,Q.out,Y.out]
  clear hb8;go_wp2_with fail;go_ret;exact ⟨rfl,A.o⟩
 rw [hb8];have f:=Hy hb8;clear hb8;go_wp2_with fail;refine (yf (c.ne) (8) (64) E).mono ?_;rintro e w' ⟨rfl,rfl⟩;rcases Bool.eq_false_or_eq_true (inB (c.ne) (8) (64)) with hb9 | hb9;rotate_left
 ·rw [hb9]
  obtain rfl:m=false:=by rw [<- B.o];unfold nodesC sizesC timesC;rw [C.o];simp [hb9,G.out,q1.out,q2.out,J.out,K.out,M.out,Q.out,Y.out,f.out]
  clear hb9;go_wp2_with fail;go_ret;exact ⟨rfl,A.o⟩
 rw [hb9];have h:=Hy hb9;clear hb9;obtain rfl:m=true:=by rw [<- B.o];unfold nodesC sizesC timesC;rw [C.o];simp [G.out,q1.out,q2.out,J.out,K.out,M.out,Q.out,Y.out,f.out,h.out]
 clear B C;go_wp2_with fail;go_ret;exact ⟨rfl,A.o⟩
theorem yl (c:CfgM) (w:World) (hr:CfgOK w c) (hz:c.short):
  Calls prog 130 #[c.val] w fun e w'=>e=.returned (.int .i64 (shardsC c))/\Below w.heap.size w w':=by
 have P:=Hy hr;clear hr;have ⟨m,K⟩:=gn (mayC c);have ⟨n,L⟩:=gn c.cuts.length;have N:=Hy L;have M:=Hy (by rw [<- L];exact P.rk.1.symm:c.nc=n);clear L;have B:=Zf (c:=c);rw [K,N.o] at B;have G:=Hy K;clear K;have ⟨R,I⟩:=gn (shardsC c);rw [I];have E:=Hy I;clear I;unfold CfgM.val;rw [M.o];go_in;go_wp2_with fail;have F:=Hy (show Blk (w.alloc (.cells #[.slice c.aw c.nw c.cw,.slice c.ac n c.cc,c.wk,c.cp,c.sl,c.ba,c.le,c.he,c.fi,c.ca,c.ji,c.ne] 25)) w.heap.size 25 [.slice c.aw c.nw c.cw,.slice c.ac n c.cc,c.wk,c.cp,c.sl,c.ba,c.le,c.he,c.fi,c.ca,c.ji,c.ne] from hn_ w _)
 have HB:=Hy ((bf _ w).alloc (nl _) (.cells #[.slice c.aw c.nw c.cw,.slice c.ac n c.cc,c.wk,c.cp,c.sl,c.ba,c.le,c.he,c.fi,c.ca,c.ji,c.ne] 25));generalize (w.alloc (.cells #[.slice c.aw c.nw c.cw,.slice c.ac n c.cc,c.wk,c.cp,c.sl,c.ba,c.le,c.he,c.fi,c.ca,c.ji,c.ne] 25))=W at *;obtain ⟨T,U,V,c3,Y,Z,a,b,c8,d,H,c11⟩:=c12 F.o;have A:=Hy (zQ c W (P.below HB.o rfl) hz)
 unfold CfgM.val at A;rw [M.o] at A;refine A.mono ?_;rintro e Q ⟨rfl,J⟩;have C:=Hy (HB.trans (J.mono HB.size));have D:=Hy (F.below J F.lt);clear J HB F;have g:Q.cell? ⟨w.heap.size,1,none⟩=some (.slice c.ac n c.cc):=D.cell 1;clear D T U V c3 Y Z a b c8 d H c11 A;rw [G.o];cases m
 ·clear B
  obtain rfl:R=0:=by rw [<- E.o];exact Xv G.o
  go_wp2_with fail;go_ret;exact ⟨rfl,C.o⟩
 have f:=(B rfl).1
 obtain rfl:R=(n:Int)+1:=by rw [<- E.o,yd G.o,N.o]
 clear B;go_wp2_with fail;go_ret;exact ⟨rfl,C.o⟩
theorem Yr (c:CfgM) (s:Int) (w:World) (hr:CfgOK w c) (m:c.short) (hm:mayC c=true) (AF:0<=s) (AG:s<=1000):
  Calls prog 146 #[c.val,s] w fun e w'=>∃ f cap,e=.returned (.slice f (copiesC c s).length cap)/\w'.ownsRow w.heap.size 3 1 (.slice f (copiesC c s).length cap) (copiesC c s).length (ints (copiesC c s))/\Below w.heap.size w w':=by
 obtain ⟨i0,hi,Ah,Ai,Aj⟩:=info_parts Xc;clear hi Ah Ai Aj;have HR:=Hy hr;have HZ:=Hy m;have HM:=Hy hm;obtain ⟨m1,m2,m3,m4,m5,m6,-⟩:=Zf hm;obtain ⟨n,hn⟩:=Int.eq_ofNat_of_zero_le (show 0<=c.cp by omega);have T:=Hy hn;rw [hn] at m4 m5 m6;have ⟨wk,M⟩:=gn c.wk;have F:=Hy M;rw [M] at m2 m3 m6;have Ac:=xe c;have ⟨sh,G⟩:=gn (shardsC c);rw [G] at Ac;have d:=Hy G;have A:=Hy (fun (V:World) (hV:Below w.heap.size w V)=>yl c V (hr.below hV rfl) m);unfold CfgM.val at A ⊢;rw [G] at A
 clear hr m hm hn M G m1;have ⟨R,I⟩:=gn (copiesC c s);rw [I];have b:=Hy I;clear I;go_in;go_wp2_with fail;have P:=Hy (show Blk (w.alloc (.cells #[.slice c.aw c.nw c.cw,.slice c.ac c.nc c.cc,c.wk,c.cp,c.sl,c.ba,c.le,c.he,c.fi,c.ca,c.ji,c.ne] 25)) w.heap.size 25 [.slice c.aw c.nw c.cw,.slice c.ac c.nc c.cc,c.wk,c.cp,c.sl,c.ba,c.le,c.he,c.fi,c.ca,c.ji,c.ne] from hn_ w _)
 have HB:=Hy ((bf _ w).alloc (nl _) (.cells #[.slice c.aw c.nw c.cw,.slice c.ac c.nc c.cc,c.wk,c.cp,c.sl,c.ba,c.le,c.he,c.fi,c.ca,c.ji,c.ne] 25));generalize (w.alloc (.cells #[.slice c.aw c.nw c.cw,.slice c.ac c.nc c.cc,c.wk,c.cp,c.sl,c.ba,c.le,c.he,c.fi,c.ca,c.ji,c.ne] 25))=W at P HB ⊢
 by_cases Ad:s < sh
 rotate_left 1
 ·obtain rfl:R=[]:=by rw [<- b.o];exact xA (by unfold inB;rw [d.o];simp;omega)
  have A6:=Hy m4;go_wp2_with fail;obtain ⟨c0,c1,i,c3,c4,c5,c6,c7,c8,c9,h,c11⟩:=c12 P.o;have e3:(0:Int) < (n:Int):=by omega
  rw [show (Value.int IntKind.i64 c.cp)=.int .i64 (n:Int) from by rw [T.o]] at c3;go_loopw [5,6] (fun v5 v wr=>v5=.slice none 0 0/\v=.int .i64 0/\wr=W) (fun _ v _=>0)
  case atStart=>exact ⟨rfl,rfl,rfl⟩
  case round=>
   obtain ⟨rfl,rfl,rfl⟩:=hrel;rw [T.o] at A;go_wp2_with fail;refine (A.o _ HB.o).mono ?_;rintro e W1 ⟨rfl,N⟩;have E:=Hy (HB.trans (N.mono HB.size));have e4:decide (s < sh)=false:=by simp;omega
   go_wp2_with fail;go_ret;exact ⟨none,0,rfl,World.ownsRow_nil _ _ _ _,E.o⟩
 have I:=Yf (c:=c) (s:=s) (by unfold inB;rw [d.o];simp;omega);rw [T.o,Int.toNat_natCast,b.o] at I;have J:R.length=n:=by rw [I];simp
 have H:=Hy J;have a:=Hy I;have HG:=Hy P.lt;clear I J;obtain ⟨k0,k1,k2,k3,k4,k5,k6,k7,k8,k9,Ak,Al⟩:=c12 P.o;have A5:=Hy (And.intro k0 (And.intro k1 k2));clear k0 k1 k2 k3 k4 k5 k6 k7 k8 k9 Ak Al;have e5:decide (s < sh)=true:=by simpa using Ad
 go_wp2_with fail;go_loopw [5,6] (fun v5 Am wr=>CpR W c s n v5 Am wr) (fun _ v _=>n - (intOf v).toNat)
 case atStart=>exact ⟨0,none,0,nz _,rfl,rfl,World.ownsRow_nil _ _ _ _,bf _ _⟩
 case round=>
  obtain ⟨k,f,cap,AB,rfl,rfl,U,B⟩:=hrel;have Q:=Hy (P.below B.o HG.o);have K:=Hy (HB.trans (B.mono HB.size));obtain ⟨c0,c1,i,c3,c4,c5,c6,c7,c8,c9,h,c11⟩:=c12 Q.o;rw [T.o] at c3;rw [F.o] at i
  by_cases AC:k < n
  ·have e1:(k:Int) < (n:Int):=by omega
   have y:=Hy (A.o wr K.o);rw [T.o,F.o] at y;go_wp2_with fail;refine y.mono ?_;rintro e w1 ⟨rfl,N⟩;have Y:=Hy (Qa U.o N);have d2:=(N.cell (p:=⟨w.heap.size,2,none⟩) (cell?_lt i)).trans i;have E:=Hy (B.trans (N.mono B.size));clear N y U B K Q c0 c1 i c3 c4 c5 c6 c7 c8 c9 h c11;have ⟨r,Ag⟩:=gn ((s+(k:Int)).tmod wk);have L:(s+(k:Int)) % wk=r:=by rw [<- Ag,Int.tmod_eq_emod_of_nonneg (by omega)]
   have AD:0<=r:=by rw [<- L];exact Int.emod_nonneg _ (by omega)
   have AE:r < 5:=by have:=Int.emod_lt_of_pos (s+(k:Int)) (show 0 < wk by omega);omega
   have u:=Hy L;have A1:k+1<=maxLen:=by unfold maxLen;omega
   have A2:(k+1) * 8<=140737488355328:=by omega
   have m:=E.size;have es:IntKind.i64.wrap (s+(k:Int))=s+(k:Int):=zq _ (by omega) (by omega);have A7:IntKind.i64.wrap (1+r)=1+r:=zq _ (by omega) (by omega);clear L;go_wp2_with (at_builtin;refine wa Xc underlying26 (Y.alloc _) (Src.one' underlying26 w1 _ 3 rfl) A1 A2 (by simp;omega) ?_;intro z Aa w5 D l;have q:=Hy ((E.alloc m _).grown l (by simp;omega) (Xa Y.o));have Z:=Hy D;clear D l);go_roundw
   case rel=>exact ⟨k+1,z,Aa,by omega,by go_num,rfl,(by unfold Hid;rw [List.range_succ,List.map_append,Yd,List.map_cons,List.map_nil,F.o,u.o];rw [F.o] at Z;exact Z.o),q.o⟩
   case measure=>simp [intOf];omega
  have Ae:k=n:=by omega
  subst Ae;have C:wr.ownsRow w.heap.size 3 1 (.slice f k cap) k (ints ((List.range k).map (fun j:Nat=>1+(s+(j:Int)) % c.wk))):=⟨U.1,U.2.imp id (fun ⟨g,cap,Ab,h1,h2,h3⟩=>⟨g,cap,Ab,h1,nr HB.size h2,h3⟩)⟩;rw [<- a.o] at C;have t:=Hy C;clear C U a;go_wp2_with fail;go_ret;exact ⟨f,cap,by rw [H.o];rfl,by rw [H.o];exact t.o,K.o⟩
theorem zav:(Tryz.prog.info? 172).map (fun i=>(i.zero,i.size,i.bytes))=some (some (.agg #[(),(),false,false,(),.string ⟨#[]⟩,.slice none 0 0]),7,72):=by kernel_rfl
def RwR (w:World) (p:Nat) (n:Int) (l:List Int) (v7:Value) (wr:World):Prop:=∃ (k c:Nat) (ao:Option Addr),k<=l.length/\v7=.int .i64 k/\Hid (Blk wr p 175 [.slice ao k c,n,.slice none 0 0])/\Hid (wr.ownsRow w.heap.size 172 7 (.slice ao k c) k (((l.take k).map newMS).flatMap MS.cells))/\Hid (Below w.heap.size w wr)
theorem ZB (a:Option Addr) (m cap:Nat) (l:List Int) (n:Int) (w:World) (hr:Rd w a m cap (ints l)) (h1:1<=m) (h2:m<=6) (h3:1<=n) (h4:n<=10):
  Calls prog 133 #[.slice a m cap,n] w fun e w'=>e=.returned (.tuple #[.pointer (some ⟨w.heap.size,0,none⟩),()])/\(∃ qs c R sp ta tc,RMx w' w.heap.size n (l.map newPS) [] qs c R sp ta tc/\w.heap.size<=qs/\ta=none/\∀ (i:Nat) (m:MS),R[i]?=some m->m.wa=none)/\Below w.heap.size w w':=by
 obtain ⟨i0,hi,Ao,Ap,Aq⟩:=info_parts zav;clear hi Ao Ap Aq;have q:l.length=m:=by rw [<- hr.1,yx]
 have HR:=Hy hr;have F:=Hy q;clear hr q;have e1:decide ((m:Int) < 1)=false:=by simp;omega
 have e2:decide (6 < m)=false:=by simp;omega
 have A0:decide ((6:Int) < (m:Int))=false:=by simp;omega
 have V:Below w.heap.size w (w.alloc (.cells #[.slice none 0 0,n,.slice none 0 0] 175)):=(bf _ _).alloc (nl _) _;have r:Blk (w.alloc (.cells #[.slice none 0 0,n,.slice none 0 0] 175)) w.heap.size 175 [.slice none 0 0,n,.slice none 0 0]:=hn_ w _;have T:=Hy V;have I:=Hy r;clear V r;go_in;go_wp2_with fail;generalize w.alloc (.cells #[.slice none 0 0,n,.slice none 0 0] 175)=w1 at *;have ⟨p,hp⟩:=gn w.heap.size;rw [hp] at I ⊢;have L:=Hy hp;clear hp;go_loopw [7] (fun v wr=>RwR w p n l v wr) (fun v _=>m - (intOf v).toNat)
 case atStart=>exact ⟨0,0,none,nz _,rfl,I.o,World.ownsRow_nil _ _ _ _,T.o⟩
 case round=>
  clear I T;obtain ⟨k,c,M,Ak,rfl,HP,HO,HB⟩:=hrel;rw [F.o] at Ak;have c1:=HP.cell 0;rw [show ([.slice M k c,n,.slice none 0 0]:List Value)[0]?=some (.slice M k c) from rfl] at c1
  by_cases A:k < m
  ·obtain ⟨b,o,rfl,A6,W⟩:=(HR.below HB.o rfl).2.2.2.2 k A
   rw [Zac l k (by rw [F.o];exact A)] at W;have ⟨d,hd⟩:=gn (l[k]'(by rw [F.o];exact A));rw [hd] at W;have t:l.take (k+1)=l.take k++[d]:=by rw [List.take_add_one,List.getElem?_eq_getElem (by rw [F.o];exact A),hd];rfl
   have Af:=Hy t;have k1:(0:Int)<=(k:Int):=by omega
   have k2:(k:Int) < (m:Int):=by omega
   have A1:k+1<=maxLen:=by unfold maxLen;omega
   have A2:(k+1) * 72<=140737488355328:=by omega
   have hz:=HB.size
   have HS:Hid (Src prog 7 173 (.slice (some ⟨wr.heap.size,0,none⟩) 1 1) 1 (newMS d).cells (wr.alloc (.cells #[d,(),.bool (decide (d < 0)),false,(),.string ⟨#[]⟩,.slice none 0 0] 172)).drew):=
    Src.ofSlice _ underlying173 ⟨wr.heap.size,0,none⟩ 1 1 (newMS d).cells rfl (World.news_of_block (show ((wr.alloc (.cells #[d,(),.bool (decide (d < 0)),false,(),.string ⟨#[]⟩,.slice none 0 0] 172)).drew).heap[wr.heap.size]?=_ from hn_ wr _)) (shOne _)
   have G:Hid ((wr.alloc (.cells #[d,(),.bool (decide (d < 0)),false,(),.string ⟨#[]⟩,.slice none 0 0] 172)).drew.ownsRow w.heap.size 172 7 (.slice M k c) k (((l.take k).map newMS).flatMap MS.cells)):=HO.alloc _;have J:Hid (Blk (wr.alloc (.cells #[d,(),.bool (decide (d < 0)),false,(),.string ⟨#[]⟩,.slice none 0 0] 172)).drew p 175 [.slice M k c,n,.slice none 0 0]):=Blk.alloc HP.o _;have U:Hid (Below w.heap.size w (wr.alloc (.cells #[d,(),.bool (decide (d < 0)),false,(),.string ⟨#[]⟩,.slice none 0 0] 172)).drew):=below_drewN (HB.alloc hz _) 1
   have A3:w.heap.size<=(wr.alloc (.cells #[d,(),.bool (decide (d < 0)),false,(),.string ⟨#[]⟩,.slice none 0 0] 172)).drew.heap.size:=U.size;have A7:(wr.alloc (.cells #[d,(),.bool (decide (d < 0)),false,(),.string ⟨#[]⟩,.slice none 0 0] 172)).cell? ⟨p,0,none⟩=some (.slice M k c):=(J.cell 0).trans rfl;clear hd t;go_wp2_with fail;go_region_law (first | (refine sa zav underlying173 G.o HS.o A1 A2 A3 ?_;intro N c2 w5 B Q;have D:=J.frm (Frm.grown (S:=fun i=>(Value.slice M k c).ownBlock=some i) Q (fun g h=>h)) (fun e=>Qb G.o J.o (by decide) _ e rfl);have c15:=(D.cell 0).trans (show _=some (.slice M k c) from rfl);have A4:=D.frozen 0;have K:=Hy D;have H:=Hy B;have E:=Hy (U.grown Q A3 (fun b hb=>(G.lt b hb).1));clear D B Q))
   all_goals
    have j:=Qb H.o K.o (by decide);have C:Frm (fun i=>i=p) w5 (w5.setCell ⟨p,0,none⟩ (.slice N (k+1:Nat) c2)):=(Frm.refl _ _).setCell _ _ (.inl rfl);have Ac:=Hy (za H.o C j);have Aa:=Hy (E.trans (C.toBelow E.size (fun i hi e=>by have:=L.o;omega)));have Ae:=Hy (K.set 0 (.slice N (k+1:Nat) c2));clear j C H E K;go_wp2_with fail;go_roundw
    case rel=>exact ⟨k+1,c2,N,by rw [F.o];omega,by go_num,Ae.o,by unfold Hid;rw [Af.o,List.map_append,List.flatMap_append];simpa using Ac.o,Aa.o⟩
    case measure=>simp [intOf];omega
  have Al:k=m:=by omega
  subst Al;clear A;have P:l.take k=l:=List.take_of_length_le (by rw [F.o];exact nl _)
  have f:∃ qs c R sp ta tc,RMx wr p n (l.map newPS) [] qs c R sp ta tc/\w.heap.size<=qs/\ta=none/\∀ (i:Nat) (m:MS),R[i]?=some m->m.wa=none:=by
   have y:=HO.o;rw [P] at y;obtain ⟨g,cap,hv,Ah,_⟩:=y.form (by omega);simp only [Value.slice.injEq,true_and] at hv;obtain ⟨rfl,rfl⟩:=hv;obtain ⟨sp,A8,Ai⟩:=ze y
   have Aj:k<=c/\c<=maxLen:=by
    rcases y.2 with ⟨h',_⟩ | ⟨g',cap',cur,h',_,_,hnc,hmx,_⟩
    ·simp at h'
    ·simp only [Value.slice.injEq] at h';obtain ⟨_,_,rfl⟩:=h';exact ⟨hnc,hmx⟩
   have Am:=F.o;refine ⟨g,c,l.map newMS,sp,none,0,⟨?_,Ai,by simp;omega,Aj.2,⟨rfl,nl _,nz _,fun _=>rfl,fun i x u=>by simp at u⟩,(fun b o s e=>by cases e),by simp,?_,⟨by simp;omega,by simp,h3,h4⟩,?_⟩,Ah,rfl,?_⟩
   ·rw [List.length_map,Am];exact HP.o
   ·intro i ms s Z z
    rw [List.getElem?_map,Option.map_eq_some_iff] at Z z;obtain ⟨d,hd,rfl⟩:=Z;obtain ⟨d',Y,rfl⟩:=z;rw [hd] at Y;cases Y;exact ⟨rfl,rfl,rfl,rfl,rfl,⟨rfl,nl _,nz _,fun _=>rfl,fun i x u=>by simp [newPS] at u⟩,fun b o sp e=>by simp [newMS] at e,nz _⟩
   ·intro s z
    obtain ⟨d,_,rfl⟩:=List.mem_map.1 z;exact ⟨by show (0:Nat)<=1000000;omega,fun x u=>by simp [newPS] at u⟩
   ·intro i ms Z
    rw [List.getElem?_map,Option.map_eq_some_iff] at Z;obtain ⟨d,hd,rfl⟩:=Z;rfl
  have Ab:=Hy f;clear f;go_wp2_with fail;go_ret2;refine ⟨by rw [L.o];rfl,?_,HB.o⟩;have:=Ab.o;rw [<- L.o] at this;exact this
end Go.Proofs.YtinkbgeckjbnbaaGreat
