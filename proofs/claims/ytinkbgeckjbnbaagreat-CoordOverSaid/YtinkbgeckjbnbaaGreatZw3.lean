/- Lemmas (part 3). -/
import Derived.Laws.StructEq
import Derived.OwnWalk
import Derived.Laws.OwnMore
import Derived.Test.YtinkbgeckjbnbaaGreatRows
import Derived.Test.YtinkbgeckjbnbaaGreatZw2
namespace Go.Proofs.YtinkbgeckjbnbaaGreat
open Go.RowKit Go.Proofs.Tryz
set_option autoImplicit true
set_option relaxedAutoImplicit true
set_option linter.unusedVariables false
set_option linter.unusedSimpArgs false
set_option maxRecDepth 100000
set_option maxHeartbeats 32000000
def P3 (D:Nat->KeyL) (q c:Nat):Bool:=kless (D (q - 1 - c)) (D c)
theorem xY {q s0 r0 h k:Nat} (h1:Srt kless D a m) (h2:Srt kless D m b) (ha:a<=s0) (hr:r0<=m) (hb:q<=b+s0) (hm:m+r0<=q) (k1:s0<=k) (k2:k<=h) (k3:h < r0) (hl:P3 D q h=false):P3 D q k=false:=by
 unfold P3 at *
 by_cases e:k=h
 ·rw [e];exact hl
 have A:=h1 k h (by omega) (by omega) (by omega)
 have B:=h2 (q - 1 - h) (q - 1 - k) (by omega) (by omega) (by omega);exact Qd.trans _ _ _ (Qd.trans _ _ _ A hl) B
theorem xa4 {q s0 r0 h k:Nat} (h1:Srt kless D a m) (h2:Srt kless D m b) (ha:a<=s0) (hr:r0<=m) (hb:q<=b+s0) (hm:m+r0<=q) (k1:s0<=h) (k2:h<=k) (k3:k < r0) (hl:P3 D q h=true):P3 D q k=true:=by
 cases A:P3 D q k
 ·have:=xY h1 h2 ha hr hb hm k1 k2 k3 A
  rw [this] at hl;exact absurd hl (by decide)
 rfl
def S3R (w:World) (g n s0 r0 q:Nat) (D:Nat->KeyL) (sp:List Value) (v10 v11:Value) (wr:World):Prop:=∃ i j:Nat,s0<=i/\i<=j/\j<=r0/\v10=.int .i64 i/\v11=.int .i64 j/\Hid (∀ k,s0<=k->k < i->P3 D q k=false)/\Hid (∀ k,j<=k->k < r0->P3 D q k=true)/\Hid (HI wr g n D sp)/\Hid (Frm (fun k=>k=g) w wr)
theorem xaU (g n c a m b:Nat) (D:Nat->KeyL) (sp:List Value) (w:World) (h:HI w g n D sp) (h1:a+2<=m) (h2:m+2<=b) (h3:b<=n) (hn:n<=100000) (AK:Srt kless D a m) (AL:Srt kless D m b)
  (ih:∀ a' m' b' E W,b' - a' < b - a->a' < m'->m' < b'->b'<=n->HI W g n E sp->Srt kless E a' m'->Srt kless E m' b'->Calls prog 211 #[.slice (some ⟨g,0,none⟩) n c,(a':Nat),(m':Nat),(b':Nat),cmpV] W fun e w'=>Zu W g n a' b' E sp e w'):
  Calls prog 211 #[.slice (some ⟨g,0,none⟩) n c,a,m,b,cmpV] w fun e w'=>Zu w g n a b D sp e w':=by
 unfold cmpV at ih ⊢;have HH:=Hy h;have At:=Hy AK;have Au:=Hy AL;have Ak:=Hy ih;clear h AK AL ih;have ⟨d,hd⟩:=gn (m - a);have w1:IntKind.i64.wrap ((m:Int) - (a:Int))=(d:Int):=by rw [IntWalk.i64_in _ (by omega)];omega
 have d1:((d:Int) == 1)=false:=by simp;omega
 have ⟨d',Bf⟩:=gn (b - m);have w2:IntKind.i64.wrap ((b:Int) - (m:Int))=(d':Int):=by rw [IntWalk.i64_in _ (by omega)];omega
 have d2:((d':Int) == 1)=false:=by simp;omega
 clear hd Bf;have ⟨A,Am⟩:=gn ((a+b) / 2);have wm:((a:Int)+(b:Int)) / 2=(A:Int):=by omega
 have m1:a < A:=by omega
 have m2:A < b:=by omega
 have ⟨q,hq⟩:=gn (A+m);have wq:IntKind.i64.wrap ((A:Int)+(m:Int))=(q:Int):=by rw [IntWalk.i64_in _ (by omega)];omega
 have ⟨p,hp⟩:=gn (q - 1);have wp:IntKind.i64.wrap ((q:Int) - 1)=(p:Int):=by rw [IntWalk.i64_in _ (by omega)];omega
 have Bg:∃ f r0:Nat,(a<=f/\f<=r0/\r0<=m/\r0<=A/\q<=b+f/\m+r0<=q/\(f=a∨q=b+f)/\(r0=m∨r0=A))/\(A < m/\q - b=f/\A=r0∨m<=A/\a=f/\m=r0):=by
  by_cases Bk:A < m
  ·exact ⟨q - b,A,by omega,.inl ⟨Bk,rfl,rfl⟩⟩
  ·exact ⟨a,m,by omega,.inr ⟨by omega,rfl,rfl⟩⟩
 obtain ⟨f,r0,⟨f1,f2,f3,f4,f5,f6,f7,f8⟩,Az⟩:=Bg;have HQ:=Hy hq;have HP:=Hy hp;have A7:=Hy f7;have A8:=Hy f8;have BT:q<=A+m:=by omega
 have B6:A+m<=q:=by omega
 have A1:p+1=q:=by omega
 have BF:=Hy A1;have B4:p < q:=by omega
 have B5:q<=p+1:=by omega
 go_in;rcases Az with ⟨c1,c2,c3⟩ | ⟨c1,c2,c3⟩
 focus
  have dm:decide ((A:Int) < (m:Int))=true:=by simp;omega
  have wb:IntKind.i64.wrap ((q:Int) - (b:Int))=(f:Int):=by rw [IntWalk.i64_in _ (by omega)];omega
  have HC:=Hy (by rw [c3]:(Value.int .i64 (f:Int),Value.int .i64 (A:Int))=(.int .i64 (f:Int),.int .i64 (r0:Int)));clear Am hq hp f7 f8 c2 c3 A1;go_wp2_with fail;clear w1 w2 d1 d2 wm wq wp dm wb
 rotate_left
 focus
  have dm:decide ((A:Int) < (m:Int))=false:=by simp;omega
  have BN:decide (A < m)=false:=by simp;omega
  have HC:=Hy (by rw [c2,c3]:(Value.int .i64 (a:Int),Value.int .i64 (m:Int))=(.int .i64 (f:Int),.int .i64 (r0:Int)));clear Am hq hp f7 f8 c2 c3 A1;go_wp2_with fail;clear w1 w2 d1 d2 wm wq wp dm
 all_goals
  go_loopw [20,21] (fun A2 A3 wr=>S3R w g n f r0 q D sp A2 A3 wr) (fun A2 A3 _=>(intOf A3).toNat - (intOf A2).toNat)
  case atStart=>exact ⟨f,r0,by omega,by omega,by omega,(congrArg Prod.fst HC.o),(congrArg Prod.snd HC.o),fun k k1 k2=>by omega,fun k k1 k2=>by omega,HH.o,Frm.refl _ _⟩
  case round=>
   clear HC c1;clear HH;obtain ⟨i,j,Bh,BQ,Bi,rfl,rfl,As,Ar,HH,HF⟩:=hrel
   by_cases BR:i < j
   ·have ⟨h,Z⟩:=gn ((i+j) / 2)
    have wh:((i:Int)+(j:Int)) / 2=(h:Int):=by omega
    have q1:i<=h:=by omega
    have q2:h < j:=by omega
    have ⟨o,ho⟩:=gn (p - h);have wo:IntKind.i64.wrap ((p:Int) - (h:Int))=(o:Int):=by rw [IntWalk.i64_in _ (by omega)];omega
    have AT:=Hy (fun (hl:P3 D q h=false) k (k1:f<=k) (k2:k < h+1)=>xY At.o Au.o f1 f3 f5 f6 k1 (by omega:k<=h) (by omega:h < r0) hl);have AY:=Hy (fun (hl:P3 D q h=true) k (k1:h<=k) (k2:k < r0)=>xa4 At.o Au.o f1 f3 f5 f6 (by omega:f<=h) k1 k2 hl);have AB:=Hy (by unfold P3;rw [show q - 1 - h=o by omega]:P3 D q h=kless (D o) (D h));have AX:=Hy (Xw (D o) (D h));have BH:h < n:=by omega
    have BJ:(0:Int)<=(h:Int):=by omega
    have BL:(h:Int) < (n:Int):=by omega
    have BI:o < n:=by omega
    have BK:(0:Int)<=(o:Int):=by omega
    have BM:(o:Int) < (n:Int):=by omega
    have x0:=HH.c0 (k:=o) (by omega);have x1:=HH.c1 (k:=o) (by omega);have y0:=HH.c0 (k:=h) (by omega);have y1:=HH.c1 (k:=h) (by omega);clear Z ho;have Al:=Blk.lt HH.o;have A0:=AX.o;have ⟨x,hx⟩:=gn (D o);have ⟨y,hy⟩:=gn (D h);rw [hx,hy] at A0;rw [hx] at x0 x1;rw [hy] at y0 y1;have AC:=Hy (by rw [hx,hy]:kless x y=kless (D o) (D h));clear hx hy;go_upto_region 35 with fail;go_region_held3 (fun w'=>w'.cell? ⟨g,o * 2,none⟩=some (.int .i64 x.1)/\w'.cell? ⟨g,o * 2+1,none⟩=some (.string x.2)/\w'.cell? ⟨g,h * 2,none⟩=some (.int .i64 y.1)/\w'.cell? ⟨g,h * 2+1,none⟩=some (.string y.2)) (first | go_keep | exact ⟨(HB.cell (p:=⟨g,o * 2,none⟩) Al).trans x0,(HB.cell (p:=⟨g,o * 2+1,none⟩) Al).trans x1,(HB.cell (p:=⟨g,h * 2,none⟩) Al).trans y0,(HB.cell (p:=⟨g,h * 2+1,none⟩) Al).trans y1⟩) ((go_at_call 142;refine (xo x.1 x.2 y.1 y.2 _).mono ?_;rintro e u ⟨rfl,hb⟩;have HB:=Hy hb;clear hb))
    have AA:=Hy ((show HI wr.drew g n D sp from HH.o).below HB.o);have A9:=Hy (HF.drew.trans (Frm.below (S:=fun k=>k=g) HB.o) (fun _ h _=>h));clear x0 x1 y0 y1 HH HF HB;cases Ad:kless x y
    ·have HK:=Hy ((AB.trans AC.symm).trans Ad)
     rw [Ad] at A0;clear Ad;go_wp2_with fail;clear wh wo;go_roundw
     case rel=>exact ⟨h+1,j,by omega,by omega,Bi,by go_num,rfl,AT.o HK.o,Ar.o,AA.o,A9.o⟩
     case measure=>simp [intOf];omega
    have HK:=Hy ((AB.trans AC.symm).trans Ad)
    rw [Ad] at A0;clear Ad;go_wp2_with fail;clear wh wo;go_roundw
    case rel=>exact ⟨i,h,Bh,q1,by omega,rfl,rfl,As.o,AY.o HK.o,AA.o,A9.o⟩
    case measure=>simp [intOf];omega
   obtain rfl:i=j:=by omega
   have R:CutOK kless D a m b A i:=⟨by omega,by omega,by omega,by omega,fun k1 k2=>by
    have f7:=A7.o;have:=As.o (i - 1) (by omega) (by omega);unfold P3 at this;rwa [show q - 1 - (i - 1)=A+m - i by omega] at this,fun k1 k2=>by
    have f8:=A8.o;have:=Ar.o i (by omega) (by omega);unfold P3 at this;rwa [show q - 1 - i=A+m - i - 1 by omega] at this⟩
   obtain ⟨e1,e2,e3,e4,e5⟩:=yat Qd At.o Au.o (by omega) (by omega) (by omega) (by omega) R;have ⟨en,AJ⟩:=gn (A+m - i);rw [AJ] at e1 e2 e3 e4 e5;have we:IntKind.i64.wrap ((q:Int) - (i:Int))=(en:Int):=by rw [IntWalk.i64_in _ (by omega)];omega
   have g1:a<=i:=R.lo;have g2:i<=m:=R.le;have g3:i<=A:=R.lm;have g4:en<=b:=by have:=R.hi;omega
   have g5:m<=en:=by omega
   have g6:A<=en:=by omega
   have g7:i=m->A=en:=by omega
   have g8:en=m->i=A:=by omega
   have J:=Hy e1;have K:=Hy e2;have L:=Hy e3;have M:=Hy e4;have l:=Hy e5;have AU:=Hy g7;have BD:=Hy g8;clear e1 e2 e3 e4 e5 R AJ As Ar A7 A8 HP HQ g7 g8
   by_cases An:i < m/\m < en
   ·obtain ⟨r1,r2⟩:=An
    have Ax:decide ((i:Int) < (m:Int))=true:=by simp;omega
    have AH:decide ((m:Int) < (en:Int))=true:=by simp;omega
    go_wp2_with fail
    (with_reducible refine (QQ g n c i m en D sp _ _ HH.o r1 r2 (by omega) hn).mono ?_)
    rintro e w1 ⟨rfl,Z,hf,B⟩;have N:=Hy Z;have T:=Hy (HF.trans hf (fun _ h _=>h));have C:=Hy (show Seg a b D (rotF D i m en) from B.mono g1 g4);clear Z hf B Ax AH we HH HF;generalize rotF D i m en=E at *
    by_cases hA:a < i/\i < A
    focus
     obtain ⟨Q,Y⟩:=hA
     have z:decide ((a:Int) < (i:Int))=true:=by simp;omega
     have Ag:decide ((i:Int) < (A:Int))=true:=by simp;omega
     go_wp2_with fail
     (with_reducible refine (Ak.o a i A E _ (by omega) Q Y (by omega) N.o J.o K.o).mono ?_)
     rintro e w2 ⟨rfl,G,Z,hf,B,P⟩;have V:=Hy Z;have U:=Hy (T.trans hf (fun _ h _=>h));have I:=Hy (C.trans (B.mono (nl a) (by omega:A<=b)));have t:=Hy B;have v:=Hy P;have r:=Hy (show Srt kless G A en from L.congr fun k k1 _=>B.out k (by omega));have s:=Hy (show Srt kless G en b from M.congr fun k k1 _=>B.out k (by omega));clear Z hf B P z Ag Q Y N T C J K L M
    rotate_left
    focus
     have Af:=Hy (show Srt kless E a A from by
      by_cases Q:a=i
      ·have:=K.o;rwa [<- Q] at this
      ·have Y:i=A:=by omega
       have:=J.o;rwa [Y] at this)
     by_cases Q:a < i
     focus
      have z:decide ((a:Int) < (i:Int))=true:=by simp;omega
      have Ag:decide ((i:Int) < (A:Int))=false:=by simp;omega
      have AE:decide (i < A)=false:=by simp;omega
     rotate_left
     focus
      have z:decide ((a:Int) < (i:Int))=false:=by simp;omega
      have AD:decide (a < i)=false:=by simp;omega
     all_goals
      clear hA;have ⟨G,F⟩:=gn E;have V:=Hy (by rw [<- F];exact N.o:HI w1 g n G sp);have U:=Hy T.o;have I:=Hy (by rw [<- F];exact C.o:Seg a b D G);have t:=Hy (by rw [<- F];exact Seg.refl a A E:Seg a A E G);have v:=Hy (by rw [<- F];exact Af.o:Srt kless G a A);have r:=Hy (by rw [<- F];exact L.o:Srt kless G A en);have s:=Hy (by rw [<- F];exact M.o:Srt kless G en b);clear F;generalize w1=w2 at *;clear N T C Af J K L M
    all_goals
     by_cases hB:A < en/\en < b
     ·obtain ⟨Q,Y⟩:=hB
      have Ah:decide ((A:Int) < (en:Int))=true:=by simp;omega
      have Aw:decide ((en:Int) < (b:Int))=true:=by simp;omega
      go_wp2_with fail
      (with_reducible refine (Ak.o A en b G _ (by omega) Q Y h3 V.o r.o s.o).mono ?_)
      rintro e w3 ⟨rfl,E3,Z,hf,B,P⟩;have Aq:=Hy Z;have Ap:=Hy (U.trans hf (fun _ h _=>h));have Ae:=Hy (I.trans (B.mono (by omega:a<=A) (nl b)));have H:=Hy (Yb (by omega) (by omega) l.o t.o v.o B P);clear Z hf B P;go_wp2_with fail;go_end0;exact ⟨rfl,E3,Aq.o,Ap.o,Ae.o,H.o⟩
     have Av:=Hy (show Srt kless G A b from by
      by_cases Q:A=en
      ·have:=s.o;rwa [<- Q] at this
      ·have Y:en=b:=by omega
       have:=r.o;rwa [Y] at this)
     have H:=Hy (Yb (by omega) (by omega) l.o t.o v.o (Seg.refl A b G) Av.o)
     by_cases Q:A < en
     ·have Ah:decide ((A:Int) < (en:Int))=true:=by simp;omega
      have Aw:decide ((en:Int) < (b:Int))=false:=by simp;omega
      have AG:decide (en < b)=false:=by simp;omega
      clear hB;go_wp2_with fail;go_end0;exact ⟨rfl,G,V.o,U.o,I.o,H.o⟩
     have Ah:decide ((A:Int) < (en:Int))=false:=by simp;omega
     have AF:decide (A < en)=false:=by simp;omega
     clear hB;go_wp2_with fail;go_end0;exact ⟨rfl,G,V.o,U.o,I.o,H.o⟩
   have hE:rotF D i m en=D:=by
    by_cases r1:i=m
    ·have:=AU.o r1;subst r1;exact yQ D i en (by omega)
    ·have r2:en=m:=by omega
     rw [r2];exact xQ D i m
   rw [hE] at J K L M l;have C:=Hy (Seg.refl a b D);have N:=Hy HH.o;have T:=Hy HF.o;generalize wr=w1 at *;clear HH HF hE
   by_cases r1:i < m
   focus
    have Ax:decide ((i:Int) < (m:Int))=true:=by simp;omega
    have AH:decide ((m:Int) < (en:Int))=false:=by simp;omega
    have Bw:decide (m < en)=false:=by simp;omega
    have HE:=Hy (rfl:D=D);have ⟨E,hE⟩:=gn D;rw [hE] at J K L M l N;have C:=Hy (show Seg a b D E from hE ▸ C.o);clear hE HE
   rotate_left
   focus
    have Ax:decide ((i:Int) < (m:Int))=false:=by simp;omega
    have Bv:decide (i < m)=false:=by simp;omega
    have ⟨E,hE⟩:=gn D;rw [hE] at J K L M l N;have C:=Hy (show Seg a b D E from hE ▸ C.o);clear hE
   all_goals
    clear An
    by_cases hA:a < i/\i < A
    focus
     obtain ⟨Q,Y⟩:=hA
     have z:decide ((a:Int) < (i:Int))=true:=by simp;omega
     have Ag:decide ((i:Int) < (A:Int))=true:=by simp;omega
     go_wp2_with fail
     (with_reducible refine (Ak.o a i A E _ (by omega) Q Y (by omega) N.o J.o K.o).mono ?_)
     rintro e w2 ⟨rfl,G,Z,hf,B,P⟩;have V:=Hy Z;have U:=Hy (T.trans hf (fun _ h _=>h));have I:=Hy (C.trans (B.mono (nl a) (by omega:A<=b)));have t:=Hy B;have v:=Hy P;have r:=Hy (show Srt kless G A en from L.congr fun k k1 _=>B.out k (by omega));have s:=Hy (show Srt kless G en b from M.congr fun k k1 _=>B.out k (by omega));clear Z hf B P z Ag Q Y N T C J K L M
    rotate_left
    focus
     have Af:=Hy (show Srt kless E a A from by
      by_cases Q:a=i
      ·have:=K.o;rwa [<- Q] at this
      ·have Y:i=A:=by omega
       have:=J.o;rwa [Y] at this)
     by_cases Q:a < i
     focus
      have z:decide ((a:Int) < (i:Int))=true:=by simp;omega
      have Ag:decide ((i:Int) < (A:Int))=false:=by simp;omega
      have AE:decide (i < A)=false:=by simp;omega
     rotate_left
     focus
      have z:decide ((a:Int) < (i:Int))=false:=by simp;omega
      have AD:decide (a < i)=false:=by simp;omega
     all_goals
      clear hA;have ⟨G,F⟩:=gn E;have V:=Hy (by rw [<- F];exact N.o:HI w1 g n G sp);have U:=Hy T.o;have I:=Hy (by rw [<- F];exact C.o:Seg a b D G);have t:=Hy (by rw [<- F];exact Seg.refl a A E:Seg a A E G);have v:=Hy (by rw [<- F];exact Af.o:Srt kless G a A);have r:=Hy (by rw [<- F];exact L.o:Srt kless G A en);have s:=Hy (by rw [<- F];exact M.o:Srt kless G en b);clear F;generalize w1=w2 at *;clear N T C Af J K L M
    all_goals
     by_cases hB:A < en/\en < b
     ·obtain ⟨Q,Y⟩:=hB
      have Ah:decide ((A:Int) < (en:Int))=true:=by simp;omega
      have Aw:decide ((en:Int) < (b:Int))=true:=by simp;omega
      go_wp2_with fail
      (with_reducible refine (Ak.o A en b G _ (by omega) Q Y h3 V.o r.o s.o).mono ?_)
      rintro e w3 ⟨rfl,E3,Z,hf,B,P⟩;have Aq:=Hy Z;have Ap:=Hy (U.trans hf (fun _ h _=>h));have Ae:=Hy (I.trans (B.mono (by omega:a<=A) (nl b)));have H:=Hy (Yb (by omega) (by omega) l.o t.o v.o B P);clear Z hf B P;go_wp2_with fail;go_end0;exact ⟨rfl,E3,Aq.o,Ap.o,Ae.o,H.o⟩
     have Av:=Hy (show Srt kless G A b from by
      by_cases Q:A=en
      ·have:=s.o;rwa [<- Q] at this
      ·have Y:en=b:=by omega
       have:=r.o;rwa [Y] at this)
     have H:=Hy (Yb (by omega) (by omega) l.o t.o v.o (Seg.refl A b G) Av.o)
     by_cases Q:A < en
     ·have Ah:decide ((A:Int) < (en:Int))=true:=by simp;omega
      have Aw:decide ((en:Int) < (b:Int))=false:=by simp;omega
      have AG:decide (en < b)=false:=by simp;omega
      clear hB;go_wp2_with fail;go_end0;exact ⟨rfl,G,V.o,U.o,I.o,H.o⟩
     have Ah:decide ((A:Int) < (en:Int))=false:=by simp;omega
     have AF:decide (A < en)=false:=by simp;omega
     clear hB;go_wp2_with fail;go_end0;exact ⟨rfl,G,V.o,U.o,I.o,H.o⟩
theorem zax (g n c:Nat) (sp:List Value) (hn:n<=100000):∀ (N a m b:Nat) (E:Nat->KeyL) (W:World),b - a<=N->a < m->m < b->b<=n->HI W g n E sp->Srt kless E a m->Srt kless E m b->
  Calls prog 211 #[.slice (some ⟨g,0,none⟩) n c,(a:Nat),(m:Nat),(b:Nat),cmpV] W fun e w'=>Zu W g n a b E sp e w'
 | 0,a,m,b,E,W,hN,h1,h2,h3,h,hs1,hs2=>by omega
 | N+1,a,m,b,E,W,hN,h1,h2,h3,h,hs1,hs2=>by
  by_cases e1:m=a+1
  ·exact zaU g n c a m b E sp W h e1 h2 h3 hn hs2
  ·by_cases e2:b=m+1
   ·exact yaU g n c a m b E sp W h e1 e2 h1 h3 hn hs1
   ·exact xaU g n c a m b E sp W h (by omega) (by omega) h3 hn hs1 hs2 fun a' m' b' E' W' k1 k2 k3 k4 k5 k6 k7=>zax g n c sp hn N a' m' b' E' W' (by omega) k2 k3 k4 k5 k6 k7
theorem Ya3 (g n c a m b:Nat) (E:Nat->KeyL) (sp:List Value) (W:World) (h:HI W g n E sp) (h1:a < m) (h2:m < b) (h3:b<=n) (hn:n<=100000) (A:Srt kless E a m) (B:Srt kless E m b):
  Calls prog 211 #[.slice (some ⟨g,0,none⟩) n c,(a:Nat),(m:Nat),(b:Nat),cmpV] W fun e w'=>Zu W g n a b E sp e w':=
 zax g n c sp hn (b - a) a m b E W (nl _) h1 h2 h3 h A B
def StA (w:World) (g n:Nat) (D:Nat->KeyL) (sp:List Value) (v7 v8:Value) (wr:World):Prop:=∃ (a b:Nat) (E:Nat->KeyL),a<=n/\b<=a+20/\a+20<=b/\v7=.int .i64 a/\v8=.int .i64 b/\Hid (Upto kless E 20 a)/\Hid (Seg 0 n D E)/\Hid (HI wr g n E sp)/\Hid (Frm (fun k=>k=g) w wr)
def StB (w:World) (g n:Nat) (D:Nat->KeyL) (sp:List Value) (v6:Value) (wr:World):Prop:=∃ (s:Nat) (E:Nat->KeyL),20<=s/\s<=400000/\v6=.int .i64 s/\Hid (Chunks kless E s n 0)/\Hid (Seg 0 n D E)/\Hid (HI wr g n E sp)/\Hid (Frm (fun k=>k=g) w wr)
def StC (w:World) (g n s t:Nat) (D:Nat->KeyL) (sp:List Value) (v7 v8:Value) (wr:World):Prop:=∃ (a b:Nat) (E:Nat->KeyL),a<=n/\b<=a+t/\a+t<=b/\v7=.int .i64 a/\v8=.int .i64 b/\Hid (Upto kless E t a)/\Hid (Chunks kless E s n a)/\Hid (Seg 0 n D E)/\Hid (HI wr g n E sp)/\Hid (Frm (fun k=>k=g) w wr)
theorem yA {E':Nat->KeyL} {n:Nat} (h:Upto kless E t a) (ha:a<=n) (hn:n<=a+t) (ht:0 < t) (hE:∀ k,k < a->E' k=E k) (hs:Srt kless E' a n):Chunks kless E' t n 0:=by
 refine (h.congr hE).all ha ?_ ht
 by_cases e:a < n
 ·exact .cons e (by rw [show min (a+t) n=n by omega];exact hs) (.done hn)
 exact .done (by omega)
theorem Zaq (g n c:Nat) (D:Nat->KeyL) (sp:List Value) (w:World) (h:HI w g n D sp) (hn:n<=100000):
  Calls prog 205 #[.slice (some ⟨g,0,none⟩) n c,n,cmpV] w fun e w'=>Zu w g n 0 n D sp e w':=by
 have M:=Hy h;have Q:=Hy (fun a b D sp w h h1 Z=>Qal g n c a b D sp w h h1 Z hn);have R:=Hy (fun a m b D sp w h h1 Z h3 h4 h5=>Ya3 g n c a m b D sp w h h1 Z h3 hn h4 h5);unfold cmpV at Q R ⊢;clear h;go_in;go_wp2_with fail;go_loopw [7,8] (fun f v8 wr=>StA w g n D sp f v8 wr) (fun v _ _=>n - (intOf v).toNat)
 case atStart=>exact ⟨0,20,D,by omega,by omega,by omega,rfl,rfl,.zero,Seg.refl _ _ _,M.o,Frm.refl _ _⟩
 case round=>
  clear M;obtain ⟨a,b,E,d,p,q,rfl,rfl,L,C,M,P⟩:=hrel
  by_cases I:b<=n
  ·have w1:IntKind.i64.wrap ((b:Int)+20)=((b+20:Nat):Int):=by rw [IntWalk.i64_in _ (by omega)];omega
   go_wp2_with fail
   (with_reducible refine (Q.o a b E sp _ M.o (by omega) I).mono ?_)
   rintro e w1 ⟨rfl,Y,V,U,A,F⟩;have K:=Hy V;have J:=Hy (P.trans U (fun _ h _=>h));have B:=Hy (C.trans (A.mono (by omega:0<=a) I))
   have T:=Hy (show Upto kless Y 20 b from by
    have e:b=a+20:=by omega
    subst e;exact .snoc (L.congr fun k W=>A.out k (by omega)) F)
   clear V U A F;go_wp2_with fail;go_roundw
   case rel=>exact ⟨b,b+20,Y,I,by omega,by omega,rfl,rfl,T.o,B.o,K.o,J.o⟩
   case measure=>simp [intOf];omega
  have y:n < b:=by omega
  go_wp2_with fail
  (with_reducible refine (Q.o a n E sp _ M.o d (nl n)).mono ?_)
  rintro e w1 ⟨rfl,Y,V,U,A,F⟩;have K:=Hy V;have J:=Hy (P.trans U (fun _ h _=>h));have B:=Hy (C.trans (A.mono (by omega:0<=a) (nl n)));have H:=Hy (yA L.o d (by omega) (by omega) (fun k W=>A.out k (by omega)) F);clear V U A F L C M P;go_wp2_with fail;go_loopw [6] (fun v6 wq=>StB w g n D sp v6 wq) (fun v6 _=>n - (intOf v6).toNat)
  case atStart=>exact ⟨20,Y,by omega,by omega,rfl,H.o,B.o,K.o,J.o⟩
  case round=>
   clear K J B H;obtain ⟨s,G,Ar,As,rfl,H,C,M,P⟩:=hrel
   by_cases At:s < n
   ·have ⟨t,ht⟩:=gn (s+s)
    have wt:IntKind.i64.wrap (2 * (s:Int))=(t:Int):=by rw [IntWalk.i64_in _ (by omega)];omega
    have Az:IntKind.i64.wrap ((s:Int) * 2)=(t:Int):=by rw [IntWalk.i64_in _ (by omega)];omega
    have Au:t<=s+s:=by omega
    have Av:s+s<=t:=by omega
    have HT:=Hy ht;clear ht;go_wp2_with fail;go_loopw [7,8] (fun f v8 wz=>StC w g n s t D sp f v8 wz) (fun f _ _=>n - (intOf f).toNat)
    case atStart=>exact ⟨0,t,G,by omega,by omega,by omega,rfl,rfl,.zero,H.o,C.o,M.o,P.o⟩
    case round=>
     clear M P C H;obtain ⟨a,b,E,d,p,q,rfl,rfl,L,H,C,M,P⟩:=hrel;have ⟨m,hm⟩:=gn (a+s);have wm:IntKind.i64.wrap ((a:Int)+(s:Int))=(m:Int):=by rw [IntWalk.i64_in _ (by omega)];omega
     have Ao:m<=a+s:=by omega
     have Ap:a+s<=m:=by omega
     have HM:=Hy hm;clear hm
     by_cases I:b<=n
     ·have h1:=H.head (by omega)
      have Z:=h1.2.head (by omega);have i:=Hy (show Srt kless E a m from h1.1.mono (nl a) (by omega));have HB:=Hy (by rw [<- HM.o];exact Z.1.mono (nl _) (by omega):Srt kless E m b);have j:=Hy (by have:=Z.2;rwa [show a+s+s=b by omega] at this:Chunks kless E s n b);have ⟨r,hr⟩:=gn (b+t);have Ay:IntKind.i64.wrap ((b:Int)+(t:Int))=(r:Int):=by rw [IntWalk.i64_in _ (by omega)];omega
      have z:r<=b+t:=by omega
      have Aa:b+t<=r:=by omega
      clear h1 Z hr;go_wp2_with fail
      (with_reducible refine (R.o a m b E sp _ M.o (by omega) (by omega) I i.o HB.o).mono ?_)
      rintro e w3 ⟨rfl,Y,V,U,A,F⟩;have K:=Hy V;have J:=Hy (P.trans U (fun _ h _=>h));have B:=Hy (C.trans (A.mono (by omega:0<=a) I))
      have T:=Hy (show Upto kless Y t b from by
       have e:b=a+t:=by omega
       subst e;exact .snoc (L.congr fun k W=>A.out k (by omega)) F)
      have N:=Hy (j.congr (nl b) fun k W=>A.out k (by omega));clear V U A F;go_wp2_with fail;go_roundw
      case rel=>exact ⟨b,r,Y,I,z,Aa,rfl,rfl,T.o,N.o,B.o,K.o,J.o⟩
      case measure=>simp [intOf];omega
     have y:n < b:=by omega
     have Aj:decide ((b:Int)<=(n:Int))=false:=by simp;omega
     have Ae:decide (b<=n)=false:=by simp;omega
     by_cases u:m < n
     ·have h1:=H.head (by omega)
      have Z:=h1.2.head (by omega);have i:=Hy (show Srt kless E a m from h1.1.mono (nl a) (by omega));have HB:=Hy (by rw [<- HM.o];exact Z.1.mono (nl _) (by omega):Srt kless E m n);clear h1 Z I;go_wp2_with fail
      (with_reducible refine (R.o a m n E sp _ M.o (by omega) u (nl n) i.o HB.o).mono ?_)
      rintro e w3 ⟨rfl,Y,V,U,A,F⟩;have K:=Hy V;have J:=Hy (P.trans U (fun _ h _=>h));have B:=Hy (C.trans (A.mono (by omega:0<=a) (nl n)));have N:=Hy (show Chunks kless Y t n 0 from yA L.o d (by omega) (by omega) (fun k W=>A.out k (by omega)) F);clear V U A F;go_wp2_with fail;go_roundw
      case rel=>exact ⟨t,Y,by omega,by omega,rfl,N.o,B.o,K.o,J.o⟩
      case measure=>simp [intOf];omega
     have Ak:decide ((m:Int) < (n:Int))=false:=by simp;omega
     have Af:decide (m < n)=false:=by simp;omega
     have N:=Hy (show Chunks kless E t n 0 from by
      refine yA L.o d (by omega) (by omega) (fun k W=>rfl) ?_
      by_cases e:a < n
      ·exact (H.head e).1.mono (nl a) (by omega)
      ·exact Srt.one kless E (by omega))
     clear I;go_wp2_with fail;go_roundw
     case rel=>exact ⟨t,E,by omega,by omega,rfl,N.o,C.o,M.o,P.o⟩
     case measure=>simp [intOf];omega
   have l:=Hy (H.whole (by omega))
   go_wp2_with fail;go_end0;exact ⟨rfl,G,M.o,P.o,C.o,l.o⟩
theorem xR (g n c:Nat) (D:Nat->KeyL) (sp:List Value) (w:World) (h:HI w g n D sp) (hn:n<=100000):
  Calls prog 186 #[.slice (some ⟨g,0,none⟩) n c,cmpV] w fun e w'=>Zu w g n 0 n D sp e w':=by
 have F:=Hy (Zaq g n c D sp w h hn);clear h;unfold cmpV at F ⊢;go_in;go_wp2_with fail
 (with_reducible refine F.o.mono ?_)
 rintro e I ⟨rfl,E,H,G,A,B⟩;have C:=Hy (show Zu w g n 0 n D sp (.returned (.tuple #[])) I from ⟨rfl,E,H,G,A,B⟩);clear H G A B;go_wp2_with fail;go_end0;exact C.o
theorem Xaq {x y:ByteArray} (h:x≠y):(x.toList == y.toList)=false:=by
 rw [beq_eq_false_iff_ne];intro e;apply h;rw [ByteArray.toList_eq,ByteArray.toList_eq] at e;exact ByteArray.ext (Array.toList_inj.1 e)
def byteN (s:ByteArray) (i:Nat):Nat:=(s.get! i).toNat
theorem Qh (s:ByteArray) (i:Nat):byteN s i < 256:=(s.get! i).toNat_lt
theorem Zs (s:ByteArray) (i:Nat) (h:i < s.size):(s[i]'h).toNat=byteN s i:=by
 unfold byteN;have:=get_at s i h;rw [Nat.add_zero] at this;rw [this]
theorem Qf:(Tryz.prog.info? 46).map (fun i=>(i.zero,i.size,i.bytes))=some (some (.agg #[(),.string ⟨#[]⟩]),2,24):=by kernel_rfl
theorem itemOne (x:KeyL):∀ u∈x.cells,u.oneCell'=true:=by
 intro u A;unfold KeyL.cells at A;simp at A;rcases A with rfl | rfl <;> rfl
theorem ilen (l:List KeyL):(l.flatMap KeyL.cells).length=l.length * 2:=zc KeyL.cells 2 (fun _=>rfl) l
def eqIs (a b:List KeyL):Bool:=decide (a=b)
theorem QaG (a:Option Addr) (n cap:Nat) (b:Option Addr) (m D:Nat) (l r:List KeyL) (w:World) (hr:RdE KeyL.cells 2 w a n cap l) (C:RdE KeyL.cells 2 w b m D r):
  Calls prog 75 #[.slice a n cap,.slice b m D] w fun e w'=>e=.returned (.bool (eqIs l r))/\Drew w w':=by
 have hn:=hr.1;have Y:=C.1;subst hn Y;have hm:=nr hr.2.1 hr.2.2.1;have W:=nr C.2.1 C.2.2.1;unfold maxLen at hm W;have t:=Hy hr;have Q:=Hy C;clear hr C
 by_cases A:l.length=r.length
 ·have s:=Hy A
  have h1:((l.length:Int) != r.length)=false:=by simp;omega
  have T:l.length<=r.length:=by omega
  have U:r.length<=l.length:=by omega
  clear A;go_in;go_wp2;go_loopw [4,5] (fun u i wr=>∃ k:Nat,k<=l.length/\i=.int .i64 k/\u=.bool false/\Hid (l.take k=r.take k)/\Drew w wr) (fun _ i _=>l.length - (intOf i).toNat)
  case atStart=>exact ⟨0,by omega,rfl,rfl,by simp [Hid],0,rfl⟩
  case round=>
   obtain ⟨k,y,rfl,rfl,M,nq,rfl⟩:=hrel
   by_cases V:k < l.length
   ·have K:k < r.length:=by omega
    obtain ⟨⟨E,P⟩,c⟩:∃ x,l[k]?=some x:=⟨l[k],le_ V⟩;obtain ⟨⟨N,q⟩,d⟩:∃ x,r[k]?=some x:=⟨r[k],le_ K⟩;obtain ⟨h,F,rfl,v,H⟩:=t.2.2.2.2 k _ c;obtain ⟨j,G,rfl,p,I⟩:=Q.2.2.2.2 k _ d;have x0:w.cell? ⟨h,F+k * 2,none⟩=some (.int .i64 E):=H 0 (by decide);have x1:w.cell? ⟨h,F+k * 2+1,none⟩=some (.string P):=H 1 (by decide);have y0:w.cell? ⟨j,G+k * 2,none⟩=some (.int .i64 N):=I 0 (by decide);have y1:w.cell? ⟨j,G+k * 2+1,none⟩=some (.string q):=I 1 (by decide);have f:=Hy c;have g:=Hy d
    clear c d H I
    by_cases B:E=N/\P=q
    ·obtain ⟨rfl,rfl⟩:=B
     have ht:(P.toList == P.toList)=true:=by simp
     have J:(E == E)=true:=by simp
     have Z:Hid (l.take (k+1)=r.take (k+1)):=by
      unfold Hid;rw [List.take_add_one,List.take_add_one,M.out,f.o,g.o]
     go_wp2;go_quiet (fail);go_wp2;go_roundw
     case rel=>exact ⟨k+1,by omega,by go_num,rfl,Z,by first | exact Drew.one _ _ | exact Drew.two _ _ _⟩
     case measure=>simp [intOf];omega
    have L:Hid (eqIs l r=false):=by
     unfold Hid eqIs;rw [decide_eq_false_iff_not];intro e;subst e;apply B;have:=Option.some.inj (f.symm.trans g.o);simpa using this
    by_cases J:E=N
    ·have ht:=Xaq (fun e=>B ⟨J,e⟩)
     subst J;have J:(E == E)=true:=by simp
     clear B;go_wp2;go_quiet (fail);go_wp2;go_ret;rw [L.out];exact ⟨rfl,by first | exact Drew.one _ _ | exact Drew.two _ _ _⟩
    have z:(E == N)=false:=by simpa using J
    clear B;go_wp2;go_quiet (fail);go_wp2;go_ret;rw [L.out];exact ⟨rfl,by first | exact Drew.one _ _ | exact Drew.two _ _ _⟩
   obtain rfl:k=l.length:=by omega
   have R:Hid (eqIs l r=true):=by
    unfold Hid eqIs;have:=M.out;rw [List.take_length,s.o,List.take_length] at this;simp [this]
   go_wp2;go_ret;rw [R.out];exact ⟨rfl,nq,rfl⟩
 have h1:((l.length:Int) != r.length)=true:=by simp;omega
 have R:Hid (eqIs l r=false):=by
  unfold Hid eqIs;rw [decide_eq_false_iff_not];intro e;exact A (by rw [e])
 clear A;go_in;go_wp2;go_ret;rw [R.out];exact ⟨rfl,0,rfl⟩
def cmpFrom (a b:ByteArray) (k:Nat):Int:=Lib.compareBytes (a.data.toList.drop k) (b.data.toList.drop k)
theorem zL (a:ByteArray) (k:Nat) (h:k < a.size):a.data.toList.drop k=(a[k]'h) :: a.data.toList.drop (k+1):=by
 have A:k < a.data.toList.length:=by rw [Array.length_toList];exact h
 rw [List.drop_eq_getElem_cons A];rfl
theorem YY (a b:ByteArray) (k:Nat) (ha:k < a.size) (hb:k < b.size):cmpFrom a b k=if byteN a k < byteN b k then -1 else if byteN b k < byteN a k then 1 else cmpFrom a b (k+1):=by
 unfold cmpFrom;rw [zL a k ha,zL b k hb,Lib.compareBytes,<- Zs a k ha,<- Zs b k hb];simp only [UInt8.lt_iff_toNat_lt]
theorem XI (a b:ByteArray) (k:Nat) (h:a.size<=k∨b.size<=k) (D:k<=a.size) (C:k<=b.size):cmpFrom a b k=if a.size < b.size then -1 else if b.size < a.size then 1 else 0:=by
 have A:∀ (s:ByteArray),s.size<=k->s.data.toList.drop k=[]:=fun s E=>List.drop_of_length_le (by rw [Array.length_toList];exact E);unfold cmpFrom
 by_cases h1:k < a.size
 ·rw [A b (by omega),zL a k h1,io,ip];rfl
 by_cases B:k < b.size
 ·rw [A a (by omega),zL b k B,ip];rfl
 rw [A a (by omega),A b (by omega),io,io];rfl
theorem YP (a b:ByteArray) (w:World) (h1:a.size<=1000000) (h2:b.size<=1000000):
  Calls prog 177 #[a,b] w fun e w'=>e=.returned (.int .i64 (cmpT a b))/\Drew w w':=by
 have ⟨g,K⟩:=gn (cmpT a b);rw [K];have N:Hid (cmpFrom a b 0=g):=by rw [<- K];rfl
 clear K;go_in;go_wp2_with fail;go_loopw [5] (fun i wr=>∃ k:Nat,k<=a.size/\k<=b.size/\i=.int .i64 k/\Hid (cmpFrom a b k=g)/\Drew w wr) (fun i _=>a.size - (intOf i).toNat)
 case atStart=>exact ⟨0,by omega,by omega,rfl,N.o,0,rfl⟩
 case round=>
  clear N;obtain ⟨k,L,M,rfl,G,R,rfl⟩:=hrel
  by_cases C:k < a.size
  ·by_cases B:k < b.size
   ·have A:=YY a b k C B
    rw [G.o] at A
    have P:∀ w,(Instr.index 9 (.string a) (.int .i64 k)).run prog w=.ok (.int .u8 (byteN a k)) w:=fun w=>by
     rw [run_index_string w _ _ _ _ underlying9];simp [C,Zs a k C]
    have Q:∀ w,(Instr.index 9 (.string b) (.int .i64 k)).run prog w=.ok (.int .u8 (byteN b k)) w:=fun w=>by
     rw [run_index_string w _ _ _ _ underlying9];simp [B,Zs b k B]
    generalize byteN a k=x at *;generalize byteN b k=y at *
    by_cases D:x < y
    ·rw [if_pos D] at A
     subst A;have H:decide (x < y)=true:=by simpa using D
     go_wp2_with fail;go_quiet (fail);go_wp2_with fail;go_ret;exact ⟨rfl,by first | exact Drew.one _ _ | exact Drew.two _ _ _⟩
    rw [if_neg D] at A
    have H:decide (x < y)=false:=by simpa using D
    by_cases E:y < x
    ·rw [if_pos E] at A
     subst A;have J:decide (y < x)=true:=by simpa using E
     go_wp2_with fail;go_quiet (fail);go_wp2_with fail;go_quiet (fail);go_wp2_with fail;go_ret;exact ⟨rfl,by first | exact Drew.one _ _ | exact Drew.two _ _ _ | exact ⟨_,by rw [World.drewN_drewN,World.drewN_drewN]⟩⟩
    rw [if_neg E] at A
    have I:=Hy A.symm;have J:decide (y < x)=false:=by simpa using E
    clear A;go_wp2_with fail;go_quiet (fail);go_wp2_with fail;go_quiet (fail);go_wp2_with fail;go_roundw
    case rel=>exact ⟨k+1,by omega,by omega,by go_num,I.o,by first | exact Drew.one _ _ | exact Drew.two _ _ _ | exact ⟨_,by rw [World.drewN_drewN,World.drewN_drewN]⟩⟩
    case measure=>simp [intOf];omega
   obtain rfl:k=b.size:=by omega
   have F:=XI a b b.size (.inr (nl _)) L (nl _);rw [G.o,io,if_pos C] at F;subst F;have H:decide (a.size < b.size)=false:=by simp;omega
   have J:decide (b.size < a.size)=true:=by simp;omega
   clear G;go_wp2_with fail;go_ret;exact ⟨rfl,Drew.one _ _⟩
  obtain rfl:k=a.size:=by omega
  have F:=XI a b a.size (.inl (nl _)) (nl _) M;rw [G.o] at F
  by_cases B:a.size < b.size
  ·rw [if_pos B] at F
   subst F;have H:decide (a.size < b.size)=true:=by simpa using B
   clear G;go_wp2_with fail;go_ret;exact ⟨rfl,Drew.one _ _⟩
  rw [if_neg B,io] at F
  subst F;have H:decide (a.size < b.size)=false:=by simp;omega
  have J:decide (b.size < a.size)=false:=by simp;omega
  clear G;go_wp2_with fail;go_ret;exact ⟨rfl,Drew.one _ _⟩
def greatI (l:List KeyL):Bool:=decide (80 < l.length)||l.any fun k=>decide (100 < k.2.size)
theorem xZ {l:List KeyL} (h:greatI l=false):l.length<=80/\∀ x∈l,x.2.size<=100:=by
 unfold greatI at h;rw [Bool.or_eq_false_iff] at h;refine ⟨by simpa using h.1,fun x A=>?_⟩;have:=h.2;rw [List.any_eq_false] at this;simpa using this x A
theorem RdE.atI {w:World} {a:Option Addr} {n c:Nat} {L:List KeyL} (h:RdE KeyL.cells 2 w a n c L) {i:Nat} {x:KeyL} (hx:L[i]?=some x):∃ b o,a=some ⟨b,o,none⟩/\w.cell? ⟨b,o+i * 2,none⟩=some (.int .i64 x.1)/\w.cell? ⟨b,o+i * 2+1,none⟩=some (.string x.2)/\b < w.heap.size:=by
 obtain ⟨b,o,e,B,A⟩:=h.2.2.2.2 i x hx;exact ⟨b,o,e,A 0 (by omega),A 1 (by omega),B⟩
theorem qal (a:Option Addr) (n cap:Nat) (l:List KeyL) (w:World) (B:RdE KeyL.cells 2 w a n cap l) (hs:∀ x∈l,x.2.size<=maxLen):
  Calls prog 29 #[.slice a n cap] w fun e w'=>e=.returned (.bool (greatI l))/\w=w':=by
 have H:=B.1;have d:=B.2.1;have Q:=B.2.2.1;unfold maxLen at Q;have W:=Hy B;have F:=Hy H;have Y:=Hy hs;clear B H hs;have ⟨R,M⟩:=gn (greatI l);rw [M];have A:=Hy M;clear M
 by_cases C:80 < n
 ·have B:R=true:=by rw [<- A.o];unfold greatI;rw [F.o];simp [C]
  subst B;have g:decide (n<=80)=false:=by simp;omega
  have Z:decide ((n:Int)<=80)=false:=by simp;omega
  have k:decide ((80:Int) < (n:Int))=true:=by simp;omega
  clear A;go_in;go_wp2_with fail;go_loop [3] (fun v=>v=.int .i64 0) (fun v=>0)
  case atStart=>rfl
  case round=>
   subst hrel;go_wp2_with fail;go_ret;exact ⟨rfl,rfl⟩
 have c:n<=80:=by omega
 clear C;go_in;go_wp2_with fail;go_loop [3] (fun v=>∃ i:Nat,i<=n/\v=.int .i64 i/\Hid (∀ j y,j < i->l[j]?=some y->y.2.size<=100)) (fun v=>n - (intOf v).toNat)
 case atStart=>exact ⟨0,nz _,rfl,fun j y K _=>by omega⟩
 case round=>
  obtain ⟨i,hi,rfl,J⟩:=hrel
  by_cases D:i < n
  ·have E:l[i]?=some (l[i]'(by rw [F.o];exact D)):=le_ _
   have ⟨x,I⟩:=gn (l[i]'(by rw [F.o];exact D));rw [I] at E;have T:=Y.o x (lm E);unfold maxLen at T;obtain ⟨b,o,rfl,s,t,_⟩:=W.atI E;have V:=Hy E;clear E I;have q:(0:Int)<=(i:Int):=by omega
   have r:(i:Int) < (n:Int):=by omega
   have f:(n:Int)<=80:=by omega
   by_cases N:100 < x.2.size
   ·have B:R=true:=by
     rw [<- A.o];unfold greatI;rw [Bool.or_eq_true,List.any_eq_true];exact .inr ⟨x,lm V.o,by simpa using N⟩
    subst B;clear A;go_wp2_with fail;go_ret;exact ⟨rfl,rfl⟩
   have m:decide (100 < x.2.size)=false:=by simpa using N
   have G:x.2.size<=100:=by omega
   have L:Hid (∀ j y,j < i+1->l[j]?=some y->y.2.size<=100):=by
    intro j y K U;rcases (by omega:j < i∨j=i) with h | h
    ·exact J.o j y h U
    ·subst h;rw [V.o] at U;cases U;exact G
   clear J N;go_wp2_with fail;go_round
   case rel=>exact ⟨i+1,by omega,by go_num,L.o⟩
   case measure=>simp [intOf];omega
  have P:i=n:=by omega
  subst P
  have B:R=false:=by
   rw [<- A.o];unfold greatI;rw [Bool.or_eq_false_iff,List.any_eq_false];refine ⟨by rw [F.o];simp;omega,fun x E=>?_⟩;obtain ⟨j,K,e⟩:=List.mem_iff_getElem.1 E;have:=J.o j x (by rw [<- F.o];exact K) (by rw [<- e];exact le_ K);simp;omega
  subst B;clear A J D;have f:(i:Int)<=80:=by omega
  have p:decide ((80:Int) < (i:Int))=false:=by simp;omega
  go_wp2_with fail;go_ret;exact ⟨rfl,rfl⟩
theorem Xu (w:World) (ao:Option Addr) (n c:Nat) (l:List KeyL) (h:RdE KeyL.cells 2 w ao n c l) (hn:n<=1000):
  Calls prog 100 #[.slice ao n c] w fun e w'=>∃ ao' c',e=.returned (.slice ao' n c')/\w'.ownsRow w.heap.size 46 2 (.slice ao' n c') n (l.flatMap KeyL.cells)/\Below w.heap.size w w':=by
 obtain ⟨P,hi,H,I,J⟩:=info_parts Qf;clear hi H I J;have G:=h.1;cases ao with
 | none=>
  obtain ⟨rfl,rfl⟩:=h.nil0 rfl;obtain rfl:l=[]:=List.eq_nil_of_length_eq_zero G;clear h G;have N:∀ W,(binOp .eql 56 (.slice none 0 0) (.slice none 0 0)).run prog W=.ok (.bool true) W:=fun W=>by kernel_rfl
  go_in;go_wp2_with fail;go_ret;exact ⟨none,0,rfl,World.ownsRow_nil _ _ _ _,bf _ _⟩
 | some a=>
  have L:=Hy (show Src prog 2 56 (.slice (some a) n c) n (l.flatMap KeyL.cells) (w.alloc (.cells #[] 46)) from Src.ofRdE (enc:=KeyL.cells) (size:=2) underlying56 (fun _=>rfl) itemOne (h.below ((bf w.heap.size w).alloc (nl _) _) rfl))
  have K:=Hy (show (w.alloc (.cells #[] 46)).ownsRow w.heap.size 46 2 (.slice (some ⟨w.heap.size,0,none⟩) 0 0) 0 [] from
   ⟨rfl,.inr ⟨w.heap.size,0,#[],rfl,nl _,hn_ w _,nl _,nz _,rfl,rfl⟩⟩)
  clear h G;have N:∀ W,(binOp .eql 56 (.slice (some a) n c) (.slice none 0 0)).run prog W=.ok (.bool false) W:=fun W=>by kernel_rfl
  go_in;go_wp2_with (at_builtin;refine wa Qf underlying56 K.o L.o (by unfold maxLen;omega) (by omega) (by simp) ?_;intro E M Q A B;rw [Nat.zero_add,List.nil_append] at A;have D:=Hy A;have C:=Hy (((bf _ w).alloc (nl _) (.cells #[] 46)).grown B (by simp) (fun k F=>by simp only [Value.ownBlock,Option.some.injEq] at F;omega));clear A B);go_ret;exact ⟨E,M,rfl,D.o,C.o⟩
def putS:List KeyL->KeyL->List KeyL
 | [],x=>[x]
 | y :: r,x=>if kless x y=true then x :: y :: r else y :: putS r x
def sortL (l:List KeyL):List KeyL:=l.foldl putS []
theorem XH:∀ (l:List KeyL) (x:KeyL),(putS l x).Perm (x :: l)
 | [],x=>List.Perm.refl _
 | y :: r,x=>by
  unfold putS
  split
  ·exact List.Perm.refl _
  ·exact ((XH r x).cons y).trans (List.Perm.swap x y r)
theorem XN:∀ (l acc:List KeyL),(l.foldl putS acc).Perm (l++acc)
 | [],acc=>List.Perm.refl _
 | x :: r,acc=>by
  rw [List.foldl_cons]
  refine (XN r (putS acc x)).trans ?_
  refine ((XH acc x).append_left r).trans ?_
  exact List.perm_middle
theorem qC (l:List KeyL):(sortL l).Perm l:=by have:=XN l [];rwa [List.append_nil] at this
def leI (x y:KeyL):Prop:=kless y x=false
theorem YJ:∀ (l:List KeyL) (x:KeyL),l.Pairwise leI->(putS l x).Pairwise leI
 | [],x,_=>by simp [putS]
 | y :: r,x,h=>by
  have h1:=List.pairwise_cons.1 h
  unfold putS
  split
  ·rename_i B
   refine List.pairwise_cons.2 ⟨fun z A=>?_,h⟩
   rcases List.mem_cons.1 A with rfl | A
   ·exact zB B
   ·exact Qd.trans x y z (zB B) (h1.1 z A)
  ·rename_i B
   have C:kless x y=false:=by simpa using B
   refine List.pairwise_cons.2 ⟨fun z A=>?_,YJ r x h1.2⟩
   rcases List.mem_cons.1 ((XH r x).mem_iff.1 A) with rfl | A
   ·exact C
   ·exact h1.1 z A
theorem YD:∀ (l acc:List KeyL),acc.Pairwise leI->(l.foldl putS acc).Pairwise leI
 | [],acc,h=>h
 | x :: r,acc,h=>YD r (putS acc x) (YJ acc x h)
theorem z7 (l:List KeyL):(sortL l).Pairwise leI:=YD l [] List.Pairwise.nil
theorem Qaq {l k:List KeyL} (h1:l.Pairwise leI) (h2:k.Pairwise leI) (hp:l.Perm k):l=k:=
 List.Perm.eq_of_pairwise (le:=leI) (fun a b _ _ h k=>YV k h) h1 h2 hp
theorem XaT {l k:List KeyL} (h1:k.Pairwise leI) (hp:k.Perm l):k=sortL l:=Qaq h1 (z7 l) (hp.trans (qC l).symm)
theorem xX (l:List KeyL):(sortL l).length=l.length:=(qC l).length_eq
theorem qaH {l:List KeyL} {x:KeyL}:x∈sortL l↔x∈l:=(qC l).mem_iff
theorem zap {n:Nat} (h:Srt kless E 0 n):(row E n).Pairwise leI:=by
 rw [List.pairwise_iff_getElem];intro i j hi B A;simp only [Xq] at hi B;have C:(row E n)[i]=E i:=by simp [row]
 have D:(row E n)[j]=E j:=by simp [row]
 rw [C,D];exact h i j (nz _) A B
def funI (l:List KeyL):Nat->KeyL:=fun k=>l.getD k (0,⟨#[]⟩)
theorem yaw (l:List KeyL):row (funI l) l.length=l:=by
 apply List.ext_getElem?;intro k
 by_cases h:k < l.length
 ·rw [Z5 _ _ _ h,List.getElem?_eq_getElem h]
  unfold funI;rw [List.getD_eq_getElem?_getD,List.getElem?_eq_getElem h];rfl
 rw [List.getElem?_eq_none (by rw [Xq];omega),List.getElem?_eq_none (by omega)]
theorem qaJ:HI w g n E sp↔Blk w g 46 ((row E n).flatMap KeyL.cells++sp):=by
 unfold HI row;rw [List.flatMap_map]
theorem Qac (a:Option Addr) (c:Nat) (w:World) (v:Value):
  Calls prog 210 #[.slice a 0 c,(),(),v] w fun e w'=>e=.returned (.tuple #[])/\w=w':=by
 go_in;go_wp2_with fail;go_loop [8] (fun v=>v=.int .i64 1) (fun _=>0)
 case atStart=>rfl
 case round=>
  obtain rfl:=hrel;go_wp2_with fail;go_end0;exact ⟨rfl,rfl⟩
theorem Yag (a:Option Addr) (c:Nat) (w:World) (v:Value):
  Calls prog 186 #[.slice a 0 c,v] w fun e w'=>e=.returned (.tuple #[])/\w=w':=by
 have A:Hid (Calls prog 205 #[.slice a 0 c,(),v] w fun e w'=>e=.returned (.tuple #[])/\w=w'):=by
  unfold Hid;have HI:=Hy (Qac a c w v);go_in;go_wp2_with fail;go_loop [7,8] (fun B C=>B=.int .i64 0/\C=.int .i64 20) (fun _ _=>0)
  case atStart=>exact ⟨rfl,rfl⟩
  case round=>
   obtain ⟨rfl,rfl⟩:=hrel;go_wp2_with fail;refine HI.mono ?_;rintro e D ⟨rfl,rfl⟩;go_wp2_with fail;go_loop [6] (fun v=>v=.int .i64 20) (fun _=>0)
   case atStart=>rfl
   case round=>
    obtain rfl:=hrel;go_wp2_with fail;go_end0;exact ⟨rfl,rfl⟩
 go_in;go_wp2_with fail;refine A.mono ?_;rintro e D ⟨rfl,rfl⟩;go_wp2_with fail;go_end0;exact ⟨rfl,rfl⟩
theorem xaV {w:World} {base g n c:Nat} {e:TypeId} {size:Nat} {xs sp:List Value} (h:Blk w g e (xs++sp)) (h1:xs.length=n * size) (h2:sp.length+n * size=c * size) (h3:n<=c) (h4:c<=maxLen) (h5:base<=g):w.ownsRow base e size (.slice (some ⟨g,0,none⟩) n c) n xs:=by
 refine ⟨h1,.inr ⟨g,c,(xs++sp).toArray,rfl,h5,h,h3,h4,by simp;omega,?_⟩⟩;rw [<- h1];simp
def OwnI (w:World) (l:List KeyL) (e:Ending) (w':World):Prop:=∃ ao c,e=.returned (.slice ao l.length c)/\w'.ownsRow w.heap.size 46 2 (.slice ao l.length c) l.length (l.flatMap KeyL.cells)/\Below w.heap.size w w'
theorem QaF (w:World) (ao:Option Addr) (n c:Nat) (l:List KeyL) (h:RdE KeyL.cells 2 w ao n c l) (hn:n<=1000):
  Calls prog 140 #[.slice ao n c] w fun e w'=>OwnI w (sortL l) e w':=by
 have b:=h.1;have R:=Hy (Xu w ao n c l h hn);have C:=Hy (fun g c D sp w h=>xR g n c D sp w h (by omega));have j:=Hy (fun a c w v=>Yag a c w v);have B:=Hy b;clear h b;unfold cmpV at C;go_in;go_wp2_with fail;refine R.mono ?_;rintro e Q ⟨T,F,rfl,A,W⟩;have K:=Hy A;have HB:=Hy W;clear A W R
 by_cases h0:n=0
 ·subst h0
  go_wp2_with fail;refine (j.o _ _ _ _).mono ?_;rintro e d ⟨rfl,rfl⟩
  have L:=Hy (show OwnI w (sortL l) (.returned (.slice T 0 F)) Q from by
   obtain rfl:=List.eq_nil_of_length_eq_zero B.o;exact ⟨T,F,rfl,K.o,HB.o⟩)
  go_wp2_with fail;go_ret;exact L.o
 obtain ⟨g,rfl,m⟩:=Qc K.o (by omega)
 obtain ⟨sp,I,G⟩:=ze K.o;have P:=Za (enc:=KeyL.cells) (fun _=>rfl) B.o K.o;have h1:=P.2.1;have V:=P.2.2.1;have f:=Hy (show HI Q g n (funI l) sp from qaJ.2 (by rw [<- B.o,yaw];exact G));have N:=Hy I;have M:=Hy V;clear P I G V;go_wp2_with fail;refine (C.o g F (funI l) sp Q f.o).mono ?_;rintro e d ⟨rfl,E,Z,Y,H,J⟩
 have L:=Hy (show OwnI w (sortL l) (.returned (.slice (some ⟨g,0,none⟩) n F)) d from by
  have k:row E n=sortL l:=XaT (zap J) (by have:=H.perm n (nl n);rw [<- B.o] at this ⊢;rwa [yaw] at this);have U:(sortL l).length=n:=by rw [xX,B.o]
  refine ⟨some ⟨g,0,none⟩,F,by rw [U],?_,HB.trans (Y.toBelow HB.size (fun i hi e=>by omega))⟩;rw [U,<- k];exact xaV (qaJ.1 Z) (by rw [ilen,Xq]) N.o h1 M.o m)
 clear Z Y H J;go_wp2_with fail;go_ret;exact L.o
def ZH (x y z:Int):Int:=if z < (if y < x then y else x) then z else (if y < x then y else x)
theorem yL (x y z:Int):ZH x y z<=x/\ZH x y z<=y/\ZH x y z<=z/\(ZH x y z=x∨ZH x y z=y∨ZH x y z=z):=by
 unfold ZH;split <;> split <;> omega
def newAt (a:List Int) (r:Int) (k:Nat) (old:List Int):Nat->Int
 | 0=>(k:Int)+1
 | i+1=>ZH (old.getD (i+1) 0+1) (newAt a r k old i+1) (old.getD i 0+(if a.getD i 0=r then 0 else 1))
def stepRow (a:List Int) (r:Int) (k:Nat) (old:List Int):List Int:=(List.range (a.length+1)).map (newAt a r k old)
def rowAt (a b:List Int):Nat->List Int
 | 0=>(List.range (a.length+1)).map fun (i:Nat)=>(i:Int)
 | k+1=>stepRow a (b.getD k 0) k (rowAt a b k)
def rowsL (a b:List Int):List Int:=rowAt a b b.length
def distL (a b:List Int):Int:=(rowsL a b).getD a.length 0
theorem zr (a:List Int) (r:Int) (k:Nat) (A:List Int) (i:Nat) (h:i<=a.length):(stepRow a r k A).getD i 0=newAt a r k A i:=by
 unfold stepRow;rw [List.getD_eq_getElem?_getD,List.getElem?_map,List.getElem?_range (by omega)];rfl
theorem Q5 (a b:List Int) (i:Nat) (h:i<=a.length):(rowAt a b 0).getD i 0=(i:Int):=by
 unfold rowAt;rw [List.getD_eq_getElem?_getD,List.getElem?_map,List.getElem?_range (by omega)];rfl
theorem XE (a b:List Int):∀ k i,i<=a.length->(i:Int) - k<=(rowAt a b k).getD i 0/\(k:Int) - i<=(rowAt a b k).getD i 0/\(rowAt a b k).getD i 0<=(i:Int)+k
 | 0,i,h=>by rw [Q5 a b i h];omega
 | k+1,i,h=>by
  show (i:Int) - (k+1:Nat)<=(stepRow a (b.getD k 0) k (rowAt a b k)).getD i 0/\_
  rw [rowAt,zr _ _ _ _ _ h]
  have ih:=XE a b k
  have C:∀ j,j<=a.length->(j:Int) - (k+1:Nat)<=newAt a (b.getD k 0) k (rowAt a b k) j/\((k+1:Nat):Int) - j<=newAt a (b.getD k 0) k (rowAt a b k) j/\newAt a (b.getD k 0) k (rowAt a b k) j<=(j:Int)+(k+1:Nat):=by
   intro j;induction j with
   | zero=>intro _;unfold newAt;omega
   | succ j A=>
    intro B;have h1:=A (by omega);have D:=ih (j+1) B;have E:=ih j (by omega);rw [newAt];generalize newAt a (b.getD k 0) k (rowAt a b k) j=x at *;generalize (rowAt a b k).getD (j+1) 0=y at *;generalize (rowAt a b k).getD j 0=z at *;have G:=yL (y+1) (x+1) (z+(if a.getD j 0=b.getD k 0 then 0 else 1));generalize ZH (y+1) (x+1) (z+(if a.getD j 0=b.getD k 0 then 0 else 1))=m at *;have F:(if a.getD j 0=b.getD k 0 then (0:Int) else 1)=0∨(if a.getD j 0=b.getD k 0 then (0:Int) else 1)=1:=by split <;> simp
    omega
  exact C i h
theorem ZN (a b:List Int):(a.length:Int) - b.length<=distL a b/\(b.length:Int) - a.length<=distL a b:=by
 have:=XE a b b.length a.length (nl _);unfold distL rowsL;omega
def Dm (a b:List Int) (i j:Nat):Int:=(rowAt a b j).getD i 0
theorem YaI (a b:List Int) {i:Nat} (h:i<=a.length):Dm a b i 0=(i:Int):=Q5 a b i h
theorem ZaI (a b:List Int) (j:Nat):Dm a b 0 j=(j:Int):=by
 cases j with
 | zero=>exact Q5 a b 0 (nz _)
 | succ j=>
  unfold Dm;rw [rowAt,zr _ _ _ _ _ (Nat.zero_le _),newAt];omega
theorem XaI (a b:List Int) {i:Nat} (j:Nat) (h:i < a.length):Dm a b (i+1) (j+1)=ZH (Dm a b (i+1) j+1) (Dm a b i (j+1)+1) (Dm a b i j+(if a.getD i 0=b.getD j 0 then 0 else 1)):=by
 unfold Dm;rw [rowAt,zr _ _ _ _ _ (show i+1<=a.length from h),zr _ _ _ _ _ (show i<=a.length by omega),newAt]
theorem zU (a b:List Int) {i:Nat} (j:Nat) (h:i<=a.length):(i:Int) - j<=Dm a b i j/\(j:Int) - i<=Dm a b i j/\Dm a b i j<=(i:Int)+j:=XE a b j i h
theorem YaK (a b:List Int):distL a b=Dm a b a.length b.length:=rfl
theorem zY (a b:List Int):∀ i j,i<=a.length->j<=b.length->Dm a b i j=Dm b a j i
 | 0,j,hi,hj=>by rw [ZaI,YaI _ _ hj]
 | i+1,0,hi,hj=>by rw [ZaI,YaI _ _ hi]
 | i+1,j+1,hi,hj=>by
  rw [XaI a b j (by omega),XaI b a i (by omega),zY a b (i+1) j hi (by omega),zY a b i (j+1) (by omega) hj,zY a b i j (by omega) (by omega)]
  have e:(if a.getD i 0=b.getD j 0 then (0:Int) else 1)=(if b.getD j 0=a.getD i 0 then 0 else 1):=by
   by_cases h:a.getD i 0=b.getD j 0
   ·rw [if_pos h,if_pos h.symm]
   ·rw [if_neg h,if_neg fun e=>h e.symm]
  rw [e];generalize Dm b a j (i+1)+1=x;generalize Dm b a (j+1) i+1=y;generalize Dm b a j i+(if b.getD j 0=a.getD i 0 then (0:Int) else 1)=z;have h1:=yL x y z;have A:=yL y x z;omega
theorem qaz (a b:List Int):distL a b=distL b a:=zY a b a.length b.length (nl _) (nl _)
def capI (far x:Int):Int:=if far < x then far else x
theorem qN {far x:Int} (h:far<=x):capI far x=far:=by unfold capI;split <;> omega
theorem QaV {far x:Int} (h:x<=far):capI far x=x:=by unfold capI;split <;> omega
theorem ZY (A x:Int):capI A x<=A/\capI A x<=x:=by unfold capI;split <;> omega
theorem xaK (A u v t:Int) (c:Int) (hc:c=0∨c=1):
  (if A < (if capI A t+c < (if capI A v < capI A u then capI A v+1 else capI A u+1) then capI A t+c else if capI A v < capI A u then capI A v+1 else capI A u+1) then A else if capI A t+c < (if capI A v < capI A u then capI A v+1 else capI A u+1) then capI A t+c else if capI A v < capI A u then capI A v+1 else capI A u+1)=capI A (ZH (v+1) (u+1) (t+c)):=by
 have h1:=yL (v+1) (u+1) (t+c);generalize ZH (v+1) (u+1) (t+c)=m at *;have D:capI A u=u/\u<=A∨capI A u=A/\A < u:=by unfold capI;split <;> omega
 have E:capI A v=v/\v<=A∨capI A v=A/\A < v:=by unfold capI;split <;> omega
 have C:capI A t=t/\t<=A∨capI A t=A/\A < t:=by unfold capI;split <;> omega
 have B:capI A m=m/\m<=A∨capI A m=A/\A < m:=by unfold capI;split <;> omega
 generalize capI A u=cu at *;generalize capI A v=cv at *;generalize capI A t=ct at *;generalize capI A m=cm at *;repeat' split
 all_goals omega
def setR (R:Nat->Int) (j:Nat) (x:Int):Nat->Int:=fun q=>if q=j then x else R q
theorem Qz (R:Nat->Int) (j:Nat) (x:Int):setR R j x j=x:=by simp [setR]
theorem qr (R:Nat->Int) {j q:Nat} (x:Int) (h:q≠j):setR R j x q=R q:=by simp [setR,h]
def BdOK (a b:List Int) (k i:Nat) (R:Nat->Int):Prop:=∀ j,j<=b.length->i<=j+k+1->j<=i+k+1->R j=capI ((k:Int)+1) (Dm a b i j)
def MdOK (a b:List Int) (k i j:Nat) (R:Nat->Int):Prop:=(∀ q,q < j->q<=b.length->i<=q+k->R q=capI ((k:Int)+1) (Dm a b (i+1) q))/\∀ q,j<=q->q<=b.length->q<=i+k+1->R q=capI ((k:Int)+1) (Dm a b i q)
theorem BdOK.zero {a b:List Int} {k:Nat} {R:Nat->Int} (h:∀ j,j<=b.length->R j=capI ((k:Int)+1) (j:Int)):BdOK a b k 0 R:=fun j A _ _=>by rw [h j A,ZaI]
theorem MdOK.start {a:List Int} {k i f:Nat} (h:BdOK a b k i R) (hi:i < a.length) (C:1<=f) (D:i+1<=f+k) (E:f=1∨f+k=i+1):MdOK a b k i f (if f=1 then setR (setR R 0 ((k:Int)+1)) 0 (capI ((k:Int)+1) ((i:Int)+1)) else setR R (f - 1) ((k:Int)+1)):=by
 refine ⟨fun q h1 A B=>?_,fun q h1 A B=>?_⟩
 ·have F:q=f - 1:=by omega
  subst F
  by_cases e:f=1
  ·subst e
   rw [if_pos rfl,Qz,YaI _ _ hi];rfl
  rw [if_neg e,Qz]
  have:=zU a b (f - 1) (show i+1<=a.length from hi);rw [qN (by omega)]
 by_cases e:f=1
 ·rw [if_pos e,qr _ _ (by omega),qr _ _ (by omega)];exact h q A (by omega) B
 rw [if_neg e,qr _ _ (by omega)];exact h q A (by omega) B
theorem MdOK.next {a:List Int} {k i j:Nat} (h:MdOK a b k i (j+1) R) (hi:i < a.length) (hj:j < b.length) (h1:i<=j+k):MdOK a b k i (j+1+1) (setR R (j+1) (capI ((k:Int)+1) (Dm a b (i+1) (j+1)))):=by
 refine ⟨fun q h1 A B=>?_,fun q h1 A B=>?_⟩
 ·by_cases e:q=j+1
  ·rw [e,Qz]
  rw [qr _ _ e];exact h.1 q (by omega) A B
 rw [qr _ _ (by omega)];exact h.2 q (by omega) A B
theorem MdOK.done {a:List Int} {k i t f:Nat} (hf:i+1<=f+k) (h:MdOK a b k i (t+1) R) (hi:i < a.length) (ht:t=b.length∨t=i+1+k/\t < b.length):BdOK a b k (i+1) (if t < b.length then setR R (t+1) ((k:Int)+1) else R):=fun j h1 B C=>by
 by_cases e:t < b.length
 ·rw [if_pos e]
  by_cases A:j=t+1
  ·rw [A,Qz]
   have:=zU a b (t+1) (show i+1<=a.length from hi)
   rw [qN (by omega)]
  ·rw [qr _ _ A];exact h.1 j (by omega) h1 (by omega)
 ·rw [if_neg e];exact h.1 j (by omega) h1 (by omega)
def nearL (a b:List Int) (k:Int):Int×Bool:=if distL a b<=k then (distL a b,true) else (0,false)
theorem XaC {a b:List Int} {k:Int} (h:k < (a.length:Int) - b.length):nearL a b k=(0,false):=by
 unfold nearL;have:=ZN a b;rw [io]
theorem qaD {a b:List Int} {k:Int} (h:k < (b.length:Int) - a.length):nearL a b k=(0,false):=by
 unfold nearL;have:=ZN a b;rw [io]
theorem zaD {a b:List Int} {k:Int} (h:k < 0):nearL a b k=(0,false):=by
 unfold nearL;have:=ZN a b;rw [io]
theorem YaC {a b:List Int} {k:Int} {K:Nat} (h:(K:Int)=(if (a.length:Int)+b.length < k then (a.length:Int)+b.length else k)) {x:Int} (hx:x=capI ((K:Int)+1) (distL a b)):nearL a b k=if (K:Int) < x then (0,false) else (x,true):=by
 have h1:=zU a b b.length (nl a.length);rw [<- YaK] at h1;unfold nearL
 by_cases hd:distL a b<=k
 ·rw [if_pos hd]
  have:distL a b<=(K:Int):=by rw [h];split <;> omega
  rw [QaV (by omega)] at hx;rw [io,hx]
 rw [if_neg hd]
 have:(K:Int) < distL a b:=by rw [h];split <;> omega
 rw [qN (by omega)] at hx;rw [ip]
def RdR (w:World) (a:Option Addr) (n c:Nat) (l:List Int):Prop:=Rd w a n c (l.map (Value.int .i32))
theorem RdR.len {a:Option Addr} {n c:Nat} {l:List Int} (h:RdR w a n c l):l.length=n:=by have:=h.1;simpa using this
theorem RdR.below {a:Option Addr} {n c:Nat} {l:List Int} (h:RdR w a n c l) (hb:Below B w w') (hB:B=w.heap.size):RdR w' a n c l:=Rd.below h hb hB
theorem RdR.at {a:Option Addr} {n c:Nat} {l:List Int} (h:RdR w a n c l) {k:Nat} (A:k < n):∃ b off,a=some ⟨b,off,none⟩/\b < w.heap.size/\w.cell? ⟨b,off+k,none⟩=some (.int .i32 (l.getD k 0)):=by
 obtain ⟨b,off,e,C,B⟩:=h.2.2.2.2 k A;refine ⟨b,off,e,C,?_⟩;rw [B,List.getElem?_map,List.getD_eq_getElem?_getD,List.getElem?_eq_getElem (by rw [h.len];exact A)];rfl
theorem infoI:(Tryz.prog.info? 3).map (fun i=>(i.zero,i.size,i.bytes))=some (some (.int .i64 0),1,8):=by kernel_rfl
theorem zaa {w:World} {base g n:Nat} {e:TypeId} {xs:List Value} (h:w.ownsRow base e 1 (.slice (some ⟨g,0,none⟩) n n) n xs):Blk w g e xs:=by
 obtain ⟨sp,B,A⟩:=ze h;have:sp=[]:=List.eq_nil_of_length_eq_zero (by omega);rw [this,List.append_nil] at A;exact A
end Go.Proofs.YtinkbgeckjbnbaaGreat
