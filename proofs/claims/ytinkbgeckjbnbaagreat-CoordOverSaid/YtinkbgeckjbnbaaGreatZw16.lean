/- Lemmas (part 16). -/
import Derived.Laws.Entries
import Derived.Laws.CopyOwn
import Derived.Test.YtinkbgeckjbnbaaGreatZw15
namespace Go.Proofs.YtinkbgeckjbnbaaGreat
open Go.RowKit Go.Proofs.Tryz
set_option autoImplicit true
set_option relaxedAutoImplicit true
set_option linter.unusedVariables false
set_option linter.unusedSimpArgs false
set_option maxRecDepth 100000
set_option maxHeartbeats 32000000
section
section
variable {w:World} {O:Own} {B:RA} {r:Nat} {c:CfgM} {S:CS}
theorem RTo.rt {t:Nat} {q:Nat} {L:List One} (h:RTo O t w q L):RT {w with heap:=#[]} w q 24 L:=by
 obtain ⟨B,cap,h1,C⟩:=h;exact ⟨B,cap,h1.1,C.1,nz _,⟨rfl,rfl,rfl,nz _,fun k A=>absurd A (Nat.not_lt_zero _)⟩⟩
theorem RW.ti_step {L':List One} (h:RW w O B r c S) (hT:RT w0 w' B.ti 24 L') (hf:Frm (fun k=>k=B.ti) w w') (hn:RowN w w' B.ti):
  RW w' (O.upd w.heap.size (rt 3)) B r c {S with tm:=L'}/\ROut O w w':=by
 obtain ⟨I,cap,G,K⟩:=RWx.ti h id;have F:OFrm O (rt 3) w w':=hf.mono (fun b H _=>by rw [H];exact G.2);refine ⟨RW.with_ti (RW.only h 3 F (AgO.upd _ _ _)) L' ?_,ROut.of F⟩;obtain ⟨C,A,J,L,_,_⟩:=hT;refine ⟨C,A,⟨J,by rw [Own.upd_lt G.1.lt];exact G.2⟩,zi L (nz _),fun k E=>?_⟩;rcases hn _ (J.cell 0) with h1 | h1
 ·exact Own.upd_ge (h1 k E)
 have M:some (Value.slice I S.tm.length cap)=some (Value.slice C L'.length A):=by rw [<- h1];exact (G.1.cell 0).symm
 have D:(Value.slice I S.tm.length cap).ownBlock=some k:=by rw [Option.some.inj M];exact E
 rw [Own.upd_lt (qg K.1 k D)];exact K.2 k D
theorem yba (h:RW w O B r c S) (hL:S.tm.length<=24) (id:Int):Calls prog 145 #[.pointer (some ⟨B.ti,0,none⟩),id] w fun e w'=>e=.returned (.tuple #[.int .i64 (atL id S.tm).1,.bool (atL id S.tm).2])/\w=w':=
 Ya7 _ B.ti id w 24 S.tm (RWx.ti h (fun q=>q)).rt hL
def Zas (O:Own) (B:RA) (r:Nat) (c:CfgM) (S:CS) (v:Value) (L':List One) (w:World) (e:Ending) (w':World):Prop:=e=.returned v/\RW w' (O.upd w.heap.size (rt 3)) B r c {S with tm:=L'}/\ROut O w w'
theorem YB (h:RW w O B r c S) (hL:S.tm.length<=24) (id:Int):Calls prog 156 #[.pointer (some ⟨B.ti,0,none⟩),id] w (Zas O B r c S (.bool (hasL id S.tm)) (cancelL id S.tm) w):=
 (zX _ B.ti id w 24 S.tm (RWx.ti h (fun q=>q)).rt hL).mono fun e w' ⟨h1,A,C,D⟩=>⟨h1,(h.ti_step A C D).1,(h.ti_step A C D).2⟩
theorem Qaw (h:RW w O B r c S) (hL:S.tm.length<=24) (id A:Int):Calls prog 150 #[.pointer (some ⟨B.ti,0,none⟩),id,A] w (Zas O B r c S (.int .i64 (setL 24 S.tm id A).1) (setL 24 S.tm id A).2 w):=
 (Ya8 _ B.ti id A w 24 S.tm (RWx.ti h (fun q=>q)).rt hL (by omega)).mono fun e w' ⟨h1,C,D,E⟩=>⟨h1,(h.ti_step C D E).1,(h.ti_step C D E).2⟩
theorem RW.le_step (h:RW w O B r c S) (hT:RB w' B.le t') (hg:w.grownBy w' (some B.le)):RW w' O B r c {S with t:=t'}/\ROut O w w':=by
 have A:=RWx.le h (fun q=>q);have C:OFrm O (rt 1) w w':=(Frm.grown (S:=fun b=>b=B.le) hg (fun g E=>by cases E;rfl)).mono (fun b D _=>by rw [D];exact A.2);exact ⟨RW.with_le (RW.only h 1 C (AgO.refl _ _)) t' ⟨hT,A.2⟩,ROut.of C⟩
theorem Qae (w:World) (g:Nat) (t:Tab) (v life now:Int) (h:RB w g t) (ho:t.ok):
  Calls prog 98 #[.pointer (some ⟨g,0,none⟩),v,life,now] w fun e w'=>e=.returned (.tuple #[.int .i64 (t.hello v life now).2.1,.int .i64 (t.hello v life now).2.2])/\RB w' g (t.hello v life now).1/\w.grownBy w' (some g):=by
 rcases yJ t v life now with ⟨hb,e⟩ | ⟨hb,ho2,e⟩ | ⟨hb,hs,e⟩ | ⟨hb,hn,e⟩
 ·rw [e];exact (yao w g t v life now h ho hb).mono fun e w' ⟨h1,A⟩=>by subst A;exact ⟨h1,h,World.grownBy.refl _ _⟩
 ·rw [e];exact (Qao w g t v life now h ho hb ho2).mono fun e w' ⟨h1,A⟩=>by subst A;exact ⟨h1,h,World.grownBy.refl _ _⟩
 ·rw [e];exact Zae w g t v life now h ho hb hs
 rw [e];exact xao w g t v life now h ho hb hn
theorem xap (w:World) (g:Nat) (t:Tab) (v ep now:Int) (h:RB w g t) (ho:t.ok):
  Calls prog 154 #[.pointer (some ⟨g,0,none⟩),v,ep,now] w fun e w'=>e=.returned (.bool (t.seen v ep now).2)/\RB w' g (t.seen v ep now).1/\w.grownBy w' (some g):=by
 rcases zR t v ep now with ⟨hb,e⟩ | ⟨hb,e⟩
 ·rw [e];exact (xaF w g t v ep now h ho hb).mono fun e w' ⟨h1,A⟩=>by subst A;exact ⟨h1,h,World.grownBy.refl _ _⟩
 rw [e];exact Qap w g t v ep now h ho hb
theorem qaS (h:RW w O B r c S) (ho:S.t.ok) (v life:Int):
  Calls prog 98 #[.pointer (some ⟨B.le,0,none⟩),v,life,S.now] w fun e w'=>e=.returned (.tuple #[.int .i64 (S.t.hello v life S.now).2.1,.int .i64 (S.t.hello v life S.now).2.2])/\RW w' O B r c (S.hello v life)/\ROut O w w':=
 (Qae w B.le S.t v life S.now (RWx.le h (fun q=>q)).1 ho).mono fun e w' ⟨h1,A,C⟩=>⟨h1,(h.le_step A C).1,(h.le_step A C).2⟩
theorem xaw (h:RW w O B r c S) (ho:S.t.ok) (v ep:Int):
  Calls prog 154 #[.pointer (some ⟨B.le,0,none⟩),v,ep,S.now] w fun e w'=>e=.returned (.bool (S.t.seen v ep S.now).2)/\RW w' O B r c (S.seenS v ep)/\ROut O w w':=
 (xap w B.le S.t v ep S.now (RWx.le h (fun q=>q)).1 ho).mono fun e w' ⟨h1,A,C⟩=>⟨h1,(h.le_step A C).1,(h.le_step A C).2⟩
theorem Za2 (h:RW w O B r c S) (ho:S.t.ok) (v:Int):
  Calls prog 147 #[.pointer (some ⟨B.le,0,none⟩),v,S.now] w fun e w'=>e=.returned (.bool (S.t.live v S.now))/\w=w':=
 ZaE w B.le S.t v S.now (RWx.le h (fun q=>q)).1 ho
theorem RW.mg_step {id m qs cp:Nat} {R:List MS} {sp:List Value} {ta:Option Addr} {tc:Nat} {n:Int} (h:RW w O B r c S) (hm:id∈S.L) (h0:id≠0) (K:B.m id=m) (hn:(S.Q id).n=n)
  (hX:RMx w m n (S.Q id).S (S.Q id).T qs cp R sp ta tc) (U:∀ k,Xb ta R k->k≠qs/\k≠m) (C:O m=rt (7+2 * id)) (D:O qs=rt (7+2 * id)) (H:∀ k,Xb ta R k->O k=rt (7+2 * id))
  (I:RMx w' m n S' T' qs cp R' sp ta' tc') (hT:(T'.length:Int)<=n) (E:∀ k,Xb ta' R' k->Xb ta R k∨w.heap.size<=k) (hf:Frm (fun i=>i=m∨i=qs) w w'):
  RW w' (O.upd w.heap.size (rt (7+2 * id))) B r c (S.setQ id {S.Q id with S:=S',T:=T'})/\ROut O w w':=by
 have F:OFrm O (rt (7+2 * id)) w w':=hf.mono (fun b J _=>by rcases J with rfl | rfl;exact C;exact D);have M:=hX.P.lt;have N:=hX.G.lt;refine ⟨RW.with_mg (RW.only h (7+2 * id) F (AgO.upd _ _ _)) S' T' ?_,ROut.of F⟩;rw [K,hn];refine ⟨qs,cp,R',sp,ta',tc',I,fun k A=>?_,hT,by rw [Own.upd_lt M];exact C,by rw [Own.upd_lt N];exact D,fun k A=>?_⟩
 ·rcases E k A with h1 | h1
  ·exact U k h1
  exact ⟨by omega,by omega⟩
 rcases E k A with h1 | h1
 ·rw [Own.upd_lt (hX.itlt k h1)];exact H k h1
 exact Own.upd_ge h1
def yaJ (O:Own) (B:RA) (r:Nat) (c:CfgM) (S:CS) (id:Nat) (v:Value) (S':List PS) (T':List KeyL) (w:World) (e:Ending) (w':World):Prop:=e=.returned v/\RW w' (O.upd w.heap.size (rt (7+2 * id))) B r c (S.setQ id {S.Q id with S:=S',T:=T'})/\ROut O w w'
theorem zaS {id:Nat} (h:RW w O B r c S) (hm:id∈S.L) (h0:id≠0) (i seq:Int) (l:List KeyL) (e rr:Bool) (S':List PS) (a:Option Addr) (m cap:Nat) (hr:RdE KeyL.cells 2 w a m cap l) (hz:∀ x∈l,x.2.size<=1000000) (hs:∀ s∈(S.Q id).S,0<=s.seq/\s.seq<=1000000) (G:m<=1000) (he:putP (S.Q id).n (S.Q id).S (S.Q id).T i seq l e=(rr,S')):
  Calls prog 155 #[.pointer (some ⟨B.m id,0,none⟩),i,seq,.slice a m cap,.bool e] w (yaJ O B r c S id (.bool rr) S' (S.Q id).T w):=by
 obtain ⟨U,K,R,sp,ta,tc,J,A,I,D,E,C⟩:=RWx.mg h id hm h0 (fun q=>q);refine (ZaR (B.m id) (S.Q id).n i seq (S.Q id).S (S.Q id).T l e a m cap w U K R sp ta tc J I hr hz hs (fun k F=>(A k F).1) G).mono fun W w' ⟨h1,⟨V,H,M⟩,N⟩=>?_;rw [he] at h1 H;have q:=h.mg_step hm h0 rfl rfl J A D E C H I M (N.mono (fun b P _=>.inr P));exact ⟨h1,q.1,q.2⟩
def Qa9 (O:Own) (B:RA) (r:Nat) (c:CfgM) (S:CS) (id:Nat) (w:World) (e:Ending) (w':World):Prop:=∃ ao c',e=.returned (.slice ao (S.tellR id).1.length c')/\RdE KeyL.cells 2 w' ao (S.tellR id).1.length c' (S.tellR id).1/\RW w' (O.upd w.heap.size (rt (7+2 * id))) B r c (S.setQ id {S.Q id with S:=(S.tellR id).2.1,T:=(S.tellR id).2.2})/\ROut O w w'
theorem Ya2 {id:Nat} (h:RW w O B r c S) (hm:id∈S.L) (h0:id≠0):
  Calls prog 182 #[.pointer (some ⟨B.m id,0,none⟩)] w (Qa9 O B r c S id w):=by
 obtain ⟨U,J,R,sp,ta,tc,G,A,F,D,E,C⟩:=RWx.mg h id hm h0 (fun q=>q);refine (YaF (B.m id) (S.Q id).n (S.Q id).S (S.Q id).T w U J R sp ta tc G F A).mono fun Z w' ⟨H,I,h1,K,⟨Y,V,W,M,N⟩,P⟩=>?_;have q:=h.mg_step hm h0 rfl rfl G A D E C M (yu F).2.1 N P;exact ⟨H,I,h1,Za (enc:=KeyL.cells) (size:=2) (fun x=>rfl) rfl K,q.1,q.2⟩
theorem Qa2 {id:Nat} (h:RW w O B r c S) (hm:id∈S.L) (h0:id≠0):
  Calls prog 144 #[.pointer (some ⟨B.m id,0,none⟩)] w fun e w'=>e=.returned (.bool (S.isDone id))/\Drew w w':=by
 obtain ⟨I,A,R,sp,ta,tc,G,H,F,D,E,C⟩:=RWx.mg h id hm h0 (fun q=>q);exact zI (B.m id) (S.Q id).n (S.Q id).S (S.Q id).T w I A R sp ta tc G F
theorem yaS {id:Nat} (h:RW w O B r c S) (hm:id∈S.L) (h0:id≠0):
  Calls prog 96 #[.pointer (some ⟨B.m id,0,none⟩)] w fun e w'=>∃ ao c',e=.returned (.slice ao (S.wl id).length c')/\w'.ownsRow w.heap.size 3 1 (.slice ao (S.wl id).length c') (S.wl id).length ((S.wl id).map (Value.int .i64))/\Below w.heap.size w w':=by
 obtain ⟨I,A,R,sp,ta,tc,G,H,F,D,E,C⟩:=RWx.mg h id hm h0 (fun q=>q);exact XQ (B.m id) (S.Q id).n (S.Q id).S (S.Q id).T w I A R sp ta tc G F
end
end
theorem ZaD (s h:Int):placeB s h=(inB s 0 3&&inB h 0 5):=by
 rw [Bool.eq_iff_iff];unfold placeB inB;simp;omega
theorem Qas (n:Int):workerB n=inB n 1 5:=rfl
theorem qaE (s q h sq wk ep:Int) (l:List KeyL):replyB s q h sq wk ep l=(withinL [q,sq,ep]&&inB s 0 3&&inB h 0 5&&inB wk 1 5&&decide (l.length<=5)&&itOK l l.length):=by
 unfold replyB;rw [ZaD,Qas];generalize withinL [q,sq,ep]=x1;generalize inB s 0 3=x2;generalize inB h 0 5=x3;generalize inB wk 1 5=x4;generalize decide (l.length<=5)=x5;generalize itOK l l.length=x6;cases x1 <;> cases x2 <;> cases x3 <;> cases x4 <;> cases x5 <;> cases x6 <;> rfl
theorem qT (s q h sq wk ep:Int) (l:List KeyL) (en:Bool) (a:Option Addr) (c:Nat) (w:World) (hr:RdE KeyL.cells 2 w a l.length c l) (hz:∀ x∈l,x.2.size<=1000000):
  Calls prog 153 #[.agg #[s,q,h,sq,wk,ep,.slice a l.length c,.bool en]] w fun e w'=>e=.returned (.bool (replyB s q h sq wk ep l))/\Below w.heap.size w w':=by
 rw [qaE];have Af:=Hy (fun W=>QL s 0 3 W);have Ag:=Hy (fun W=>QL h 0 5 W);have Ah:=Hy (fun W=>QL wk 1 5 W);have HZ:=Hy hz;have f:=Hy (fun W (I:Below w.heap.size w W)=>hr.below I rfl);have A0:=hr.2.1;have Al:=hr.2.2.1;unfold maxLen at Al;have ⟨R,hR⟩:=gn (withinL [q,sq,ep]&&inB s 0 3&&inB h 0 5&&inB wk 1 5&&decide (l.length<=5)&&itOK l l.length);rw [hR];have T:=Hy hR;clear hR hr hz;have HB:=Hy ((bf w.heap.size w).alloc (nl _) (.cells #[s,q,h,sq,wk,ep,.slice a l.length c,.bool en] 65))
 have HX:=Hy (show Blk (w.alloc (.cells #[s,q,h,sq,wk,ep,.slice a l.length c,.bool en] 65)) w.heap.size 65 [s,q,h,sq,wk,ep,.slice a l.length c,.bool en] from hn_ w _);have ⟨W0,r⟩:=gn (w.alloc (.cells #[s,q,h,sq,wk,ep,.slice a l.length c,.bool en] 65));rw [r] at HB HX;have d:=Hy (HB.alloc HB.size (.cells (ints [q,sq,ep]).toArray 3));have k:=Hy (HX.alloc (.cells (ints [q,sq,ep]).toArray 3))
 have HN:=Hy (qaf (some ⟨W0.heap.size,0,none⟩) 3 3 [q,sq,ep] (W0.alloc (.cells (ints [q,sq,ep]).toArray 3)) (Xo W0 [q,sq,ep] (by simp [maxLen])));obtain ⟨t0,t1,t2,t3,t4,t5,t6,t7⟩:=c8 HX.o;have hQ:=T.o;go_in;go_wp2_with (rw [r]);clear r hQ;refine HN.mono ?_;clear HN;rintro e w1 ⟨rfl,I⟩;have n:=Hy (k.below I k.lt);have Q:=Hy (d.trans (I.mono d.size));clear t0 t1 t2 t3 t4 t5 t6 t7;clear I HX k HB d;generalize withinL [q,sq,ep]=A1 at *;generalize inB s 0 3=A2 at *;generalize inB h 0 5=A3 at *
 generalize inB wk 1 5=A4 at *;obtain ⟨t0,t1,t2,t3,t4,t5,t6,t7⟩:=c8 n.o;cases A1
 ·obtain rfl:R=false:=by rw [<- T.o];simp []
  go_wp2_with fail;go_ret;exact ⟨rfl,Q.o⟩
 go_wp2_with fail;refine (Af.o _).mono ?_;rintro e w' ⟨rfl,rfl⟩;cases A2
 ·obtain rfl:R=false:=by rw [<- T.o];simp []
  go_wp2_with fail;go_ret;exact ⟨rfl,Q.o⟩
 go_wp2_with fail;refine (Ag.o _).mono ?_;rintro e w' ⟨rfl,rfl⟩;cases A3
 ·obtain rfl:R=false:=by rw [<- T.o];simp []
  go_wp2_with fail;go_ret;exact ⟨rfl,Q.o⟩
 go_wp2_with fail;refine (Ah.o _).mono ?_;rintro e w' ⟨rfl,rfl⟩;cases A4
 ·obtain rfl:R=false:=by rw [<- T.o];simp []
  go_wp2_with fail;go_ret;exact ⟨rfl,Q.o⟩
 by_cases h5:l.length<=5
 rotate_left 1
 ·have d5:(5:Int) < (l.length:Int):=by omega
  obtain rfl:R=false:=by rw [<- T.o];simp [h5]
  go_wp2_with fail;go_ret;exact ⟨rfl,Q.o⟩
 have d5:¬ (5:Int) < (l.length:Int):=by omega
 have g:=Hy (by rw [<- T.o];simp [h5]:R=itOK l l.length);go_wp2_with fail;clear t0 t1 t2 t3 t4 t5 t6 t7;go_loopw [3] (fun v wr=>∃ i:Nat,i<=l.length/\v=.int .i64 i/\Hid (itOK l i=true)/\Hid (Blk wr w.heap.size 65 [s,q,h,sq,wk,ep,.slice a l.length c,.bool en])/\Hid (Below w.heap.size w wr)) (fun v _=>l.length - (intOf v).toNat)
 case atStart=>exact ⟨0,by omega,rfl,rfl,n,Q⟩
 case round=>
  clear n Q;obtain ⟨i,hi,rfl,HT,p,Z⟩:=hrel;have t6:wr.cell? ⟨w.heap.size,6,none⟩=some (.slice a l.length c):=p.cell 6
  by_cases An:i < l.length
  ·obtain ⟨x,hx⟩:∃ x,l[i]?=some x:=⟨_,le_ An⟩
   obtain ⟨J,M,rfl,Ak,Am⟩:=(f.o wr Z.o).2.2.2.2 i x hx
   have C:=Hy (show ∀ W,Below w.heap.size w W->W.cell? ⟨J,M+i * 2,none⟩=some (.int .i64 x.1)/\W.cell? ⟨J,M+i * 2+1,none⟩=some (.string x.2) from fun W I=>by
    obtain ⟨b',o',e,_,hc⟩:=(f.o W I).2.2.2.2 i x hx;cases e;exact ⟨hc 0 (by decide),hc 1 (by decide)⟩)
   have k1:(0:Int)<=(i:Int):=by omega
   have k2:(i:Int) < (l.length:Int):=by omega
   have Y:=Hy hx;have U:=Hy (fun W=>Yae x W (HZ.o x (lm hx)));have H:=Hy (show Blk wr.drew w.heap.size 65 [s,q,h,sq,wk,ep,.slice (some ⟨J,M,none⟩) l.length c,.bool en] from p.o);have B:=Hy Z.drew;clear hx Am Ak;go_wp2_with fail;clear t6 p Z;cases L:itemB x
   ·rw [L] at U
    obtain rfl:R=false:=by
     rw [g.o]
     have h1:itOK l (i+1)=false:=by
      cases i with
      | zero=>rw [Zy Y.o,L]
      | succ m=>
       obtain ⟨y,u⟩:∃ y,l[m]?=some y:=⟨_,le_ (by omega)⟩;rw [Qy Y.o u,L];simp
     exact yE h1 l.length (by omega)
    clear L;refine wp_region_held_drew (S:=(fun w'=>Cl w' w.heap.size 6 (.slice (some ⟨J,M,none⟩) l.length c)/\Ci w' J (M+i * 2) x.1/\Ct w' J (M+i * 2+1) x.2)) (by kernel_rfl) (by first | exact ⟨H.cell 6,C.o _ B.o⟩ | exact ⟨G.cell 6,C.o _ A.o⟩) (fun E=>?_);(iterate 5 refine tq 0 ?_);refine rdy 5 fun K P=>?_;go_simp;refine (U.o _).mono ?_;rintro e w4 ⟨rfl,I⟩;have G:=Hy (H.below I H.lt);have A:=Hy (B.trans (I.mono B.size));clear I
    go_wp2_with fail;refine P.out _ _ (by first | exact ⟨H.cell 6,C.o _ B.o⟩ | exact ⟨G.cell 6,C.o _ A.o⟩) (fun E=>?_);clear P K;(iterate 20 first | refine tq 6 ?_ | refine tr 6 ?_);refine dn ?_;go_wp2_with fail;go_ret
    exact ⟨rfl,A.o⟩
   rw [L] at U
   by_cases t:¬ 0 < i
   ·have j:=Hy (show itOK l (i+1)=true from (by (obtain rfl:i=0:=by omega);rw [Zy Y.o,L]))
    have k0:decide ((0:Int) < (i:Int))=false:=decide_eq_false (by omega);have A9:decide (0 < i)=false:=decide_eq_false t;have Ac:i=0:=by omega
    have A5:=Hy Ac;clear L t Ac;refine wp_region_held_drew (S:=(fun w'=>Cl w' w.heap.size 6 (.slice (some ⟨J,M,none⟩) l.length c)/\Ci w' J (M+i * 2) x.1/\Ct w' J (M+i * 2+1) x.2)) (by kernel_rfl) (by first | exact ⟨H.cell 6,C.o _ B.o⟩ | exact ⟨G.cell 6,C.o _ A.o⟩) (fun E=>?_);(iterate 5 refine tq 0 ?_);refine rdy 5 fun K P=>?_;go_simp;refine (U.o _).mono ?_;rintro e w4 ⟨rfl,I⟩;have G:=Hy (H.below I H.lt);have A:=Hy (B.trans (I.mono B.size));clear I
    go_wp2_with fail;refine P.out _ _ (by first | exact ⟨H.cell 6,C.o _ B.o⟩ | exact ⟨G.cell 6,C.o _ A.o⟩) (fun E=>?_);clear P K;(iterate 20 first | refine tq 6 ?_ | refine tr 6 ?_);refine dn ?_;go_wp2_with fail;go_roundw
    case rel=>exact ⟨i+1,by omega,by go_num,j.o,G.o,A.o⟩
    case measure=>simp [intOf];omega
   obtain ⟨m,hm⟩:∃ m,i=m+1:=⟨i - 1,by omega⟩
   obtain ⟨y,u⟩:∃ y,l[m]?=some y:=⟨_,le_ (by omega)⟩
   have F:=Hy (show ∀ W,Below w.heap.size w W->W.cell? ⟨J,M+m * 2,none⟩=some (.int .i64 y.1)/\W.cell? ⟨J,M+m * 2+1,none⟩=some (.string y.2) from fun W I=>by
    obtain ⟨b',o',e,_,hc⟩:=(f.o W I).2.2.2.2 m y u;cases e;exact ⟨hc 0 (by decide),hc 1 (by decide)⟩)
   have b:=Hy (fun W=>(show Calls prog 194 #[.agg #[y.1,y.2],.agg #[x.1,x.2]] W fun e w'=>e=.returned (.bool (kless y x))/\Below W.heap.size W w' from zK y.1 y.2 x.1 x.2 W (HZ.o y (lm u)) (HZ.o x (lm Y.o))));have z:=Hy (by subst hm;exact Qy Y.o u:itOK l (i+1)=(itOK l i&&(itemB x&&kless y x)));have kw:IntKind.i64.wrap ((i:Int) - 1)=(m:Int):=by rw [IntWalk.i64_in _ (by omega)];omega
   have k3:decide ((0:Int) < (i:Int))=true:=decide_eq_true (by omega);have AA:decide (0 < i)=true:=decide_eq_true (by omega);have k4:(0:Int)<=(m:Int):=by omega
   have k5:(m:Int) < (l.length:Int):=by omega
   have A6:=Hy hm;clear u hm t;cases V:kless y x
   ·rw [V] at b
    obtain rfl:R=false:=by
     rw [g.o];have h1:=z.o;rw [V] at h1;simp only [Bool.and_false] at h1;exact yE h1 l.length (by omega)
    clear V L;refine wp_region_held_drew (S:=(fun w'=>Cl w' w.heap.size 6 (.slice (some ⟨J,M,none⟩) l.length c)/\Ci w' J (M+i * 2) x.1/\Ct w' J (M+i * 2+1) x.2/\Ci w' J (M+m * 2) y.1/\Ct w' J (M+m * 2+1) y.2)) (by kernel_rfl) (by first | exact ⟨H.cell 6,(C.o _ B.o).1,(C.o _ B.o).2,F.o _ B.o⟩ | exact ⟨G.cell 6,(C.o _ A.o).1,(C.o _ A.o).2,F.o _ A.o⟩ | exact ⟨N.cell 6,(C.o _ D.o).1,(C.o _ D.o).2,F.o _ D.o⟩) (fun E=>?_)
    (iterate 5 refine tq 0 ?_);refine rdy 5 fun K P=>?_;go_simp;refine (U.o _).mono ?_;rintro e w4 ⟨rfl,I⟩;have G:=Hy (H.below I H.lt);have A:=Hy (B.trans (I.mono B.size));clear I;go_wp2_with fail;refine P.out _ _ (by first | exact ⟨H.cell 6,(C.o _ B.o).1,(C.o _ B.o).2,F.o _ B.o⟩ | exact ⟨G.cell 6,(C.o _ A.o).1,(C.o _ A.o).2,F.o _ A.o⟩ | exact ⟨N.cell 6,(C.o _ D.o).1,(C.o _ D.o).2,F.o _ D.o⟩) (fun E=>?_)
    clear P K;(iterate 16 refine tq 6 ?_);refine rdy 22 fun K P=>?_;go_simp;refine (b.o _).mono ?_;rintro e w5 ⟨rfl,I⟩;have N:=Hy (G.below I G.lt);have D:=Hy (A.trans (I.mono A.size));clear I;go_wp2_with fail;refine P.out _ _ (by first | exact ⟨H.cell 6,(C.o _ B.o).1,(C.o _ B.o).2,F.o _ B.o⟩ | exact ⟨G.cell 6,(C.o _ A.o).1,(C.o _ A.o).2,F.o _ A.o⟩ | exact ⟨N.cell 6,(C.o _ D.o).1,(C.o _ D.o).2,F.o _ D.o⟩) (fun E=>?_)
    clear P K;(iterate 3 refine tq 23 ?_);refine dn ?_;go_wp2_with fail;go_ret;exact ⟨rfl,D.o⟩
   have j:=Hy (by rw [z.o,V,L,HT.o];rfl:itOK l (i+1)=true)
   rw [V] at b;clear V L;refine wp_region_held_drew (S:=(fun w'=>Cl w' w.heap.size 6 (.slice (some ⟨J,M,none⟩) l.length c)/\Ci w' J (M+i * 2) x.1/\Ct w' J (M+i * 2+1) x.2/\Ci w' J (M+m * 2) y.1/\Ct w' J (M+m * 2+1) y.2)) (by kernel_rfl) (by first | exact ⟨H.cell 6,(C.o _ B.o).1,(C.o _ B.o).2,F.o _ B.o⟩ | exact ⟨G.cell 6,(C.o _ A.o).1,(C.o _ A.o).2,F.o _ A.o⟩ | exact ⟨N.cell 6,(C.o _ D.o).1,(C.o _ D.o).2,F.o _ D.o⟩) (fun E=>?_)
   (iterate 5 refine tq 0 ?_);refine rdy 5 fun K P=>?_;go_simp;refine (U.o _).mono ?_;rintro e w4 ⟨rfl,I⟩;have G:=Hy (H.below I H.lt);have A:=Hy (B.trans (I.mono B.size));clear I;go_wp2_with fail;refine P.out _ _ (by first | exact ⟨H.cell 6,(C.o _ B.o).1,(C.o _ B.o).2,F.o _ B.o⟩ | exact ⟨G.cell 6,(C.o _ A.o).1,(C.o _ A.o).2,F.o _ A.o⟩ | exact ⟨N.cell 6,(C.o _ D.o).1,(C.o _ D.o).2,F.o _ D.o⟩) (fun E=>?_)
   clear P K;(iterate 16 refine tq 6 ?_);refine rdy 22 fun K P=>?_;go_simp;refine (b.o _).mono ?_;rintro e w5 ⟨rfl,I⟩;have N:=Hy (G.below I G.lt);have D:=Hy (A.trans (I.mono A.size));clear I;go_wp2_with fail;refine P.out _ _ (by first | exact ⟨H.cell 6,(C.o _ B.o).1,(C.o _ B.o).2,F.o _ B.o⟩ | exact ⟨G.cell 6,(C.o _ A.o).1,(C.o _ A.o).2,F.o _ A.o⟩ | exact ⟨N.cell 6,(C.o _ D.o).1,(C.o _ D.o).2,F.o _ D.o⟩) (fun E=>?_)
   clear P K;(iterate 3 refine tq 23 ?_);refine dn ?_;go_wp2_with fail;go_roundw
   case rel=>exact ⟨i+1,by omega,by go_num,j.o,N.o,D.o⟩
   case measure=>simp [intOf];omega
  obtain rfl:i=l.length:=by omega
  obtain rfl:R=true:=by rw [g.o];exact HT.o
  go_wp2_with fail;go_ret;exact ⟨rfl,Z.o⟩
theorem Xar (a b:ByteArray):(a.toList=b.toList)=(a=b):=by
 by_cases h:a=b
 ·simp [h]
 have:=Xaq h
 simp only [h,eq_iff_iff,iff_false];intro e;rw [e] at this;simp at this
def MV.same:MV->MV->Bool
 | .hello w0 l0,.hello w0' l0'=>decide (w0=w0')&&decide (l0=l0')
 | .grant w0 l0 e0,.grant w0' l0' e0'=>decide (w0=w0')&&decide (l0=l0')&&decide (e0=e0')
 | .ask s q h sq ep tx k b f d wd,.ask s' q' h' sq' ep' tx' k' b' f' d' wd'=>decide (s=s')&&decide (q=q')&&decide (h=h')&&decide (sq=sq')&&decide (ep=ep')&&decide (tx=tx')&&decide (k=k')&&decide (b=b')&&decide (f=f')&&decide (d=d')&&decide (wd=wd')
 | .reply s q h sq wk ep l en,.reply s' q' h' sq' wk' ep' l' en'=>decide (s=s')&&decide (q=q')&&decide (h=h')&&decide (sq=sq')&&decide (wk=wk')&&decide (ep=ep')&&decide (en=en')&&eqIs l l'
 | .stop s q,.stop s' q'=>decide (s=s')&&decide (q=q')
 | _,_=>false
def MV.is_hello:MV->Bool
 | .hello ..=>true
 | _=>false
theorem XT (m:MV) (u:Value) (w:World) (h:m.At w u) (hn:m.is_hello=false) (X:TypeId) (W:World):(Instr.typeAssert u X 36 true).run prog W=.ok (.tuple #[.agg #[(),()],false]) W:=by
 cases m with
 | hello _ _=>simp [MV.is_hello] at hn
 | grant _ _ _=>obtain rfl:=h;exact Xj _ _ _
 | ask _ _ _ _ _ _ _ _ _ _ _=>obtain rfl:=h;exact Yn _ _ _
 | reply _ _ _ _ _ _ _ _=>obtain ⟨a,c,rfl,E⟩:=h;exact Ze _ _ _
 | stop _ _=>obtain rfl:=h;exact Zl _ _ _
 | other t v=>obtain ⟨rfl,h1,A,B,C,D⟩:=h;exact Zp _ _ _ _ h1
 | nil=>obtain rfl:=h;exact yw _ _
def MV.is_grant:MV->Bool
 | .grant ..=>true
 | _=>false
theorem YT (m:MV) (u:Value) (w:World) (h:m.At w u) (hn:m.is_grant=false) (X:TypeId) (W:World):(Instr.typeAssert u X 99 true).run prog W=.ok (.tuple #[.agg #[(),(),()],false]) W:=by
 cases m with
 | hello _ _=>obtain rfl:=h;exact zg _ _ _
 | grant _ _ _=>simp [MV.is_grant] at hn
 | ask _ _ _ _ _ _ _ _ _ _ _=>obtain rfl:=h;exact Zn _ _ _
 | reply _ _ _ _ _ _ _ _=>obtain ⟨a,c,rfl,E⟩:=h;exact yg _ _ _
 | stop _ _=>obtain rfl:=h;exact Ql _ _ _
 | other t v=>obtain ⟨rfl,h1,A,B,C,D⟩:=h;exact Qp _ _ _ _ A
 | nil=>obtain rfl:=h;exact zw _ _
def MV.is_ask:MV->Bool
 | .ask ..=>true
 | _=>false
theorem Qah (m:MV) (u:Value) (w:World) (h:m.At w u) (hn:m.is_ask=false) (X:TypeId) (W:World):(Instr.typeAssert u X 48 true).run prog W=.ok (.tuple #[.agg #[(),(),(),(),(),ByteArray.empty,(),(),false,(),ByteArray.empty],false]) W:=by
 cases m with
 | hello _ _=>obtain rfl:=h;exact Zj _ _ _
 | grant _ _ _=>obtain rfl:=h;exact Qn _ _ _
 | ask _ _ _ _ _ _ _ _ _ _ _=>simp [MV.is_ask] at hn
 | reply _ _ _ _ _ _ _ _=>obtain ⟨a,c,rfl,E⟩:=h;exact Yj _ _ _
 | stop _ _=>obtain rfl:=h;exact yr _ _ _
 | other t v=>obtain ⟨rfl,h1,B,A,C,D⟩:=h;exact qw _ _ _ _ A
 | nil=>obtain rfl:=h;exact yC _ _
def MV.is_reply:MV->Bool
 | .reply ..=>true
 | _=>false
theorem qA (m:MV) (u:Value) (w:World) (h:m.At w u) (hn:m.is_reply=false) (X:TypeId) (W:World):(Instr.typeAssert u X 65 true).run prog W=.ok (.tuple #[.agg #[(),(),(),(),(),(),.slice none 0 0,false],false]) W:=by
 cases m with
 | hello _ _=>obtain rfl:=h;exact Qg _ _ _
 | grant _ _ _=>obtain rfl:=h;exact qk _ _ _
 | ask _ _ _ _ _ _ _ _ _ _ _=>obtain rfl:=h;exact Xn _ _ _
 | reply _ _ _ _ _ _ _ _=>simp [MV.is_reply] at hn
 | stop _ _=>obtain rfl:=h;exact Yl _ _ _
 | other t v=>obtain ⟨rfl,h1,B,C,A,D⟩:=h;exact Yp _ _ _ _ A
 | nil=>obtain rfl:=h;exact Qw _ _
def MV.is_stop:MV->Bool
 | .stop ..=>true
 | _=>false
theorem Z7 (m:MV) (u:Value) (w:World) (h:m.At w u) (hn:m.is_stop=false) (X:TypeId) (W:World):(Instr.typeAssert u X 87 true).run prog W=.ok (.tuple #[.agg #[(),()],false]) W:=by
 cases m with
 | hello _ _=>obtain rfl:=h;exact Yh _ _ _
 | grant _ _ _=>obtain rfl:=h;exact Xl _ _ _
 | ask _ _ _ _ _ _ _ _ _ _ _=>obtain rfl:=h;exact xr _ _ _
 | reply _ _ _ _ _ _ _ _=>obtain ⟨a,c,rfl,E⟩:=h;exact Xh _ _ _
 | stop _ _=>simp [MV.is_stop] at hn
 | other t v=>obtain ⟨rfl,h1,B,C,D,A⟩:=h;exact Qs _ _ _ _ A
 | nil=>obtain rfl:=h;exact Yx _ _
theorem zaq (w0:Int) (l0:Int) (B:Int) (A:Int) (w:World):
  Calls prog 39 #[.iface 36 (.agg #[w0,l0]),.iface 36 (.agg #[B,A])] w fun e w'=>e=.returned (.bool (MV.same (.hello w0 l0) (.hello B A)))/\Below w.heap.size w w':=by
 unfold MV.same;go_in;go_wp2_with (first | rw [xg] | rw [zg] | rw [Zj] | rw [Qg] | rw [Yh])
 all_goals
  go_ret;exact ⟨by simp [*],(by repeat (first | exact bf _ _ | refine Below.alloc ?_ (by first | (simp;done) | (simp;omega)) _))⟩
theorem xT (w0:Int) (l0:Int) (m:MV) (u:Value) (w:World) (hu:m.At w u) (hn:m.is_hello=false):
  Calls prog 39 #[.iface 36 (.agg #[w0,l0]),u] w fun e w'=>e=.returned (.bool false)/\Below w.heap.size w w':=by
 have A:=Hy (fun X W=>XT m u w hu hn X W);clear hu hn;go_in;go_wp2_with (first | rw [xg] | rw [zg] | rw [Zj] | rw [Qg] | rw [Yh] | rw [A.o]);go_ret;exact ⟨rfl,(by repeat (first | exact bf _ _ | refine Below.alloc ?_ (by first | (simp;done) | (simp;omega)) _))⟩
theorem qaq (w0:Int) (l0:Int) (e0:Int) (C:Int) (B:Int) (A:Int) (w:World):
  Calls prog 39 #[.iface 99 (.agg #[w0,l0,e0]),.iface 99 (.agg #[C,B,A])] w fun e w'=>e=.returned (.bool (MV.same (.grant w0 l0 e0) (.grant C B A)))/\Below w.heap.size w w':=by
 unfold MV.same;go_in;go_wp2_with (first | rw [Xj] | rw [xp] | rw [Qn] | rw [qk] | rw [Xl])
 all_goals
  go_ret;exact ⟨by simp [*],(by repeat (first | exact bf _ _ | refine Below.alloc ?_ (by first | (simp;done) | (simp;omega)) _))⟩
theorem yT (w0:Int) (l0:Int) (e0:Int) (m:MV) (u:Value) (w:World) (hu:m.At w u) (hn:m.is_grant=false):
  Calls prog 39 #[.iface 99 (.agg #[w0,l0,e0]),u] w fun e w'=>e=.returned (.bool false)/\Below w.heap.size w w':=by
 have A:=Hy (fun X W=>YT m u w hu hn X W);clear hu hn;go_in;go_wp2_with (first | rw [Xj] | rw [xp] | rw [Qn] | rw [qk] | rw [Xl] | rw [A.o]);go_ret;exact ⟨rfl,(by repeat (first | exact bf _ _ | refine Below.alloc ?_ (by first | (simp;done) | (simp;omega)) _))⟩
theorem YaS (s:Int) (q:Int) (h:Int) (sq:Int) (ep:Int) (tx:ByteArray) (k:Int) (b:Int) (f:Bool) (d:Int) (wd:ByteArray) (s':Int) (q':Int) (h':Int) (B:Int) (A:Int) (C:ByteArray) (k':Int) (b':Int) (f':Bool) (d':Int) (D:ByteArray) (w:World):
  Calls prog 39 #[.iface 48 (.agg #[s,q,h,sq,ep,tx,k,b,.bool f,d,wd]),.iface 48 (.agg #[s',q',h',B,A,C,k',b',.bool f',d',D])] w fun e w'=>e=.returned (.bool (MV.same (.ask s q h sq ep tx k b f d wd) (.ask s' q' h' B A C k' b' f' d' D)))/\Below w.heap.size w w':=by
 unfold MV.same;go_in;go_wp2_with (first | rw [Yn] | rw [Zn] | rw [zC] | rw [Xn] | rw [xr])
 all_goals
  go_ret
  (try simp only [Xar] at *)
  exact ⟨by simp [*],(by repeat (first | exact bf _ _ | refine Below.alloc ?_ (by first | (simp;done) | (simp;omega)) _))⟩
theorem Xaf (s:Int) (q:Int) (h:Int) (sq:Int) (ep:Int) (tx:ByteArray) (k:Int) (b:Int) (f:Bool) (d:Int) (wd:ByteArray) (m:MV) (u:Value) (w:World) (hu:m.At w u) (hn:m.is_ask=false):
  Calls prog 39 #[.iface 48 (.agg #[s,q,h,sq,ep,tx,k,b,.bool f,d,wd]),u] w fun e w'=>e=.returned (.bool false)/\Below w.heap.size w w':=by
 have A:=Hy (fun X W=>Qah m u w hu hn X W);clear hu hn;go_in;go_wp2_with (first | rw [Yn] | rw [Zn] | rw [zC] | rw [Xn] | rw [xr] | rw [A.o]);go_ret;exact ⟨rfl,(by repeat (first | exact bf _ _ | refine Below.alloc ?_ (by first | (simp;done) | (simp;omega)) _))⟩
theorem QT (s q h sq wk ep:Int) (l:List KeyL) (en:Bool) (a:Option Addr) (c:Nat) (m:MV) (u:Value) (w:World) (hu:m.At w u) (hn:m.is_reply=false):
  Calls prog 39 #[.iface 65 (.agg #[s,q,h,sq,wk,ep,.slice a l.length c,.bool en]),u] w fun e w'=>e=.returned (.bool false)/\Below w.heap.size w w':=by
 have A:=Hy (fun X W=>qA m u w hu hn X W);clear hu hn;go_in;go_wp2_with (first | rw [Ze] | rw [yg] | rw [Yj] | rw [Zg] | rw [Xh] | rw [A.o]);go_ret;exact ⟨rfl,(by repeat (first | exact bf _ _ | refine Below.alloc ?_ (by first | (simp;done) | (simp;omega)) _))⟩
theorem ZaG (s:Int) (q:Int) (s':Int) (q':Int) (w:World):
  Calls prog 39 #[.iface 87 (.agg #[s,q]),.iface 87 (.agg #[s',q'])] w fun e w'=>e=.returned (.bool (MV.same (.stop s q) (.stop s' q')))/\Below w.heap.size w w':=by
 unfold MV.same;go_in;go_wp2_with (first | rw [Zl] | rw [Ql] | rw [yr] | rw [Yl] | rw [Zw])
 all_goals
  go_ret;exact ⟨by simp [*],(by repeat (first | exact bf _ _ | refine Below.alloc ?_ (by first | (simp;done) | (simp;omega)) _))⟩
theorem Q6 (s:Int) (q:Int) (m:MV) (u:Value) (w:World) (hu:m.At w u) (hn:m.is_stop=false):
  Calls prog 39 #[.iface 87 (.agg #[s,q]),u] w fun e w'=>e=.returned (.bool false)/\Below w.heap.size w w':=by
 have A:=Hy (fun X W=>Z7 m u w hu hn X W);clear hu hn;go_in;go_wp2_with (first | rw [Zl] | rw [Ql] | rw [yr] | rw [Yl] | rw [Zw] | rw [A.o]);go_ret;exact ⟨rfl,(by repeat (first | exact bf _ _ | refine Below.alloc ?_ (by first | (simp;done) | (simp;omega)) _))⟩
theorem XaS (m:MV) (u:Value) (w:World):
  Calls prog 39 #[.nilIface,u] w fun e w'=>e=.returned (.bool false)/\Below w.heap.size w w':=by
 go_in;go_wp2_with (first | rw [yw] | rw [zw] | rw [yC] | rw [Qw] | rw [Yx]);go_ret;exact ⟨rfl,(by repeat (first | exact bf _ _ | refine Below.alloc ?_ (by first | (simp;done) | (simp;omega)) _))⟩
theorem yaq (t:TypeId) (v u:Value) (w:World) (h1:t≠36) (h2:t≠99) (h3:t≠48) (h4:t≠65) (h5:t≠87):
  Calls prog 39 #[.iface t v,u] w fun e w'=>e=.returned (.bool false)/\Below w.heap.size w w':=by
 go_in;go_wp2_with (first | rw [Zp _ _ _ _ h1] | rw [Qp _ _ _ _ h2] | rw [qw _ _ _ _ h3] | rw [Yp _ _ _ _ h4] | rw [Qs _ _ _ _ h5]);go_ret;exact ⟨rfl,(by repeat (first | exact bf _ _ | refine Below.alloc ?_ (by first | (simp;done) | (simp;omega)) _))⟩
theorem ZT (s q h sq wk ep:Int) (l:List KeyL) (en:Bool) (a:Option Addr) (c:Nat) (s' q' h' D E B:Int) (l':List KeyL) (A:Bool) (a':Option Addr) (c':Nat) (w:World) (hr:RdE KeyL.cells 2 w a l.length c l) (C:RdE KeyL.cells 2 w a' l'.length c' l'):
  Calls prog 89 #[.agg #[s,q,h,sq,wk,ep,.slice a l.length c,.bool en],.agg #[s',q',h',D,E,B,.slice a' l'.length c',.bool A]] w fun e w'=>e=.returned (.bool (MV.same (.reply s q h sq wk ep l en) (.reply s' q' h' D E B l' A)))/\Below w.heap.size w w':=by
 have I:=Hy (fun W (G:Below w.heap.size w W)=>hr.below G rfl);have F:=Hy (fun W (G:Below w.heap.size w W)=>C.below G rfl);clear hr C;unfold MV.same;go_in;go_wp2_with (go_at_call 75;refine (QaG _ _ _ _ _ _ l l' _ (I.o _ (by repeat (first | exact bf _ _ | refine Below.alloc ?_ (by first | (simp;done) | (simp;omega)) _))) (F.o _ (by repeat (first | exact bf _ _ | refine Below.alloc ?_ (by first | (simp;done) | (simp;omega)) _)))).mono ?_;rintro e w' ⟨rfl,hd⟩;have H:=Hy (hd.below w.heap.size);clear hd)
 all_goals
  go_ret;refine ⟨by simp [*],?_⟩
  first
   | exact Below.trans (by repeat (first | exact bf _ _ | refine Below.alloc ?_ (by first | (simp;done) | (simp;omega)) _)) H.o
   | exact (by repeat (first | exact bf _ _ | refine Below.alloc ?_ (by first | (simp;done) | (simp;omega)) _))
theorem xaq (s q h sq wk ep:Int) (l:List KeyL) (en:Bool) (a:Option Addr) (c:Nat) (s' q' h' C D B:Int) (l':List KeyL) (A:Bool) (a':Option Addr) (c':Nat) (w:World) (hr:RdE KeyL.cells 2 w a l.length c l) (E:RdE KeyL.cells 2 w a' l'.length c' l'):
  Calls prog 39 #[.iface 65 (.agg #[s,q,h,sq,wk,ep,.slice a l.length c,.bool en]),.iface 65 (.agg #[s',q',h',C,D,B,.slice a' l'.length c',.bool A])] w fun e w'=>e=.returned (.bool (MV.same (.reply s q h sq wk ep l en) (.reply s' q' h' C D B l' A)))/\Below w.heap.size w w':=by
 have I:=Hy (fun W (G:Below w.heap.size w W)=>hr.below G rfl);have F:=Hy (fun W (G:Below w.heap.size w W)=>E.below G rfl);clear hr E;go_in;go_wp2_with (first | rw [Ze] | rw [yg] | rw [Yj] | rw [Zg] | rw [Xh] | (go_at_call 89;refine (ZT s q h sq wk ep l en a c s' q' h' C D B l' A a' c' _ (I.o _ (by repeat (first | exact bf _ _ | refine Below.alloc ?_ (by first | (simp;done) | (simp;omega)) _))) (F.o _ (by repeat (first | exact bf _ _ | refine Below.alloc ?_ (by first | (simp;done) | (simp;omega)) _)))).mono ?_;rintro e w' ⟨rfl,hd⟩;have H:=Hy (hd.mono (show w.heap.size<=_ from by first | (simp;done) | (simp;omega)));clear hd))
 go_ret;exact ⟨rfl,Below.trans (by repeat (first | exact bf _ _ | refine Below.alloc ?_ (by first | (simp;done) | (simp;omega)) _)) H.o⟩
theorem yaC (m m':MV) (u u':Value) (w:World) (h:m.At w u) (h':m'.At w u'):
  Calls prog 39 #[u,u'] w fun e w'=>e=.returned (.bool (m.same m'))/\Below w.heap.size w w':=by
 cases m with
 | hello w00 l00=>
  obtain rfl:=h;cases A:m'.is_hello
  ·have e:MV.same (.hello w00 l00) m'=false:=by cases m' <;> first | rfl | simp [MV.is_hello] at A
   rw [e];exact xT w00 l00 m' u' w h' A
  ·cases m' with
   | hello w01 l01=>obtain rfl:=h';exact zaq w00 l00 w01 l01 w
   | _=>simp [MV.is_hello] at A
 | grant w00 l00 e00=>
  obtain rfl:=h;cases A:m'.is_grant
  ·have e:MV.same (.grant w00 l00 e00) m'=false:=by cases m' <;> first | rfl | simp [MV.is_grant] at A
   rw [e];exact yT w00 l00 e00 m' u' w h' A
  ·cases m' with
   | grant w01 l01 e01=>obtain rfl:=h';exact qaq w00 l00 e00 w01 l01 e01 w
   | _=>simp [MV.is_grant] at A
 | ask s0 q0 h0 sq0 ep0 tx0 k0 b0 f0 d0 wd0=>
  obtain rfl:=h;cases A:m'.is_ask
  ·have e:MV.same (.ask s0 q0 h0 sq0 ep0 tx0 k0 b0 f0 d0 wd0) m'=false:=by cases m' <;> first | rfl | simp [MV.is_ask] at A
   rw [e];exact Xaf s0 q0 h0 sq0 ep0 tx0 k0 b0 f0 d0 wd0 m' u' w h' A
  ·cases m' with
   | ask s1 q1 h1 sq1 ep1 tx1 k1 b1 f1 d1 wd1=>obtain rfl:=h';exact YaS s0 q0 h0 sq0 ep0 tx0 k0 b0 f0 d0 wd0 s1 q1 h1 sq1 ep1 tx1 k1 b1 f1 d1 wd1 w
   | _=>simp [MV.is_ask] at A
 | reply s0 q0 h0 sq0 wk0 ep0 l0 en0=>
  obtain ⟨a,c,rfl,I⟩:=h;cases A:m'.is_reply
  ·have e:MV.same (.reply s0 q0 h0 sq0 wk0 ep0 l0 en0) m'=false:=by cases m' <;> first | rfl | simp [MV.is_reply] at A
   rw [e];exact QT s0 q0 h0 sq0 wk0 ep0 l0 en0 a c m' u' w h' A
  ·cases m' with
   | reply s1 q1 h1 sq1 wk1 ep1 l1 en1=>obtain ⟨C,D,rfl,B⟩:=h';exact xaq s0 q0 h0 sq0 wk0 ep0 l0 en0 a c s1 q1 h1 sq1 wk1 ep1 l1 en1 C D w I B
   | _=>simp [MV.is_reply] at A
 | stop s0 q0=>
  obtain rfl:=h;cases A:m'.is_stop
  ·have e:MV.same (.stop s0 q0) m'=false:=by cases m' <;> first | rfl | simp [MV.is_stop] at A
   rw [e];exact Q6 s0 q0 m' u' w h' A
  ·cases m' with
   | stop s1 q1=>obtain rfl:=h';exact ZaG s0 q0 s1 q1 w
   | _=>simp [MV.is_stop] at A
 | other t v=>obtain ⟨rfl,h1,E,F,G,H⟩:=h;exact yaq t v u' w h1 E F G H
 | nil=>obtain rfl:=h;exact XaS m' u' w
structure P5 where
 hw:Int
 hl:Int
 gw:Int
 gl:Int
 ge:Int
 ai:Int
 aq:Int
 ah:Int
 an:Int
 ae:Int
 ax:ByteArray
 ak:Int
 ab:Int
 af:Bool
 ad:Int
 aw:ByteArray
 rs:Int
 rq:Int
 rh:Int
 rn:Int
 rw:Int
 re:Int
 ra:Option Addr
 rc:Nat
 rl:List KeyL
 rb:Bool
 ss:Int
 sq:Int
def P5.msg (p:P5) (k:Int):Value:=.agg #[k,p.hw,p.hl,p.gw,p.gl,p.ge,p.ai,p.aq,p.ah,p.an,p.ae,p.ax,p.ak,p.ab,.bool p.af,p.ad,p.aw,p.rs,p.rq,p.rh,p.rn,p.rw,p.re,.slice p.ra p.rl.length p.rc,.bool p.rb,p.ss,p.sq]
theorem Yaq {n:Int} {S:List PS} {T:List KeyL} {x:KeyL} {b:Nat} {s:PS} (h:stepP n S T=some (x,b,s)):∃ A,S[b]?=some A/\s=A.less:=by
 unfold stepP at h;split at h
 ·cases h
 split at h
 ·cases h
 split at h
 ·cases h
 rename_i b' _ A B
 split at h
 ·cases h
 cases h;exact ⟨A,B,rfl⟩
theorem Y7 (n:Int):∀ (f:Nat) (S:List PS) (T out:List KeyL),∃ l,(tellA n f S T out).1=out++l/\(tellA n f S T out).2.2=T++l
 | 0,S,T,out=>⟨[],by simp [tellA],by simp [tellA]⟩
 | f+1,S,T,out=>by
  unfold tellA
  cases h:stepP n S T with
  | none=>exact ⟨[],by simp,by simp⟩
  | some r=>
   obtain ⟨x,b,s⟩:=r
   obtain ⟨l,h1,A⟩:=Y7 n f (S.set b s) (T++[x]) (out++[x])
   exact ⟨x :: l,by simp only [h1,List.append_assoc];rfl,by simp only [A,List.append_assoc];rfl⟩
theorem XX (n:Int):∀ (f:Nat) (S:List PS) (T out:List KeyL),∀ s'∈(tellA n f S T out).2.1,∃ s∈S,s'.seq=s.seq
 | 0,S,T,out=>fun s' h=>⟨s',by simpa [tellA] using h,rfl⟩
 | f+1,S,T,out=>by
  unfold tellA
  cases h:stepP n S T with
  | none=>exact fun s' h=>⟨s',h,rfl⟩
  | some r=>
   obtain ⟨x,b,s⟩:=r
   obtain ⟨D,B,rfl⟩:=Yaq h
   intro s' A
   obtain ⟨E,h1,C⟩:=XX n f (S.set b D.less) (T++[x]) (out++[x]) s' A
   rcases List.mem_or_eq_of_mem_set h1 with h1 | rfl
   ·exact ⟨E,h1,C⟩
   ·exact ⟨D,lm B,C⟩
theorem QOK.of_same {S S':CS} {j ns:Nat} (h:QOK S j ns b) (hQ:S'.Q j=S.Q j) (hT:S'.told[j - 1]?=S.told[j - 1]?) (hL:S'.L[(S.Q j).slot]?=some j):QOK S' j ns b:=by
 refine ⟨?_,?_,?_,?_,?_,?_,?_,?_,?_⟩ <;> rw [hQ]
 ·exact hL
 ·exact h.sh6
 ·exact h.len
 ·exact h.turn
 ·exact h.seq
 ·exact h.tn
 ·exact h.n
 ·exact h.k
 rw [hT];exact h.told
theorem qS (S:CS) (id j:Nat) (h:j≠id):(S.tell id).Q j=S.Q j:=by show (if j=id then _ else _)=_;rw [if_neg h]
theorem qG (S:CS) (id j:Nat) (h0:id≠0) (h1:j≠0) (h:j≠id):(S.tell id).told[j - 1]?=S.told[j - 1]?:=by
 show (S.told.set (id - 1) _)[j - 1]?=_;rw [List.getElem?_set_ne (by omega)]
theorem yax {S:CS} {ns:Nat} {b:Int} (h:S.OK ns b) {id:Nat} (hm:id∈S.L) (h0:id≠0):(S.tell id).OK ns b:=by
 have q:=h.q id hm h0;have J:=h.sl.le id hm;have A:=yu (S:=(S.Q id).S) q.tn;obtain ⟨l,C,D⟩:=Y7 (S.Q id).n ((S.Q id).n.toNat - (S.Q id).T.length) (S.Q id).S (S.Q id).T [];have K:=XX (S.Q id).n ((S.Q id).n.toNat - (S.Q id).T.length) (S.Q id).S (S.Q id).T [];refine ⟨h.t,h.now,by rw [Xp];exact h.sl,by rw [Xp];exact h.tl,fun j F B=>?_⟩
 by_cases e:j=id
 ·subst e
  refine ⟨?_,?_,?_,?_,?_,?_,?_,?_,?_⟩ <;> rw [QC]
  ·exact q.slot
  ·exact q.sh6
  ·exact A.2.2.trans q.len
  ·exact q.turn
  ·intro s' E
   obtain ⟨s,h1,I⟩:=K s' E;rw [I];exact q.seq s h1
  ·exact A.2.1
  ·exact q.n
  ·exact q.k
  show (S.told.set (j - 1) _)[j - 1]?=_
  rw [List.getElem?_set_self (by omega),q.tof];have G:(S.tellR j).1=l:=C;have H:(S.tellR j).2.2=(S.Q j).T++l:=D;show some _=some _;rw [G,H]
 exact (h.q j F B).of_same (qS S id j e) (qG S id j h0 B e) (h.q j F B).slot
theorem qaw {S S':CS} {ns:Nat} {b:Int} (h:S.OK ns b) {id n:Nat} (hm:id∈S.L) (h0:id≠0) (hc:S'.t=S.t) (hn:S'.now=S.now) (hL:S'.L=S.L) (B:S'.told.length=S.told.length) (hQ:∀ j,j≠id->S'.Q j=S.Q j) (hT:∀ j,j≠0->j≠id->S'.told[j - 1]?=S.told[j - 1]?):(S'.over id n).OK ns b:=by
 obtain ⟨s,I⟩:=List.getElem?_of_mem hm;have H:ofF S.L (id:Int)=some (s:Int):=by rw [Zc h.sl];exact ⟨by omega,by omega,by rw [Int.toNat_natCast,Int.toNat_natCast];exact I⟩
 have C:(S'.over id n).L=S.L.set s 0:=by
  show freeL S'.L (id:Int)=_;rw [hL];unfold freeL;rw [H];rfl
 have D:∀ j,j∈(S'.over id n).L->j≠0->j∈S.L/\j≠id:=fun j E A=>by
  have G:j∈freeL S.L (id:Int):=by
   have J:(S'.over id n).L=freeL S.L (id:Int):=by show freeL S'.L _=_;rw [hL]
   rw [J] at E;exact E
  exact (Qt h.sl hm h0 j A).1 G
 refine ⟨?_,?_,?_,?_,fun j E A=>?_⟩
 ·show S'.t.ok;rw [hc];exact h.t
 ·show 0<=S'.now/\S'.now<=b;rw [hn];exact h.now
 ·rw [C];show SlOK _ S'.told.length;rw [B];exact h.sl.free
 ·show (S'.told.length:Int)<=b;rw [B];exact h.tl
 obtain ⟨h1,F⟩:=D j E A
 have q:=h.q j h1 A;refine q.of_same (hQ j F) (hT j A F) ?_;rw [C,List.getElem?_set_ne (fun e=>?_)]
 ·exact q.slot
 have:=q.slot
 rw [<- e,I] at this;exact F (Option.some.inj this).symm
theorem YaW {S:CS} {ns:Nat} {b:Int} (h:S.OK ns b) {id:Nat} (hm:id∈S.L) (h0:id≠0) (n:Nat):(S.goes id n).OK ns b:=by
 have A:=yax h hm h0;unfold CS.goes;split
 ·refine qaw h hm h0 rfl rfl rfl ?_ (fun j e=>qS S id j e) (fun j h1 e=>?_)
  ·show ((S.tell id).told.set (id - 1) _).length=_;rw [List.length_set,Xp]
  show ((S.tell id).told.set (id - 1) _)[j - 1]?=_
  rw [List.getElem?_set_ne (by omega),qG S id j h0 h1 e]
 exact A
theorem yac {S:CS} {ns:Nat} {b:Int} (h:S.OK ns b) (v life:Int):(S.hello v life).OK ns b:=
 ⟨h.t.hello _ _ _,h.now,h.sl,h.tl,fun j h1 A=>(h.q j h1 A).of_same rfl rfl (h.q j h1 A).slot⟩
theorem qR {S:CS} {ns:Nat} {b:Int} (h:S.OK ns b) (v ep:Int):(S.seenS v ep).OK ns b:=
 ⟨h.t.seen _ _ _,h.now,h.sl,h.tl,fun j h1 A=>(h.q j h1 A).of_same rfl rfl (h.q j h1 A).slot⟩
theorem Xa3 {S:CS} {ns:Nat} {b:Int} (h:S.OK ns b):S.tick.OK ns (b+1):=
 ⟨h.t,by have:=h.now;show 0<=min (S.now+1) _/\min (S.now+1) _<=_;omega,h.sl,by have:=h.tl;show (S.told.length:Int)<=b+1;omega,fun j h1 A=>((h.q j h1 A).mono (b':=b+1) (by omega)).of_same rfl rfl (h.q j h1 A).slot⟩
theorem qau {L:List Nat} {s:Nat} (h:freeS L=some s):L[s]?=some 0:=by
 unfold freeS at h;rw [List.findIdx?_eq_some_iff_getElem] at h;obtain ⟨A,h1,_⟩:=h;rw [List.getElem?_eq_getElem A];simp only [decide_eq_true_eq] at h1;rw [h1]
theorem yM {S:CS} {ns:Nat} {b:Int} (h:S.OK ns b) {q:ByteArray} {k n:Int} (hm:mayQ q k n=true) {s:Nat} (hs:S.L[s]?=some 0) (hb:0<=b):(S.add q k n s ns).OK ns (b+1):=by
 have C:=Y0 hm;have D:s < S.L.length:=(lg hs).1;have G:(S.add q k n s ns).told.length=S.told.length+1:=by show (S.told++[_]).length=_;simp
 refine ⟨h.t,⟨h.now.1,by have:=h.now.2;show S.now<=b+1;omega⟩,by rw [G];exact h.sl.put hs,by rw [G];have:=h.tl;omega,fun j J A=>?_⟩
 by_cases e:j=S.told.length+1
 ·subst e
  have I:(S.add q k n s ns).Q (S.told.length+1)=S.newQ q k n s ns:=by show (if _=_ then _ else _)=_;rw [if_pos rfl]
  refine ⟨?_,?_,?_,?_,?_,?_,?_,?_,?_⟩ <;> rw [I]
  ·show (S.L.set s _)[s]?=_;rw [List.getElem?_set_self D]
  ·show (List.replicate 6 SH.zero).length=6;simp
  ·show (((List.range ns).map _).map _).length=ns;simp
  ·intro x E;have:x=SH.zero:=List.eq_of_mem_replicate E;subst this;exact ⟨⟨by decide,by show (0:Int)<=b+1;omega⟩,by decide,by show (0:Int)<=b+1;omega⟩
  ·intro x E
   obtain ⟨d,_,rfl⟩:=List.mem_map.1 E;exact ⟨by show (0:Int)<=0;omega,by show (0:Int)<=b+1;omega⟩
  ·show ((0:Nat):Int)<=n;omega
  ·exact ⟨C.2.2.2.1,C.2.2.2.2⟩
  ·exact ⟨C.2.1,C.2.2.1⟩
  show (S.told++[_])[S.told.length+1 - 1]?=_
  rw [Nat.add_sub_cancel,List.getElem?_append_right (Nat.le_refl _),Nat.sub_self];rfl
 have B:j∈S.L:=by
  rcases List.mem_or_eq_of_mem_set (show j∈S.L.set s (S.told.length+1) from J) with h1 | h1
  ·exact h1
  ·exact absurd h1 e
 have K:=h.sl.le j B;have F:=(h.q j B A).mono (b':=b+1) (by omega);refine F.of_same (by show (if j=_ then _ else _)=_;rw [if_neg e]) (by show (S.told++[_])[j - 1]?=_;rw [List.getElem?_append_left (by omega)]) ?_;show (S.L.set s _)[(S.Q j).slot]?=_;rw [List.getElem?_set_ne (fun H=>?_)]
 ·exact F.slot
 have:=F.slot;rw [<- H,hs] at this;exact A (Option.some.inj this).symm
theorem ya9 {S:CS} {ns:Nat} {b:Int} (h:S.OK ns b) (hb:0<=b) (q:ByteArray) (k n:Int):(S.sub q k n ns).OK ns (b+1):=by
 unfold CS.sub;split
 ·exact h.mono (by omega)
 rename_i B
 split
 ·exact h.mono (by omega)
 rename_i s C
 have A:=qau C;refine YaW (yM h (by simpa using B) A hb) ?_ (by omega) ns;show _∈S.L.set s (S.told.length+1);exact lm (List.getElem?_set_self (lg A).1)
theorem Y2 {S:CS} {ns:Nat} {b:Int} (h:S.OK ns b) {id:Nat} (hm:id∈S.L) (h0:id≠0) (i seq:Int) (l:List KeyL) (e r:Bool) (S':List PS) (hp:putP (S.Q id).n (S.Q id).S (S.Q id).T i seq l e=(r,S')):(S.put1 id i S').OK ns (b+1):=by
 have q:=h.q id hm h0
 have C:S'.length=(S.Q id).S.length/\∀ s∈S',0<=s.seq/\s.seq<=b+1:=by
  unfold putP at hp;split at hp
  ·cases hp;exact ⟨rfl,fun s G=>by have:=q.seq s G;omega⟩
  ·rename_i E A
   cases hp;refine ⟨List.length_set,fun s G=>?_⟩;rcases List.mem_or_eq_of_mem_set G with h1 | rfl
   ·have:=q.seq s h1;omega
   ·unfold putOK at A
    split at A
    ·cases A
    ·rename_i M B
     split at A
     ·cases A
     ·cases A
      have F:E∈(S.Q id).S:=by
       unfold atS at B;split at B
       ·cases B
       ·exact lm B
      have:=q.seq E F;show 0<=E.seq+1/\E.seq+1<=b+1;omega
 refine ⟨h.t,⟨h.now.1,by have:=h.now.2;show S.now<=b+1;omega⟩,h.sl,by have:=h.tl;show (S.told.length:Int)<=b+1;omega,fun j I D=>?_⟩
 by_cases H:j=id
 ·subst H
  have J:(S.put1 j i S').Q j={S.Q j with S:=S'}:=QF _ _ _;refine ⟨?_,?_,?_,?_,?_,?_,?_,?_,?_⟩ <;> rw [J]
  ·exact q.slot
  ·exact q.sh6
  ·exact C.1.trans q.len
  ·intro x K;have:=q.turn x K;omega
  ·exact C.2
  ·exact q.tn
  ·exact q.n
  ·exact q.k
  exact q.told
 exact ((h.q j I D).mono (b':=b+1) (by omega)).of_same (by show (if j=id then _ else _)=_;rw [if_neg H]) rfl (h.q j I D).slot
theorem XZ {c:CfgM} (h:mayC c=true) (A:1<=c.le/\c.le<=1000) (ns:Nat) {b:Int} (hb:0<=b):(CS.init c).OK ns b:=by
 have C:=Zf h;have B:∀ id∈(CS.init c).L,id≠0->False:=fun id C h0=>h0 (List.eq_of_mem_replicate C);refine ⟨Tab.new_ok _ _ C.2.1 C.2.2.1 A.1 A.2,⟨Int.le_refl _,hb⟩,⟨fun s s' x F _ D=>(B x (lm F) D).elim,fun x D=>by rw [List.eq_of_mem_replicate D];exact nz _,?_⟩,hb,fun id h1 E=>(B id h1 E).elim⟩;show 1<=(List.replicate c.sl.toNat 0).length/\(List.replicate c.sl.toNat 0).length<=4;rw [List.length_replicate];omega
theorem qay (hl:Lk S S') (id s:Nat) (t:Int):S'.askL id s t=S.askL id s t:=by
 unfold CS.askL;obtain ⟨sh,A⟩:=hl.Q id;rw [hl.t,hl.c,A]
def fromJ (P:Nat->Bool) (n j:Nat):Nat:=(((List.range n).drop j).find? P).getD 0
theorem Xak {P:Nat->Bool} {n j:Nat} (hj:j < n):fromJ P n j=if P j=true then j else fromJ P n (j+1):=by
 unfold fromJ;rw [List.drop_eq_getElem_cons (by rw [List.length_range];exact hj),List.getElem_range,List.find?_cons];cases e:P j with
 | true=>rfl
 | false=>rfl
theorem Yaz (P:Nat->Bool) (n:Nat):fromJ P n n=0:=by
 unfold fromJ;rw [List.drop_of_length_le (by rw [List.length_range];exact Nat.le_refl _)];rfl
theorem ZaW (S:CS) (s:Nat):((fromJ (S.liveJ s) S.c.cp.toNat 0:Nat):Int)=max (S.firstL s) 0:=by
 unfold fromJ CS.firstL;rw [List.drop_zero];cases e:(List.range S.c.cp.toNat).find? (S.liveJ s) with
 | none=>rfl
 | some k=>show ((k:Nat):Int)=max ((k:Nat):Int) 0;omega
theorem QD {c:CfgM} {s j:Nat} (hj:j < c.cp.toNat):(copN c s)[j]?=some (1+((s:Int)+(j:Int)) % c.wk):=by
 unfold copN;rw [List.getElem?_map,List.getElem?_range hj];rfl
theorem qak {c:CfgM} (h:1<=c.wk) (s j:Nat):1<=1+((s:Int)+(j:Int)) % c.wk/\1+((s:Int)+(j:Int)) % c.wk<=c.wk:=by
 have h1:=Int.emod_nonneg ((s:Int)+(j:Int)) (show c.wk≠0 by omega);have A:=Int.emod_lt_of_pos ((s:Int)+(j:Int)) (show 0 < c.wk by omega);omega
def copW (c:CfgM) (s j:Nat):Nat:=(1+((s:Int)+(j:Int)) % c.wk).toNat
theorem qL {c:CfgM} (h:1<=c.wk) (s j:Nat):((copW c s j:Nat):Int)=1+((s:Int)+(j:Int)) % c.wk:=by
 unfold copW;have:=qak h s j;omega
theorem zaM {P:Nat->Bool} {n:Nat} (hn:0 < n) (j:Nat):fromJ P n j < n:=by
 unfold fromJ;cases e:((List.range n).drop j).find? P with
 | none=>exact hn
 | some k=>
  have:=List.mem_of_mem_drop (List.mem_of_find?_eq_some e);exact List.mem_range.1 this
theorem xat {c:CfgM} (h:mayC c=true):∀ x∈c.cuts,-1000<=x.1/\x.1<=1000:=by
 unfold mayC goodE at h;simp only [Bool.and_eq_true,decide_eq_true_eq] at h;have h1:=h.1.2;split at h1
 ·omega
 split at h1
 ·omega
 rename_i A
 intro x B;rw [Bool.not_eq_true,List.any_eq_false] at A;have:=A x B;unfold badK at this;simp at this;omega
end Go.Proofs.YtinkbgeckjbnbaaGreat
