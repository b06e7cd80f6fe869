/- Lemmas (part 8). -/
import Derived.Deep.Cut
import Derived.Deep.CutRange
import Derived.IntWalk
import Derived.Test.YtinkbgeckjbnbaaGreatZw7
namespace Go.Proofs.YtinkbgeckjbnbaaGreat
open Go.RowKit Go.Proofs.Tryz
set_option autoImplicit true
set_option relaxedAutoImplicit true
set_option linter.unusedVariables false
set_option linter.unusedSimpArgs false
set_option maxRecDepth 100000
set_option maxHeartbeats 32000000
theorem QaW (x y:KeyL) (W:World):(binOp .eql 46 (.agg #[x.1,x.2]) (.agg #[y.1,y.2])).run prog W=.ok (.bool (decide (x=y))) W:=by
 obtain ⟨B,C⟩:=x;obtain ⟨E,F⟩:=y
 by_cases A:B=E/\C=F
 ·obtain ⟨rfl,rfl⟩:=A
  have H:(C.toList == C.toList)=true:=by simp
  have D:(B == B)=true:=by simp
  have hd:decide ((B,C)=(B,C))=true:=decide_eq_true rfl;rw [hd];go_simp
 have hd:decide ((B,C)=(E,F))=false:=decide_eq_false (fun e=>A (Prod.mk.inj e))
 rw [hd]
 by_cases D:B=E
 ·have H:=Xaq (fun e=>A ⟨D,e⟩)
  subst D;have D:(B == B)=true:=by simp
  clear A;go_simp
 have G:(B == E)=false:=by simpa using D
 clear A;go_simp
theorem Xo (w:World) (l:List Int) (h:l.length<=maxLen):Rd (w.alloc (.cells (ints l).toArray 3)) (some ⟨w.heap.size,0,none⟩) l.length l.length (ints l):=by
 have A:Blk (w.alloc (.cells (ints l).toArray 3)) w.heap.size 3 (ints l):=hn_ w _;exact A.rd _ _ _ (yx l) (nl _) h (fun i _=>rfl)
def afterB (f:Bool) (d:Int) (wd:ByteArray):Bool:=if f=true then decide ((d,wd)=((0:Int),(⟨#[]⟩:ByteArray))) else itemB (d,wd)
def askB (s q h sq ep:Int) (tx:ByteArray) (k b:Int) (f:Bool) (d:Int) (wd:ByteArray):Bool:=afterB f d wd&&placeB s h&&withinL [q,sq,ep]&&askedB tx&&decide (0<=k)&&decide (k<=4)&&decide (1<=b)&&decide (b<=5)
theorem qaO (s q h sq ep:Int) (tx:ByteArray) (k b:Int) (f:Bool) (d:Int) (wd:ByteArray) (w:World) (h1:tx.size<=maxLen) (h2:wd.size<=maxLen):
  Calls prog 92 #[.agg #[s,q,h,sq,ep,tx,k,b,.bool f,d,wd]] w fun e w'=>e=.returned (.bool (askB s q h sq ep tx k b f d wd))/\Below w.heap.size w w':=by
 have ⟨R,m⟩:=gn (askB s q h sq ep tx k b f d wd);rw [m];unfold askB at m;have A:=Hy m;clear m;have HB:=Hy ((bf _ w).alloc (nl _) (.cells #[s,q,h,sq,ep,tx,k,b,.bool f,d,wd] 48));have B:=Hy (show Blk (w.alloc (.cells #[s,q,h,sq,ep,tx,k,b,.bool f,d,wd] 48)) w.heap.size 48 [s,q,h,sq,ep,tx,k,b,.bool f,d,wd] from hn_ w _)
 have ⟨W,v⟩:=gn (w.alloc (.cells #[s,q,h,sq,ep,tx,k,b,.bool f,d,wd] 48));rw [v] at HB B;have HI:=Hy (fun V=>zW (d,wd) V h2);have z:=Hy (fun V=>YH s h V);have y:=Hy (fun V=>yU tx V h1);have n:=Hy (fun V a c hr=>Qm a 3 c [q,sq,ep] V hr);have Aa:=QaW (d,wd) ((0:Int),(⟨#[]⟩:ByteArray));have E:=Hy (show afterB f d wd=(if f=true then decide ((d,wd)=((0:Int),(⟨#[]⟩:ByteArray))) else itemB (d,wd)) from rfl);generalize afterB f d wd=af at *
 generalize decide ((d,wd)=((0:Int),(⟨#[]⟩:ByteArray)))=ez at *;generalize itemB (d,wd)=ib at *;generalize placeB s h=pb at *;generalize askedB tx=ab at *;generalize withinL [q,sq,ep]=wb at *;clear h1 h2;obtain ⟨H,I,J,K,L,M,N,P,Q,T,D⟩:=c11 B.o;go_in;go_wp2_with (rw [v]);clear v;refine (HI.o _).mono ?_;rintro e Y ⟨rfl,G⟩;clear H I J K L M N P Q T D;have C:=Hy (HB.trans ((G).mono HB.size));clear HB;have HB:=C;clear C;have C:=Hy (B.below G B.lt);clear B;have B:=C;clear C;clear G HI;obtain ⟨H,I,J,K,L,M,N,P,Q,T,D⟩:=c11 B.o
 cases f
 focus
  obtain rfl:af=ib:=by rw [E.o];rfl
 rotate_left
 focus
  obtain rfl:af=ez:=by rw [E.o];rfl
 all_goals
  clear E;cases af
  ·obtain rfl:R=false:=by rw [<- A.o];simp
   go_wp2_with fail;go_ret;exact ⟨rfl,HB.o⟩
  go_wp2_with fail;refine (z.o _).mono ?_;rintro e V2 ⟨rfl,rfl⟩;cases pb
  ·obtain rfl:R=false:=by rw [<- A.o];simp
   go_wp2_with fail;go_ret;exact ⟨rfl,HB.o⟩
  have F:=Hy ((bf _ Y).alloc (nl _) (.cells #[q,sq,ep] 3));have U:=Hy (show Rd (Y.alloc (.cells #[q,sq,ep] 3)) (some ⟨Y.heap.size,0,none⟩) 3 3 (ints [q,sq,ep]) from Xo Y [q,sq,ep] (by simp [maxLen]));have C:=Hy (HB.trans ((F.o).mono HB.size));clear HB;have HB:=C;clear C;have C:=Hy (B.below F.o B.lt);clear B;have B:=C;clear C;go_wp2_with fail;refine (n.o _ _ _ U.o).mono ?_;rintro e V3 ⟨rfl,rfl⟩;clear U F H I J K L M N P Q T D;have ⟨V4,Z⟩:=gn (Y.alloc (.cells #[q,sq,ep] 3))
  rw [Z] at HB B ⊢;clear Z;obtain ⟨H,I,J,K,L,M,N,P,Q,T,D⟩:=c11 B.o;cases wb
  ·obtain rfl:R=false:=by rw [<- A.o];simp
   go_wp2_with fail;go_ret;exact ⟨rfl,HB.o⟩
  go_wp2_with fail;refine (y.o _).mono ?_;rintro e V5 ⟨rfl,G⟩;clear H I J K L M N P Q T D;have C:=Hy (HB.trans ((G).mono HB.size));clear HB;have HB:=C;clear C;have C:=Hy (B.below G B.lt);clear B;have B:=C;clear C;clear G;obtain ⟨H,I,J,K,L,M,N,P,Q,T,D⟩:=c11 B.o;cases ab
  ·obtain rfl:R=false:=by rw [<- A.o];simp
   go_wp2_with fail;go_ret;exact ⟨rfl,HB.o⟩
  by_cases g:0<=k
  rotate_left
  ·have p:decide (0<=k)=false:=by simpa using g
   obtain rfl:R=false:=by rw [<- A.o,p];simp
   go_wp2_with fail;go_ret;exact ⟨rfl,HB.o⟩
  have p:decide (0<=k)=true:=by simpa using g
  by_cases i:k<=4
  rotate_left
  ·have r:decide (k<=4)=false:=by simpa using i
   obtain rfl:R=false:=by rw [<- A.o,r];simp
   go_wp2_with fail;go_ret;exact ⟨rfl,HB.o⟩
  have r:decide (k<=4)=true:=by simpa using i
  by_cases j:1<=b
  rotate_left
  ·have t:decide (1<=b)=false:=by simpa using j
   obtain rfl:R=false:=by rw [<- A.o,t];simp
   go_wp2_with fail;go_ret;exact ⟨rfl,HB.o⟩
  have t:decide (1<=b)=true:=by simpa using j
  by_cases l:b<=5
  rotate_left
  ·have u:decide (b<=5)=false:=by simpa using l
   obtain rfl:R=false:=by rw [<- A.o,u];simp
   go_wp2_with fail;go_ret;exact ⟨rfl,HB.o⟩
  have u:decide (b<=5)=true:=by simpa using l
  obtain rfl:R=true:=by rw [<- A.o,p,r,t,u];rfl
  go_wp2_with fail;go_ret;exact ⟨rfl,HB.o⟩
def itOK (l:List KeyL):Nat->Bool
 | 0=>true
 | n+1=>itOK l n&&(match l[n]? with
  | some x=>itemB x&&(match n with
   | 0=>true
   | m+1=>match l[m]? with
    | some y=>kless y x
    | none=>true)
  | none=>true)
theorem Zy {l:List KeyL} {x:KeyL} (h:l[0]?=some x):itOK l 1=itemB x:=by
 unfold itOK;rw [h];simp [itOK]
theorem Qy {l:List KeyL} {m:Nat} {x y:KeyL} (h:l[m+1]?=some x) (hy:l[m]?=some y):itOK l (m+1+1)=(itOK l (m+1)&&(itemB x&&kless y x)):=by
 conv=>lhs;unfold itOK
 rw [h];simp only;rw [hy]
theorem yE {l:List KeyL} {k:Nat} (h:itOK l k=false):∀ n,k<=n->itOK l n=false
 | 0,hk9=>by
  obtain rfl:k=0:=by omega
  exact h
 | n+1,hk9=>by
  by_cases e:k=n+1
  ·rw [<- e];exact h
  ·unfold itOK
   rw [yE h n (by omega)]
   rfl
def replyB (s q h sq wk ep:Int) (l:List KeyL):Bool:=itOK l l.length&&decide (l.length<=5)&&placeB s h&&withinL [q,sq,ep]&&workerB wk
theorem XaW (x y:KeyL) (w:World):Calls prog 88 #[.agg #[x.1,x.2],.agg #[y.1,y.2]] w fun e w'=>e=.returned (.bool (kless x y))/\Below w.heap.size w w':=QO x.1 x.2 y.1 y.2 w
def RpR (w:World) (l:List KeyL) (v:Value) (wr:World):Prop:=∃ i:Nat,i<=l.length/\v=.int .i64 i/\Hid (itOK l i=true)/\Hid (Below w.heap.size w wr)
theorem yam (s q h sq wk ep:Int) (a:Option Addr) (c:Nat) (l:List KeyL) (en:Bool) (w:World) (t:RdE KeyL.cells 2 w a l.length c l) (hz:∀ x∈l,x.2.size<=maxLen):
  Calls prog 93 #[.agg #[s,q,h,sq,wk,ep,.slice a l.length c,.bool en]] w fun e w'=>e=.returned (.bool (replyB s q h sq wk ep l))/\Below w.heap.size w w':=by
 have ⟨R,hR⟩:=gn (replyB s q h sq wk ep l);rw [hR];unfold replyB at hR;have P:=Hy hR;clear hR;have A4:=t.2.1;have Ay:=t.2.2.1;unfold maxLen at Ay;have HB:=Hy ((bf _ w).alloc (nl _) (.cells #[s,q,h,sq,wk,ep,.slice a l.length c,.bool en] 65));have E:=Hy (show Blk (w.alloc (.cells #[s,q,h,sq,wk,ep,.slice a l.length c,.bool en] 65)) w.heap.size 65 [s,q,h,sq,wk,ep,.slice a l.length c,.bool en] from hn_ w _)
 have ⟨W,hW⟩:=gn (w.alloc (.cells #[s,q,h,sq,wk,ep,.slice a l.length c,.bool en] 65));rw [hW] at HB E;have Q:=Hy (t.below HB.o rfl);have HZ:=Hy hz;clear t hz;have HP:=Hy (fun V=>YH s h V);have Au:=Hy (fun V=>ZC wk V);have At:=Hy (fun V a c t=>Qm a 3 c [q,sq,ep] V t);generalize placeB s h=pb at *;generalize workerB wk=kb at *;generalize withinL [q,sq,ep]=wb at *;obtain ⟨t0,t1,t2,t3,t4,t5,t6,t7⟩:=c8 E.o;have z:=Hy (bf W.heap.size W);go_in
 go_wp2_with (rw [hW]);clear hW;go_loopw [8] (fun v wr=>RpR W l v wr) (fun v _=>l.length - (intOf v).toNat)
 case atStart=>exact ⟨0,by omega,rfl,rfl,z.o⟩
 case round=>
  clear z t0 t1 t2 t3 t4 t5 t6 t7;obtain ⟨i,hi,rfl,HT,L⟩:=hrel;have D:=Hy (HB.trans ((L.o).mono HB.size));clear HB;have HB:=D;clear D;have D:=Hy (E.below L.o E.lt);clear E;have E:=D;clear D;have D:=Hy (Q.below L.o rfl);clear Q;have Q:=D;clear D
  by_cases Ae:i < l.length
  ·obtain ⟨x,hx⟩:∃ x,l[i]?=some x:=⟨_,le_ Ae⟩
   have T:=Hy (fun V=>zW x V (HZ.o x (lm hx)));obtain ⟨M,N,rfl,AA,k⟩:=Q.2.2.2.2 i x hx;have x0:wr.cell? ⟨M,N+i * 2,none⟩=some (.int .i64 x.1):=k 0 (by decide);have x1:wr.cell? ⟨M,N+i * 2+1,none⟩=some (.string x.2):=k 1 (by decide);have k1:(0:Int)<=(i:Int):=by omega
   have k2:(i:Int) < (l.length:Int):=by omega
   have Z:=Hy hx;have G:=Hy ((bf _ wr).alloc (nl _) (.cells #[x.1,x.2] 46));have B:=Hy (show Blk (wr.alloc (.cells #[x.1,x.2] 46)) wr.heap.size 46 [x.1,x.2] from hn_ wr _);clear hx k;have D:=Hy (HB.trans ((G.o).mono HB.size));clear HB;have HB:=D;clear D;have D:=Hy (E.below G.o E.lt);clear E;have E:=D;clear D;have D:=Hy (Q.below G.o rfl);clear Q;have Q:=D;clear D;have J:=Hy (L.trans (G.mono L.size));clear G L
   go_upto_region 4 with fail;have ⟨V,hV⟩:=gn (wr.alloc (.cells #[x.1,x.2] 46));rw [hV] at B HB E Q J ⊢;clear hV x0 x1;have ⟨u,Af⟩:=gn wr.heap.size;rw [Af] at B ⊢;clear Af;have A:Hid (Below V.heap.size V V.drew):=below_drewN (bf _ _) 1;cases I:itemB x
   ·rw [I] at T
    obtain rfl:R=false:=by
     rw [<- P.o]
     have h1:itOK l (i+1)=false:=by
      cases i with
      | zero=>rw [Zy Z.o,I]
      | succ m=>
       obtain ⟨y,hy⟩:∃ y,l[m]?=some y:=⟨_,le_ (by omega)⟩;rw [Qy Z.o hy,I];simp
     rw [yE h1 l.length (by omega)];rfl
    clear I;refine wp_region_held_drew (S:=(fun w'=>Ci w' u 0 x.1/\Ct w' u 1 x.2)) (by kernel_rfl) (by exact ⟨(Blk.below B.o A.o (Blk.lt B.o)).cell 0,(Blk.below B.o A.o (Blk.lt B.o)).cell 1⟩) (fun C=>?_);refine tk 0 ?_;refine rdy 1 fun K U=>?_;go_simp;go_at_call 143;(with_reducible refine (T.o _).mono ?_);rintro e u1 ⟨rfl,Y⟩;have F:=Hy (A.o.trans (Y.mono A.o.size));clear A;have A:=F;clear F;clear Y;go_wp2_with fail;refine U.out _ _ (by exact ⟨(Blk.below B.o A.o (Blk.lt B.o)).cell 0,(Blk.below B.o A.o (Blk.lt B.o)).cell 1⟩) (fun C=>?_)
    clear U K;(iterate 16 first | refine tq 2 ?_ | refine tr 2 ?_);refine dn ?_;have b:=Hy (HB.trans (A.mono HB.size));go_wp2_with fail;go_ret;exact ⟨rfl,b.o⟩
   rw [I] at T
   by_cases Ad:i=0
   ·subst Ad
    have As:=Hy (by rw [Zy Z.o,I]:itOK l 1=true);clear I;refine wp_region_held_drew (S:=(fun w'=>Ci w' u 0 x.1/\Ct w' u 1 x.2)) (by kernel_rfl) (by exact ⟨(Blk.below B.o A.o (Blk.lt B.o)).cell 0,(Blk.below B.o A.o (Blk.lt B.o)).cell 1⟩) (fun C=>?_);refine tk 0 ?_;refine rdy 1 fun K U=>?_;go_simp;go_at_call 143;(with_reducible refine (T.o _).mono ?_);rintro e u1 ⟨rfl,Y⟩;have F:=Hy (A.o.trans (Y.mono A.o.size));clear A;have A:=F;clear F;clear Y;go_wp2_with fail
    refine U.out _ _ (by exact ⟨(Blk.below B.o A.o (Blk.lt B.o)).cell 0,(Blk.below B.o A.o (Blk.lt B.o)).cell 1⟩) (fun C=>?_);clear U K;(iterate 16 first | refine tq 2 ?_ | refine tr 2 ?_);refine dn ?_;have f:=Hy (J.trans (A.mono J.size));go_wp2_with fail;go_roundw
    case rel=>exact ⟨1,by omega,by go_num,As.o,f.o⟩
    case measure=>simp [intOf];omega
   have ⟨d,hd⟩:=gn (i - 1);have r:d+1=i:=by omega
   obtain ⟨y,hy⟩:∃ y,l[d]?=some y:=⟨_,le_ (by omega)⟩;obtain ⟨Av,Az,e,H,n⟩:=Q.2.2.2.2 d y hy;obtain ⟨rfl,rfl⟩:M=Av/\N=Az:=by cases e;exact ⟨rfl,rfl⟩
   have g:=Hy (show Ci V M (N+d * 2) y.1 from n 0 (by decide));have j:=Hy (show Ct V M (N+d * 2+1) y.2 from n 1 (by decide));have wd:IntKind.i64.wrap ((i:Int) - 1)=(d:Int):=by rw [IntWalk.i64_in _ (by omega)];omega
   have k5:(0:Int)<=(d:Int):=by omega
   have k6:(d:Int) < (l.length:Int):=by omega
   have k7:decide ((0:Int) < (i:Int))=true:=by simp;omega
   have k8:0 < i:=by omega
   have k9:decide (0 < i)=true:=by simpa using k8
   have Ab:=Hy (show itOK l (i+1)=kless y x from by
    have h1:l[d+1]?=some x:=by rw [r];exact Z.o
    have h2:=Qy h1 hy;have h3:=HT.o;rw [r] at h2;rw [h2,h3,I];simp)
   have Ar:=Hy (XaW y x);clear hy n e hd r Ad I;generalize kless y x=kl at *;refine wp_region_held_drew (S:=(fun w'=>Ci w' u 0 x.1/\Ct w' u 1 x.2/\Cl w' w.heap.size 6 (.slice (some ⟨M,N,none⟩) l.length c)/\Ci w' M (N+d * 2) y.1/\Ct w' M (N+d * 2+1) y.2)) (by kernel_rfl) (by exact ⟨(Blk.below B.o A.o (Blk.lt B.o)).cell 0,(Blk.below B.o A.o (Blk.lt B.o)).cell 1,(Blk.below E.o A.o (Blk.lt E.o)).cell 6,(A.cell (p:=⟨M,N+d * 2,none⟩) H).trans g.o,(A.cell (p:=⟨M,N+d * 2+1,none⟩) H).trans j.o⟩) (fun C=>?_)
   refine tk 0 ?_;refine rdy 1 fun K U=>?_;go_simp;go_at_call 143;(with_reducible refine (T.o _).mono ?_);rintro e u1 ⟨rfl,Y⟩;have F:=Hy (A.o.trans (Y.mono A.o.size));clear A;have A:=F;clear F;clear Y;go_wp2_with fail;refine U.out _ _ (by exact ⟨(Blk.below B.o A.o (Blk.lt B.o)).cell 0,(Blk.below B.o A.o (Blk.lt B.o)).cell 1,(Blk.below E.o A.o (Blk.lt E.o)).cell 6,(A.o.cell (p:=⟨M,N+d * 2,none⟩) H).trans g.o,(A.o.cell (p:=⟨M,N+d * 2+1,none⟩) H).trans j.o⟩) (fun C=>?_);clear U K;(iterate 12 refine tq 2 ?_);refine rdy 14 fun K U=>?_;go_simp;go_at_call 88;(with_reducible refine (Ar.o _).mono ?_);rintro e u2 ⟨rfl,Y⟩;have F:=Hy (A.o.trans (Y.mono A.o.size));clear A;have A:=F;clear F;clear Y;go_wp2_with fail;refine U.out _ _ (by exact ⟨(Blk.below B.o A.o (Blk.lt B.o)).cell 0,(Blk.below B.o A.o (Blk.lt B.o)).cell 1,(Blk.below E.o A.o (Blk.lt E.o)).cell 6,(A.o.cell (p:=⟨M,N+d * 2,none⟩) H).trans g.o,(A.o.cell (p:=⟨M,N+d * 2+1,none⟩) H).trans j.o⟩) (fun C=>?_)
   clear U K;(iterate 3 refine tq 15 ?_);refine dn ?_;have f:=Hy (J.trans (A.mono J.size));have b:=Hy (HB.trans (A.mono HB.size));clear wd;cases kl
   ·obtain rfl:R=false:=by rw [<- P.o,yE Ab.o l.length (by omega)];rfl
    go_wp2_with fail;go_ret;exact ⟨rfl,b.o⟩
   go_wp2_with fail
   go_roundw
   case rel=>exact ⟨i+1,by omega,by go_num,Ab.o,f.o⟩
   case measure=>simp [intOf];omega
  obtain rfl:i=l.length:=by omega
  clear Ae L;obtain ⟨t0,t1,t2,t3,t4,t5,t6,t7⟩:=c8 E.o
  by_cases h5:l.length<=5
  rotate_left
  ·have d1:decide ((l.length:Int)<=5)=false:=by simp;omega
   have d2:decide (l.length<=5)=false:=by simpa using h5
   obtain rfl:R=false:=by rw [<- P.o,d2];simp
   go_wp2_with fail;go_ret;exact ⟨rfl,HB.o⟩
  have d1:decide ((l.length:Int)<=5)=true:=by simp;omega
  have d2:decide (l.length<=5)=true:=by simpa using h5
  go_wp2_with fail;refine (HP.o _).mono ?_;rintro e V2 ⟨rfl,rfl⟩;cases pb
  ·obtain rfl:R=false:=by rw [<- P.o];simp
   go_wp2_with fail;go_ret;exact ⟨rfl,HB.o⟩
  have G:=Hy ((bf _ wr).alloc (nl _) (.cells #[q,sq,ep] 3));have Aa:=Hy (show Rd (wr.alloc (.cells #[q,sq,ep] 3)) (some ⟨wr.heap.size,0,none⟩) 3 3 (ints [q,sq,ep]) from Xo wr [q,sq,ep] (by simp [maxLen]));have D:=Hy (HB.trans ((G.o).mono HB.size));clear HB;have HB:=D;clear D;have D:=Hy (E.below G.o E.lt);clear E;have E:=D;clear D;have D:=Hy (Q.below G.o rfl);clear Q;have Q:=D;clear D;go_wp2_with fail;refine (At.o _ _ _ Aa.o).mono ?_
  rintro e V3 ⟨rfl,rfl⟩;clear Aa G t0 t1 t2 t3 t4 t5 t6 t7;have ⟨V4,Ac⟩:=gn (wr.alloc (.cells #[q,sq,ep] 3));rw [Ac] at HB E ⊢;clear Ac Q;obtain ⟨t0,t1,t2,t3,t4,t5,t6,t7⟩:=c8 E.o;cases wb
  ·obtain rfl:R=false:=by rw [<- P.o];simp
   go_wp2_with fail;go_ret;exact ⟨rfl,HB.o⟩
  go_wp2_with fail;refine (Au.o _).mono ?_;rintro e V5 ⟨rfl,rfl⟩;obtain rfl:R=kb:=by rw [<- P.o,HT.o,d2];simp
  go_wp2_with fail;go_ret;exact ⟨rfl,HB.o⟩
inductive MV where
 | hello (w0 l0:Int)
 | grant (w0 l0 e0:Int)
 | ask (s q h sq ep:Int) (tx:ByteArray) (k b:Int) (f:Bool) (d:Int) (wd:ByteArray)
 | reply (s q h sq wk ep:Int) (l:List KeyL) (en:Bool)
 | stop (s q:Int)
 | other (t:TypeId) (v:Value)
 | nil
def MV.At (w:World) (u:Value):MV->Prop
 | .hello w0 l0=>u=.iface 36 (.agg #[w0,l0])
 | .grant w0 l0 e0=>u=.iface 99 (.agg #[w0,l0,e0])
 | .ask s q h sq ep tx k b f d wd=>u=.iface 48 (.agg #[s,q,h,sq,ep,tx,k,b,.bool f,d,wd])
 | .stop s q=>u=.iface 87 (.agg #[s,q])
 | .reply s q h sq wk ep l en=>∃ a c,u=.iface 65 (.agg #[s,q,h,sq,wk,ep,.slice a l.length c,.bool en])/\RdE KeyL.cells 2 w a l.length c l
 | .other t v=>u=.iface t v/\t≠36/\t≠99/\t≠48/\t≠65/\t≠87
 | .nil=>u=.nilIface
def MV.small:MV->Prop
 | .ask s q h sq ep tx k b f d wd=>tx.size<=maxLen/\wd.size<=maxLen
 | .reply s q h sq wk ep l en=>∀ x∈l,x.2.size<=maxLen
 | _=>True
def MV.may:MV->Bool
 | .hello w0 l0=>workerB w0&&withinL [l0]
 | .grant w0 l0 e0=>workerB w0&&withinL [l0,e0]
 | .ask s q h sq ep tx k b f d wd=>askB s q h sq ep tx k b f d wd
 | .reply s q h sq wk ep l en=>replyB s q h sq wk ep l
 | .stop s q=>placeB s 0&&withinL [q]
 | _=>false
theorem xg (v:Value) (X:TypeId) (w:World):(Instr.typeAssert (.iface 36 v) X 36 true).run prog w=.ok (.tuple #[v,true]) w:=by kernel_rfl
theorem Xj (v:Value) (X:TypeId) (w:World):(Instr.typeAssert (.iface 99 v) X 36 true).run prog w=.ok (.tuple #[.agg #[(),()],false]) w:=by kernel_rfl
theorem Yn (v:Value) (X:TypeId) (w:World):(Instr.typeAssert (.iface 48 v) X 36 true).run prog w=.ok (.tuple #[.agg #[(),()],false]) w:=by kernel_rfl
theorem Ze (v:Value) (X:TypeId) (w:World):(Instr.typeAssert (.iface 65 v) X 36 true).run prog w=.ok (.tuple #[.agg #[(),()],false]) w:=by kernel_rfl
theorem Zl (v:Value) (X:TypeId) (w:World):(Instr.typeAssert (.iface 87 v) X 36 true).run prog w=.ok (.tuple #[.agg #[(),()],false]) w:=by kernel_rfl
theorem yw (X:TypeId) (w:World):(Instr.typeAssert .nilIface X 36 true).run prog w=.ok (.tuple #[.agg #[(),()],false]) w:=by kernel_rfl
theorem Zp (t:TypeId) (v:Value) (X:TypeId) (w:World) (h:t≠36):(Instr.typeAssert (.iface t v) X 36 true).run prog w=.ok (.tuple #[.agg #[(),()],false]) w:=by
 have e:Nat.decEq t 36=.isFalse h:=Subsingleton.elim _ _;have:(Instr.typeAssert (.iface t v) X 36 true).run prog w=(fun d:Decidable (t=36)=>(@ite (Sem Value) (t=36) d (pure (.tuple #[v,true])) (do let z <- zeroValue 36;pure (.tuple #[z,false]))).run prog w) (Nat.decEq t 36):=by kernel_rfl
 rw [this,e];show _=_;kernel_rfl
theorem zg (v:Value) (X:TypeId) (w:World):(Instr.typeAssert (.iface 36 v) X 99 true).run prog w=.ok (.tuple #[.agg #[(),(),()],false]) w:=by kernel_rfl
theorem xp (v:Value) (X:TypeId) (w:World):(Instr.typeAssert (.iface 99 v) X 99 true).run prog w=.ok (.tuple #[v,true]) w:=by kernel_rfl
theorem Zn (v:Value) (X:TypeId) (w:World):(Instr.typeAssert (.iface 48 v) X 99 true).run prog w=.ok (.tuple #[.agg #[(),(),()],false]) w:=by kernel_rfl
theorem yg (v:Value) (X:TypeId) (w:World):(Instr.typeAssert (.iface 65 v) X 99 true).run prog w=.ok (.tuple #[.agg #[(),(),()],false]) w:=by kernel_rfl
theorem Ql (v:Value) (X:TypeId) (w:World):(Instr.typeAssert (.iface 87 v) X 99 true).run prog w=.ok (.tuple #[.agg #[(),(),()],false]) w:=by kernel_rfl
theorem zw (X:TypeId) (w:World):(Instr.typeAssert .nilIface X 99 true).run prog w=.ok (.tuple #[.agg #[(),(),()],false]) w:=by kernel_rfl
theorem Qp (t:TypeId) (v:Value) (X:TypeId) (w:World) (h:t≠99):(Instr.typeAssert (.iface t v) X 99 true).run prog w=.ok (.tuple #[.agg #[(),(),()],false]) w:=by
 have e:Nat.decEq t 99=.isFalse h:=Subsingleton.elim _ _;have:(Instr.typeAssert (.iface t v) X 99 true).run prog w=(fun d:Decidable (t=99)=>(@ite (Sem Value) (t=99) d (pure (.tuple #[v,true])) (do let z <- zeroValue 99;pure (.tuple #[z,false]))).run prog w) (Nat.decEq t 99):=by kernel_rfl
 rw [this,e];show _=_;kernel_rfl
theorem Zj (v:Value) (X:TypeId) (w:World):(Instr.typeAssert (.iface 36 v) X 48 true).run prog w=.ok (.tuple #[.agg #[(),(),(),(),(),ByteArray.empty,(),(),false,(),ByteArray.empty],false]) w:=by kernel_rfl
theorem Qn (v:Value) (X:TypeId) (w:World):(Instr.typeAssert (.iface 99 v) X 48 true).run prog w=.ok (.tuple #[.agg #[(),(),(),(),(),ByteArray.empty,(),(),false,(),ByteArray.empty],false]) w:=by kernel_rfl
theorem zC (v:Value) (X:TypeId) (w:World):(Instr.typeAssert (.iface 48 v) X 48 true).run prog w=.ok (.tuple #[v,true]) w:=by kernel_rfl
theorem Yj (v:Value) (X:TypeId) (w:World):(Instr.typeAssert (.iface 65 v) X 48 true).run prog w=.ok (.tuple #[.agg #[(),(),(),(),(),ByteArray.empty,(),(),false,(),ByteArray.empty],false]) w:=by kernel_rfl
theorem yr (v:Value) (X:TypeId) (w:World):(Instr.typeAssert (.iface 87 v) X 48 true).run prog w=.ok (.tuple #[.agg #[(),(),(),(),(),ByteArray.empty,(),(),false,(),ByteArray.empty],false]) w:=by kernel_rfl
theorem yC (X:TypeId) (w:World):(Instr.typeAssert .nilIface X 48 true).run prog w=.ok (.tuple #[.agg #[(),(),(),(),(),ByteArray.empty,(),(),false,(),ByteArray.empty],false]) w:=by kernel_rfl
theorem qw (t:TypeId) (v:Value) (X:TypeId) (w:World) (h:t≠48):(Instr.typeAssert (.iface t v) X 48 true).run prog w=.ok (.tuple #[.agg #[(),(),(),(),(),ByteArray.empty,(),(),false,(),ByteArray.empty],false]) w:=by
 have e:Nat.decEq t 48=.isFalse h:=Subsingleton.elim _ _;have:(Instr.typeAssert (.iface t v) X 48 true).run prog w=(fun d:Decidable (t=48)=>(@ite (Sem Value) (t=48) d (pure (.tuple #[v,true])) (do let z <- zeroValue 48;pure (.tuple #[z,false]))).run prog w) (Nat.decEq t 48):=by kernel_rfl
 rw [this,e];show _=_;kernel_rfl
theorem Qg (v:Value) (X:TypeId) (w:World):(Instr.typeAssert (.iface 36 v) X 65 true).run prog w=.ok (.tuple #[.agg #[(),(),(),(),(),(),.slice none 0 0,false],false]) w:=by kernel_rfl
theorem qk (v:Value) (X:TypeId) (w:World):(Instr.typeAssert (.iface 99 v) X 65 true).run prog w=.ok (.tuple #[.agg #[(),(),(),(),(),(),.slice none 0 0,false],false]) w:=by kernel_rfl
theorem Xn (v:Value) (X:TypeId) (w:World):(Instr.typeAssert (.iface 48 v) X 65 true).run prog w=.ok (.tuple #[.agg #[(),(),(),(),(),(),.slice none 0 0,false],false]) w:=by kernel_rfl
theorem Zg (v:Value) (X:TypeId) (w:World):(Instr.typeAssert (.iface 65 v) X 65 true).run prog w=.ok (.tuple #[v,true]) w:=by kernel_rfl
theorem Yl (v:Value) (X:TypeId) (w:World):(Instr.typeAssert (.iface 87 v) X 65 true).run prog w=.ok (.tuple #[.agg #[(),(),(),(),(),(),.slice none 0 0,false],false]) w:=by kernel_rfl
theorem Qw (X:TypeId) (w:World):(Instr.typeAssert .nilIface X 65 true).run prog w=.ok (.tuple #[.agg #[(),(),(),(),(),(),.slice none 0 0,false],false]) w:=by kernel_rfl
theorem Yp (t:TypeId) (v:Value) (X:TypeId) (w:World) (h:t≠65):(Instr.typeAssert (.iface t v) X 65 true).run prog w=.ok (.tuple #[.agg #[(),(),(),(),(),(),.slice none 0 0,false],false]) w:=by
 have e:Nat.decEq t 65=.isFalse h:=Subsingleton.elim _ _;have:(Instr.typeAssert (.iface t v) X 65 true).run prog w=(fun d:Decidable (t=65)=>(@ite (Sem Value) (t=65) d (pure (.tuple #[v,true])) (do let z <- zeroValue 65;pure (.tuple #[z,false]))).run prog w) (Nat.decEq t 65):=by kernel_rfl
 rw [this,e];show _=_;kernel_rfl
theorem Yh (v:Value) (X:TypeId) (w:World):(Instr.typeAssert (.iface 36 v) X 87 true).run prog w=.ok (.tuple #[.agg #[(),()],false]) w:=by kernel_rfl
theorem Xl (v:Value) (X:TypeId) (w:World):(Instr.typeAssert (.iface 99 v) X 87 true).run prog w=.ok (.tuple #[.agg #[(),()],false]) w:=by kernel_rfl
theorem xr (v:Value) (X:TypeId) (w:World):(Instr.typeAssert (.iface 48 v) X 87 true).run prog w=.ok (.tuple #[.agg #[(),()],false]) w:=by kernel_rfl
theorem Xh (v:Value) (X:TypeId) (w:World):(Instr.typeAssert (.iface 65 v) X 87 true).run prog w=.ok (.tuple #[.agg #[(),()],false]) w:=by kernel_rfl
theorem Zw (v:Value) (X:TypeId) (w:World):(Instr.typeAssert (.iface 87 v) X 87 true).run prog w=.ok (.tuple #[v,true]) w:=by kernel_rfl
theorem Yx (X:TypeId) (w:World):(Instr.typeAssert .nilIface X 87 true).run prog w=.ok (.tuple #[.agg #[(),()],false]) w:=by kernel_rfl
theorem Qs (t:TypeId) (v:Value) (X:TypeId) (w:World) (h:t≠87):(Instr.typeAssert (.iface t v) X 87 true).run prog w=.ok (.tuple #[.agg #[(),()],false]) w:=by
 have e:Nat.decEq t 87=.isFalse h:=Subsingleton.elim _ _;have:(Instr.typeAssert (.iface t v) X 87 true).run prog w=(fun d:Decidable (t=87)=>(@ite (Sem Value) (t=87) d (pure (.tuple #[v,true])) (do let z <- zeroValue 87;pure (.tuple #[z,false]))).run prog w) (Nat.decEq t 87):=by kernel_rfl
 rw [this,e];show _=_;kernel_rfl
theorem QaO (m:MV) (u:Value) (w:World) (h:m.At w u) (hz:m.small):
  Calls prog 41 #[u] w fun e w'=>e=.returned (.bool m.may)/\Below w.heap.size w w':=by
 cases m with
 | hello w0 l0=>
  obtain rfl:=h;have HB:=Hy ((bf _ w).alloc (nl _) (.cells #[w0,l0] 36));have B:=Hy (show Blk (w.alloc (.cells #[w0,l0] 36)) w.heap.size 36 [w0,l0] from hn_ w _);have ⟨W,A⟩:=gn (w.alloc (.cells #[w0,l0] 36));rw [A] at HB B;have H:=Hy (fun V=>ZC w0 V);have E:=Hy (fun V a c F=>Qm a 1 c [l0] V F);show Calls prog 41 _ w fun e w'=>e=.returned (.bool (workerB w0&&withinL [l0]))/\Below w.heap.size w w';generalize workerB w0=fb at *;generalize withinL [l0]=wb at *
  have K:Ci W w.heap.size 0 w0:=B.cell 0;have L:W.cell? ⟨w.heap.size,1,none⟩=some (.int .i64 l0):=B.cell 1;go_in;go_wp2_with (first | rw [A] | rw [xg] | rw [zg] | rw [Zj] | rw [Qg] | rw [Yh]);clear A;refine (H.o _).mono ?_;rintro e J ⟨rfl,rfl⟩;cases fb
  ·go_wp2_with fail
   go_ret;exact ⟨rfl,HB.o⟩
  have D:=Hy (show Rd (W.alloc (.cells #[l0] 3)) (some ⟨W.heap.size,0,none⟩) 1 1 (ints [l0]) from Xo W [l0] (by simp [maxLen]));have C:=Hy (HB.alloc HB.size (.cells #[l0] 3));go_wp2_with fail;refine (E.o _ _ _ D.o).mono ?_;rintro e N ⟨rfl,rfl⟩;go_wp2_with fail;go_ret;exact ⟨by cases wb <;> rfl,C.o⟩
 | grant w0 l0 e0=>
  obtain rfl:=h;have HB:=Hy ((bf _ w).alloc (nl _) (.cells #[w0,l0,e0] 99));have B:=Hy (show Blk (w.alloc (.cells #[w0,l0,e0] 99)) w.heap.size 99 [w0,l0,e0] from hn_ w _);have ⟨W,A⟩:=gn (w.alloc (.cells #[w0,l0,e0] 99));rw [A] at HB B;have H:=Hy (fun V=>ZC w0 V);have E:=Hy (fun V a c F=>Qm a 2 c [l0,e0] V F);show Calls prog 41 _ w fun e w'=>e=.returned (.bool (workerB w0&&withinL [l0,e0]))/\Below w.heap.size w w'
  generalize workerB w0=fb at *;generalize withinL [l0,e0]=wb at *;obtain ⟨K,L,P⟩:=c3 B.o;go_in;go_wp2_with (first | rw [A] | rw [Xj] | rw [xp] | rw [Qn] | rw [qk] | rw [Xl]);clear A;refine (H.o _).mono ?_;rintro e J ⟨rfl,rfl⟩;cases fb
  ·go_wp2_with fail
   go_ret;exact ⟨rfl,HB.o⟩
  have D:=Hy (show Rd (W.alloc (.cells #[l0,e0] 3)) (some ⟨W.heap.size,0,none⟩) 2 2 (ints [l0,e0]) from Xo W [l0,e0] (by simp [maxLen]));have C:=Hy (HB.alloc HB.size (.cells #[l0,e0] 3));go_wp2_with fail;refine (E.o _ _ _ D.o).mono ?_;rintro e N ⟨rfl,rfl⟩;go_wp2_with fail;go_ret;exact ⟨by cases wb <;> rfl,C.o⟩
 | ask s q h0 sq ep tx k b f d wd=>
  obtain rfl:=h;obtain ⟨z1,z2⟩:=hz;have M:=Hy (fun V=>qaO s q h0 sq ep tx k b f d wd V z1 z2);have HB:=Hy ((bf _ w).alloc (nl _) (.cells #[s,q,h0,sq,ep,tx,k,b,.bool f,d,wd] 48));have B:=Hy (show Blk (w.alloc (.cells #[s,q,h0,sq,ep,tx,k,b,.bool f,d,wd] 48)) w.heap.size 48 [s,q,h0,sq,ep,tx,k,b,.bool f,d,wd] from hn_ w _)
  have ⟨W,A⟩:=gn (w.alloc (.cells #[s,q,h0,sq,ep,tx,k,b,.bool f,d,wd] 48));rw [A] at HB B;show Calls prog 41 _ w fun e w'=>e=.returned (.bool (askB s q h0 sq ep tx k b f d wd))/\Below w.heap.size w w';generalize askB s q h0 sq ep tx k b f d wd=R at *;obtain ⟨K,L,P,i,j,n,p,r,y,z,g⟩:=c11 B.o;go_in;go_wp2_with (first | rw [A] | rw [Yn] | rw [Zn] | rw [zC] | rw [Xn] | rw [xr]);clear A;refine (M.o _).mono ?_
  rintro e J ⟨rfl,I⟩;have G:=Hy (HB.trans (I.mono HB.size));clear I;go_wp2_with fail;go_ret;exact ⟨rfl,G.o⟩
 | reply s q h0 sq wk ep l en=>
  obtain ⟨a,c,rfl,F⟩:=h;have HB:=Hy ((bf _ w).alloc (nl _) (.cells #[s,q,h0,sq,wk,ep,.slice a l.length c,.bool en] 65));have B:=Hy (show Blk (w.alloc (.cells #[s,q,h0,sq,wk,ep,.slice a l.length c,.bool en] 65)) w.heap.size 65 [s,q,h0,sq,wk,ep,.slice a l.length c,.bool en] from hn_ w _);have ⟨W,A⟩:=gn (w.alloc (.cells #[s,q,h0,sq,wk,ep,.slice a l.length c,.bool en] 65))
  rw [A] at HB B;have M:=Hy (fun V:World=>yam s q h0 sq wk ep a c l en W (F.below HB.o rfl) hz);clear F hz;show Calls prog 41 _ w fun e w'=>e=.returned (.bool (replyB s q h0 sq wk ep l))/\Below w.heap.size w w';generalize replyB s q h0 sq wk ep l=R at *;obtain ⟨K,L,P,i,j,n,p,r⟩:=c8 B.o;go_in;go_wp2_with (first | rw [A] | rw [Ze] | rw [yg] | rw [Yj] | rw [Zg] | rw [Xh]);clear A;refine (M.o W).mono ?_;rintro e J ⟨rfl,I⟩;have G:=Hy (HB.trans (I.mono HB.size))
  clear I;go_wp2_with fail;go_ret;exact ⟨rfl,G.o⟩
 | stop s q=>
  obtain rfl:=h;have HB:=Hy ((bf _ w).alloc (nl _) (.cells #[s,q] 87));have B:=Hy (show Blk (w.alloc (.cells #[s,q] 87)) w.heap.size 87 [s,q] from hn_ w _);have ⟨W,A⟩:=gn (w.alloc (.cells #[s,q] 87));rw [A] at HB B;have H:=Hy (fun V=>YH s 0 V);have E:=Hy (fun V a c F=>Qm a 1 c [q] V F);show Calls prog 41 _ w fun e w'=>e=.returned (.bool (placeB s 0&&withinL [q]))/\Below w.heap.size w w';generalize placeB s 0=fb at *;generalize withinL [q]=wb at *
  have K:Ci W w.heap.size 0 s:=B.cell 0;have L:W.cell? ⟨w.heap.size,1,none⟩=some (.int .i64 q):=B.cell 1;go_in;go_wp2_with (first | rw [A] | rw [Zl] | rw [Ql] | rw [yr] | rw [Yl] | rw [Zw]);clear A;refine (H.o _).mono ?_;rintro e J ⟨rfl,rfl⟩;cases fb
  ·go_wp2_with fail
   go_ret;exact ⟨rfl,HB.o⟩
  have D:=Hy (show Rd (W.alloc (.cells #[q] 3)) (some ⟨W.heap.size,0,none⟩) 1 1 (ints [q]) from Xo W [q] (by simp [maxLen]));have C:=Hy (HB.alloc HB.size (.cells #[q] 3));go_wp2_with fail;refine (E.o _ _ _ D.o).mono ?_;rintro e N ⟨rfl,rfl⟩;go_wp2_with fail;go_ret;exact ⟨by cases wb <;> rfl,C.o⟩
 | other t v=>
  obtain ⟨rfl,Q,T,U,Y,Z⟩:=h;show Calls prog 41 _ w fun e w'=>e=.returned (.bool false)/\Below w.heap.size w w';go_in;go_wp2_with (first | rw [Zp _ _ _ _ Q] | rw [Qp _ _ _ _ T] | rw [qw _ _ _ _ U] | rw [Yp _ _ _ _ Y] | rw [Qs _ _ _ _ Z]);go_ret;exact ⟨rfl,bf _ _⟩
 | nil=>
  obtain rfl:=h;show Calls prog 41 _ w fun e w'=>e=.returned (.bool false)/\Below w.heap.size w w';go_in;go_wp2_with (first | rw [yw] | rw [zw] | rw [yC] | rw [Qw] | rw [Yx]);go_ret;exact ⟨rfl,bf _ _⟩
def MV.val:MV->Value
 | .hello w0 l0=>.iface 36 (.agg #[w0,l0])
 | .grant w0 l0 e0=>.iface 99 (.agg #[w0,l0,e0])
 | .ask s q h sq ep tx k b f d wd=>.iface 48 (.agg #[s,q,h,sq,ep,tx,k,b,.bool f,d,wd])
 | .stop s q=>.iface 87 (.agg #[s,q])
 | _=>.nilIface
abbrev LV:=Int×MV
def LV.cells (l:LV):List Value:=[.int .i64 l.1,l.2.val]
theorem LV.len (l:LV):(LV.cells l).length=2:=rfl
def LetAt (O:Own) (w:World) (base:Nat) (v:Value) (l:List LV):Prop:=∃ ao c,v=.slice ao l.length c/\w.ownsRow base 51 2 (.slice ao l.length c) l.length (l.flatMap LV.cells)/\∀ k,(Value.slice ao l.length c).ownBlock=some k->O k=0
theorem LetAt.nil (O:Own) (w:World) (base:Nat):LetAt O w base (.slice none 0 0) []:=⟨none,0,rfl,World.ownsRow_nil _ _ _ _,fun k A=>by simp [Value.ownBlock] at A⟩
theorem zx:(Tryz.prog.info? 51).map (fun i=>(i.zero,i.size,i.bytes))=some (some (.agg #[(),.nilIface]),2,24):=by kernel_rfl
theorem yn (p o:Nat) (W:World):(binOp .eql 29 (.pointer (some ⟨p,o,none⟩)) (.pointer none)).run prog W=.ok (.bool false) W:=by kernel_rfl
def COut (O:Own) (w w':World):Prop:=Frm (fun b=>O b % 8=1) w w'
theorem COut.of {i:Nat} (h:OFrm O (ct i) w w'):COut O w w':=h.mono (fun b A _=>by rw [A];exact YG i)
theorem COut.trans {a c:World} (h:COut O a b) (k:COut O' b c) (ha:AgO a.heap.size O O'):COut O a c:=Frm.trans h k (fun i hi A=>by rw [<- ha i A];exact hi)
theorem COut.below {w:World} (h:Below w.heap.size w w'):COut O w w':=Frm.below h
theorem ZU (h:CW w O A p S) (id:Int):
  Calls prog 111 #[.pointer (some ⟨A.ti,0,none⟩),id] w fun e w'=>e=.returned (.bool (hasL id S.tm))/\CW w' O A p {S with tm:=cancelL id S.tm}/\COut O w w':=by
 obtain ⟨C,h1,D,E⟩:=CWx.ti h (fun q=>q);refine (QaU A.ti id w C 24 S.tm h1).mono ?_;rintro e w' ⟨rfl,G,H⟩;have F:OFrm O (ct 4) w w':=OFrm.of H (fun b B _=>by rcases B with rfl | B;exact D;exact E b B);exact ⟨rfl,CW.with_ti (CW.only h 4 F (AgO.refl _ _)) _ ⟨C,G,D,E⟩,COut.of F⟩
theorem CW.with_L {S:CS} (h:CWx (fun t=>t=ct 3∨t=ct 5) w O A p S) (L:List Nat) (hs:SlO O (ct 3) w A.sl A.sf A.sa L S.told.length) (hq:MapO O (ct 5) w A.qm S.told.length (cntS L) (qF A.q L)) (hL:∀ id∈L,id≠0->id∈S.L):CW w O A p {S with L:=L}:=
 have n:∀ i,i≠3->i≠5->¬ (ct i=ct 3∨ct i=ct 5):=fun i h1 B h=>h.elim (Ya h1) (Ya B)
 ⟨fun _=>h.blk (n _ (by omega) (by omega)),fun _=>h.imm (n _ (by omega) (by omega)),fun _=>h.le (n _ (by omega) (by omega)),fun _=>hs,fun _=>h.ti (n _ (by omega) (by omega)),fun _=>hq,fun _=>h.told (n _ (by omega) (by omega)),
  fun id h1 B _=>h.qb id (hL id h1 B) B (n _ (by omega) (by omega)),fun id h1 B _=>h.mg id (hL id h1 B) B (n _ (by omega) (by omega)),fun i t h1 _=>h.it i t h1 (n _ (by omega) (by omega))⟩
theorem Qt (ho:SlOK L last) {id:Nat} (hm:id∈L) (h0:id≠0) (x:Nat) (hx:x≠0):x∈freeL L (id:Int)↔x∈L/\x≠id:=by
 obtain ⟨s,B⟩:=List.getElem?_of_mem hm;have C:ofF L (id:Int)=some (s:Int):=by rw [Zc ho];exact ⟨by omega,by omega,by rw [Int.toNat_natCast,Int.toNat_natCast];exact B⟩
 unfold freeL;rw [C];simp only [Int.toNat_natCast];have F:s < L.length:=(lg B).1;constructor
 ·intro h
  obtain ⟨j,A⟩:=List.getElem?_of_mem h
  by_cases e:s=j
  ·subst e;rw [List.getElem?_set_self F] at A;cases A;exact absurd rfl hx
  rw [List.getElem?_set_ne e] at A
  exact ⟨lm A,fun D=>by subst D;exact e (ho.one s j x B A hx)⟩
 rintro ⟨h1,E⟩
 obtain ⟨j,A⟩:=List.getElem?_of_mem h1;have e:s≠j:=fun e=>by subst e;rw [B] at A;cases A;exact E rfl
 exact lm (by rw [List.getElem?_set_ne e];exact A)
theorem Xay (ho:SlOK L last) {id:Nat} (hm:id∈L) (h0:id≠0):cntS (freeL L (id:Int))=cntS L - 1:=by
 obtain ⟨s,B⟩:=List.getElem?_of_mem hm;have A:ofF L (id:Int)=some (s:Int):=by rw [Zc ho];exact ⟨by omega,by omega,by rw [Int.toNat_natCast,Int.toNat_natCast];exact B⟩
 unfold freeL;rw [A];have:=yD (y:=0) B;rw [if_pos h0,if_neg (by decide)] at this;show cntS (L.set s 0)=_;omega
theorem Ya0 {q:Nat->Nat} (ho:SlOK L last) {id:Nat} (hm:id∈L) (h0:id≠0) (k:Int):(qF q (freeL L (id:Int)) k).map some=mputF (fun k=>(qF q L k).map some) (id:Int) none k:=by
 unfold mputF qF;show _=if k=(id:Int) then none else Option.map some (if 0 < k/\k.toNat∈L then some (q k.toNat) else none)
 by_cases B:0 < k
 ·by_cases e:k=(id:Int)
  ·subst e
   rw [if_pos rfl,if_neg (fun h=>((Qt ho hm h0 id h0).1 (by simpa using h.2)).2 rfl)];rfl
  rw [if_neg e]
  have C:k.toNat≠0:=by omega
  have:=Qt ho hm h0 k.toNat C
  by_cases A:k.toNat∈L
  ·rw [if_pos ⟨B,this.2 ⟨A,by omega⟩⟩,if_pos ⟨B,A⟩]
  rw [if_neg (fun h=>A (this.1 h.2).1),if_neg (fun h=>A h.2)]
 by_cases e:k=(id:Int)
 ·omega
 rw [if_neg e,if_neg (fun h=>B h.1),if_neg (fun h=>B h.1)]
def cancelS (tm:List One) (slot:Nat) (n:Nat):List One:=(List.range n).foldl (fun tm s=>cancelL (6 * (slot:Int)+(s:Nat)) tm) tm
theorem Yg (tm:List One) (A n:Nat):cancelS tm A (n+1)=cancelL (6 * (A:Int)+(n:Nat)) (cancelS tm A n):=by
 unfold cancelS;rw [List.range_succ,List.foldl_append];rfl
def stopsL (slot id n:Nat):List LV:=(List.range n).map (fun w:Nat=>((w:Int)+1,.stop (slot:Nat) (id:Nat)))
theorem Qi (A id n:Nat):(stopsL A id n).length=n:=by unfold stopsL;simp
theorem Xag (A id n:Nat):(stopsL A id (n+1)).flatMap LV.cells=(stopsL A id n).flatMap LV.cells++[.int .i64 ((n:Int)+1),.iface 87 (.agg #[(A:Nat),(id:Nat)])]:=by
 unfold stopsL;rw [List.range_succ,List.map_append,List.flatMap_append];rfl
def CS.over (S:CS) (id n:Nat):CS:={S with tm:=cancelS S.tm (S.Q id).slot n,L:=freeL S.L (id:Int)}
def OvE (O:Own) (A:CA) (p:Nat) (S:CS) (id:Nat) (wk:Nat) (w:World) (e:Ending) (w':World):Prop:=∃ v O',e=.returned v/\CW w' O' A p (S.over id A.cps.length)/\LetAt O' w' w.heap.size v (stopsL (S.Q id).slot id wk)/\AgO w.heap.size O O'/\COut O w w'
theorem QP (O:Own) (A:CA) (p:Nat) (S:CS) (id wk:Nat) (w:World) (h:CW w O A p S) (hm:id∈S.L) (h0:id≠0) (AW:A.cps.length<=6) (AD:S.c.wk=(wk:Int)) (Bd:wk<=5) (Aq:(S.Q id).slot<=4) (Bm:id<=1000000):
  Calls prog 74 #[.pointer (some ⟨p,0,none⟩),.pointer (some ⟨A.q id,0,none⟩)] w (OvE O A p S id wk w):=by
 obtain ⟨i0,hi,AX,AY,AZ⟩:=info_parts zx;clear hi AX AY AZ;have Av:=Hy h;have AG:w.cell? ⟨p,12,none⟩=some (.slice A.cpa A.cps.length A.cpc):=h.blk.cell 12;have Ak:=Hy ((CWx.sl h (fun q=>q)).1.ok);have ⟨sn,Ar⟩:=gn A.cps.length;have AO:=Hy Ar;have ⟨B,Ap⟩:=gn ((S.Q id).slot);have T:=Hy Ap;have AP:=Hy AD;rw [Ar] at AG AW;rw [Ap] at Aq;have HM:=Hy hm;clear h Ar Ap AD hm;go_in;go_wp2_with fail;go_loopw [5,13] (fun v5 Ba wr=>∃ k:Nat,k<=sn/\Ba=.int .i64 k/\Hid (CW wr O A p {S with tm:=cancelS S.tm B k})/\Hid (COut O w wr)) (fun _ v _=>sn - (intOf v).toNat)
 case atStart=>exact ⟨0,nz _,rfl,Av.o,Frm.refl _ _⟩
 case round=>
  clear Av AG;obtain ⟨k,AS,rfl,HC,HF⟩:=hrel
  by_cases An:k < sn
  ·have e1:(k:Int) < (sn:Int):=by omega
   have AJ:=Hy (show Blk wr.drew p 120 _ from HC.blk);have AN:=Hy (show Blk wr.drew (A.q id) 141 _ from (CWx.qb HC.o id HM.o h0 (fun h=>h)).1);have G:=Hy (show CW wr.drew O A p {S with tm:=cancelS S.tm B k} from HC.below (below_drewN (bf _ wr) 1) (AgO.refl _ _));have AE:wr.drew.cell? ⟨p,16,none⟩=some (.pointer (some ⟨A.ti,0,none⟩)):=AJ.cell 16;have k1:wr.drew.cell? ⟨A.q id,1,none⟩=some (.int .i64 (B:Nat)):=by have q:=AN.cell 1;rw [<- T.o];exact q
   have d:=Hy AE;have M:=Hy k1;clear AE k1 HC;go_upto_region 4 with fail;refine wp_region_held_drew (S:=(fun w'=>Cp w' p 16 A.ti/\Ci w' (A.q id) 1 (B:Nat))) (by kernel_rfl) (by first | exact ⟨d.o,M.o⟩ | exact ⟨P.o,F.o⟩) (fun C=>?_);(iterate 9 refine tq 0 ?_);refine rdy 9 fun K J=>?_;go_simp;refine (Xx (B:Nat) (k:Nat) wr.drew (by omega) (by omega) (by omega) (by omega)).mono ?_;rintro e w' ⟨rfl,rfl⟩
   go_wp2_with fail;refine J.out _ _ (by first | exact ⟨d.o,M.o⟩ | exact ⟨P.o,F.o⟩) (fun C=>?_);clear J K;try go_frame
   refine rdy 10 fun K J=>?_;go_simp;refine (ZU G.o (6 * ((B:Nat):Int)+(k:Nat))).mono ?_;rintro e V ⟨rfl,H,l⟩;have P:=Hy (show Cp V p 16 A.ti from H.blk.cell 16);have F:=Hy (by have q:=(CWx.qb H id HM.o h0 (fun h=>h)).1.cell 1;rw [<- T.o];exact q:V.cell? ⟨A.q id,1,none⟩=some (.int .i64 (B:Nat)));have z:=Hy H;have Aa:=Hy l;clear H l;go_wp2_with fail;refine J.out _ _ (by first | exact ⟨d.o,M.o⟩ | exact ⟨P.o,F.o⟩) (fun C=>?_);clear J K;try go_frame
   refine dn ?_;go_wp2_with fail;go_roundw
   case rel=>exact ⟨k+1,by omega,by go_num,(by unfold Hid;rw [Yg];exact z.o),(by unfold Hid;exact COut.trans (show COut O w wr.drew from HF.drew) Aa.o (AgO.refl _ _))⟩
   case measure=>simp [intOf];omega
  obtain rfl:k=sn:=by omega
  clear An AS;have G:=Hy (show CW wr.drew O A p {S with tm:=cancelS S.tm B k} from HC.below (below_drewN (bf _ wr) 1) (AgO.refl _ _));have Aw:=Hy (show COut O w wr.drew from HF.drew);clear HC HF;have Z:=Hy (show Cp wr.drew p 15 A.sl from G.blk.cell 15);have E:=Hy (show Ci wr.drew (A.q id) 0 (id:Nat) from (CWx.qb G.o id HM.o h0 (fun h=>h)).1.cell 0);have r:Yk (id:Int):=zo (by omega) (by omega);have Af:=Hy (qa9 A.sl A.sf A.sa S.L S.told.length (id:Int) wr.drew (CWx.sl G.o (fun h=>h)).1 r)
  have Ay:=Hy r;clear r;have AT:∃ x,(ofF S.L (id:Int)).isSome=x:=⟨_,rfl⟩;obtain ⟨fb,A7⟩:=AT;rw [A7] at Af;clear A7;go_upto_region 6 with fail;refine wp_region_held_drew (S:=(fun w'=>Cp w' p 15 A.sl/\Ci w' (A.q id) 0 (id:Nat))) (by kernel_rfl) (by first | exact ⟨Z.o,E.o⟩ | exact ⟨N.o,D.o⟩) (fun C=>?_);(iterate 8 refine tq 0 ?_);refine rdy 8 fun K J=>?_;go_simp;refine Af.mono ?_;rintro e V ⟨rfl,AC,l⟩;clear Af;have s:OFrm O (ct 3) wr.drew V:=OFrm.of l (fun b hb _=>by obtain ⟨_,o1,o2,o3⟩:=CWx.sl G.o (fun h=>h);rcases hb with rfl | rfl | rfl;exact o1;exact o2;exact o3);have H:=CW.only G.o 3 s (AgO.refl _ _);have A4:=Hy (show SlO O (ct 3) V A.sl A.sf A.sa (freeL S.L (id:Int)) S.told.length from ⟨AC,(CWx.sl G.o (fun h=>h)).2⟩);have z:=Hy H;have Aa:=Hy (COut.of s);have N:=Hy (show Cp V p 15 A.sl from (H.blk (Ya (by omega))).1.cell 15);have D:=Hy (show Ci V (A.q id) 0 (id:Nat) from (H.qb id HM.o h0 (Ya (by omega))).1.cell 0);clear AC l s H
  go_wp2_with fail;refine J.out _ _ (by first | exact ⟨Z.o,E.o⟩ | exact ⟨N.o,D.o⟩) (fun C=>?_);clear J K;try go_frame
  refine dn ?_;have Ax:=Hy (show COut O w V from Aw.trans Aa.o (AgO.refl _ _));clear Aw Aa G Z E N;have W:=Hy (show CWx (fun t=>t=ct 3) V.drew O A p {S with tm:=cancelS S.tm B k} from CWx.below z.o (below_drewN (bf _ V) 1) (AgO.refl _ _));have A5:=Hy (show SlO O (ct 3) V.drew A.sl A.sf A.sa (freeL S.L (id:Int)) S.told.length from SlO.frm A4.o (Frm.below (S:=fun _=>False) (below_drewN (bf _ V) 1)) (fun _ _ _ q=>q) (AgO.refl _ _));clear z A4;have f:=Hy (show Cl V.drew p 17 (.map (some A.qm)) from (W.blk (Ya (by omega))).1.cell 17)
  have Ah:=Hy (W.qb id HM.o h0 (Ya (by omega)));have E:=Hy (show Ci V.drew (A.q id) 0 (id:Nat) from Ah.1.cell 0);clear D;have U:=W.qm (Ya (by omega));obtain ⟨I,AB,Ao,n⟩:=MapF.drop U.1 underlying114 Ay.o 0;have Au:=Hy (show CWx (fun t=>t=ct 3∨t=ct 5) I O A p {S with tm:=cancelS S.tm B k} from CWx.frm W.o n (AgO.refl _ _) (fun _ q=>.inl q) (fun b _ e=>.inl (.inr (by subst e;exact U.2))));have A6:=Hy (show SlO O (ct 3) I A.sl A.sf A.sa (freeL S.L (id:Int)) S.told.length from SlO.frm A5.o n (fun b _ ho e=>by subst e;rw [U.2] at ho;exact Ya (by omega) ho) (AgO.refl _ _))
  have Ai:=Hy (show BlkO O (ct (7+3 * id)) I (A.q id) 141 ((S.Q id).cells id (A.m id)) from BlkO.frm Ah.o n (fun b _ ho e=>by subst e;rw [U.2] at ho;exact Ya (by omega) ho) (AgO.refl _ _));have y:(Option.map some (qF A.q S.L (id:Int))).isSome=true:=by unfold qF;rw [if_pos ⟨by omega,by rw [Int.toNat_natCast];exact HM.o⟩];rfl
  have A8:MapO O (ct 5) I A.qm S.told.length (cntS (freeL S.L (id:Int))) (qF A.q (freeL S.L (id:Int))):=by
   refine ⟨?_,U.2⟩;rw [show (Option.map some (qF A.q (CS.L {S with tm:=cancelS S.tm B k}) (id:Int))).isSome=true from y,if_pos rfl] at Ao;rw [Xay Ak.o HM.o h0];exact Ao.cong (fun j=>(Ya0 Ak.o HM.o h0 j).symm)
  have Ad:=Hy (by have q:=CW.with_L Au.o _ A6.o A8 (fun x h1 h2=>((Qt Ak.o HM.o h0 x h2).1 h1).1);unfold CS.over;rw [T.o,AO.o];exact q:CW I O A p (S.over id A.cps.length));have Ae:=Hy (show COut O w I from COut.trans (show COut O w V.drew from Ax.drew) (COut.of (i:=5) (OFrm.of n (fun b e _=>by subst e;exact U.2))) (AgO.refl _ _));have R:=Hy (show Cl I p 17 (.map (some A.qm)) from Ad.blk.cell 17);have D:=Hy (show Ci I (A.q id) 0 (id:Nat) from Ai.1.cell 0);have A0:=Hy AB
  clear AB Ao n U y A8 W A5 Ah Au A6 Ax;go_upto_region 7 with fail;refine wp_region_held_drew (S:=(fun w'=>Cl w' p 17 (.map (some A.qm))/\Ci w' (A.q id) 0 (id:Nat))) (by kernel_rfl) (by first | exact ⟨f.o,E.o⟩ | exact ⟨R.o,D.o⟩) (fun C=>?_);(iterate 8 refine tq 0 ?_);refine rdy 8 fun K J=>?_;have AU:=A0.o;go_simp;clear AU;refine J.out _ _ (by first | exact ⟨f.o,E.o⟩ | exact ⟨R.o,D.o⟩) (fun C=>?_)
  clear J K;try go_frame
  refine dn ?_;clear A0 f E R;have t2:I.cell? ⟨p,2,none⟩=some (.int .i64 (wk:Nat)):=by have q:Ci I p 2 S.c.wk:=Ad.blk.cell 2;rw [AP.o] at q;exact q
  go_wp2_with fail;clear t2;go_loopw [6,50] (fun v6 Bb wr=>∃ (j:Nat) (ao:Option Addr) (c2:Nat),j<=wk/\Bb=.int .i64 j/\v6=.slice ao j c2/\Hid (wr.ownsRow I.heap.size 51 2 (.slice ao j c2) j ((stopsL B id j).flatMap LV.cells))/\Hid (Below I.heap.size I wr)) (fun _ v _=>wk - (intOf v).toNat)
  case atStart=>exact ⟨0,none,0,nz _,rfl,rfl,World.ownsRow_nil _ _ _ _,bf _ _⟩
  case round=>
   clear D C;obtain ⟨j,ao,c2,hj,rfl,rfl,HO,HB⟩:=hrel
   by_cases An:j < wk
   ·have e1:(j:Int) < (wk:Int):=by omega
    have Ag:=Hy (show (wr.alloc (.cells #[.int .i64 (IntKind.i64.wrap ((j:Int)+1)),.iface 87 (.agg #[(B:Nat),(id:Nat)])] 51)).drew.ownsRow I.heap.size 51 2 (.slice ao j c2) j ((stopsL B id j).flatMap LV.cells) from HO.alloc _);have Aj:=Hy (Ai.1.below HB.o Ai.1.lt);have M:=Hy (by have q:=Aj.cell 1;rw [<- T.o];exact q:wr.drew.cell? ⟨A.q id,1,none⟩=some (.int .i64 (B:Nat)));have E:=Hy (show Ci wr.drew (A.q id) 0 (id:Nat) from Aj.cell 0);have Ac:=Hy (show Blk (wr.alloc (.cells #[.int .i64 (IntKind.i64.wrap ((j:Int)+1)),.iface 87 (.agg #[(B:Nat),(id:Nat)])] 51)).drew (A.q id) 141 _ from Blk.alloc Aj.o _)
    have F:=Hy (by have q:=Ac.cell 1;rw [show ((S.Q id).cells id (A.m id))[1]?=some (.int .i64 ((S.Q id).slot:Nat)) from rfl,T.o] at q;exact q:(wr.alloc (.cells #[.int .i64 (IntKind.i64.wrap ((j:Int)+1)),.iface 87 (.agg #[(B:Nat),(id:Nat)])] 51)).drew.cell? ⟨A.q id,1,none⟩=some (.int .i64 (B:Nat)));have D:=Hy (show (wr.alloc (.cells #[.int .i64 (IntKind.i64.wrap ((j:Int)+1)),.iface 87 (.agg #[(B:Nat),(id:Nat)])] 51)).drew.cell? ⟨A.q id,0,none⟩=some (.int .i64 (id:Nat)) from Ac.cell 0);have A1:j+1<=maxLen:=by unfold maxLen;omega
    have A2:(j+1) * 24<=140737488355328:=by omega
    have A3:I.heap.size<=wr.heap.size:=HB.size;have AI:=Hy (show Below I.heap.size I (wr.alloc (.cells #[.int .i64 (IntKind.i64.wrap ((j:Int)+1)),.iface 87 (.agg #[(B:Nat),(id:Nat)])] 51)).drew from (HB.alloc A3 _).drew);go_upto_region 12 with fail;refine wp_region_held_drew (S:=(fun w'=>Ci w' (A.q id) 1 (B:Nat)/\Ci w' (A.q id) 0 (id:Nat))) (by kernel_rfl) (by first | exact ⟨M.o,E.o⟩ | exact ⟨F.o,D.o⟩ | exact ⟨g.o,Y.o⟩) (fun C=>?_);(iterate 14 refine tq 0 ?_);refine rdy 14 fun K J=>?_;go_simp;go_wp2_with fail;refine J.out _ _ (by first | exact ⟨M.o,E.o⟩ | exact ⟨F.o,D.o⟩ | exact ⟨g.o,Y.o⟩) (fun C=>?_);clear J K;try go_frame
    refine rdy 15 fun K J=>?_;refine sa zx underlying33 Ag.o (Src.two underlying33 wr.drew (.int .i64 (IntKind.i64.wrap ((j:Int)+1))) (.iface 87 (.agg #[(B:Nat),(id:Nat)])) 51 rfl rfl) A1 A2 (by simp;omega) ?_;intro AQ c3 w5 u Am;have AA:=Ac.kept Am (fun e=>by cases ao with | none=>simp [Value.ownBlock] at e | some a=>exact Qb Ag.o Ac.o (by decide) (A.q id) (e.symm) rfl);have Az:=Hy AA;have AM:=Hy u;have AH:=Hy (AI.grown Am (by simp;omega) (fun b hb=>(Ag.lt b hb).1));have g:=Hy (by have q:=Az.cell 1;rw [<- T.o];exact q:w5.cell? ⟨A.q id,1,none⟩=some (.int .i64 (B:Nat)));have Y:=Hy (show Ci w5 (A.q id) 0 (id:Nat) from Az.cell 0);clear u Am AA
    refine J.out _ _ (by first | exact ⟨M.o,E.o⟩ | exact ⟨F.o,D.o⟩ | exact ⟨g.o,Y.o⟩) (fun C=>?_);clear J K;refine tk 16 ?_;refine dn ?_;go_wp2_with fail;go_roundw
    case rel=>exact ⟨j+1,AQ,c3,by omega,by go_num,rfl,(by unfold Hid;rw [Xag];have q:=AM.o;rw [zq _ (by omega) (by omega)] at q;exact q),AH.o⟩
    case measure=>simp [intOf];omega
   obtain rfl:j=wk:=by omega
   clear An hj;go_wp2_with fail;go_ret;have ha:=AgO.upd' Ae.size 0 O;refine ⟨.slice ao j c2,O.upd I.heap.size 0,rfl,Ad.below (HB.mono (nl _)) (AgO.upd _ _ _),⟨ao,c2,by rw [Qi],?_,?_⟩,ha,COut.trans Ae.o (COut.below HB.o) (AgO.refl _ _)⟩
   ·rw [Qi,T.o];exact zi HO.o Ae.size
   intro q hq;rw [Qi] at hq;exact Own.upd_ge (Xa HO.o q hq)
theorem yk {P:Program} (w:World) (base:Nat) (t tx ty e:TypeId) (i:TypeInfo) (z:Value) (size H:Nat) (ht:P.underlying t=some (.slice e)) (hi:P.info? e=some i) (hz:i.zero=some z)
  (Q:i.size=size) (Y:i.bytes=H) (c:z.cells.size=size) (h:0 < size)
  (v:Value) (n:Nat) (xs:List Value) (C:w.ownsRow base e size v n xs)
  (x:Value) (m:Nat) (A:List Value) (hs:Src P size tx x m A w)
  (T:n+m<=maxLen) (F:(n+m) * H<=140737488355328) (L:base<=w.heap.size):
  ∃ v' w',(Builtin.append_ #[t,tx] ty #[v,x]).run P w=.ok v' w'/\w'.ownsRow base e size v' (n+m) (xs++A)/\w.grownBy w' v.ownBlock/\(v'.ownBlock=v.ownBlock∨v'.ownBlock=some w.heap.size):=by
 subst Q;subst Y;have b:=hs.newsLen;have V:n+m<=9223372036854775807:=by simp only [maxLen] at T;omega
 have B:(xs++A).length=(n+m) * i.size:=by rw [List.length_append,C.1,b,Nat.add_mul]
 have I:∀ (D:Nat),D < n+m->∀ (row:Option Nat),
   (w.drew.alloc (.cells ((xs++A).toArray++Builtin.zeroCells z.cells (grownCap w (n+m) D e - (n+m))) e)).ownsRow base e i.size
    (.slice (some ⟨w.heap.size,0,none⟩) (n+m) (grownCap w (n+m) D e)) (n+m) (xs++A)∧
   w.grownBy (w.drew.alloc (.cells ((xs++A).toArray++Builtin.zeroCells z.cells (grownCap w (n+m) D e - (n+m))) e)) row:=by
  intro D o row;have Z:=grownCap_ge w (n+m) D e;have M:grownCap w (n+m) D e<=maxLen:=grownCap_le_maxLen w (n+m) D e T;refine ⟨⟨B,.inr ⟨w.heap.size,_,_,rfl,L,hn_ w.drew _,Z,M,?_,?_⟩⟩,⟨rfl,rfl,rfl,by simp,fun k G _=>heap_alloc_old w.drew _ G⟩⟩
  ·rw [Array.size_append,List.size_toArray,size_zeroCells,c,B,<- Nat.add_mul]
   congr 1;omega
  ·rw [Array.toList_append,<- B]
   exact List.take_left
 rcases C.2 with ⟨rfl,rfl⟩ | ⟨g,cap,cur,rfl,hbg,hg,hnc,M,hcs,htake⟩
 ·obtain rfl:xs=[]:=List.eq_nil_of_length_eq_zero (by simpa using C.1)
  by_cases f:m=0
  ·subst f
   obtain rfl:A=[]:=List.eq_nil_of_length_eq_zero (by simpa using b);refine ⟨.slice none 0 0,w,?_,World.ownsRow_nil w base e i.size,World.grownBy.refl _ _,Or.inl rfl⟩;have d:=hs.cells;rcases hs.kind with ⟨e',G⟩ | G <;> simp [Builtin.append_,run_underlying ht,run_underlying G,sizeOf,typeInfo,hi,hs.len,d]
  have R:=run_append_grow_src (P:=P) w t tx ty e i z ht hi hz none 0 0 [] (run_firstCells_none w.drew i.size 0 0 0) x m A hs (by omega) (by omega) (growslice_fits (by omega) F)
  have K:=I 0 (by omega) (Value.ownBlock (.slice none 0 0));exact ⟨_,_,R,K.1,K.2,Or.inr rfl⟩
 by_cases E:n+m<=cap
 ·have U:n * i.size+A.length<=cur.size:=by rw [b,hcs,<- Nat.add_mul];exact Nat.mul_le_mul_right _ E
  have J:Blk w g e cur.toList:=by unfold Blk;simpa using hg
  have R:=run_append_room_src (P:=P) w t tx ty e i ht hi g 0 n cap x m A hs E (by
    intro j l;rw [J.cell];simp;omega) (by intro j _;exact J.frozen _)
  rw [Nat.zero_add] at R;have W:=J.setCells A (n * i.size) (by simpa using U);refine ⟨_,_,R,⟨B,.inr ⟨g,cap,_,rfl,hbg,W,E,M,?_,?_⟩⟩,⟨(Zd g A _ w).1,(Zd g A _ w).2.1,(Zd g A _ w).2.2.1,Nat.le_of_eq (Zd g A _ w).2.2.2.symm,fun k a G=>World.heap_setCells_other w g _ A a (fun e=>G (by simp [Value.ownBlock,e]))⟩,Or.inl rfl⟩
  ·simp only [List.size_toArray,List.length_append,List.length_take,List.length_drop,Array.length_toList]
   omega
  rw [htake,<- B,List.toList_toArray,<- List.append_assoc]
  exact List.take_left
 have N:∀ j u,xs[j]?=some u->w.cell? ((⟨g,0,none⟩:Addr).add j)=some u:=C.cells (g:=g) rfl
 have R:=run_append_grow_src (P:=P) w t tx ty e i z ht hi hz (some ⟨g,0,none⟩) n cap xs (run_firstCells_some w.drew i.size n ⟨g,0,none⟩ n cap xs C.1 (by simpa using N)) x m A hs (by omega) (by omega) (growslice_fits (by omega) F);have K:=I cap (by omega) (Value.ownBlock (.slice (some ⟨g,0,none⟩) n cap));exact ⟨_,_,R,K.1,K.2,Or.inr rfl⟩
theorem QK {P:Program} {w:World} {ops:Array Oper} {rest:List Oper} {o:Oper} {a:Act} {Q:Exit->Act->World->Prop} (M:o.guard=none) (s x:Operand) (t tx:TypeId)
  (ho:o.op=.call {callee:=.builtin .append,args:=#[s,x],argTypes:=#[t,tx]})
  (base:Nat) (e:TypeId) (i:TypeInfo) (z:Value) (size B:Nat) (ht:P.underlying t=some (.slice e)) (hi:P.info? e=some i) (hz:i.zero=some z)
  (G:i.size=size) (L:i.bytes=B) (R:z.cells.size=size) (N:0 < size)
  (so:Option Addr) (n sc:Nat) (xs:List Value) (hs:a.eval s=.slice so n sc) (H:w.ownsRow base e size (.slice so n sc) n xs)
  (xv:Value) (m:Nat) (D:List Value) (hx:a.eval x=xv) (I:Src P size tx xv m D w)
  (J:n+m<=maxLen) (E:(n+m) * B<=140737488355328) (F:base<=w.heap.size)
  (h:∀ C A w',w'.ownsRow base e size (.slice C (n+m) A) (n+m) (xs++D)->w.grownBy w' (Value.ownBlock (.slice so n sc))->(Value.ownBlock (.slice C (n+m) A)=Value.ownBlock (.slice so n sc)∨Value.ownBlock (.slice C (n+m) A)=some w.heap.size)->wpList P ops Q rest (a.put o.dst (.slice C (n+m) A)) w'):wpList P ops Q (o :: rest) a w:=by
 refine wpList_plain M fun K W=>?_;obtain ⟨Z,w',Y,T,U,V⟩:=yk (P:=P) w base t tx o.type e i z size B ht hi hz G L R N _ n xs H xv m D I J E F;obtain ⟨C,A,rfl⟩:=zl T;unfold Oper.wp execOp;simp only [ho,resolve,invoke,builtin,Sem.run_bind,Sem.run_pure,Result.andThen_ok,List.map_toArray,List.map_cons,List.map_nil,hs,hx,Y];exact W _ _ (h C A w' T U V)
theorem Zz {P:Program} {w:World} {ops:Array Oper} {o:Oper} {a:Act} {K:Act->World->Prop} {Q:Exit->Act->World->Prop} {E:Prop} (N:o.guard=none) (s x:Operand) (t tx:TypeId)
  (ho:o.op=.call {callee:=.builtin .append,args:=#[s,x],argTypes:=#[t,tx]})
  (base:Nat) (e:TypeId) (i:TypeInfo) (z:Value) (size B:Nat) (ht:P.underlying t=some (.slice e)) (hi:P.info? e=some i) (hz:i.zero=some z)
  (H:i.size=size) (M:i.bytes=B) (T:z.cells.size=size) (R:0 < size)
  (so:Option Addr) (n sc:Nat) (xs:List Value) (hs:a.eval s=.slice so n sc) (I:w.ownsRow base e size (.slice so n sc) n xs)
  (xv:Value) (m:Nat) (D:List Value) (hx:a.eval x=xv) (J:Src P size tx xv m D w)
  (L:n+m<=maxLen) (F:(n+m) * B<=140737488355328) (G:base<=w.heap.size)
  (h:∀ C A w',w'.ownsRow base e size (.slice C (n+m) A) (n+m) (xs++D)->w.grownBy w' (Value.ownBlock (.slice so n sc))->(Value.ownBlock (.slice C (n+m) A)=Value.ownBlock (.slice so n sc)∨Value.ownBlock (.slice C (n+m) A)=some w.heap.size)->K (a.put o.dst (.slice C (n+m) A)) w'):
  if Region.wanted o (yielded ops a.tmps)=true then Oper.wp P o a w K Q else E:=by
 have Z:Region.wanted o (yielded ops a.tmps)=true:=by simp [Region.wanted,N]
 rw [if_pos Z];obtain ⟨b,w',Y,U,V,W⟩:=yk (P:=P) w base t tx o.type e i z size B ht hi hz H M T R _ n xs I xv m D J L F G;obtain ⟨C,A,rfl⟩:=zl U;unfold Oper.wp execOp;simp only [ho,resolve,invoke,builtin,Sem.run_bind,Sem.run_pure,Result.andThen_ok,List.map_toArray,List.map_cons,List.map_nil,hs,hx,Y];exact h C A w' U V W
end Go.Proofs.YtinkbgeckjbnbaaGreat
