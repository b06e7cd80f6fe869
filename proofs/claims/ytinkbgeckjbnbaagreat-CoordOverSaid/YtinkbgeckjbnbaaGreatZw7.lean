/- Lemmas (part 7). -/
import Derived.Test.YtinkbgeckjbnbaaGreatRows
import Derived.Test.YtinkbgeckjbnbaaGreatZw6
namespace Go.Proofs.YtinkbgeckjbnbaaGreat
open Go.RowKit Go.Proofs.Tryz
set_option autoImplicit true
set_option relaxedAutoImplicit true
set_option linter.unusedVariables false
set_option linter.unusedSimpArgs false
set_option maxRecDepth 100000
set_option maxHeartbeats 32000000
def fixF (f:Nat->One) (i n:Nat):Nat->One:=if i < (downF n f i n).2 then (downF n f i n).1 else upF i (downF n f i n).1 i
theorem xax:∀ (q:Nat) (f:Nat->One) (j k:Nat),j < k->upF q f j k=f k
 | 0,f,j,k,h=>rfl
 | q+1,f,j,k,h=>by
  unfold upF
  split
  ·rfl
  ·rw [xax q _ _ k (by omega),zd _ _ _ _ (by omega) (by omega)]
theorem QaL (f:Nat->One) (i n k:Nat) (h:n<=k) (hi:i < n):fixF f i n k=f k:=by
 unfold fixF;split
 ·exact XG _ _ _ _ _ h
 rw [xax _ _ _ _ (by omega),XG _ _ _ _ _ h]
theorem ZaM (p o g n c i:Nat) (T:TypeId) (cs:List Value) (f:Nat->One) (w:World) (h:VO w p o T cs (some ⟨g,0,none⟩) n c f) (hi:i < n) (hn:n<=1000):
  Calls prog 173 #[.iface 260 (.pointer (some ⟨p,o,none⟩)),i] w fun e w'=>e=.returned (.tuple #[])/\VO w' p o T cs (some ⟨g,0,none⟩) n c (fixF f i n)/\Frm (fun k=>k=g) w w':=by
 obtain ⟨l,sp,P,d,U,Q,N,C⟩:=h.open_ (by omega);simp only [Option.some.injEq,Addr.mk.injEq,and_true] at P;subst P;have a:=XaN h.cell;have M:MH w p o g n c f sp:=⟨h.cell,d,C,h.blk.lt⟩;have F:=Hy M;have b:=Hy h;have H:=Hy U;have D:=Hy N;clear h d M U N;have ⟨R,Z⟩:=gn (fixF f i n);rw [Z];have G:=Hy Z;clear Z;go_in;go_wp2_with fail;refine (zP _ _ _ _).mono ?_;rintro e w' ⟨rfl,rfl⟩;clear a;go_wp2_with fail;refine (xab p o g n c i n f sp _ F.o (by omega) (by omega) (by omega)).mono ?_
 rintro e m ⟨rfl,K,I⟩;have B:=Hy K;have A:=Hy I;clear K I F;unfold fixF at G;generalize downF n f i n=r at *
 by_cases W:i < r.2
 ·have j:decide (i < r.2)=true:=by simpa using W
  have V:=G.o;rw [if_pos W] at V;subst V;clear G;go_wp2_with fail;go_end0;exact ⟨rfl,b.frmBack C B.2.1 H.o Q D.o A.o,Frm.grown A.o (fun g h=>(Option.some.inj h).symm)⟩
 have j:decide (i < r.2)=false:=by simpa using W
 have V:=G.o;rw [if_neg W] at V;subst V;clear G;go_wp2_with fail;refine (qas p o g n c i r.1 sp _ B.o (by omega) (by omega)).mono ?_;rintro e q ⟨rfl,L,J⟩;have Y:=Hy L;have E:=Hy (zb A.o J);clear L J B A;go_wp2_with fail;go_end0;exact ⟨rfl,b.frmBack C Y.2.1 H.o Q D.o E.o,Frm.grown E.o (fun g h=>(Option.some.inj h).symm)⟩
def remF (f:Nat->One) (i n:Nat):Nat->One:=if i=n then f else fixF (swapF f i n) i n
theorem YaM (p o g n c i:Nat) (T:TypeId) (cs:List Value) (f:Nat->One) (w:World) (h:VO w p o T cs (some ⟨g,0,none⟩) (n+1) c f) (hi:i<=n) (hn:n<=999):
  Calls prog 165 #[.iface 260 (.pointer (some ⟨p,o,none⟩)),i] w fun e w'=>e=.returned (.iface 265 (.agg #[.int .i64 (f i).1,.int .i64 (f i).2]))/\VO w' p o T (cs.set o (.slice (some ⟨g,0,none⟩) n c)) (some ⟨g,0,none⟩) n c (remF f i n)/\Frm (fun k=>k=p∨k=g) w w':=by
 obtain ⟨g1,sp,u,s,v,M,t,A⟩:=h.open_ (Nat.succ_pos n);simp only [Option.some.injEq,Addr.mk.injEq,and_true] at u;subst u;have Ae:=XaN h.cell;have q:MH w p o g (n+1) c f sp:=⟨h.cell,s,A,h.blk.lt⟩;have Al:o < cs.length:=(lg h.var).1;have I:=Hy q;have V:=Hy h;have L:=Hy v;have G:=Hy t;clear h s q v t;have k1:IntKind.i64.wrap (n:Int)=n:=IntWalk.i64_in _ (by omega);have k2:(0:Int)<=n:=by omega
 have Ak:=zba ⟨p,o,none⟩;have ⟨R,hR⟩:=gn (remF f i n);rw [hR];unfold remF at hR;have z:=Hy hR;clear hR;go_in;go_wp2_with fail;refine (zP _ _ _ _).mono ?_;rintro e w' ⟨rfl,rfl⟩;clear Ae
 by_cases W:i=n
 ·subst W
  have N:=z.o;rw [if_pos rfl] at N;subst N;clear z;go_wp2_with fail;refine (xP p o g i c T cs _ sp _ V.blk V.var I.2.1 A M (by omega)).mono ?_;rintro e w3 ⟨rfl,C,D⟩;have F:=Hy C;have B:=Hy D;clear C D;go_wp2_with fail;go_ret;refine ⟨rfl,?_,B.mono (fun i h _=>.inl h)⟩;have b:=yY I.2.1;exact VO.mk_ F.o (by rw [List.getElem?_set_self (by omega)]) (b.frm B.o (fun e=>A e.symm)) (by have:=L.o;simp [oneCells];omega) (by omega) G.o V.ty
 have K:Hid (fixF (swapF f i n) i n=R):=by have:=z.o;rw [if_neg W] at this;exact this
 clear z;have Ag:((n:Int) == (i:Int))=false:=by rw [beq_eq_false_iff_ne];omega
 have Ah:((n:Int) != (i:Int))=true:=by simp [bne,Ag]
 have Af:=qP I.1;have Ad:i < n:=by omega
 clear W;go_wp2_with fail;refine (xaC g (n+1) c i n f sp _ I.2.1 (by omega) (by omega) (by omega)).mono ?_;rintro e w1 ⟨rfl,s,hg⟩;have a:=Hy (I.grown hg s);have Y:=Hy hg;clear s hg Af;go_wp2_with fail;refine (xab p o g (n+1) c i n (swapF f i n) sp _ a.o (by omega) (by omega) (by omega)).mono ?_;rintro e w2 ⟨rfl,l,d⟩;have H:=Hy l;have P:=Hy (zb Y.o d);clear l d Y a;have Q:fixF (swapF f i n) i n n=f i:=by rw [QaL _ _ _ _ (Nat.le_refl n) Ad,xn]
 have J:=Hy Q;clear Q;unfold fixF at J K;generalize downF n (swapF f i n) i n=r at *
 by_cases hr:i < r.2
 ·have d1:decide (i < r.2)=true:=by simpa using hr
  go_wp2_with fail;have E:=V.frmBack A H.2.1 L.o M G.o P.o;refine (xP p o g n c T cs _ sp _ E.blk E.var H.2.1 A M (by omega)).mono ?_;rintro e w3 ⟨rfl,C,D⟩;have N:=J.o;have y:=K.o;rw [if_pos hr] at N y;subst y;rw [N];clear K;have F:=Hy C;have B:=Hy D;clear E C D N;go_wp2_with fail;go_ret;refine ⟨rfl,?_,?_⟩
  ·have b:=yY H.2.1
   exact VO.mk_ F.o (by rw [List.getElem?_set_self (by omega)]) (b.frm B.o (fun e=>A e.symm)) (by have:=L.o;simp [oneCells];omega) (by omega) G.o V.ty
  exact (Frm.grown (S:=fun k=>k=p∨k=g) P.o (fun k h=>.inr (Option.some.inj h).symm)).trans B.o (fun i h _=>.inl h)
 have d1:decide (i < r.2)=false:=by simpa using hr
 go_wp2_with fail;refine (qas p o g (n+1) c i r.1 sp _ H.o (by omega) (by omega)).mono ?_;rintro e w3 ⟨rfl,m,j⟩;have U:=Hy m;have Z:=Hy (zb P.o j);clear m j H P;go_wp2_with fail;have E:=V.frmBack A U.2.1 L.o M G.o Z.o;refine (xP p o g n c T cs _ sp _ E.blk E.var U.2.1 A M (by omega)).mono ?_;rintro e w4 ⟨rfl,C,D⟩;have N:=J.o;have y:=K.o;rw [if_neg hr] at N y;subst y;rw [N];clear K;have F:=Hy C;have B:=Hy D;clear E C D N;go_wp2_with fail;go_ret;refine ⟨rfl,?_,?_⟩
 ·have b:=yY U.2.1
  exact VO.mk_ F.o (by rw [List.getElem?_set_self (by omega)]) (b.frm B.o (fun e=>A e.symm)) (by have:=L.o;simp [oneCells];omega) (by omega) G.o V.ty
 exact (Frm.grown (S:=fun k=>k=p∨k=g) Z.o (fun k h=>.inr (Option.some.inj h).symm)).trans B.o (fun i h _=>.inl h)
theorem YaL (b:Nat) (id:Int) (x:One) (w:World) (h:Ci w b 0 id):Calls prog 197 #[.agg #[x.1,x.2],.pointer (some ⟨b,0,none⟩)] w fun e w'=>e=.returned (.bool (decide (x.2=id)))/\Below w.heap.size w w':=by
 have A:=cell?_lt h;have B:(w.alloc (.cells #[x.1,x.2] 265)).cell? ⟨b,0,none⟩=some (.int .i64 id):=by rw [World.cell?_alloc_lt _ _ _ (by exact A)];exact h
 go_in;go_wp2_with fail;go_ret;exact ⟨by congr 2,(bf _ _).alloc (nl _) _⟩
def fndI (f:Nat->One) (n:Nat) (id:Int):Int:=match (List.range n).find? (fun k=>decide ((f k).2=id)) with
 | some k=>k
 | none=> -1
theorem Yat (f:Nat->One) (n k:Nat) (id:Int) (A:k < n) (h:(f k).2=id) (hj:∀ j,j < k->(f j).2≠id):fndI f n id=k:=by
 unfold fndI
 have:(List.range n).find? (fun k=>decide ((f k).2=id))=some k:=by
  rw [List.find?_range_eq_some];exact ⟨by simpa using h,by simpa using A,fun j h1=>by simpa using hj j h1⟩
 rw [this]
theorem Xat (f:Nat->One) (n:Nat) (id:Int) (hj:∀ j,j < n->(f j).2≠id):fndI f n id= -1:=by
 unfold fndI
 have:(List.range n).find? (fun k=>decide ((f k).2=id))=none:=by
  rw [List.find?_range_eq_none];intro j h1;simpa using hj j h1
 rw [this]
theorem YN (f:Nat->One) (n:Nat) (id:Int):(fndI f n id= -1/\∀ j,j < n->(f j).2≠id)∨(∃ k,fndI f n id=(k:Nat)/\k < n/\(f k).2=id):=by
 cases A:(List.range n).find? (fun k=>decide ((f k).2=id)) with
 | none=>
  rw [List.find?_range_eq_none] at A;have h1:∀ j,j < n->(f j).2≠id:=fun j B=>by simpa using A j B
  exact .inl ⟨Xat f n id h1,h1⟩
 | some k=>
  rw [List.find?_range_eq_some] at A;have h1:(f k).2=id:=by simpa using A.1
  have C:k < n:=by simpa using A.2.1
  exact .inr ⟨k,Yat f n k id C h1 (fun j B=>by simpa using A.2.2 j B),C,h1⟩
def Prs (w:World) (ao:Option Addr) (n:Nat) (f:Nat->One):Prop:=∀ k,k < n->∃ g,ao=some ⟨g,0,none⟩/\g < w.heap.size/\w.cell? ⟨g,k * 2,none⟩=some (.int .i64 (f k).1)/\w.cell? ⟨g,k * 2+1,none⟩=some (.int .i64 (f k).2)
theorem Prs.below {n:Nat} (h:Prs w ao n f) (hb:Below w.heap.size w w'):Prs w' ao n f:=fun k B=>by
 obtain ⟨g,e,A,h0,h1⟩:=h k B
 exact ⟨g,e,nt A hb.size,(hb.cell (p:=⟨g,k * 2,none⟩) A).trans h0,(hb.cell (p:=⟨g,k * 2+1,none⟩) A).trans h1⟩
theorem VO.prs {w:World} {p o:Nat} {T:TypeId} {cs:List Value} {ao:Option Addr} {n c:Nat} {f:Nat->One} (h:VO w p o T cs ao n c f):Prs w ao n f:=fun k A=>by
 obtain ⟨g,sp,e,B,_,_,_,_⟩:=h.open_ (by omega)
 exact ⟨g,e,Blk.lt B,B.c0 A,B.c1 A⟩
def IxR (w:World) (n:Nat) (f:Nat->One) (id:Int) (v:Value) (wr:World):Prop:=∃ k:Nat,k<=n/\v=.int .i64 k/\Hid (∀ j,j < k->(f j).2≠id)/\Hid (Below w.heap.size w wr)
theorem qaX (ao:Option Addr) (n c b:Nat) (f:Nat->One) (id:Int) (w:World) (h:Prs w ao n f) (hb:Ci w b 0 id) (hn:n<=1000):
  Calls prog 196 #[.slice ao n c,.func (Fn.func 197) #[] #[.pointer (some ⟨b,0,none⟩)]] w fun e w'=>e=.returned (.int .i64 (fndI f n id))/\Below w.heap.size w w':=by
 have P:=Hy h;have M:=Hy hb;clear h hb;have ⟨R,I⟩:=gn (fndI f n id);rw [I];have F:=Hy I;clear I;go_in;go_wp2_with fail;go_loopw [8] (fun v wr=>IxR w n f id v wr) (fun v _=>n - (intOf v).toNat)
 case atStart=>exact ⟨0,nz _,rfl,(fun j T=>by omega),bf _ _⟩
 case round=>
  obtain ⟨k,U,rfl,H,HB⟩:=hrel
  by_cases A:k < n
  ·obtain ⟨g,rfl,V,h0,h1⟩:=(P.below HB.o) k A
   have K:=cell?_lt M.o;have E:=(HB.cell (p:=⟨b,0,none⟩) K).trans M.o;have G:=Hy E;clear E;go_wp2_with fail;refine (YaL b id (f k) _ G.o).mono ?_;rintro e W ⟨rfl,D⟩;have C:=Hy (HB.trans (D.mono HB.size));clear D h0 h1
   by_cases B:(f k).2=id
   ·have Q:decide ((f k).2=id)=true:=by simpa using B
    have L:R=(k:Int):=by rw [<- F.o];exact Yat f n k id A B H.o
    have N:=Hy B;clear B F;subst L;go_wp2_with fail;go_ret;exact ⟨rfl,C.o⟩
   have Q:decide ((f k).2=id)=false:=by simpa using B
   have N:=Hy B;clear B;go_wp2_with fail;go_roundw
   case rel=>exact ⟨k+1,by omega,by go_num,(fun j T=>by
    rcases (by omega:j < k∨j=k) with h | h
    ·exact H.o j h
    ·subst h;exact N.o),C.o⟩
   case measure=>simp [intOf];omega
  have J:k=n:=by omega
  subst J;have L:R= -1:=by rw [<- F.o];exact Xat f k id H.o
  clear F A;subst L;go_wp2_with fail;go_ret;exact ⟨rfl,HB.o⟩
theorem Zh (p:Nat) (id:Int) (w:World) (B:Int) (ao:Option Addr) (n c:Nat) (f:Nat->One) (h:VO w p 1 224 [B,.slice ao n c] ao n c f) (hn:n<=1000):
  Calls prog 164 #[.pointer (some ⟨p,0,none⟩),id] w fun e w'=>e=.returned (.int .i64 (fndI f n id))/\Below w.heap.size w w':=by
 have D:=h.cell;have G:=cell?_lt D;have H:(w.alloc (.cells #[id] 3)).cell? ⟨p,1,none⟩=some (.slice ao n c):=by rw [World.cell?_alloc_lt _ _ _ (by exact G)];exact D
 have F:Hid (Prs (w.alloc (.cells #[id] 3)) ao n f):=h.prs.below ((bf _ _).alloc (nl _) _);have E:Hid ((w.alloc (.cells #[id] 3)).cell? ⟨w.heap.size,0,none⟩=some (.int .i64 id)):=by unfold Hid;rw [cell_of_row _ _ _ _ _ _ (heap_alloc_new w _)];rfl
 clear h;go_in;go_wp2_with fail;refine (qaX ao n c w.heap.size f id _ F.o E.o hn).mono ?_;rintro e I ⟨rfl,A⟩;have C:=Hy (((bf _ w).alloc (nl _) _).trans (A.mono (by simp)));clear A;go_wp2_with fail;go_ret;exact ⟨rfl,C.o⟩
theorem YaU (p:Nat) (w:World) (A:Int) (ao:Option Addr) (n c:Nat) (f:Nat->One) (h:VO w p 1 224 [A,.slice ao n c] ao n c f):
  Calls prog 76 #[.pointer (some ⟨p,0,none⟩)] w fun e w'=>e=.returned (.int .i64 n)/\w=w':=by
 have B:=h.cell;clear h;go_in;go_wp2_with fail;go_ret;exact ⟨rfl,rfl⟩
theorem XaY (A:Int) (w:World) (h1:1<=A) (h2:A<=24):
  Calls prog 60 #[A] w fun e w'=>e=.returned (.tuple #[.pointer (some ⟨w.heap.size,0,none⟩),()])/\w'=w.alloc (.cells #[A,.slice none 0 0] 224):=by
 go_in;go_wp2_with fail;go_ret2;exact ⟨rfl,rfl⟩
theorem VO.frm {S:Nat->Prop} {w w':World} {p o:Nat} {T:TypeId} {cs:List Value} {ao:Option Addr} {n c:Nat} {f:Nat->One} (h:VO w p o T cs ao n c f) (hf:Frm S w w') (hp:¬ S p) (hg:∀ k,(Value.slice ao n c).ownBlock=some k->¬ S k):VO w' p o T cs ao n c f:=
 ⟨h.blk.frm hf hp,h.var,za h.own hf hg,h.ty⟩
theorem VO.below {w w':World} {p o:Nat} {T:TypeId} {cs:List Value} {ao:Option Addr} {n c:Nat} {f:Nat->One} (h:VO w p o T cs ao n c f) (hf:Below w.heap.size w w'):VO w' p o T cs ao n c f:=
 h.frm (Frm.below (S:=fun _=>False) hf) id (fun _ _=>id)
def atV (f:Nat->One) (n:Nat) (id:Int):Int×Bool:=if fndI f n id < 0 then (0,false) else ((f (fndI f n id).toNat).1,true)
theorem zaK {f:Nat->One} {n:Nat} {id:Int} (h:fndI f n id= -1):atV f n id=(0,false):=by unfold atV;rw [h];rfl
theorem qat {f:Nat->One} {n k:Nat} {id:Int} (h:fndI f n id=(k:Nat)):atV f n id=((f k).1,true):=by unfold atV;rw [h,if_neg (by omega)];simp
abbrev TM (w:World) (p:Nat) (most:Int) (ao:Option Addr) (n c:Nat) (f:Nat->One):Prop:=VO w p 1 224 [most,.slice ao n c] ao n c f
theorem za5 (p:Nat) (id:Int) (w:World) (A:Int) (ao:Option Addr) (n c:Nat) (f:Nat->One) (h:TM w p A ao n c f) (hn:n<=1000):
  Calls prog 116 #[.pointer (some ⟨p,0,none⟩),id] w fun e w'=>e=.returned (.tuple #[.int .i64 (atV f n id).1,.bool (atV f n id).2])/\Below w.heap.size w w':=by
 have D:=Hy h;clear h;rcases YN f n id with ⟨hx,_⟩ | ⟨k,hx,hk9,hid⟩
 ·rw [zaK hx]
  have E:=Hy hx;clear hx;go_in;go_wp2_with fail;refine (Zh p id _ A ao n c f D.o hn).mono ?_;rintro e F ⟨rfl,C⟩;rw [E.o];have HB:=Hy C;clear C;go_wp2_with fail;go_ret2;exact ⟨rfl,HB.o⟩
 rw [qat hx]
 have E:=Hy hx;clear hx hid;go_in;go_wp2_with fail;refine (Zh p id _ A ao n c f D.o hn).mono ?_;rintro e F ⟨rfl,C⟩;rw [E.o];have B:=D.below C;have G:=B.cell;obtain ⟨g,rfl,H,h0,h1⟩:=B.prs k hk9;have HB:=Hy C;clear C B h1;have I:(0:Int)<=(k:Int):=by omega
 have J:(k:Int) < (n:Int):=by omega
 go_wp2_with fail;go_ret2;exact ⟨rfl,HB.o⟩
theorem Zay (p:Nat) (id:Int) (w:World) (A:Int) (ao:Option Addr) (n c:Nat) (f:Nat->One) (h:TM w p A ao n c f) (hn:n<=1000) (hx:fndI f n id= -1):
  Calls prog 111 #[.pointer (some ⟨p,0,none⟩),id] w fun e w'=>e=.returned (.bool false)/\Below w.heap.size w w':=by
 have C:=Hy h;have D:=Hy hx;clear h hx;go_in;go_wp2_with fail;refine (Zh p id _ A ao n c f C.o hn).mono ?_;rintro e E ⟨rfl,B⟩;rw [D.o];have HB:=Hy B;clear B;go_wp2_with fail;go_ret;exact ⟨rfl,HB.o⟩
theorem Qaj (p:Nat) (id:Int) (w:World) (A:Int) (ao:Option Addr) (n c k:Nat) (f:Nat->One) (h:TM w p A ao (n+1) c f) (hn:n<=999) (hx:fndI f (n+1) id=(k:Nat)) (H:k<=n):
  Calls prog 111 #[.pointer (some ⟨p,0,none⟩),id] w fun e w'=>e=.returned (.bool true)/\TM w' p A ao n c (remF f k n)/\Frm (fun i=>i=p∨(Value.slice ao (n+1:Nat) c).ownBlock=some i) w w':=by
 obtain ⟨g,sp,rfl,_⟩:=h.open_ (Nat.succ_pos n);have I:=Hy h;have J:=Hy hx;clear h hx;go_in;go_wp2_with fail;refine (Zh p id _ A _ (n+1) c f I.o (by omega)).mono ?_;rintro e L ⟨rfl,G⟩;rw [J.o];have HB:=Hy G;have E:=Hy (I.below G);clear G;have K:(0:Int)<=(k:Int):=by omega
 go_wp2_with fail;refine (YaM p 1 g n c k 224 _ f _ E.o H hn).mono ?_;rintro e M ⟨rfl,C,B⟩;have F:=Hy C;have D:=Hy B;clear C B;go_wp2_with fail;go_ret;exact ⟨rfl,F.o,((Frm.below (S:=fun i=>i=p∨i=g) HB.o).trans D.o (fun i h _=>h)).mono (fun i h _=>h.imp (fun h=>h) (fun e=>by rw [e];rfl))⟩
theorem za3 (p:Nat) (id A:Int) (w:World) (B:Int) (ao:Option Addr) (n c:Nat) (f:Nat->One) (h:TM w p B ao n c f) (hn:n<=1000) (hx:id < 0∨A < 0∨1099511627776 < A):
  Calls prog 122 #[.pointer (some ⟨p,0,none⟩),id,A] w fun e w'=>e=.returned (.int .i64 2)/\Below w.heap.size w w':=by
 have E:=Hy h;clear h;generalize C:fndI f n id=I;have HI:=Hy C;clear C
 by_cases h1:id < 0
 rotate_left
 focus
  have F:0<=id:=by omega
  by_cases H:A < 0
  rotate_left
  focus
   have J:1099511627776 < A:=by omega
   have G:0<=A:=by omega
 all_goals
  clear hx
  go_in;go_wp2_with fail;refine (Zh p id _ B ao n c f E.o hn).mono ?_;rintro e K ⟨rfl,D⟩;rw [HI.o];have HB:=Hy D;clear D;go_wp2_with fail;go_ret;exact ⟨rfl,HB.o⟩
theorem Ya5 (n k:Nat) (f:Nat->One) (a:Int) (D:k < n):(fl n f).set (k * 2) (.int .i64 a)=fl n (putF f k (a,(f k).2)):=by
 apply List.ext_getElem?;intro q;rw [List.getElem?_set]
 by_cases F:q < n * 2
 ·have E:q % 2 < 2:=Nat.mod_lt _ (by omega)
  have B:q / 2 < n:=by omega
  have A:∀ h:Nat->One,(fl n h)[q]?=(oneCells (h (q / 2)))[q % 2]?:=by
   intro h;have:=yc (fun k=>oneCells (h k)) 2 (fun _=>rfl) (List.range n) (q / 2) (q % 2) E;rw [show q / 2 * 2+q % 2=q from by omega,List.getElem?_range B] at this;exact this
  rw [A,A]
  by_cases e:k * 2=q
  ·rw [if_pos e,if_pos (by rw [QA];omega),show q / 2=k from by omega,show q % 2=0 from by omega,ZE];rfl
  rw [if_neg e]
  by_cases C:q / 2=k
  ·rw [C,show q % 2=1 from by omega,ZE];rfl
  rw [qi _ _ _ _ C]
 rw [io,List.getElem?_eq_none (by rw [QA];omega),List.getElem?_eq_none (by rw [QA];omega)]
theorem xa3 (p:Nat) (id A:Int) (w:World) (C:Int) (ao:Option Addr) (n c k:Nat) (f:Nat->One) (h:TM w p C ao n c f) (hn:n<=1000) (h1:0<=id) (h2:0<=A) (h3:A<=1099511627776) (hx:fndI f n id=(k:Nat)) (F:k < n):
  Calls prog 122 #[.pointer (some ⟨p,0,none⟩),id,A] w fun e w'=>e=.returned (.int .i64 0)/\TM w' p C ao n c (fixF (putF f k (A,(f k).2)) k n)/\Frm (fun i=>i=p∨(Value.slice ao n c).ownBlock=some i) w w':=by
 obtain ⟨g,sp,rfl,_,_⟩:=h.open_ (by omega);have Y:=Hy h;have d:=Hy hx;clear h hx;go_in;go_wp2_with fail;refine (Zh p id _ C _ n c f Y.o (by omega)).mono ?_;rintro e G ⟨rfl,V⟩;rw [d.o];have HB:=Hy V;have D:=Y.below V;have j:=D.cell;obtain ⟨s,sp,L,E,N,W,K,M⟩:=D.open_ (by omega);simp only [Option.some.injEq,Addr.mk.injEq,and_true] at L;subst L;have q:=E.c0 F;have r:=zk (o:=k * 2) E;have T:=Hy D
 have a:Hid (Go.Proofs.YtinkbgeckjbnbaaGreat.HB (G.setCell ⟨g,k * 2,none⟩ (.int .i64 A)) g n (putF f k (A,(f k).2)) sp):=by
  have:=Blk.set E (k * 2) (.int .i64 A);unfold Hid Go.Proofs.YtinkbgeckjbnbaaGreat.HB;rw [List.set_append_left _ _ (by have:=QA n f;unfold fl at this;rw [this];omega)] at this;have e:=Ya5 n k f A F;unfold fl at e;rw [e] at this;exact this
 have Z:Hid ((G.setCell ⟨g,k * 2,none⟩ (.int .i64 A)).cell? ⟨p,1,none⟩=some (.slice (some ⟨g,0,none⟩) n c)):=(World.cell?_setCell_other _ _ _ _ (fun e=>by injection e with e;exact M e.symm)).trans j;clear V D E;have R:=Hy N;have P:=Hy K;clear N K;have t:(0:Int)<=(k:Int):=by omega
 have u:(k:Int) < (n:Int):=by omega
 go_wp2_with fail;have B:G.grownBy (G.setCell ⟨g,k * 2,none⟩ (.int .i64 A)) (some g):=qh G g (k * 2) (.int .i64 A);have I:=T.frmBack M a.o R.o W P.o B;refine (ZaM p 1 g n c k 224 _ _ _ I F hn).mono ?_;rintro e v ⟨rfl,J,H⟩;have U:=Hy J;have Q:=Hy H;have b:=Hy B;clear I J H B;go_wp2_with fail;go_ret;have l:Frm (fun i=>i=p∨(Value.slice (some ⟨g,0,none⟩) n c).ownBlock=some i) w G:=Frm.below HB.o;have m:Frm (fun i=>i=g) G _:=Frm.grown b.o (fun g h=>(Option.some.inj h).symm);exact ⟨rfl,U.o,(l.trans m (fun i h _=>.inr (by rw [h];rfl))).trans Q.o (fun i h _=>.inr (by rw [h];rfl))⟩
theorem ZaT (p:Nat) (id B:Int) (w:World) (A:Int) (ao:Option Addr) (n c:Nat) (f:Nat->One) (h:TM w p A ao n c f) (hn:n<=1000) (h1:0<=id) (h2:0<=B) (h3:B<=1099511627776) (hx:fndI f n id= -1) (hm:(n:Int)=A):
  Calls prog 122 #[.pointer (some ⟨p,0,none⟩),id,B] w fun e w'=>e=.returned (.int .i64 3)/\Below w.heap.size w w':=by
 subst hm;have E:=Hy h;have F:=Hy hx;clear h hx;go_in;go_wp2_with fail;refine (Zh p id _ n _ n c f E.o (by omega)).mono ?_;rintro e G ⟨rfl,D⟩;rw [F.o];have HB:=Hy D;have C:=E.below D;have I:=C.cell;have H:G.cell? ⟨p,0,none⟩=some (.int .i64 n):=by rw [C.blk.cell];rfl
 clear D C;go_wp2_with fail;go_quiet (fail);go_wp2_with fail;go_ret;exact ⟨rfl,below_drewN HB.o _⟩
theorem ya3 (p:Nat) (id B:Int) (w:World) (A:Int) (ao:Option Addr) (n c:Nat) (f:Nat->One) (h:TM w p A ao n c f) (hn:n<=999) (h1:0<=id) (h2:0<=B) (h3:B<=1099511627776) (hx:fndI f n id= -1) (hm:(n:Int)≠A):
  Calls prog 122 #[.pointer (some ⟨p,0,none⟩),id,B] w fun e w'=>∃ D N,e=.returned (.int .i64 0)/\TM w' p A (some ⟨D,0,none⟩) (n+1) N (upF n (putF f n (B,id)) n)/\Frm (fun i=>i=p∨(Value.slice ao n c).ownBlock=some i) w w'/\((Value.slice ao n c).ownBlock=some D∨w.heap.size<=D):=by
 have Q:=Hy h;have R:=Hy hx;clear h hx;have W:((n:Int) == A)=false:=by rw [beq_eq_false_iff_ne];exact hm
 clear hm;go_in;go_wp2_with fail;refine (Zh p id _ A _ n c f Q.o (by omega)).mono ?_;rintro e I ⟨rfl,P⟩;rw [R.o];have HB:=Hy P;have C:=Q.below P;have V:=C.cell;have U:I.cell? ⟨p,0,none⟩=some (.int .i64 A):=by rw [C.blk.cell];rfl
 have L:=Hy C;clear P C;go_wp2_with fail;go_quiet (fail);go_wp2_with fail;have F:TM (I.drewN nq) p A ao n c f:=L.below (below_drewN (bf _ _) _);refine (xaA p 1 n c 224 _ ao f (B,id) _ F hn).mono ?_;rintro e Y ⟨D,N,rfl,G,E,H⟩;have M:=Hy G;have J:=Hy E;have K:=Hy H;clear F G E H;go_wp2_with fail;go_ret;have T:Frm (fun i=>i=p∨(Value.slice ao n c).ownBlock=some i) w (I.drewN nq):=Frm.below (below_drewN HB.o _);exact ⟨D,N,rfl,M.o,T.trans J.o (fun i h _=>h),K.imp (fun h=>h) (fun h=>by have:=HB.size;have:I.heap.size<=D:=h;omega)⟩
section
open List
def rm (n:Nat) (f:Nat->One):List One:=(List.range n).map f
theorem zz (n:Nat) (f:Nat->One):rm (n+1) f=rm n f++[f n]:=by unfold rm;rw [List.range_succ,List.map_append];rfl
theorem qQ {n:Nat} {f g:Nat->One} (h:∀ k,k < n->f k=g k):rm n f=rm n g:=by
 unfold rm;exact List.map_congr_left (fun k A=>h k (List.mem_range.1 A))
theorem ya8 (n:Nat) (f:Nat->One):(rm n f).length=n:=by simp [rm]
theorem zam {n:Nat} {f:Nat->One} {x:One}:x∈rm n f↔∃ k,k < n/\f k=x:=by simp [rm]
theorem za8 (a b:Nat) (f:Nat->One):rm (a+b) f=rm a f++rm b (fun i=>f (a+i)):=by
 induction b with
 | zero=>simp [rm]
 | succ b A=>rw [show a+(b+1)=(a+b)+1 from rfl,zz,zz,A,List.append_assoc]
theorem Xae (n k:Nat) (f:Nat->One) (h:k < n):rm n f=rm k f++f k :: rm (n - k - 1) (fun i=>f (k+1+i)):=by
 have:=za8 (k+1) (n - k - 1) f;rw [show k+1+(n - k - 1)=n from by omega,zz,List.append_assoc] at this;exact this
theorem Xao (n k:Nat) (f:Nat->One) (h:k < n):∃ R,rm n f ~ f k :: R/\∀ x,rm n (putF f k x) ~ x :: R:=by
 refine ⟨rm k f++rm (n - k - 1) (fun i=>f (k+1+i)),?_,fun x=>?_⟩
 ·rw [Xae n k f h];exact perm_middle
 rw [Xae n k _ h,ZE,qQ (f:=putF f k x) (g:=f) (fun j A=>qi _ _ _ _ (by omega)),qQ (f:=fun i=>putF f k x (k+1+i)) (g:=fun i=>f (k+1+i)) (fun j A=>qi _ _ _ _ (by omega))]
 exact perm_middle
theorem zaH (f:Nat->One) (i j:Nat):swapF f i j=putF (putF f i (f j)) j (f i):=by
 funext k;unfold swapF putF
 by_cases h1:k=i
 ·subst h1
  by_cases A:k=j
  ·subst A;simp
  simp [A]
 by_cases A:k=j
 ·subst A;simp [h1]
 simp [h1,A]
theorem X4 (n i j:Nat) (f:Nat->One) (hi:i < n) (hj:j < n):rm n (swapF f i j) ~ rm n f:=by
 by_cases A:i=j
 ·subst A;rw [YR]
 rw [zaH]
 obtain ⟨C,h1,E⟩:=Xao n i f hi;obtain ⟨D,B,F⟩:=Xao n j (putF f i (f j)) hj;rw [qi _ _ _ _ (fun e=>A e.symm)] at B;have G:D ~ C:=((B.symm.trans (E (f j)))).cons_inv;exact (F (f i)).trans ((G.cons (f i)).trans h1.symm)
theorem Y4:∀ (q:Nat) (f:Nat->One) (i n:Nat),rm n (downF q f i n).1 ~ rm n f
 | 0,f,i,n=>Perm.refl _
 | q+1,f,i,n=>by
  unfold downF
  split
  ·exact Perm.refl _
  ·rename_i hn
   obtain ⟨_,h2,_,h4,_⟩:=Xg f i n (by omega)
   split
   ·exact Perm.refl _
   ·exact (Y4 q _ _ n).trans (X4 n _ _ f (by omega) h2)
theorem zaQ:∀ (q:Nat) (f:Nat->One) (j n:Nat),j < n->rm n (upF q f j) ~ rm n f
 | 0,f,j,n,h=>Perm.refl _
 | q+1,f,j,n,h=>by
  unfold upF
  split
  ·exact Perm.refl _
  ·exact (zaQ q _ _ n (by omega)).trans (X4 n _ _ f (by omega) h)
theorem XaP (f:Nat->One) (i n:Nat) (h:i < n):rm n (fixF f i n) ~ rm n f:=by
 unfold fixF;split
 ·exact Y4 _ _ _ _
 exact (zaQ _ _ _ _ h).trans (Y4 _ _ _ _)
theorem zac (f:Nat->One) (i n:Nat) (hi:i < n) (h:ya4 f i n):Heap (fixF f i n) n:=by
 obtain ⟨h1,A,D⟩:=xaW n f i n (by omega) h;unfold fixF;split
 ·exact A (by omega)
 obtain ⟨B,C⟩:=h1 (by omega)
 rw [B];exact Q8 _ _ _ _ (nl _) hi C
structure Rep (f:Nat->One) (n:Nat) (L:List One):Prop where
 heap:Heap f n
 perm:rm n f ~ L
 sort:L.Pairwise leO
theorem Rep.len {n:Nat} {L:List One} (h:Rep f n L):L.length=n:=by rw [<- h.perm.length_eq,ya8]
def insL (x:One):List One->List One
 | []=>[x]
 | y :: l=>if ltO x y=true then x :: y :: l else y :: insL x l
theorem zf (x:One):∀ l:List One,insL x l ~ x :: l
 | []=>Perm.refl _
 | y :: l=>by
  unfold insL
  split
  ·exact Perm.refl _
  ·exact ((zf x l).cons y).trans (Perm.swap x y l)
theorem yH (x:One):∀ l:List One,l.Pairwise leO->(insL x l).Pairwise leO
 | [],h=>by simp [insL]
 | y :: l,h=>by
  unfold insL
  obtain ⟨h1,h2⟩:=List.pairwise_cons.1 h
  split
  ·rename_i B
   have A:=zt B
   refine List.pairwise_cons.2 ⟨fun z D=>?_,h⟩
   rcases List.mem_cons.1 D with e | e
   ·rw [e];exact A
   ·exact xk A (h1 z e)
  ·rename_i B
   have C:leO y x:=yt.1 (by simpa using B)
   refine List.pairwise_cons.2 ⟨fun z D=>?_,yH x l h2⟩
   rcases List.mem_cons.1 ((zf x l).mem_iff.1 D) with e | e
   ·rw [e];exact C
   ·exact h1 z e
def cancelL (id:Int) (L:List One):List One:=L.eraseP (fun y=>decide (y.2=id))
def hasL (id:Int) (L:List One):Bool:=L.any (fun y=>decide (y.2=id))
def atL (id:Int) (L:List One):Int×Bool:=match L.find? (fun y=>decide (y.2=id)) with
 | some y=>(y.1,true)
 | none=>(0,false)
def idsOK (L:List One):Prop:=(L.map (·.2)).Nodup
theorem ZA {L L':List One} (h:L ~ L'):idsOK L↔idsOK L':=(h.map (fun x:One=>x.2)).nodup_iff
theorem zn {L R:List One} {x:One} {id:Int} (hi:idsOK L) (hx:x.2=id) (h:L ~ x :: R):cancelL id L ~ R:=by
 have F:∀ (L R:List One),idsOK L->L ~ x :: R->cancelL id L ~ R:=by
  intro L;induction L with
  | nil=>intro R _ h;have:=h.length_eq;simp at this
  | cons y L H=>
   intro R hi h;unfold cancelL;rw [List.eraseP_cons]
   by_cases A:y.2=id
   ·rw [decide_eq_true A,cond_true]
    have J:y∈x :: R:=h.mem_iff.1 (List.mem_cons_self ..);have C:x∈y :: L:=h.mem_iff.2 (List.mem_cons_self ..)
    have e:y=x:=by
     rcases List.mem_cons.1 C with e | e
     ·exact e.symm
     ·exfalso
      unfold idsOK at hi;rw [List.map_cons,List.nodup_cons] at hi;exact hi.1 (by rw [A,<- hx];exact List.mem_map.2 ⟨x,e,rfl⟩)
    rw [e] at h;exact h.cons_inv
   ·rw [decide_eq_false A,cond_false]
    have E:y∈x :: R:=h.mem_iff.1 (List.mem_cons_self ..)
    have D:y∈R:=by
     rcases List.mem_cons.1 E with e | e
     ·rw [e] at A;exact absurd hx A
     ·exact e
    have B:idsOK L:=by
     unfold idsOK at hi ⊢;rw [List.map_cons,List.nodup_cons] at hi;exact hi.2
    have G:=perm_cons_erase D;have I:L ~ x :: R.erase y:=(h.trans ((G.cons x).trans (Perm.swap y x _))).cons_inv;exact ((H _ B I).cons y).trans G.symm
 exact F L R hi h
theorem qD {L:List One} (id:Int) (h:L.Pairwise leO):(cancelL id L).Pairwise leO:=h.sublist (List.eraseP_sublist ..)
theorem QI {L:List One} (id:Int) (h:idsOK L):idsOK (cancelL id L):=by
 unfold idsOK at *;exact h.sublist ((List.eraseP_sublist ..).map _)
theorem Zo {L:List One} {id:Int} (h:hasL id L=false):cancelL id L=L:=by
 unfold cancelL;unfold hasL at h
 exact List.eraseP_of_forall_not (fun y A=>by
  rw [List.any_eq_false] at h;exact h y A)
theorem Yo {L:List One} {id:Int}:hasL id L=true↔∃ x∈L,x.2=id:=by simp [hasL]
theorem YZ (h:Rep f n L) (id:Int):(hasL id L=false/\fndI f n id= -1)∨(hasL id L=true/\∃ k,fndI f n id=(k:Nat)/\k < n/\(f k).2=id):=by
 rcases YN f n id with ⟨h1,h2⟩ | ⟨k,h1,h2,h3⟩
 ·left
  refine ⟨?_,h1⟩;rw [Bool.eq_false_iff];intro e;obtain ⟨x,C,A⟩:=Yo.1 e;obtain ⟨k,B,rfl⟩:=zam.1 (h.perm.mem_iff.2 C);exact h2 k B A
 right
 exact ⟨Yo.2 ⟨f k,h.perm.mem_iff.1 (zam.2 ⟨k,h2,rfl⟩),h3⟩,k,h1,h2,h3⟩
theorem qa8 (h:Rep f n L) (hi:idsOK L) (id:Int):atV f n id=atL id L:=by
 unfold atL;rcases YZ h id with ⟨h1,h2⟩ | ⟨h1,k,h2,h3,h4⟩
 ·rw [zaK h2]
  have:L.find? (fun y=>decide (y.2=id))=none:=by
   rw [List.find?_eq_none];unfold hasL at h1;rw [List.any_eq_false] at h1;exact h1
  rw [this]
 rw [qat h2]
 have H:f k∈L:=h.perm.mem_iff.1 (zam.2 ⟨k,h3,rfl⟩);cases C:L.find? (fun y=>decide (y.2=id)) with
 | none=>
  rw [List.find?_eq_none] at C;exact absurd h4 (by simpa using C _ H)
 | some y=>
  have I:y.2=id:=by simpa using List.find?_some C
  have G:=List.mem_of_find?_eq_some C
  have e:y=f k:=by
   obtain ⟨i,D,A⟩:=List.mem_iff_getElem.1 G;obtain ⟨j,F,B⟩:=List.mem_iff_getElem.1 H
   have E:i=j:=by
    unfold idsOK at hi;have:=(List.getElem_inj (h₀:=by simpa using D) (h₁:=by simpa using F) hi).1 (by simp [A,B,I,h4]);exact this
   subst E;rw [<- A,<- B]
  simp only [e]
theorem Qa1 (h:Rep f n L) (x:One):Rep (upF n (putF f n x) n) (n+1) (insL x L):=by
 refine ⟨?_,?_,yH x L h.sort⟩
 ·refine Q8 n _ n (n+1) (nl _) (by omega) ⟨fun k h1 B A=>?_,fun k h1 B A D=>by omega⟩
  rw [qi _ _ _ _ A,qi _ _ _ _ (by omega)];exact h.heap k h1 (by omega)
 refine (zaQ _ _ _ _ (by omega)).trans ?_
 rw [zz,ZE,qQ (f:=putF f n x) (g:=f) (fun k C=>qi _ _ _ _ (by omega))];exact (perm_append_comm).trans ((h.perm.cons x).trans (zf x L).symm)
theorem Za1 {k:Nat} (h:Rep f n L) (hi:idsOK L) (id B:Int) (A:k < n) (D:(f k).2=id):Rep (fixF (putF f k (B,(f k).2)) k n) n (insL (B,id) (cancelL id L)):=by
 obtain ⟨R,h1,C⟩:=Xao n k f A;refine ⟨?_,?_,yH _ _ (qD id h.sort)⟩
 ·refine zac _ _ _ A ⟨fun j h1 C E F=>?_,fun j h1 C E F=>?_⟩
  ·rw [qi _ _ _ _ F,qi _ _ _ _ E];exact h.heap j h1 C
  rw [qi _ _ _ _ (by omega),qi _ _ _ _ (by omega)]
  have:=h.heap j h1 C;rw [E] at this;exact xk (h.heap k F A) this
 rw [D]
 exact (XaP _ _ _ A).trans ((C _).trans ((((zn hi D (h.perm.symm.trans h1)).symm).cons _).trans (zf _ _).symm))
theorem Yan {n k:Nat} (h:Rep f (n+1) L) (hi:idsOK L) (id:Int) (H:k<=n) (B:(f k).2=id):Rep (remF f k n) n (cancelL id L):=by
 have A:=qD id h.sort;unfold remF;split
 ·rename_i e
  subst e;refine ⟨fun j h1 F=>h.heap j h1 (by omega),?_,A⟩
  have p:L ~ f k :: rm k f:=by
   have:=h.perm;rw [zz] at this;exact this.symm.trans perm_append_comm
  exact (zn hi B p).symm
 rename_i I
 have C:k < n:=by omega
 refine ⟨?_,?_,A⟩
 ·refine zac _ _ _ C ⟨fun j h1 F D E=>?_,fun j h1 F D E=>?_⟩
  ·rw [zd _ _ _ _ E (by omega),zd _ _ _ _ D (by omega)];exact h.heap j h1 (by omega)
  rw [zd _ _ _ _ (by omega) (by omega),zd _ _ _ _ (by omega) (by omega)]
  have:=h.heap j h1 (by omega);rw [D] at this;exact xk (h.heap k E (by omega)) this
 refine (XaP _ _ _ C).trans ?_
 have G:=X4 (n+1) k n f (by omega) (by omega);rw [zz,xn] at G;have J:L ~ f k :: rm n (swapF f k n):=h.perm.symm.trans (G.symm.trans perm_append_comm);exact (zn hi B J).symm
theorem xac {L:List One} {x:One} (h:idsOK L) (hx:hasL x.2 L=false):idsOK (insL x L):=by
 rw [ZA (zf x L)];unfold idsOK at *;rw [List.map_cons,List.nodup_cons];refine ⟨fun A=>?_,h⟩;obtain ⟨y,B,e⟩:=List.mem_map.1 A;rw [Yo.2 ⟨y,B,e⟩] at hx;cases hx
theorem xaj {L:List One} (id:Int) (h:idsOK L):hasL id (cancelL id L)=false:=by
 rw [Bool.eq_false_iff];intro e;obtain ⟨x,D,B⟩:=Yo.1 e;cases C:hasL id L with
 | false=>rw [Zo C] at D;exact absurd (Yo.2 ⟨x,D,B⟩) (by rw [C];exact Bool.false_ne_true)
 | true=>
  obtain ⟨y,F,A⟩:=Yo.1 C;have p:=zn h A (perm_cons_erase F);have E:idsOK (y :: cancelL id L):=(ZA ((perm_cons_erase F).trans (p.symm.cons y))).1 h;unfold idsOK at E;rw [List.map_cons,List.nodup_cons] at E;exact E.1 (by rw [A];exact List.mem_map.2 ⟨x,D,B⟩)
end
def TL (w:World) (p:Nat) (go:Option Nat) (most:Int) (L:List One):Prop:=
 ∃ ao n c f,TM w p most ao n c f/\Rep f n L/\idsOK L/\go=(Value.slice ao n c).ownBlock/\(n:Int)<=most/\most<=24
def setL (most:Int) (L:List One) (id at_:Int):Int×List One:=
 if id < 0∨at_ < 0∨1099511627776 < at_ then (2,L) else if hasL id L=true then (0,insL (at_,id) (cancelL id L)) else if (L.length:Int)=most then (3,L) else (0,insL (at_,id) L)
theorem TL.frm {S:Nat->Prop} {L:List One} (h:TL w p go most L) (hf:Frm S w w') (hp:¬ S p) (hg:∀ k,go=some k->¬ S k):TL w' p go most L:=by
 obtain ⟨C,n,c,f,h1,D,E,B,F⟩:=h;exact ⟨C,n,c,f,h1.frm hf hp (fun k A=>hg k (B.trans A)),D,E,B,F⟩
theorem TL.below {L:List One} (h:TL w p go most L) (hb:Below w.heap.size w w'):TL w' p go most L:=
 h.frm (Frm.below (S:=fun _=>False) hb) id (fun _ _=>id)
theorem TL.lt {L:List One} (h:TL w p go most L):p < w.heap.size/\∀ k,go=some k->k < w.heap.size:=by
 obtain ⟨C,n,c,f,h1,D,E,B,F⟩:=h;exact ⟨h1.blk.lt,fun k A=>(h1.own.lt k (B.symm.trans A)).2⟩
theorem TL.new (w:World) (A:Int) (h1:1<=A) (B:A<=24):TL (w.alloc (.cells #[A,.slice none 0 0] 224)) w.heap.size none A []:=
 ⟨none,0,0,fun _=>(0,0),⟨hn_ w _,rfl,World.ownsRow_nil _ _ _ _,by decide⟩,⟨fun k h1 B=>by omega,List.Perm.refl _,List.Pairwise.nil⟩,List.nodup_nil,rfl,by omega,B⟩
theorem qbb (A:Int) (w:World) (h1:1<=A) (h2:A<=24):
  Calls prog 60 #[A] w fun e w'=>e=.returned (.tuple #[.pointer (some ⟨w.heap.size,0,none⟩),()])/\TL w' w.heap.size none A []/\Below w.heap.size w w':=
 (XaY A w h1 h2).mono fun e w' h=>⟨h.1,by rw [h.2];exact TL.new w A h1 h2,by rw [h.2];exact (bf _ _).alloc (nl _) _⟩
theorem qbc (p:Nat) (id:Int) (w:World) (go:Option Nat) (A:Int) (L:List One) (h:TL w p go A L):
  Calls prog 116 #[.pointer (some ⟨p,0,none⟩),id] w fun e w'=>e=.returned (.tuple #[.int .i64 (atL id L).1,.bool (atL id L).2])/\Below w.heap.size w w':=by
 obtain ⟨B,n,c,f,h1,C,D,E,F,G⟩:=h;have:=za5 p id w A B n c f h1 (by omega);rw [qa8 C D id] at this;exact this
theorem Xba (p:Nat) (w:World) (go:Option Nat) (A:Int) (L:List One) (h:TL w p go A L):
  Calls prog 76 #[.pointer (some ⟨p,0,none⟩)] w fun e w'=>e=.returned (.int .i64 (L.length:Nat))/\w=w':=by
 obtain ⟨B,n,c,f,h1,C,D,E,F,G⟩:=h;have:=YaU p w A B n c f h1;rw [<- C.len] at this;exact this
theorem QaU (p:Nat) (id:Int) (w:World) (go:Option Nat) (A:Int) (L:List One) (h:TL w p go A L):
  Calls prog 111 #[.pointer (some ⟨p,0,none⟩),id] w fun e w'=>e=.returned (.bool (hasL id L))/\TL w' p go A (cancelL id L)/\Frm (fun i=>i=p∨go=some i) w w':=by
 have h0:=h;obtain ⟨C,n,c,f,h1,D,E,F,M,G⟩:=h;rcases YZ D id with ⟨e1,e2⟩ | ⟨e1,k,e2,e3,e4⟩
 ·rw [e1,Zo e1]
  exact (Zay p id w A C n c f h1 (by omega) e2).mono fun e w' B=>⟨B.1,h0.below B.2,Frm.below B.2⟩
 rw [e1]
 obtain ⟨m,rfl⟩:∃ m,n=m+1:=⟨n - 1,by omega⟩;refine (Qaj p id w A C m c k f h1 (by omega) e2 (by omega)).mono ?_;rintro e w' ⟨J,I,H⟩;have K:=Yan D E id (by omega) e4;obtain ⟨g,sp,rfl,_⟩:=h1.open_ (Nat.succ_pos m);exact ⟨J,⟨_,m,c,_,I,K,QI id E,F,by omega,G⟩,H.mono (fun i hi _=>hi.imp (fun h=>h) (fun e=>F.trans e))⟩
theorem zbb (p:Nat) (id B:Int) (w:World) (go:Option Nat) (A:Int) (L:List One) (h:TL w p go A L):
  Calls prog 122 #[.pointer (some ⟨p,0,none⟩),id,B] w fun e w'=>∃ go',e=.returned (.int .i64 (setL A L id B).1)/\TL w' p go' A (setL A L id B).2/\Frm (fun i=>i=p∨go=some i) w w'/\(go'=go∨∃ g,go'=some g/\w.heap.size<=g):=by
 have h0:=h;obtain ⟨E,n,c,f,h1,F,G,H,W,U⟩:=h;unfold setL
 by_cases R:id < 0∨B < 0∨1099511627776 < B
 ·rw [if_pos R]
  exact (za3 p id B w A E n c f h1 (by omega) R).mono fun e w' C=>⟨go,C.1,h0.below C.2,Frm.below C.2,.inl rfl⟩
 rw [if_neg R]
 have J:0<=id:=by omega
 have K:0<=B:=by omega
 have M:B<=1099511627776:=by omega
 rcases YZ F id with ⟨e1,e2⟩ | ⟨e1,k,e2,e3,e4⟩
 ·rw [if_neg (by rw [e1];exact Bool.false_ne_true),F.len]
  by_cases I:(n:Int)=A
  ·rw [if_pos I]
   exact (ZaT p id B w A E n c f h1 (by omega) J K M e2 I).mono fun e w' C=>⟨go,C.1,h0.below C.2,Frm.below C.2,.inl rfl⟩
  rw [if_neg I]
  refine (ya3 p id B w A E n c f h1 (by omega) J K M e2 I).mono ?_;rintro e w' ⟨T,V,Q,P,N,D⟩;refine ⟨some T,Q,⟨_,n+1,V,_,P,Qa1 F (B,id),xac G e1,rfl,by omega,U⟩,N.mono (fun i hi _=>hi.imp (fun h=>h) (fun e=>H.trans e)),?_⟩;rcases D with D | D
  ·exact .inl (H.trans D).symm
  exact .inr ⟨T,rfl,D⟩
 rw [if_pos e1]
 refine (xa3 p id B w A E n c k f h1 (by omega) J K M e2 e3).mono ?_;rintro e w' ⟨Q,P,N⟩;exact ⟨go,Q,⟨_,n,c,_,P,Za1 F G id B e3 e4,xac (QI id G) (xaj id G),H,W,U⟩,N.mono (fun i hi _=>hi.imp (fun h=>h) (fun e=>H.trans e)),.inl rfl⟩
structure L1 where
 life:Int
 epoch:Int
 till:Int
structure Tab where
 workers:Int
 term:Int
 l:List L1
def L1.zero:L1:=⟨0,0,0⟩
def Tab.at (t:Tab) (w:Int):L1:=t.l.getD w.toNat L1.zero
def okTime (now:Int):Bool:=decide (0<=now/\now<=1099511627776)
def Tab.is (t:Tab) (w:Int):Bool:=decide (1<=w/\w<=t.workers)
def Tab.put (t:Tab) (w:Int) (x:L1):Tab:={t with l:=t.l.set w.toNat x}
def okHello (t:Tab) (w life now:Int):Bool:=t.is w&&decide (1<=life/\life<=2147483647)&&okTime now
def L1.told (x:L1) (life:Int):L1:=if x.life < life then {x with life:=life,epoch:=x.epoch+1} else x
def L1.on (x:L1) (till:Int):L1:={x with till:=max x.till till}
def Tab.hello (t:Tab) (w life now:Int):Tab×Int×Int:=
 if okHello t w life now then
  if life < (t.at w).life then (t,0,4)
  else (t.put w (((t.at w).told life).on (now+t.term)),((t.at w).told life).epoch,0)
 else (t,0,2)
def okSeen (t:Tab) (w epoch now:Int):Bool:=t.is w&&decide ((t.at w).epoch≠0/\(t.at w).epoch=epoch)&&okTime now
def Tab.seen (t:Tab) (w epoch now:Int):Tab×Bool:=
 if okSeen t w epoch now then (t.put w ((t.at w).on (now+t.term)),true) else (t,false)
def Tab.live (t:Tab) (w now:Int):Bool:=t.is w&&decide (0 < (t.at w).epoch/\now<=(t.at w).till)
def Tab.epoch (t:Tab) (w:Int):Int:=if t.is w then (t.at w).epoch else 0
def Tab.new (workers term:Int):Tab:=⟨workers,term,List.replicate 6 L1.zero⟩
structure L1.ok (x:L1):Prop where
 life0:0<=x.life
 life1:x.life<=2147483647
 epoch0:0<=x.epoch
 epoch1:x.epoch<=x.life
 till0:0<=x.till
 till1:x.till<=2199023255552
structure Tab.ok (t:Tab):Prop where
 len:t.l.length=6
 workers0:1<=t.workers
 workers1:t.workers<=5
 term0:1<=t.term
 term1:t.term<=1000
 each:∀ x∈t.l,x.ok
theorem L1.zero_ok:L1.zero.ok:=⟨by decide,by decide,by decide,by decide,by decide,by decide⟩
theorem Tab.new_ok (A B:Int) (h1:1<=A) (h2:A<=5) (h3:1<=B) (h4:B<=1000):(Tab.new A B).ok:=
 ⟨rfl,h1,h2,h3,h4,fun x C=>by obtain rfl:=List.eq_of_mem_replicate C;exact L1.zero_ok⟩
theorem Tab.ok.at {t:Tab} (h:t.ok) (w:Int):(t.at w).ok:=by
 unfold Tab.at
 by_cases A:w.toNat < t.l.length
 ·rw [List.getD_eq_getElem?_getD,List.getElem?_eq_getElem A];exact h.each _ (List.getElem_mem _)
 rw [List.getD_eq_getElem?_getD,List.getElem?_eq_none (by omega)];exact L1.zero_ok
theorem Tab.ok.put {t:Tab} (h:t.ok) (w:Int) {x:L1} (hx:x.ok):(t.put w x).ok:=
 ⟨by simp [Tab.put,h.len],h.workers0,h.workers1,h.term0,h.term1,fun y A=>by
  rcases List.mem_or_eq_of_mem_set A with h1 | rfl
  ·exact h.each y h1
  ·exact hx⟩
theorem L1.ok.told {x:L1} (h:x.ok) {life:Int} (h1:1<=life) (h2:life<=2147483647):(x.told life).ok:=by
 unfold L1.told;split
 ·exact ⟨by simp;omega,h2,by simp;have:=h.epoch0;omega,by simp;have:=h.epoch1;omega,h.till0,h.till1⟩
 exact h
theorem L1.ok.on {x:L1} (h:x.ok) {till:Int} (h2:till<=2199023255552):(x.on till).ok:=by
 have:=h.till0;have:=h.till1;exact ⟨h.life0,h.life1,h.epoch0,h.epoch1,by simp [L1.on];omega,by simp [L1.on];omega⟩
theorem Tab.ok.hello {t:Tab} (h:t.ok) (w life now:Int):(t.hello w life now).1.ok:=by
 unfold Tab.hello;split
 ·rename_i A
  simp only [okHello,okTime,Bool.and_eq_true,decide_eq_true_eq] at A;split
  ·exact h
  exact h.put w (((h.at w).told (by omega) (by omega)).on (by have:=h.term1;omega))
 exact h
theorem Tab.ok.seen {t:Tab} (h:t.ok) (w epoch now:Int):(t.seen w epoch now).1.ok:=by
 unfold Tab.seen;split
 ·rename_i A
  simp only [okSeen,okTime,Bool.and_eq_true,decide_eq_true_eq] at A;exact h.put w ((h.at w).on (by have:=h.term1;omega))
 exact h
theorem Tab.at_put {t:Tab} (h:t.ok) (w v:Int) (x:L1) (hw:t.is w=true):(t.put w x).at v=if v.toNat=w.toNat then x else t.at v:=by
 simp only [Tab.is,decide_eq_true_eq] at hw;have:=h.len;have:=h.workers1;unfold Tab.at Tab.put
 by_cases e:v.toNat=w.toNat
 ·rw [if_pos e,e,List.getD_eq_getElem?_getD,List.getElem?_set_self (by omega)];rfl
 rw [if_neg e,List.getD_eq_getElem?_getD,List.getElem?_set_ne (fun A=>e A.symm),List.getD_eq_getElem?_getD]
def L1.cells (x:L1):List Value:=[.int .i64 x.life,.int .i64 x.epoch,.int .i64 x.till]
def L1.rcells (x:L1):List Value:=[.int .i64 x.epoch,.int .i64 x.life,.int .i64 x.till]
def Tab.cells (t:Tab):List Value:=[.int .i64 t.workers,.int .i64 t.term]++t.l.flatMap L1.cells
def Tab.rcells (t:Tab):List Value:=t.l.flatMap L1.rcells++[.int .i64 t.workers,.int .i64 t.term]
theorem Tab.cell_at {t:Tab} (h:t.ok) (k j:Nat) (A:k < 6) (hj:j < 3):t.cells[2+k * 3+j]?=(t.at k).cells[j]?:=by
 have B:=h.len;unfold Tab.cells;rw [List.getElem?_append_right (by simp;omega)];rw [show 2+k * 3+j - [Value.int IntKind.i64 t.workers,Value.int IntKind.i64 t.term].length=k * 3+j by simp;omega,yc _ 3 (fun _=>rfl) _ _ _ hj];unfold Tab.at;rw [Int.toNat_natCast,List.getD_eq_getElem?_getD,List.getElem?_eq_getElem (l:=t.l) (show k < t.l.length by omega)];rfl
theorem Tab.rcell_at {t:Tab} (h:t.ok) (k j:Nat) (A:k < 6) (hj:j < 3):t.rcells[k * 3+j]?=(t.at k).rcells[j]?:=by
 have B:=h.len;unfold Tab.rcells;rw [List.getElem?_append_left (by rw [zc _ 3 (fun _=>rfl),B];omega),yc _ 3 (fun _=>rfl) _ _ _ hj];unfold Tab.at;rw [Int.toNat_natCast,List.getD_eq_getElem?_getD,List.getElem?_eq_getElem (l:=t.l) (show k < t.l.length by omega)];rfl
theorem Tab.rcell_n {t:Tab} (h:t.ok):t.rcells[18]?=some (.int .i64 t.workers)/\t.rcells[19]?=some (.int .i64 t.term):=by
 have B:=h.len;have A:(t.l.flatMap L1.rcells).length=18:=by rw [zc _ 3 (fun _=>rfl),B]
 unfold Tab.rcells;constructor
 ·rw [List.getElem?_append_right (by omega),A];rfl
 rw [List.getElem?_append_right (by omega),A];rfl
theorem Tab.set_cell {t:Tab} (h:t.ok) (k j:Nat) (v:Value) (x:L1) (A:k < 6) (hj:j < 3) (hx:x.cells=(t.at k).cells.set j v):t.cells.set (2+k * 3+j) v=(t.put k x).cells:=by
 have B:=h.len;unfold Tab.cells Tab.put;rw [List.set_append_right _ _ (by simp;omega),show 2+k * 3+j - [Value.int IntKind.i64 t.workers,Value.int IntKind.i64 t.term].length=k * 3+j by simp;omega];rw [Qq _ 3 (fun _=>rfl) t.l k j v (t.at k) x (by unfold Tab.at;rw [Int.toNat_natCast,List.getD_eq_getElem?_getD,List.getElem?_eq_getElem (by omega)];rfl) hj hx];simp
theorem Tab.set_rcell {t:Tab} (h:t.ok) (k j:Nat) (v:Value) (x:L1) (A:k < 6) (hj:j < 3) (hx:x.rcells=(t.at k).rcells.set j v):t.rcells.set (k * 3+j) v=(t.put k x).rcells:=by
 have B:=h.len;unfold Tab.rcells Tab.put;rw [List.set_append_left _ _ (by rw [zc _ 3 (fun _=>rfl),B];omega)];rw [Qq _ 3 (fun _=>rfl) t.l k j v (t.at k) x (by unfold Tab.at;rw [Int.toNat_natCast,List.getD_eq_getElem?_getD,List.getElem?_eq_getElem (by omega)];rfl) hj hx];simp
def TB (w:World) (g:Nat) (t:Tab):Prop:=Blk w g 217 t.cells
theorem TB.cell {t:Tab} (h:TB w g t) (ho:t.ok) (k j:Nat) (A:k < 6) (hj:j < 3):w.cell? ⟨g,2+k * 3+j,none⟩=(t.at k).cells[j]?:=by
 rw [Blk.cell h,Tab.cell_at ho k j A hj]
theorem TB.workers {t:Tab} (h:TB w g t):w.cell? ⟨g,0,none⟩=some (.int .i64 t.workers):=Blk.cell h 0
theorem TB.term {t:Tab} (h:TB w g t):w.cell? ⟨g,1,none⟩=some (.int .i64 t.term):=Blk.cell h 1
theorem TB.life {t:Tab} (h:TB w g t) (ho:t.ok) (k:Nat) (A:k < 6):w.cell? ⟨g,2+k * 3,none⟩=some (.int .i64 (t.at k).life):=TB.cell h ho k 0 A (by decide)
theorem TB.epoch {t:Tab} (h:TB w g t) (ho:t.ok) (k:Nat) (A:k < 6):w.cell? ⟨g,2+k * 3+1,none⟩=some (.int .i64 (t.at k).epoch):=TB.cell h ho k 1 A (by decide)
theorem TB.till {t:Tab} (h:TB w g t) (ho:t.ok) (k:Nat) (A:k < 6):w.cell? ⟨g,2+k * 3+2,none⟩=some (.int .i64 (t.at k).till):=TB.cell h ho k 2 A (by decide)
theorem TB.set {t:Tab} (h:TB w g t) (ho:t.ok) (k j:Nat) (v:Value) (x:L1) (A:k < 6) (hj:j < 3) (hx:x.cells=(t.at k).cells.set j v):TB (w.setCell ⟨g,2+k * 3+j,none⟩ v) g (t.put k x):=by
 unfold TB;rw [<- Tab.set_cell ho k j v x A hj hx];exact Blk.set h _ _
theorem Blk.grown_self {w:World} {g:Nat} (o:Nat) (v:Value):w.grownBy (w.setCell ⟨g,o,none⟩ v) (some g):=
 ⟨rfl,rfl,rfl,by simp,fun k _ A=>heap_setCell_other w ⟨g,o,none⟩ k v (fun e=>A (by simp [e]))⟩
theorem yj {a b:World} {row:Option Nat} (h:a.grownBy b row):a.grownBy b.drew row:=⟨h.os,h.tape,h.output,h.size,h.block⟩
theorem Blk.kept {w w':World} {g:Nat} {e:TypeId} {cs:List Value} (h:Blk w g e cs) {row:Option Nat} (hg:w.grownBy w' row) (A:some g≠row):Blk w' g e cs:=by
 unfold Blk at *;rw [hg.block g (Blk.lt h) A];exact h
theorem Zq (w:World) (g:Nat) (t:Tab) (k:Nat) (h:TB w g t) (h1:1<=k) (h2:(k:Int)<=t.workers) (h5:k<=5):
  Calls prog 125 #[.pointer (some ⟨g,0,none⟩),k] w fun e w'=>e=.returned (.pointer (some ⟨g,2+k * 3,none⟩))/\w=w':=by
 have A:=h.workers;clear h;go_in;go_wp2;go_ret;exact ⟨rfl,rfl⟩
theorem yZ (w:World) (g:Nat) (t:Tab) (v:Int) (h:TB w g t) (hv:t.is v=false):
  Calls prog 125 #[.pointer (some ⟨g,0,none⟩),v] w fun e w'=>e=.returned (.pointer none)/\w=w':=by
 have C:=h.workers;have A:¬ (1<=v/\v<=t.workers):=by simpa [Tab.is] using hv
 clear h hv
 by_cases h1:v < 1
 ·clear A
  go_in;go_wp2;go_ret;exact ⟨rfl,rfl⟩
 have B:t.workers < v:=by omega
 clear A;go_in;go_wp2;go_ret;exact ⟨rfl,rfl⟩
theorem Qu (w:World) (v:Int):
  Calls prog 159 #[v] w fun e w'=>e=.returned (.bool (okTime v))/\w=w':=by
 by_cases h1:v < 0
 ·have A:Hid (okTime v=false):=by unfold Hid okTime;rw [decide_eq_false_iff_not];omega
  have B:decide (0<=v)=false:=by simp;omega
  go_in;go_wp2;go_ret;exact ⟨by rw [A.out];rfl,rfl⟩
 by_cases C:1099511627776 < v
 ·have A:Hid (okTime v=false):=by unfold Hid okTime;rw [decide_eq_false_iff_not];omega
  have B:decide (v<=1099511627776)=false:=by simp;omega
  go_in;go_wp2;go_ret;exact ⟨by rw [A.out];rfl,rfl⟩
 have A:Hid (okTime v=true):=by unfold Hid okTime;rw [decide_eq_true_iff];omega
 have B:decide (v<=1099511627776)=true:=by simp;omega
 have D:decide (0<=v)=true:=by simp;omega
 go_in;go_wp2;go_ret;exact ⟨by rw [A.out];rfl,rfl⟩
theorem xH (w:World) (g:Nat) (t:Tab) (k:Nat) (now:Int) (h:TB w g t) (ho:t.ok) (A:k < 6) (hn:0<=now/\now<=1099511627776):
  Calls prog 160 #[.pointer (some ⟨g,0,none⟩),.pointer (some ⟨g,2+k * 3,none⟩),now] w fun e w'=>e=.returned (.tuple #[])/\TB w' g (t.put k ((t.at k).on (now+t.term)))/\w.grownBy w' (some g):=by
 have I:=h.term;have H:=h.till ho k A;have J:=Blk.frozen h (2+k * 3+2);have C:=Hy (h.set ho k 2 (.int .i64 (max (t.at k).till (now+t.term))) ((t.at k).on (now+t.term)) A (by decide) rfl);have D:=ho.term0;have E:=ho.term1;have F:=(ho.at k).till0;have G:=(ho.at k).till1;generalize (t.at k).on (now+t.term)=X at *;generalize (t.at k).till=T at *;generalize t.term=M at *;have B:(if T < now+M then now+M else T)=max T (now+M):=by split <;> omega
 clear h ho;go_in;go_wp2;go_region
 all_goals go_wp2
 go_end0;exact ⟨rfl,C.o,yj (Blk.grown_self _ _)⟩
theorem qaA (w:World) (g:Nat) (t:Tab) (v life now:Int) (h:TB w g t) (ho:t.ok) (hb:okHello t v life now=false):
  Calls prog 105 #[.pointer (some ⟨g,0,none⟩),v,life,now] w fun e w'=>e=.returned (.tuple #[(),.int .i64 2])/\w=w':=by
 have H:=Hy h;clear h;cases A:t.is v with
 | false=>
  have B:=Hy (yZ w g t v H.o A);clear hb A;go_in;go_wp2_with fail;refine (B.o).mono ?_;rintro e w' ⟨rfl,rfl⟩;go_wp2_with fail;go_ret2;exact ⟨rfl,rfl⟩
 | true=>
  have E:∃ k:Nat,v=k/\1<=k/\k<=5/\(k:Int)<=t.workers:=by
   simp only [Tab.is,decide_eq_true_eq] at A;have:=ho.workers1;exact ⟨v.toNat,by omega,by omega,by omega,by omega⟩
  obtain ⟨k,rfl,C,D,F⟩:=E;have B:=Hy (Zq w g t k H.o C F D);clear A
  by_cases h1:life < 1
  ·clear hb
   go_in;go_wp2_with fail;refine (B.o).mono ?_;rintro e w' ⟨rfl,rfl⟩;go_wp2_with fail;go_ret2;exact ⟨rfl,rfl⟩
  by_cases J:2147483647 < life
  ·clear hb
   go_in;go_wp2_with fail;refine (B.o).mono ?_;rintro e w' ⟨rfl,rfl⟩;go_wp2_with fail;go_ret2;exact ⟨rfl,rfl⟩
  have I:okTime now=false:=by
   have A:t.is (k:Int)=true:=by simp only [Tab.is,decide_eq_true_eq];omega
   simp only [okHello,A,Bool.true_and] at hb;rw [show decide (1<=life/\life<=2147483647)=true by rw [decide_eq_true_iff];omega,Bool.true_and] at hb;exact hb
  have G:=Hy (Qu w now);rw [I] at G;clear hb I;go_in;go_wp2_with fail;refine (B.o).mono ?_;rintro e w' ⟨rfl,rfl⟩;go_wp2_with fail;refine (G.o).mono ?_;rintro e w' ⟨rfl,rfl⟩;go_wp2_with fail;go_ret2;exact ⟨rfl,rfl⟩
theorem yaA (w:World) (g:Nat) (t:Tab) (v life now:Int) (h:TB w g t) (ho:t.ok) (hb:okHello t v life now=true) (I:life < (t.at v).life):
  Calls prog 105 #[.pointer (some ⟨g,0,none⟩),v,life,now] w fun e w'=>e=.returned (.tuple #[(),.int .i64 4])/\w=w':=by
 have H:=Hy h;clear h;simp only [okHello,Bool.and_eq_true,decide_eq_true_eq] at hb;obtain ⟨⟨B,N,P⟩,A⟩:=hb
 have E:∃ k:Nat,v=k/\1<=k/\k<=5/\(k:Int)<=t.workers:=by
  simp only [Tab.is,decide_eq_true_eq] at B;have:=ho.workers1;exact ⟨v.toNat,by omega,by omega,by omega,by omega⟩
 obtain ⟨k,rfl,C,D,F⟩:=E;have K:=Hy (Zq w g t k H.o C F D);have G:=Hy (Qu w now);rw [A] at G;have J:0<=now/\now<=1099511627776:=by simpa [okTime] using A
 have Q:=H.life ho k (by omega);have M:=H.epoch ho k (by omega);clear B A;generalize (t.at (k:Int)).life=L at *;go_in;go_wp2_with fail;refine (K.o).mono ?_;rintro e w' ⟨rfl,rfl⟩;go_wp2_with fail;refine (G.o).mono ?_;rintro e w' ⟨rfl,rfl⟩;go_wp2_with fail;go_ret2;exact ⟨rfl,rfl⟩
theorem yal (w:World) (g:Nat) (t:Tab) (v life now:Int) (h:TB w g t) (ho:t.ok) (hb:okHello t v life now=true) (A:life=(t.at v).life):
  Calls prog 105 #[.pointer (some ⟨g,0,none⟩),v,life,now] w fun e w'=>e=.returned (.tuple #[.int .i64 (t.at v).epoch,()])/\TB w' g (t.put v ((t.at v).on (now+t.term)))/\w.grownBy w' (some g):=by
 have H:=Hy h;clear h;simp only [okHello,Bool.and_eq_true,decide_eq_true_eq] at hb;obtain ⟨⟨J,c,d⟩,C⟩:=hb
 have V:∃ k:Nat,v=k/\1<=k/\k<=5/\(k:Int)<=t.workers:=by
  simp only [Tab.is,decide_eq_true_eq] at J;have:=ho.workers1;exact ⟨v.toNat,by omega,by omega,by omega,by omega⟩
 obtain ⟨k,rfl,T,U,W⟩:=V;have Z:=Hy (Zq w g t k H.o T W U);have Y:=Hy (Qu w now);rw [C] at Y;have K:0<=now/\now<=1099511627776:=by simpa [okTime] using C
 have b:=H.life ho k (by omega);have R:=H.epoch ho k (by omega);clear J C;have D:t.is (k:Int)=true:=by simp only [Tab.is,decide_eq_true_eq];omega
 have P:=Hy (xH w g t k now H.o ho (by omega) K);have a:=Hy ho;have F:Hid ((t.put (k:Int) ((t.at (k:Int)).on (now+t.term))).ok):=ho.put _ ((ho.at k).on (by have:=ho.term1;omega))
 have M:Hid (((t.put (k:Int) ((t.at (k:Int)).on (now+t.term))).at (k:Int)).epoch=(t.at (k:Int)).epoch):=by
  unfold Hid;rw [Tab.at_put ho (k:Int) k _ D,if_pos rfl];rfl
 have h0:(t.at (k:Int)).life<=life:=by omega
 have f:life<=(t.at (k:Int)).life:=by omega
 clear A ho D;generalize t.put (k:Int) ((t.at (k:Int)).on (now+t.term))=t2 at *;generalize (t.at (k:Int)).life=L at *;generalize (t.at (k:Int)).epoch=E at *;go_in;go_wp2_with fail;refine (Z.o).mono ?_;rintro e w' ⟨rfl,rfl⟩;go_wp2_with fail;refine (Y.o).mono ?_;rintro e w' ⟨rfl,rfl⟩;go_wp2_with fail;refine (P.o).mono ?_;rintro e i ⟨rfl,B,I⟩;have G:=B.epoch F.o k (by omega);rw [M.o] at G;have Q:=Hy B;have N:=Hy I;clear B I b R;go_wp2_with fail;go_ret2;exact ⟨rfl,Q.o,N.o⟩
theorem zaA (w:World) (g:Nat) (t:Tab) (v life now:Int) (h:TB w g t) (ho:t.ok) (hb:okHello t v life now=true) (U:(t.at v).life < life):
  Calls prog 105 #[.pointer (some ⟨g,0,none⟩),v,life,now] w fun e w'=>e=.returned (.tuple #[.int .i64 ((t.at v).epoch+1),()])/\TB w' g (t.put v (((t.at v).told life).on (now+t.term)))/\w.grownBy w' (some g):=by
 have H:=Hy h;clear h;simp only [okHello,Bool.and_eq_true,decide_eq_true_eq] at hb;obtain ⟨⟨R,p,T⟩,J⟩:=hb
 have m:∃ k:Nat,v=k/\1<=k/\k<=5/\(k:Int)<=t.workers:=by
  simp only [Tab.is,decide_eq_true_eq] at R;have:=ho.workers1;exact ⟨v.toNat,by omega,by omega,by omega,by omega⟩
 obtain ⟨k,rfl,j,l,n⟩:=m;have u:=Hy (Zq w g t k H.o j n l);have s:=Hy (Qu w now);rw [J] at s;have Z:0<=now/\now<=1099511627776:=by simpa [okTime] using J
 have hc:=H.life ho k (by omega);have i:=H.epoch ho k (by omega);clear R J;have B:t.is (k:Int)=true:=by simp only [Tab.is,decide_eq_true_eq];omega
 have A:(t.at (k:Int)).told life=⟨life,(t.at (k:Int)).epoch+1,(t.at (k:Int)).till⟩:=by unfold L1.told;rw [if_pos U]
 have F:=(ho.at (k:Int)).told p T;have Ac:=Blk.frozen H.o (2+k * 3);have Ad:=Blk.frozen H.o (2+k * 3+1);have f:=(ho.at (k:Int)).epoch0;have z:=(ho.at (k:Int)).epoch1;have Aa:=(ho.at (k:Int)).life1;have q:=Hy (H.set ho k 0 (.int .i64 life) ⟨life,(t.at (k:Int)).epoch,(t.at (k:Int)).till⟩ (by omega) (by decide) rfl);have V:(t.put (k:Int) ⟨life,(t.at (k:Int)).epoch,(t.at (k:Int)).till⟩).ok:=ho.put _ ⟨by simp;omega,T,f,by simp;omega,(ho.at (k:Int)).till0,(ho.at (k:Int)).till1⟩;have C:(t.put (k:Int) ⟨life,(t.at (k:Int)).epoch,(t.at (k:Int)).till⟩).at (k:Int)=⟨life,(t.at (k:Int)).epoch,(t.at (k:Int)).till⟩:=by rw [Tab.at_put ho (k:Int) k _ B,if_pos rfl]
 have r:=Hy (q.set V k 1 (.int .i64 ((t.at (k:Int)).epoch+1)) ⟨life,(t.at (k:Int)).epoch+1,(t.at (k:Int)).till⟩ (by omega) (by decide) (by rw [C];rfl));have G:∀ x y:L1,(t.put (k:Int) x).put (k:Int) y=t.put (k:Int) y:=by intro x y;simp [Tab.put]
 rw [G,<- A] at r;have Y:(t.put (k:Int) ((t.at (k:Int)).told life)).ok:=ho.put _ F;have D:(t.put (k:Int) ((t.at (k:Int)).told life)).at (k:Int)=(t.at (k:Int)).told life:=by rw [Tab.at_put ho (k:Int) k _ B,if_pos rfl]
 have K:=fun W d=>Hy (xH W g (t.put (k:Int) ((t.at (k:Int)).told life)) k now d Y (by omega) Z)
 have M:Hid (∀ W,TB W g (t.put (k:Int) ((t.at (k:Int)).told life))->Calls prog 160 #[.pointer (some ⟨g,0,none⟩),.pointer (some ⟨g,2+k * 3,none⟩),now] W fun e w'=>e=.returned (.tuple #[])/\TB w' g (t.put (k:Int) (((t.at (k:Int)).told life).on (now+t.term)))/\W.grownBy w' (some g)):=by
  intro W d;have:=(K W d).out;rw [D,G] at this;exact this
 have N:Hid ((t.put (k:Int) (((t.at (k:Int)).told life).on (now+t.term))).ok):=ho.put _ (F.on (by have:=ho.term1;omega))
 have a:Hid (((t.put (k:Int) (((t.at (k:Int)).told life).on (now+t.term))).at (k:Int)).epoch=(t.at (k:Int)).epoch+1):=by
  unfold Hid;rw [Tab.at_put ho (k:Int) k _ B,if_pos rfl,A];rfl
 clear K ho B A F q V C G Y D;generalize t.put (k:Int) (((t.at (k:Int)).told life).on (now+t.term))=t2 at *;generalize t.put (k:Int) ((t.at (k:Int)).told life)=t1 at *;generalize (t.at (k:Int)).life=L at *;generalize (t.at (k:Int)).epoch=E at *;go_in;go_wp2_with fail;refine (u.o).mono ?_;rintro e w' ⟨rfl,rfl⟩;go_wp2_with fail;refine (s.o).mono ?_;rintro e w' ⟨rfl,rfl⟩;go_wp2_with fail;refine (M.o _ r.o).mono ?_;rintro e w2 ⟨rfl,I,Q⟩;have P:=I.epoch N.o k (by omega);rw [a.o] at P;have c:=Hy I;have b:=Hy (zb (zb (Blk.grown_self _ _) (Blk.grown_self _ _)) Q)
 clear I Q hc i;go_wp2_with fail;go_ret2;exact ⟨rfl,c.o,b.o⟩
theorem zaT (w:World) (g:Nat) (t:Tab) (v ep now:Int) (h:TB w g t) (ho:t.ok) (hb:okSeen t v ep now=false):
  Calls prog 109 #[.pointer (some ⟨g,0,none⟩),v,ep,now] w fun e w'=>e=.returned (.bool false)/\w=w':=by
 have H:=Hy h;clear h;cases A:t.is v with
 | false=>
  have B:=Hy (yZ w g t v H.o A);clear hb A;go_in;go_wp2_with fail;refine (B.o).mono ?_;rintro e w' ⟨rfl,rfl⟩;go_wp2_with fail;go_ret;exact ⟨rfl,rfl⟩
 | true=>
  have I:∃ k:Nat,v=k/\1<=k/\k<=5/\(k:Int)<=t.workers:=by
   simp only [Tab.is,decide_eq_true_eq] at A;have:=ho.workers1;exact ⟨v.toNat,by omega,by omega,by omega,by omega⟩
  obtain ⟨k,rfl,F,G,J⟩:=I;have B:=Hy (Zq w g t k H.o F J G);have D:=H.epoch ho k (by omega);simp only [okSeen,A,Bool.true_and] at hb;clear A
  by_cases h1:(t.at (k:Int)).epoch=0
  ·rw [h1] at D
   clear hb h1;go_in;go_wp2_with fail;refine (B.o).mono ?_;rintro e w' ⟨rfl,rfl⟩;go_wp2_with fail;go_ret;exact ⟨rfl,rfl⟩
  have M:((t.at (k:Int)).epoch == 0)=false:=by simp;omega
  by_cases C:(t.at (k:Int)).epoch=ep
  ·have L:okTime now=false:=by
    rw [show decide ((t.at (k:Int)).epoch≠0/\(t.at (k:Int)).epoch=ep)=true by rw [decide_eq_true_iff];exact ⟨h1,C⟩,Bool.true_and] at hb;exact hb
   have K:=Hy (Qu w now);rw [L] at K;subst C;clear hb L h1;generalize (t.at (k:Int)).epoch=E at *;go_in;go_wp2_with fail;refine (B.o).mono ?_;rintro e w' ⟨rfl,rfl⟩;go_wp2_with fail;refine (K.o).mono ?_;rintro e w' ⟨rfl,rfl⟩;go_wp2_with fail;go_ret;exact ⟨rfl,rfl⟩
  have N:((t.at (k:Int)).epoch != ep)=true:=by simp;exact C
  clear hb h1 C;generalize (t.at (k:Int)).epoch=E at *;go_in;go_wp2_with fail;refine (B.o).mono ?_;rintro e w' ⟨rfl,rfl⟩;go_wp2_with fail;go_ret;exact ⟨rfl,rfl⟩
theorem YaG (w:World) (g:Nat) (t:Tab) (v ep now:Int) (h:TB w g t) (ho:t.ok) (hb:okSeen t v ep now=true):
  Calls prog 109 #[.pointer (some ⟨g,0,none⟩),v,ep,now] w fun e w'=>e=.returned (.bool true)/\TB w' g (t.put v ((t.at v).on (now+t.term)))/\w.grownBy w' (some g):=by
 have H:=Hy h;clear h;simp only [okSeen,Bool.and_eq_true,decide_eq_true_eq] at hb;obtain ⟨⟨C,P,Q⟩,A⟩:=hb
 have M:∃ k:Nat,v=k/\1<=k/\k<=5/\(k:Int)<=t.workers:=by
  simp only [Tab.is,decide_eq_true_eq] at C;have:=ho.workers1;exact ⟨v.toNat,by omega,by omega,by omega,by omega⟩
 obtain ⟨k,rfl,K,L,N⟩:=M;have T:=Hy (Zq w g t k H.o K N L);have R:=Hy (Qu w now);rw [A] at R;have F:0<=now/\now<=1099511627776:=by simpa [okTime] using A
 have V:=H.epoch ho k (by omega);have I:=Hy (xH w g t k now H.o ho (by omega) F);have U:((t.at (k:Int)).epoch == 0)=false:=by simp;omega
 subst Q;clear C A ho P;generalize t.put (k:Int) ((t.at (k:Int)).on (now+t.term))=t2 at *;generalize (t.at (k:Int)).epoch=E at *;go_in;go_wp2_with fail;refine (T.o).mono ?_;rintro e w' ⟨rfl,rfl⟩;go_wp2_with fail;refine (R.o).mono ?_;rintro e w' ⟨rfl,rfl⟩;go_wp2_with fail;refine (I.o).mono ?_;rintro e W ⟨rfl,D,B⟩;have J:=Hy D;have G:=Hy B;clear D B;go_wp2_with fail;go_ret;exact ⟨rfl,J.o,G.o⟩
theorem ZaN (w:World) (g:Nat) (t:Tab) (v now:Int) (h:TB w g t) (ho:t.ok):
  Calls prog 119 #[.pointer (some ⟨g,0,none⟩),v,now] w fun e w'=>e=.returned (.bool (t.live v now))/\w=w':=by
 have H:=Hy h;clear h;cases A:t.is v with
 | false=>
  have C:=Hy (yZ w g t v H.o A);have B:Hid (t.live v now=false):=by unfold Hid Tab.live;rw [A];rfl
  clear A;go_in;go_wp2_with fail;refine (C.o).mono ?_;rintro e w' ⟨rfl,rfl⟩;go_wp2_with fail;go_ret;exact ⟨by rw [B.o];rfl,rfl⟩
 | true=>
  have K:∃ k:Nat,v=k/\1<=k/\k<=5/\(k:Int)<=t.workers:=by
   simp only [Tab.is,decide_eq_true_eq] at A;have:=ho.workers1;exact ⟨v.toNat,by omega,by omega,by omega,by omega⟩
  obtain ⟨k,rfl,I,J,L⟩:=K;have C:=Hy (Zq w g t k H.o I L J);have N:=H.epoch ho k (by omega);have Q:=H.till ho k (by omega);have P:=H.life ho k (by omega)
  by_cases h1:0 < (t.at (k:Int)).epoch
  ·by_cases M:now<=(t.at (k:Int)).till
   ·have B:Hid (t.live (k:Int) now=true):=by unfold Hid Tab.live;rw [A,Bool.true_and,decide_eq_true_iff];exact ⟨h1,M⟩
    clear A ho;generalize (t.at (k:Int)).epoch=E at *;generalize (t.at (k:Int)).till=T at *;have F:decide (now<=T)=true:=by simp;omega
    have D:decide (0 < E)=true:=by simp;omega
    go_in;go_wp2_with fail;refine (C.o).mono ?_;rintro e w' ⟨rfl,rfl⟩;go_wp2_with fail;go_ret;exact ⟨by rw [B.o];rfl,rfl⟩
   ·have B:Hid (t.live (k:Int) now=false):=by unfold Hid Tab.live;rw [A,Bool.true_and,decide_eq_false_iff_not];exact fun G=>M G.2
    clear A ho;generalize (t.at (k:Int)).epoch=E at *;generalize (t.at (k:Int)).till=T at *;have F:decide (now<=T)=false:=by simp;omega
    have D:decide (0 < E)=true:=by simp;omega
    go_in;go_wp2_with fail;refine (C.o).mono ?_;rintro e w' ⟨rfl,rfl⟩;go_wp2_with fail;go_ret;exact ⟨by rw [B.o];rfl,rfl⟩
  ·have B:Hid (t.live (k:Int) now=false):=by unfold Hid Tab.live;rw [A,Bool.true_and,decide_eq_false_iff_not];exact fun G=>h1 G.1
   clear A ho;generalize (t.at (k:Int)).epoch=E at *;have D:decide (0 < E)=false:=by simp;omega
   go_in;go_wp2_with fail;refine (C.o).mono ?_;rintro e w' ⟨rfl,rfl⟩;go_wp2_with fail;go_ret;exact ⟨by rw [B.o];rfl,rfl⟩
theorem yaz (w:World) (g:Nat) (t:Tab) (v:Int) (h:TB w g t) (ho:t.ok):
  Calls prog 77 #[.pointer (some ⟨g,0,none⟩),v] w fun e w'=>e=.returned (.int .i64 (t.epoch v))/\w=w':=by
 have H:=Hy h;clear h;cases A:t.is v with
 | false=>
  have C:=Hy (yZ w g t v H.o A);have B:Hid (t.epoch v=0):=by unfold Hid Tab.epoch;rw [A];rfl
  clear A;go_in;go_wp2_with fail;refine (C.o).mono ?_;rintro e w' ⟨rfl,rfl⟩;go_wp2_with fail;go_ret;exact ⟨by rw [B.o];rfl,rfl⟩
 | true=>
  have G:∃ k:Nat,v=k/\1<=k/\k<=5/\(k:Int)<=t.workers:=by
   simp only [Tab.is,decide_eq_true_eq] at A;have:=ho.workers1;exact ⟨v.toNat,by omega,by omega,by omega,by omega⟩
  obtain ⟨k,rfl,D,F,I⟩:=G;have C:=Hy (Zq w g t k H.o D I F);have J:=H.epoch ho k (by omega);have L:=H.till ho k (by omega);have K:=H.life ho k (by omega);have B:Hid (t.epoch (k:Int)=(t.at (k:Int)).epoch):=by unfold Hid Tab.epoch;rw [if_pos A]
  clear A ho;generalize (t.at (k:Int)).epoch=E at *;go_in;go_wp2_with fail;refine (C.o).mono ?_;rintro e w' ⟨rfl,rfl⟩;go_wp2_with fail;go_ret;exact ⟨by rw [B.o];rfl,rfl⟩
theorem qaP (w:World) (A B:Int) (h1:1<=A) (h2:A<=5) (h3:1<=B) (h4:B<=1000):
  Calls prog 58 #[A,B] w fun e w'=>e=.returned (.tuple #[.pointer (some ⟨w.heap.size,0,none⟩),()])/\TB w' w.heap.size (Tab.new A B)/\Below w.heap.size w w':=by
 go_in;go_wp2_with fail;go_ret2;trace_state;exact ⟨rfl,by unfold TB Blk;rw [heap_alloc_new];rfl,(bf _ _).alloc (nl _) _⟩
section
def BlkO (O:Own) (t:Nat) (w:World) (g:Nat) (e:TypeId) (cs:List Value):Prop:=Blk w g e cs/\O g=t
def Row (O:Own) (t:Nat) (w:World) (e:TypeId) (size:Nat) (v:Value) (n:Nat) (xs:List Value):Prop:=w.ownsRow 0 e size v n xs/\∀ k,v.ownBlock=some k->O k=t
def SlO (O:Own) (t:Nat) (w:World) (p gf ga:Nat) (L:List Nat) (last:Nat):Prop:=SlAt w p gf ga L last/\O p=t/\O gf=t/\O ga=t
def TLO (O:Own) (t:Nat) (w:World) (p:Nat) (L:List One):Prop:=∃ go,TL w p go 24 L/\O p=t/\∀ k,go=some k->O k=t
def MapO (O:Own) (t:Nat) (w:World) (b n c:Nat) (f:Int->Option Nat):Prop:=MapF rdP ltP w b n c (fun k=>(f k).map some)/\O b=t
section
variable {O O':Own} {t:Nat} {F:Nat->Prop} {w w':World}
theorem BlkO.frm {g:Nat} {e:TypeId} {cs:List Value} (h:BlkO O t w g e cs) (hf:Frm F w w') (hF:∀ b,b < w.heap.size->O b=t->¬ F b) (ha:AgO w.heap.size O O'):BlkO O' t w' g e cs:=
 ⟨h.1.frm hf (hF g h.1.lt h.2),(ha g h.1.lt).trans h.2⟩
theorem Row.frm {e:TypeId} {size n:Nat} {v:Value} {xs:List Value} (h:Row O t w e size v n xs) (hf:Frm F w w') (hF:∀ b,b < w.heap.size->O b=t->¬ F b) (ha:AgO w.heap.size O O'):Row O' t w' e size v n xs:=
 ⟨za h.1 hf (fun k A=>hF k (qg h.1 k A) (h.2 k A)),zv h.1 ha h.2⟩
theorem SlO.frm {L:List Nat} {last:Nat} (h:SlO O t w p gf ga L last) (hf:Frm F w w') (hF:∀ b,b < w.heap.size->O b=t->¬ F b) (ha:AgO w.heap.size O O'):SlO O' t w' p gf ga L last:=
 ⟨h.1.frm hf (hF p h.1.blk.lt h.2.1) (hF gf h.1.of.lt' h.2.2.1) (hF ga h.1.at_.lt' h.2.2.2),(ha p h.1.blk.lt).trans h.2.1,(ha gf h.1.of.lt').trans h.2.2.1,(ha ga h.1.at_.lt').trans h.2.2.2⟩
theorem TLO.frm {L:List One} (h:TLO O t w p L) (hf:Frm F w w') (hF:∀ b,b < w.heap.size->O b=t->¬ F b) (ha:AgO w.heap.size O O'):TLO O' t w' p L:=by
 obtain ⟨D,h1,B,C⟩:=h;exact ⟨D,h1.frm hf (hF p h1.lt.1 B) (fun k A=>hF k (h1.lt.2 k A) (C k A)),(ha p h1.lt.1).trans B,fun k A=>(ha k (h1.lt.2 k A)).trans (C k A)⟩
theorem MapO.frm {n c:Nat} (h:MapO O t w b n c f) (hf:Frm F w w') (hF:∀ b,b < w.heap.size->O b=t->¬ F b) (ha:AgO w.heap.size O O'):MapO O' t w' b n c f:=
 ⟨h.1.frm hf (hF b h.1.lt' h.2),(ha b h.1.lt').trans h.2⟩
end
structure SH where
 turn:Int
 try_:Int
 first:Int
 hedged:Bool
def SH.zero:SH:=⟨0,0,0,false⟩
def SH.cells (s:SH):List Value:=[.int .i64 s.turn,.int .i64 s.try_,.int .i64 s.first,.bool s.hedged]
structure QS where
 slot:Nat
 q:ByteArray
 k:Int
 n:Int
 S:List PS
 T:List KeyL
 sh:List SH
def QS.cells (y:QS) (id m:Nat):List Value:=[.int .i64 (id:Nat),.int .i64 (y.slot:Nat),.string y.q,.int .i64 y.k,.int .i64 y.n,.pointer (some ⟨m,0,none⟩)]++y.sh.flatMap SH.cells
structure TS where
 q:ByteArray
 k:Int
 n:Int
 items:List KeyL
 done:Bool
 canc:Bool
def TS.zero:TS:=⟨⟨#[]⟩,0,0,[],false,false⟩
def TS.cells (t:TS) (id:Int) (a:Option Addr×Nat):List Value:=[.int .i64 id,.string t.q,.int .i64 t.k,.int .i64 t.n,.slice a.1 t.items.length a.2,.bool t.done,.bool t.canc]
structure CS where
 c:CfgM
 now:Int
 t:Tab
 L:List Nat
 tm:List One
 Q:Nat->QS
 told:List TS
structure CA where
 cpa:Option Addr
 cpc:Nat
 cps:List (Option Addr×Nat)
 le:Nat
 sl:Nat
 sf:Nat
 sa:Nat
 ti:Nat
 qm:Nat
 ta:Option Addr
 tc:Nat
 q:Nat->Nat
 m:Nat->Nat
 it:Nat->Option Addr×Nat
def CS.cells (S:CS) (A:CA):List Value:=[.slice S.c.aw S.c.nw S.c.cw,.slice S.c.ac S.c.nc S.c.cc,.int .i64 S.c.wk,.int .i64 S.c.cp,.int .i64 S.c.sl,.int .i64 S.c.ba,.int .i64 S.c.le,.int .i64 S.c.he,.int .i64 S.c.fi,.int .i64 S.c.ca,.int .i64 S.c.ji,.int .i64 S.c.ne,
 .slice A.cpa A.cps.length A.cpc,.int .i64 S.now,.pointer (some ⟨A.le,0,none⟩),.pointer (some ⟨A.sl,0,none⟩),.pointer (some ⟨A.ti,0,none⟩),.map (some A.qm),.slice A.ta S.told.length A.tc]
def copN (c:CfgM) (s:Nat):List Int:=(List.range c.cp.toNat).map (fun j:Nat=>1+((s:Int)+(j:Int)) % c.wk)
structure Imm (O:Own) (w:World) (A:CA) (c:CfgM):Prop where
 cuts:Row O (ct 1) w 107 2 (.slice c.ac c.nc c.cc) c.nc (c.cuts.flatMap KeyL.cells)
 row:Row O (ct 1) w 26 1 (.slice A.cpa A.cps.length A.cpc) A.cps.length (A.cps.map (fun x=>.slice x.1 c.cp.toNat x.2))
 each:∀ (s:Nat) x,A.cps[s]?=some x->Row O (ct 1) w 3 1 (.slice x.1 c.cp.toNat x.2) c.cp.toNat (ints (copN c s))
theorem Imm.frm {c:CfgM} (h:Imm O w A c) (hf:Frm F w w') (hF:∀ b,b < w.heap.size->O b=ct 1->¬ F b) (ha:AgO w.heap.size O O'):Imm O' w' A c:=
 ⟨h.cuts.frm hf hF ha,h.row.frm hf hF ha,fun s x B=>(h.each s x B).frm hf hF ha⟩
def toldF (it:Nat->Option Addr×Nat) (l:List TS) (i:Nat):List Value:=(l.getD i TS.zero).cells ((i:Int)+1) (it i)
theorem Yi (it:Nat->Option Addr×Nat) (l:List TS) (i:Nat):(toldF it l i).length=7:=rfl
def qF (q:Nat->Nat) (L:List Nat) (k:Int):Option Nat:=if 0 < k/\k.toNat∈L then some (q k.toNat) else none
structure CWx (X:Nat->Prop) (w:World) (O:Own) (A:CA) (p:Nat) (S:CS):Prop where
 blk:¬ X (ct 0)->BlkO O (ct 0) w p 120 (S.cells A)
 imm:¬ X (ct 1)->Imm O w A S.c
 le:¬ X (ct 2)->BlkO O (ct 2) w A.le 217 S.t.cells
 sl:¬ X (ct 3)->SlO O (ct 3) w A.sl A.sf A.sa S.L S.told.length
 ti:¬ X (ct 4)->TLO O (ct 4) w A.ti S.tm
 qm:¬ X (ct 5)->MapO O (ct 5) w A.qm S.told.length (cntS S.L) (qF A.q S.L)
 told:¬ X (ct 6)->Row O (ct 6) w 58 7 (.slice A.ta S.told.length A.tc) S.told.length (rowF (toldF A.it S.told) S.told.length)
 qb:∀ id∈S.L,id≠0->¬ X (ct (7+3 * id))->BlkO O (ct (7+3 * id)) w (A.q id) 141 ((S.Q id).cells id (A.m id))
 mg:∀ id∈S.L,id≠0->¬ X (ct (8+3 * id))->MGo O (ct (8+3 * id)) w (A.m id) (S.Q id).n (S.Q id).S (S.Q id).T
 it:∀ (i:Nat) t,S.told[i]?=some t->¬ X (ct (9+3 * i))->Row O (ct (9+3 * i)) w 46 2 (.slice (A.it i).1 t.items.length (A.it i).2) t.items.length (t.items.flatMap KeyL.cells)
def CW (w:World) (O:Own) (A:CA) (p:Nat) (S:CS):Prop:=CWx (fun _=>False) w O A p S
theorem CWx.frm {Y:Nat->Prop} {S:CS} (h:CWx X w O A p S) (hf:Frm F w w') (ha:AgO w.heap.size O O') (C:∀ t,X t->Y t) (hF:∀ b,b < w.heap.size->F b->Y (O b)∨O b % 8≠1):CWx Y w' O' A p S:=by
 have D:∀ i,¬ Y (ct i)->∀ b,b < w.heap.size->O b=ct i->¬ F b:=fun i B b I H G=>by
  rcases hF b I G with h1 | h1
  ·rw [H] at h1;exact B h1
  ·rw [H] at h1;exact h1 (YG i)
 exact ⟨fun B=>(h.blk (fun q=>B (C _ q))).frm hf (D 0 B) ha,fun B=>(h.imm (fun q=>B (C _ q))).frm hf (D 1 B) ha,fun B=>(h.le (fun q=>B (C _ q))).frm hf (D 2 B) ha,fun B=>(h.sl (fun q=>B (C _ q))).frm hf (D 3 B) ha,
  fun B=>(h.ti (fun q=>B (C _ q))).frm hf (D 4 B) ha,fun B=>(h.qm (fun q=>B (C _ q))).frm hf (D 5 B) ha,fun B=>(h.told (fun q=>B (C _ q))).frm hf (D 6 B) ha,
  fun id h1 E B=>(h.qb id h1 E (fun q=>B (C _ q))).frm hf (D _ B) ha,fun id h1 E B=>(h.mg id h1 E (fun q=>B (C _ q))).frm hf (D _ B) ha,fun i t h1 B=>(h.it i t h1 (fun q=>B (C _ q))).frm hf (D _ B) ha⟩
theorem CWx.below {S:CS} (h:CWx X w O A p S) (hb:Below w.heap.size w w') (ha:AgO w.heap.size O O'):CWx X w' O' A p S:=
 h.frm (F:=fun _=>False) (Frm.below hb) ha (fun _ q=>q) (fun _ _ q=>q.elim)
theorem CW.below {S:CS} (h:CW w O A p S) (hb:Below w.heap.size w w') (ha:AgO w.heap.size O O'):CW w' O' A p S:=CWx.below h hb ha
theorem CW.only {S:CS} (h:CW w O A p S) (i:Nat) (hf:OFrm O (ct i) w w') (ha:AgO w.heap.size O O'):CWx (fun t=>t=ct i) w' O' A p S:=
 CWx.frm h hf ha (fun _ q=>q.elim) (fun _ _ q=>.inl q)
theorem CW.apart {S:CS} (h:CW w O A p S) (hf:Frm F w w') (ha:AgO w.heap.size O O') (hF:∀ b,b < w.heap.size->F b->O b % 8≠1):CW w' O' A p S:=
 CWx.frm h hf ha (fun _ q=>q) (fun b B q=>.inr (hF b B q))
section
variable {w:World} {O:Own} {A:CA} {p:Nat} {S:CS}
theorem CW.blk (h:CW w O A p S):Blk w p 120 (S.cells A):=(CWx.blk h id).1
theorem CW.with_le (h:CWx (fun t=>t=ct 2) w O A p S) (t':Tab) (hn:BlkO O (ct 2) w A.le 217 t'.cells):CW w O A p {S with t:=t'}:=
 ⟨fun _=>h.blk (Ya (by omega)),fun _=>h.imm (Ya (by omega)),fun _=>hn,fun _=>h.sl (Ya (by omega)),fun _=>h.ti (Ya (by omega)),fun _=>h.qm (Ya (by omega)),fun _=>h.told (Ya (by omega)),fun id h1 B _=>h.qb id h1 B (Ya (by omega)),fun id h1 B _=>h.mg id h1 B (Ya (by omega)),fun i t h1 _=>h.it i t h1 (Ya (by omega))⟩
theorem CW.with_ti (h:CWx (fun t=>t=ct 4) w O A p S) (L:List One) (hn:TLO O (ct 4) w A.ti L):CW w O A p {S with tm:=L}:=
 ⟨fun _=>h.blk (Ya (by omega)),fun _=>h.imm (Ya (by omega)),fun _=>h.le (Ya (by omega)),fun _=>h.sl (Ya (by omega)),fun _=>hn,fun _=>h.qm (Ya (by omega)),fun _=>h.told (Ya (by omega)),fun id h1 B _=>h.qb id h1 B (Ya (by omega)),fun id h1 B _=>h.mg id h1 B (Ya (by omega)),fun i t h1 _=>h.it i t h1 (Ya (by omega))⟩
theorem CW.with_now (h:CWx (fun t=>t=ct 0) w O A p S) (now:Int) (hn:BlkO O (ct 0) w p 120 (CS.cells {S with now:=now} A)):CW w O A p {S with now:=now}:=
 ⟨fun _=>hn,fun _=>h.imm (Ya (by omega)),fun _=>h.le (Ya (by omega)),fun _=>h.sl (Ya (by omega)),fun _=>h.ti (Ya (by omega)),fun _=>h.qm (Ya (by omega)),fun _=>h.told (Ya (by omega)),fun id h1 B _=>h.qb id h1 B (Ya (by omega)),fun id h1 B _=>h.mg id h1 B (Ya (by omega)),fun i t h1 _=>h.it i t h1 (Ya (by omega))⟩
def CS.setQ (S:CS) (id:Nat) (y:QS):CS:={S with Q:=fun j=>if j=id then y else S.Q j}
theorem CW.with_qb {id:Nat} (h:CWx (fun t=>t=ct (7+3 * id)) w O A p S) (sh:List SH) (hn:BlkO O (ct (7+3 * id)) w (A.q id) 141 (QS.cells {S.Q id with sh:=sh} id (A.m id))):CW w O A p (S.setQ id {S.Q id with sh:=sh}):=
 ⟨fun _=>h.blk (Ya (by omega)),fun _=>h.imm (Ya (by omega)),fun _=>h.le (Ya (by omega)),fun _=>h.sl (Ya (by omega)),fun _=>h.ti (Ya (by omega)),fun _=>h.qm (Ya (by omega)),fun _=>h.told (Ya (by omega)),
  fun j h1 B _=>by
   show BlkO O _ w (A.q j) _ (QS.cells (if j=id then _ else S.Q j) j (A.m j))
   by_cases e:j=id
   ·subst e;rw [if_pos rfl];exact hn
   ·rw [if_neg e];exact h.qb j h1 B (Ya (by omega)),
  fun j h1 B _=>by
   show MGo O _ w (A.m j) (if j=id then _ else S.Q j).n (if j=id then _ else S.Q j).S (if j=id then _ else S.Q j).T
   by_cases e:j=id
   ·subst e;rw [if_pos rfl];exact h.mg j h1 B (Ya (by omega))
   ·rw [if_neg e];exact h.mg j h1 B (Ya (by omega)),
  fun i t h1 _=>h.it i t h1 (Ya (by omega))⟩
theorem CW.with_mg {id:Nat} (h:CWx (fun t=>t=ct (8+3 * id)) w O A p S) (S':List PS) (T':List KeyL) (hn:MGo O (ct (8+3 * id)) w (A.m id) (S.Q id).n S' T'):CW w O A p (S.setQ id {S.Q id with S:=S',T:=T'}):=
 ⟨fun _=>h.blk (Ya (by omega)),fun _=>h.imm (Ya (by omega)),fun _=>h.le (Ya (by omega)),fun _=>h.sl (Ya (by omega)),fun _=>h.ti (Ya (by omega)),fun _=>h.qm (Ya (by omega)),fun _=>h.told (Ya (by omega)),
  fun j h1 B _=>by
   show BlkO O _ w (A.q j) _ (QS.cells (if j=id then _ else S.Q j) j (A.m j))
   by_cases e:j=id
   ·subst e;rw [if_pos rfl];exact h.qb j h1 B (Ya (by omega))
   ·rw [if_neg e];exact h.qb j h1 B (Ya (by omega)),
  fun j h1 B _=>by
   show MGo O _ w (A.m j) (if j=id then _ else S.Q j).n (if j=id then _ else S.Q j).S (if j=id then _ else S.Q j).T
   by_cases e:j=id
   ·subst e;rw [if_pos rfl];exact hn
   ·rw [if_neg e];exact h.mg j h1 B (Ya (by omega)),
  fun i t h1 _=>h.it i t h1 (Ya (by omega))⟩
end
end
def inR (n:Int):Bool:=decide (0<=n)&&decide (n<=2147483647)
def withinL (l:List Int):Bool:=l.all inR
def workerB (n:Int):Bool:=decide (1<=n)&&decide (n<=5)
def placeB (s h:Int):Bool:=decide (0<=s)&&decide (s < 4)&&decide (0<=h)&&decide (h < 6)
def itemB (x:KeyL):Bool:=decide (0<=x.1)&&decide (x.1<=4)&&isWord x.2
theorem Y9 {α:Type} {p:α->Bool} {l:List α} {k:Nat} {x:α} (h:l[k]?=some x):(l.take (k+1)).all p=((l.take k).all p&&p x):=by
 rw [List.take_add_one,h,List.all_append];simp
theorem Qai {α:Type} {p:α->Bool} {l:List α} {k:Nat} {x:α} (h:l[k]?=some x) (hp:p x=false):l.all p=false:=by
 rw [List.all_eq_false];exact ⟨x,lm h,by simp [hp]⟩
theorem Qm (a:Option Addr) (n c:Nat) (l:List Int) (w:World) (h:Rd w a n c (ints l)):
  Calls prog 91 #[.slice a n c] w fun e w'=>e=.returned (.bool (withinL l))/\w=w':=by
 have Z:l.length=n:=by rw [<- h.1,yx]
 subst Z;have M:=h.2.1;have H:=h.2.2.1;unfold maxLen at H;have Q:=Hy h;have ⟨R,G⟩:=gn (withinL l);rw [G];have B:=Hy G;clear h G;go_in;go_wp2_with fail;go_loop [7] (fun v=>∃ k:Nat,k<=l.length/\v=.int .i64 k/\Hid ((l.take k).all inR=true)) (fun v=>l.length - (intOf v).toNat)
 case atStart=>exact ⟨0,by omega,rfl,by simp [Hid]⟩
 case round=>
  obtain ⟨k,Y,rfl,J⟩:=hrel
  by_cases D:k < l.length
  ·obtain ⟨x,E⟩:∃ x,l[k]?=some x:=⟨_,le_ D⟩
   obtain ⟨T,d,rfl,W,L⟩:=Q.2.2.2.2 k D;have f:w.cell? ⟨T,d+k,none⟩=some (.int .i64 x):=by rw [L];simp [ints,E]
   have P:=Hy (Y9 (p:=inR) E);have I:=Hy (fun b=>Qai (p:=inR) E b);have C:inR x=(decide (0<=x)&&decide (x<=2147483647)):=rfl;have A:=Hy C;have g:(0:Int)<=(k:Int):=by omega
   have i:(k:Int) < (l.length:Int):=by omega
   clear E L C
   by_cases h1:x < 0
   ·obtain rfl:R=false:=by rw [<- B.o];exact I.o (by rw [A.o,decide_eq_false (by omega)];rfl)
    have U:decide (x < 0)=true:=by simpa using h1
    go_wp2_with fail;go_ret;exact ⟨rfl,rfl⟩
   have U:decide (x < 0)=false:=by simpa using h1
   by_cases K:2147483647 < x
   ·obtain rfl:R=false:=by rw [<- B.o];exact I.o (by rw [A.o,decide_eq_false (show ¬ x<=2147483647 by omega)];simp)
    have V:decide (2147483647 < x)=true:=by simpa using K
    go_wp2_with fail;go_ret;exact ⟨rfl,rfl⟩
   have V:decide (2147483647 < x)=false:=by simpa using K
   have F:=Hy (by rw [P.o,J.o,A.o,decide_eq_true (by omega),decide_eq_true (by omega)];rfl:(l.take (k+1)).all inR=true);go_wp2_with fail;go_round
   case rel=>exact ⟨k+1,by omega,by go_num,F.o⟩
   case measure=>simp [intOf];omega
  obtain rfl:k=l.length:=by omega
  have N:=J.o;rw [List.take_length] at N;obtain rfl:R=true:=by rw [<- B.o];exact N
  go_wp2_with fail;go_ret;exact ⟨rfl,rfl⟩
theorem ZC (n:Int) (w:World):Calls prog 90 #[n] w fun e w'=>e=.returned (.bool (workerB n))/\w=w':=by
 unfold workerB
 by_cases h1:1<=n <;> by_cases A:n<=5
 all_goals
  go_in;go_wp2_with fail;go_ret;exact ⟨by simp [h1,A],rfl⟩
theorem YH (s h:Int) (w:World):Calls prog 94 #[s,h] w fun e w'=>e=.returned (.bool (placeB s h))/\w=w':=by
 unfold placeB
 by_cases h1:0<=s <;> by_cases A:s < 4 <;> by_cases B:0<=h <;> by_cases C:h < 6
 all_goals
  go_in;go_wp2_with fail;go_ret;exact ⟨by simp [h1,A,B,C],rfl⟩
theorem zW (x:KeyL) (w:World) (hs:x.2.size<=maxLen):Calls prog 143 #[.agg #[x.1,x.2]] w fun e w'=>e=.returned (.bool (itemB x))/\Below w.heap.size w w':=by
 obtain ⟨d,s⟩:=x;have HB:=Hy ((bf _ w).alloc (nl _) (.cells #[d,s] 46));have G:=Hy (show Blk (w.alloc (.cells #[d,s] 46)) w.heap.size 46 [d,s] from hn_ w _);have F:=Hy (fun V=>ZS s V hs);have ⟨R,D⟩:=gn (itemB (d,s));have A:=Hy (show (decide (0<=d)&&decide (d<=4)&&isWord s)=R from D);show Calls prog 143 #[.agg #[d,s]] w _;rw [D];clear D hs;generalize isWord s=b at *
 by_cases h1:0<=d
 ·by_cases C:d<=4
  ·obtain rfl:R=b:=by rw [<- A.o];simp [h1,C]
   go_in;go_wp2_with fail;refine (F.o _).mono ?_;rintro e J ⟨rfl,E⟩;have B:=Hy (HB.trans (E.mono HB.size));clear E;go_wp2_with fail;go_ret;exact ⟨rfl,B.o⟩
  obtain rfl:R=false:=by rw [<- A.o];simp [C]
  have I:decide (d<=4)=false:=by simpa using C
  go_in;go_wp2_with fail;go_ret;exact ⟨rfl,HB.o⟩
 obtain rfl:R=false:=by rw [<- A.o];simp [h1]
 have H:decide (0<=d)=false:=by simpa using h1
 go_in;go_wp2_with fail;go_ret;exact ⟨rfl,HB.o⟩
end Go.Proofs.YtinkbgeckjbnbaaGreat
