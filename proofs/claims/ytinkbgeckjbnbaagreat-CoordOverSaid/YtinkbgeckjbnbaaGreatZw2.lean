/- Lemmas (part 2). -/
import Init.Data.List.Lemmas
import Derived.Deep.DeepCutAuto
import Derived.Test.YtinkbgeckjbnbaaGreatZw1
namespace Go.Proofs.YtinkbgeckjbnbaaGreat
open Go.RowKit Go.Proofs.Tryz
set_option autoImplicit true
set_option relaxedAutoImplicit true
set_option linter.unusedVariables false
set_option linter.unusedSimpArgs false
set_option maxRecDepth 100000
set_option maxHeartbeats 32000000
section
section
variable {α:Type}
def swF (f:Nat->α) (i j:Nat):Nat->α:=fun k=>if k=i then f j else if k=j then f i else f k
theorem ZR (f:Nat->α) (i j:Nat):swF f i j i=f j:=by simp [swF]
theorem zah (f:Nat->α) (i j:Nat):swF f i j j=f i:=by unfold swF;split <;> simp_all
theorem xK (f:Nat->α) (i j k:Nat) (h:k≠i) (h2:k≠j):swF f i j k=f k:=by simp [swF,h,h2]
def row (f:Nat->α) (n:Nat):List α:=(List.range n).map f
theorem Xq (f:Nat->α) (n:Nat):(row f n).length=n:=by simp [row]
theorem Z5 (f:Nat->α) (n k:Nat) (h:k < n):(row f n)[k]?=some (f k):=by unfold row;rw [List.getElem?_map,List.getElem?_range h];rfl
theorem zaR (f:Nat->α) (n i j:Nat) (hi:i < n) (hj:j < n):(row (swF f i j) n).Perm (row f n):=by
 have h1:i < (row f n).length:=by rw [Xq];exact hi
 have F:j < (row f n).length:=by rw [Xq];exact hj
 have h:=List.set_set_perm h1 F
 have e:row (swF f i j) n=((row f n).set i (row f n)[j]).set j (row f n)[i]:=by
  apply List.ext_getElem?;intro k;have D:(row f n)[i]=f i:=by simp [row]
  have E:(row f n)[j]=f j:=by simp [row]
  rw [D,E,List.getElem?_set,List.getElem?_set,List.length_set,Xq]
  by_cases A:k < n
  ·rw [Z5 _ _ _ A,Z5 _ _ _ A]
   by_cases B:j=k
   ·subst B;rw [if_pos rfl,if_pos hj,zah]
   ·rw [if_neg B]
    by_cases C:i=k
    ·subst C;rw [if_pos rfl,if_pos hi,ZR]
    ·rw [if_neg C,xK _ _ _ _ (fun e=>C e.symm) (fun e=>B e.symm)]
  ·rw [io,io,List.getElem?_eq_none (by rw [Xq];omega),List.getElem?_eq_none (by rw [Xq];omega)]
 rw [e];exact h
structure Seg (a b:Nat) (D D':Nat->α):Prop where
 out:∀ k,¬ (a<=k/\k < b)->D' k=D k
 keep:∀ p:α->Prop,(∀ k,a<=k->k < b->p (D k))->∀ k,a<=k->k < b->p (D' k)
 perm:∀ n,b<=n->(row D' n).Perm (row D n)
theorem Seg.refl (a b:Nat) (D:Nat->α):Seg a b D D:=⟨fun _ _=>rfl,fun _ h=>h,fun _ _=>List.Perm.refl _⟩
theorem Seg.trans {a b:Nat} {D D' D'':Nat->α} (h:Seg a b D D') (k:Seg a b D' D''):Seg a b D D'':=
 ⟨fun i hi=>(k.out i hi).trans (h.out i hi),fun p B=>k.keep p (h.keep p B),fun n A=>(k.perm n A).trans (h.perm n A)⟩
theorem Seg.mono {a b a' b':Nat} {D D':Nat->α} (h:Seg a b D D') (ha:a'<=a) (hb:b<=b'):Seg a' b' D D':=by
 refine ⟨fun k E=>h.out k (by omega),fun p C k h1 B=>?_,fun n F=>h.perm n (by omega)⟩
 by_cases A:a<=k/\k < b
 ·exact h.keep p (fun k h1 B=>C k (by omega) (by omega)) k A.1 A.2
 rw [h.out k A];exact C k h1 B
theorem Seg.swap {a b i j:Nat} (D:Nat->α) (h1:a<=i) (h2:i < b) (h3:a<=j) (h4:j < b):Seg a b D (swF D i j):=by
 refine ⟨fun k E=>xK _ _ _ _ (by omega) (by omega),fun p A k F G=>?_,fun n H=>zaR D n i j (by omega) (by omega)⟩
 by_cases B:k=i
 ·rw [B,ZR];exact A j h3 h4
 by_cases C:k=j
 ·rw [C,zah];exact A i h1 h2
 rw [xK _ _ _ _ B C];exact A k F G
structure Ord (lt:α->α->Bool):Prop where
 trans:∀ x y z,lt y x=false->lt z y=false->lt z x=false
 asym:∀ x y,lt x y=true->lt y x=false
theorem Ord.refl {lt:α->α->Bool} (h:Ord lt) (x:α):lt x x=false:=by
 cases A:lt x x
 ·rfl
 have:=h.asym x x A;rw [A] at this;exact this
def Srt (lt:α->α->Bool) (D:Nat->α) (a b:Nat):Prop:=∀ i j,a<=i->i < j->j < b->lt (D j) (D i)=false
variable {lt:α->α->Bool}
theorem Srt.mono {D:Nat->α} {a b a' b':Nat} (h:Srt lt D a b) (ha:a<=a') (hb:b'<=b):Srt lt D a' b':=fun i j h1 A B=>h i j (by omega) A (by omega)
theorem Srt.congr {D D':Nat->α} {a b:Nat} (h:Srt lt D a b) (he:∀ k,a<=k->k < b->D' k=D k):Srt lt D' a b:=fun i j h1 B A=>by rw [he i h1 (by omega),he j (by omega) A];exact h i j h1 B A
theorem Srt.one (lt:α->α->Bool) (D:Nat->α) {a b:Nat} (h:b<=a+1):Srt lt D a b:=fun i j h1 A B=>by omega
theorem Srt.join {D:Nat->α} {a m b:Nat} (h:Srt lt D a m) (k:Srt lt D m b) (hx:∀ i j,a<=i->i < m->m<=j->j < b->lt (D j) (D i)=false):Srt lt D a b:=fun i j h1 A B=>by
 by_cases C:j < m
 ·exact h i j h1 A C
 ·by_cases hi:i < m
  ·exact hx i j h1 hi (by omega) B
  ·exact k i j (by omega) A B
/-! ### Insertion -/
def Ins (lt:α->α->Bool) (D:Nat->α) (a i j:Nat):Prop:=(∀ p q,a<=p->p < q->q<=i->p≠j->q≠j->lt (D q) (D p)=false)/\∀ q,j < q->q<=i->lt (D q) (D j)=false
theorem Ins.start {D:Nat->α} {a i:Nat} (h:Srt lt D a i):Ins lt D a i i:=⟨fun p q h1 A B C E=>h p q h1 A (by omega),fun q h1 A=>by omega⟩
theorem Ins.next {D:Nat->α} {a i j:Nat} (ho:Ord lt) (h:Ins lt D a i j) (hj:a < j) (hi:j<=i) (hl:lt (D j) (D (j - 1))=true):Ins lt (swF D j (j - 1)) a i (j - 1):=by
 refine ⟨fun p q h1 C E G F=>?_,fun q h1 C=>?_⟩
 ·by_cases A:p=j
  ·subst A
   rw [ZR,xK _ _ _ _ (by omega) F];exact h.1 (p - 1) q (by omega) (by omega) E (by omega) (by omega)
  rw [xK D j (j - 1) p A G]
  by_cases B:q=j
  ·subst B
   rw [ZR];exact h.1 p (q - 1) h1 (by omega) (by omega) A (by omega)
  rw [xK _ _ _ _ B F]
  exact h.1 p q h1 C E A B
 rw [zah]
 by_cases e:q=j
 ·rw [e,ZR];exact ho.asym _ _ hl
 rw [xK _ _ _ _ e (by omega)];exact h.2 q (by omega) C
theorem Ins.done {D:Nat->α} {a i j:Nat} (ho:Ord lt) (h:Ins lt D a i j) (hj:a<=j) (hi:j<=i) (hl:j=a∨lt (D j) (D (j - 1))=false):Srt lt D a (i+1):=fun p q h1 C F=>by
 by_cases A:p=j
 ·subst A;exact h.2 q C (by omega)
 ·by_cases B:q=j
  ·subst B
   rcases hl with e | hl
   ·omega
   ·by_cases E:p=q - 1
    ·rw [E];exact hl
    ·exact ho.trans _ _ _ (h.1 p (q - 1) h1 (by omega) (by omega) A (by omega)) hl
  ·exact h.1 p q h1 C (by omega) A B
/-! ### Ranges swapped,a rotation -/
def swR (D:Nat->α) (a b n:Nat):Nat->α:=fun k=>if a<=k/\k < a+n then D (b+(k - a)) else if b<=k/\k < b+n then D (a+(k - b)) else D k
theorem xah (D:Nat->α) (a b:Nat):swR D a b 0=D:=by
 funext k;unfold swR;rw [io,io]
theorem yah (D:Nat->α) (a b i n:Nat) (h:a+n<=b) (hi:i < n):swF (swR D a b i) (a+i) (b+i)=swR D a b (i+1):=by
 funext k;unfold swF swR
 by_cases A:k=a+i
 ·subst A
  rw [if_pos rfl,io,io,ip];congr 1;omega
 rw [if_neg A]
 by_cases B:k=b+i
 ·subst B
  rw [if_pos rfl,io,io,io,ip];congr 1;omega
 rw [if_neg B]
 by_cases C:a<=k/\k < a+i
 ·rw [if_pos C,ip]
 rw [if_neg C]
 by_cases E:b<=k/\k < b+i
 ·rw [if_pos E,io,ip]
 rw [if_neg E,io,io]
def rotF (D:Nat->α) (a m b:Nat):Nat->α:=fun k=>if a<=k/\k < a+(b - m) then D (m+(k - a)) else if a+(b - m)<=k/\k < b then D (k - (b - m)) else D k
theorem Yv (D:Nat->α) {a m b k:Nat} (h1:a<=k) (h2:k < a+(b - m)):rotF D a m b k=D (m+(k - a)):=by unfold rotF;rw [if_pos ⟨h1,h2⟩]
theorem Zv (D:Nat->α) {a m b k:Nat} (h1:a+(b - m)<=k) (h2:k < b):rotF D a m b k=D (k - (b - m)):=by unfold rotF;rw [if_neg (by omega),if_pos ⟨h1,h2⟩]
theorem Zm (D:Nat->α) {a m b k:Nat} (ha:a<=m) (hb:m<=b) (h:¬ (a<=k/\k < b)):rotF D a m b k=D k:=by unfold rotF;rw [if_neg (by omega),if_neg (by omega)]
theorem yQ (D:Nat->α) (m b:Nat) (h:m<=b):rotF D m m b=D:=by
 funext k;unfold rotF;split
 ·congr 1;omega
 rw [io]
theorem xQ (D:Nat->α) (a m:Nat):rotF D a m m=D:=by
 funext k;unfold rotF;rw [io];split
 ·congr 1;omega
 rfl
theorem yar (D:Nat->α) {a b n k:Nat} (h1:a<=k) (h2:k < a+n):swR D a b n k=D (b+(k - a)):=by unfold swR;rw [if_pos ⟨h1,h2⟩]
theorem zar (D:Nat->α) {a b n k:Nat} (h0:a+n<=b) (h1:b<=k) (h2:k < b+n):swR D a b n k=D (a+(k - b)):=by unfold swR;rw [if_neg (by omega),if_pos ⟨h1,h2⟩]
theorem YF (D:Nat->α) {a b n k:Nat} (h1:¬ (a<=k/\k < a+n)) (h2:¬ (b<=k/\k < b+n)):swR D a b n k=D k:=by unfold swR;rw [if_neg h1,if_neg h2]
theorem QaQ (D:Nat->α) (m i:Nat) (h:i<=m):swR D (m - i) m i=rotF D (m - i) m (m+i):=by
 funext k
 by_cases A:m - i<=k/\k < m - i+i
 ·rw [yar D A.1 A.2,Yv D A.1 (by omega)]
 by_cases B:m<=k/\k < m+i
 ·rw [zar D (by omega) B.1 B.2,Zv D (by omega) B.2];congr 1;omega
 rw [YF D A B,Zm D (by omega) (by omega) (by omega)]
theorem ZaQ (D:Nat->α) (m i j:Nat) (h:i<=m) (E:j < i):rotF (swR D (m - i) m j) (m - (i - j)) m (m+j)=rotF D (m - i) m (m+j):=by
 funext k
 by_cases A:m - i<=k/\k < m - i+j
 ·rw [Zm _ (by omega) (by omega) (by omega),yar D A.1 A.2,Yv D A.1 (by omega)]
 by_cases C:m - (i - j)<=k/\k < m - (i - j)+j
 ·rw [Yv _ C.1 (by omega),zar D (by omega) (by omega) (by omega),Zv D (by omega) (by omega)];congr 1;omega
 by_cases B:m - (i - j)+j<=k/\k < m+j
 ·rw [Zv _ (by omega) B.2,YF D (by omega) (by omega),Zv D (by omega) B.2]
 rw [Zm _ (by omega) (by omega) (by omega),YF D (by omega) (by omega),Zm D (by omega) (by omega) (by omega)]
theorem qaF (D:Nat->α) (m i j:Nat) (h:i<=m) (E:i < j):rotF (swR D (m - i) (m+j - i) i) (m - i) m (m+(j - i))=rotF D (m - i) m (m+j):=by
 funext k
 by_cases B:m+(j - i)<=k/\k < m+j
 ·rw [Zm _ (by omega) (by omega) (by omega),zar D (by omega) (by omega) (by omega),Zv D (by omega) B.2];congr 1;omega
 by_cases A:m - i<=k/\k < m - i+(j - i)
 ·rw [Yv _ A.1 (by omega),Yv D A.1 (by omega)]
  rw [YF D (by omega) (by omega)]
 by_cases C:m - i+(j - i)<=k/\k < m+(j - i)
 ·rw [Zv _ (by omega) C.2]
  rw [yar D (by omega) (by omega),Yv D (by omega) (by omega)];congr 1;omega
 rw [Zm _ (by omega) (by omega) (by omega),YF D (by omega) (by omega),Zm D (by omega) (by omega) (by omega)]
/-! ### One element into the other row -/
def shU (D:Nat->α) (a k:Nat):Nat->α:=fun x=>if a<=x/\x < k then D (x+1) else if x=k then D a else D x
theorem Qag (D:Nat->α) (a:Nat):shU D a a=D:=by
 funext x;unfold shU;rw [io];split
 ·rename_i e;rw [e]
 rfl
theorem xag (D:Nat->α) (a k:Nat) (h:a<=k):swF (shU D a k) k (k+1)=shU D a (k+1):=by
 funext x;unfold swF shU
 by_cases A:x=k
 ·subst A;rw [if_pos rfl,io,io,ip]
 rw [if_neg A]
 by_cases B:x=k+1
 ·subst B;rw [if_pos rfl,io,if_pos rfl,io,if_pos rfl]
 rw [if_neg B]
 by_cases C:a<=x/\x < k
 ·rw [if_pos C,ip]
 rw [if_neg C,if_neg A,io,if_neg B]
def shD (D:Nat->α) (m k:Nat):Nat->α:=fun x=>if k < x/\x<=m then D (x - 1) else if x=k then D m else D x
theorem yag (D:Nat->α) (m:Nat):shD D m m=D:=by
 funext x;unfold shD;rw [io];split
 ·rename_i e;rw [e]
 rfl
theorem zag (D:Nat->α) (m k:Nat) (h:k<=m) (h0:0 < k):swF (shD D m k) k (k - 1)=shD D m (k - 1):=by
 funext x;unfold swF shD
 by_cases A:x=k
 ·subst A;rw [if_pos rfl,io,io,ip]
 rw [if_neg A]
 by_cases B:x=k - 1
 ·subst B;rw [if_pos rfl,io,if_pos rfl,io,if_pos rfl]
 rw [if_neg B]
 by_cases C:k < x/\x<=m
 ·rw [if_pos C,ip]
 rw [if_neg C,if_neg A,io,if_neg B]
theorem Za3 {D:Nat->α} {a b i:Nat} (ho:Ord lt) (hs:Srt lt D (a+1) b) (h1:a+1<=i) (h2:i<=b) (B:∀ k,a+1<=k->k < i->lt (D k) (D a)=true) (A:∀ k,i<=k->k < b->lt (D k) (D a)=false):Srt lt (shU D a (i - 1)) a b:=fun x y I J F=>by
 unfold shU
 by_cases G:y < i - 1
 ·rw [ip,ip];exact hs _ _ (by omega) (by omega) (by omega)
 ·by_cases C:y=i - 1
  ·rw [io,if_pos C,ip]
   exact ho.asym _ _ (B _ (by omega) (by omega))
  ·rw [io,if_neg C]
   by_cases H:x < i - 1
   ·rw [ip];exact hs _ _ (by omega) (by omega) (by omega)
   ·by_cases E:x=i - 1
    ·rw [io,if_pos E];exact A y (by omega) F
    ·rw [io,if_neg E];exact hs _ _ (by omega) (by omega) (by omega)
theorem Qa3 {D:Nat->α} {a m i:Nat} (ho:Ord lt) (hs:Srt lt D a m) (h1:a<=i) (h2:i<=m) (B:∀ k,a<=k->k < i->lt (D m) (D k)=false) (A:∀ k,i<=k->k < m->lt (D m) (D k)=true):Srt lt (shD D m i) a (m+1):=fun x y H I J=>by
 unfold shD
 by_cases F:i < x
 ·rw [ip,ip];exact hs _ _ (by omega) (by omega) (by omega)
 ·rw [if_neg (show ¬ (i < x/\x<=m) by omega)]
  by_cases C:x=i
  ·rw [if_pos C,ip];exact ho.asym _ _ (A _ (by omega) (by omega))
  ·rw [if_neg C]
   by_cases G:i < y
   ·rw [ip]
    exact hs _ _ (by omega) (by omega) (by omega)
   ·rw [io]
    by_cases E:y=i
    ·rw [if_pos E];exact B x (by omega) (by omega)
    ·rw [if_neg E];exact hs _ _ (by omega) (by omega) (by omega)
/-! ### The merge in place -/
structure CutOK (lt:α->α->Bool) (D:Nat->α) (a m b mid s:Nat):Prop where
 lo:a<=s
 le:s<=m
 lm:s<=mid
 hi:mid+m<=b+s
 ahead:a < s->mid+m < b+s->lt (D (mid+m - s)) (D (s - 1))=false
 behind:s < m->s < mid->lt (D (mid+m - s - 1)) (D s)=true
theorem yat {D:Nat->α} {a m b mid s:Nat} (ho:Ord lt) (h1:Srt lt D a m) (h2:Srt lt D m b) (L:a<=mid) (N:mid<=b) (hm:a<=m) (hb:m<=b) (h:CutOK lt D a m b mid s):
  Srt lt (rotF D s m (mid+m - s)) a s/\Srt lt (rotF D s m (mid+m - s)) s mid/\Srt lt (rotF D s m (mid+m - s)) mid (mid+m - s)/\Srt lt (rotF D s m (mid+m - s)) (mid+m - s) b∧
  ∀ i j,a<=i->i < mid->mid<=j->j < b->lt (rotF D s m (mid+m - s) j) (rotF D s m (mid+m - s) i)=false:=by
 have Q:=h.lo;have P:=h.le;have R:=h.lm;have T:=h.hi;have lo:∀ k,s<=k->k < mid->rotF D s m (mid+m - s) k=D (m+(k - s)):=fun k A B=>Yv D A (by omega)
 have hi:∀ k,mid<=k->k < mid+m - s->rotF D s m (mid+m - s) k=D (k - (mid - s)):=fun k A B=>by
  rw [Zv D (by omega) B];congr 1;omega
 have E:∀ k,k < s∨mid+m - s<=k->rotF D s m (mid+m - s) k=D k:=fun k M=>Zm D P (by omega) (by omega);refine ⟨fun i j A B C=>?_,fun i j A B C=>?_,fun i j A B C=>?_,fun i j A B C=>?_,fun i j A B C J=>?_⟩
 ·rw [E i (by omega),E j (by omega)];exact h1 _ _ A B (by omega)
 ·rw [lo i A (by omega),lo j (by omega) C];exact h2 _ _ (by omega) (by omega) (by omega)
 ·rw [hi i A (by omega),hi j (by omega) C];exact h1 _ _ (by omega) (by omega) (by omega)
 ·rw [E i (by omega),E j (by omega)];exact h2 _ _ (by omega) B C
 by_cases K:i < s
 ·rw [E i (.inl K)]
  by_cases H:j < mid+m - s
  ·rw [hi j C H];exact h1 _ _ A (by omega) (by omega)
  rw [E j (by omega)]
  have I:=h.ahead (by omega) (by omega)
  have F:lt (D (s - 1)) (D i)=false:=by
   by_cases e:i=s - 1
   ·rw [e];exact ho.refl _
   ·exact h1 _ _ A (by omega) (by omega)
  have G:lt (D j) (D (mid+m - s))=false:=by
   by_cases e:j=mid+m - s
   ·rw [e];exact ho.refl _
   ·exact h2 _ _ (by omega) (by omega) J
  exact ho.trans _ _ _ (ho.trans _ _ _ F I) G
 rw [lo i (by omega) B]
 by_cases H:j < mid+m - s
 ·rw [hi j C H]
  have I:=ho.asym _ _ (h.behind (by omega) (by omega))
  have F:lt (D (mid+m - s - 1)) (D (m+(i - s)))=false:=by
   by_cases e:m+(i - s)=mid+m - s - 1
   ·rw [e];exact ho.refl _
   ·exact h2 _ _ (by omega) (by omega) (by omega)
  have G:lt (D (j - (mid - s))) (D s)=false:=by
   by_cases e:j - (mid - s)=s
   ·rw [e];exact ho.refl _
   ·exact h1 _ _ (by omega) (by omega) (by omega)
  exact ho.trans _ _ _ (ho.trans _ _ _ F I) G
 rw [E j (by omega)];exact h2 _ _ (by omega) (by omega) J
theorem Yb {D1 D2 D3:Nat->α} {a mid b:Nat} (H:a<=mid) (I:mid<=b) (hx:∀ i j,a<=i->i < mid->mid<=j->j < b->lt (D1 j) (D1 i)=false) (s2:Seg a mid D1 D2) (h2:Srt lt D2 a mid) (s3:Seg mid b D2 D3) (h3:Srt lt D3 mid b):Srt lt D3 a b:=by
 have D:∀ k,a<=k->k < mid->D3 k=D2 k:=fun k _ C=>s3.out k (by omega);refine Srt.join (h2.congr D) h3 fun i j E C J K=>?_;rw [D i E C];have F:∀ j,mid<=j->j < b->lt (D1 j) (D2 i)=false:=fun j A B=>s2.keep (fun x=>lt (D1 j) x=false) (fun k q1 q2=>hx k j q1 q2 A B) i E C;have G:∀ j,mid<=j->j < b->lt (D2 j) (D2 i)=false:=fun j A B=>by rw [s2.out j (by omega)];exact F j A B
 exact s3.keep (fun x=>lt x (D2 i)=false) (fun k q1 q2=>G k q1 q2) j J K
/-! ### Blocks -/
inductive Chunks (lt:α->α->Bool) (D:Nat->α) (s n:Nat):Nat->Prop
 | done {a:Nat}:n<=a->Chunks lt D s n a
 | cons {a:Nat}:a < n->Srt lt D a (min (a+s) n)->Chunks lt D s n (a+s)->Chunks lt D s n a
inductive Upto (lt:α->α->Bool) (D:Nat->α) (s:Nat):Nat->Prop
 | zero:Upto lt D s 0
 | snoc {a:Nat}:Upto lt D s a->Srt lt D a (a+s)->Upto lt D s (a+s)
theorem Chunks.congr {D D':Nat->α} {s n a lo:Nat} (h:Chunks lt D s n a) (hl:lo<=a) (he:∀ k,lo<=k->D' k=D k):Chunks lt D' s n a:=by
 induction h with
 | done h=>exact .done h
 | cons h1 A _ B=>exact .cons h1 (A.congr fun k C _=>he k (by omega)) (B (by omega))
theorem Upto.congr {D D':Nat->α} {s a:Nat} (h:Upto lt D s a) (he:∀ k,k < a->D' k=D k):Upto lt D' s a:=by
 induction h with
 | zero=>exact .zero
 | snoc h1 h2 ih=>exact .snoc (ih fun k A=>he k (by omega)) (h2.congr fun k _ B=>he k B)
theorem Upto.all {D:Nat->α} {s n a:Nat} (h:Upto lt D s a) (ha:a<=n) (k:Chunks lt D s n a) (hs:0 < s):Chunks lt D s n 0:=by
 induction h with
 | zero=>exact k
 | @snoc c h1 h2 ih=>
  refine ih (by omega) (.cons (by omega) ?_ k);rw [show min (c+s) n=c+s by omega];exact h2
theorem Chunks.whole {D:Nat->α} {s n:Nat} (h:Chunks lt D s n 0) (hs:n<=s):Srt lt D 0 n:=by
 cases h with
 | done h=>exact Srt.one lt D (by omega)
 | cons h1 A _=>rwa [show min (0+s) n=n by omega] at A
theorem Chunks.head {D:Nat->α} {s n a:Nat} (h:Chunks lt D s n a) (ha:a < n):Srt lt D a (min (a+s) n)/\Chunks lt D s n (a+s):=by
 cases h with
 | done h=>omega
 | cons _ A B=>exact ⟨A,B⟩
end
end
theorem xo (la:Int) (ta:ByteArray) (lb:Int) (tb:ByteArray) (w:World):
  Calls prog 142 #[.agg #[la,ta],.agg #[lb,tb]] w fun e w'=>e=.returned (.int .i64 (cmpK la ta lb tb))/\Below w.heap.size w w':=by
 unfold cmpK;have E:Hid (∀ W,Calls prog 189 #[la,lb] W fun e w'=>e=.returned (.int .i64 (cmpI la lb))/\w'=W):=fun W=>(zE la lb W).mono fun e w' h=>⟨h.1,h.2.symm⟩;have F:Hid (∀ W,Calls prog 103 #[ta,tb] W fun e w'=>e=.returned (.int .i64 (cmpT ta tb))/\w'=W):=fun W=>(XR ta tb W).mono fun e w' h=>⟨h.1,h.2.symm⟩;generalize cmpI la lb=x at *;generalize cmpT ta tb=y at *
 have HB:Hid (∀ W:World,W.heap=(((w.alloc (.cells #[la,ta] 46)).alloc (.cells #[lb,tb] 46)).alloc (.cells #[x,y] 3)).heap->Blk W (w.heap.size+1+1) 3 [x,y]):=by
  intro W G;have h:=hn_ ((w.alloc (.cells #[la,ta] 46)).alloc (.cells #[lb,tb] 46)) (.cells #[x,y] 3);unfold Blk;rw [G];simpa using h
 have B:Hid (Below w.heap.size w (((w.alloc (.cells #[la,ta] 46)).alloc (.cells #[lb,tb] 46)).alloc (.cells #[x,y] 3))):=by
  exact (((bf _ w).alloc (nl _) _).alloc (by simp) _).alloc (by simp;omega) _
 go_in;go_wp2_with fail;have ⟨W0,A⟩:=gn ((w.alloc (.cells #[la,ta] 46)).alloc (.cells #[lb,tb] 46))
 have C:Blk W0 w.heap.size 46 [la,ta]:=by
  subst A;exact Blk.alloc (show Blk (w.alloc _) _ _ _ by unfold Blk;rw [heap_alloc_new]) _
 have D:Blk W0 (w.heap.size+1) 46 [lb,tb]:=by
  subst A;have h:=hn_ (w.alloc (.cells #[la,ta] 46)) (.cells #[lb,tb] 46);unfold Blk;simpa using h
 have H:Ci W0 w.heap.size 0 la:=C.cell 0;have I:W0.cell? ⟨w.heap.size,1,none⟩=some (.string ta):=C.cell 1;have J:W0.cell? ⟨w.heap.size+1,0,none⟩=some (.int .i64 lb):=D.cell 0;have K:W0.cell? ⟨w.heap.size+1,1,none⟩=some (.string tb):=D.cell 1;rw [A];go_still_tail 10,(by kernel_rfl);still_call (E.o _);repeat still_step
 still_call (F.o _);repeat still_step
 refine wpStill_nil ?_;go_wp2_with fail;refine (qan _ _ 3 x y ?_).mono ?_
 ·have h:=hn_ W0 (.cells #[x,y] 3)
  exact h
 rintro e w' ⟨rfl,rfl⟩;go_wp2_with fail;go_ret;subst A;exact ⟨rfl,B.os,B.tape,B.output,B.size,B.block⟩
theorem QO (la:Int) (ta:ByteArray) (lb:Int) (tb:ByteArray) (w:World):
  Calls prog 88 #[.agg #[la,ta],.agg #[lb,tb]] w fun e w'=>e=.returned (.bool (decide (cmpK la ta lb tb < 0)))/\Below w.heap.size w w':=by
 have B:Hid (∀ W,Calls prog 142 #[.agg #[la,ta],.agg #[lb,tb]] W fun e w'=>e=.returned (.int .i64 (cmpK la ta lb tb))/\Below W.heap.size W w'):=fun W=>xo la ta lb tb W;generalize cmpK la ta lb tb=x at *
 have C:Hid (Below w.heap.size w ((w.alloc (.cells #[la,ta] 46)).alloc (.cells #[lb,tb] 46))):=by
  exact ((bf _ w).alloc (nl _) _).alloc (by simp) _
 go_in;go_wp2_with fail;refine (B.o _).mono ?_;rintro e w' ⟨rfl,A⟩;have HB:=Hy (C.trans (A.mono (by simp;omega)));clear A;go_wp2_with fail;go_ret;exact ⟨rfl,HB.o⟩
def HI (w:World) (g n:Nat) (D:Nat->KeyL) (sp:List Value):Prop:=Blk w g 46 ((List.range n).flatMap (fun k=>KeyL.cells (D k))++sp)
theorem HI.c0 {n:Nat} (h:HI w g n f sp) {k:Nat} (A:k < n):w.cell? ⟨g,k * 2,none⟩=some (.int .i64 (f k).1):=by
 unfold HI at h;rw [h.cell,List.getElem?_append_left (by rw [zc _ 2 (fun _=>rfl),List.length_range];omega)];have:=yc (fun k=>KeyL.cells (f k)) 2 (fun _=>rfl) (List.range n) k 0 (by omega);rw [Nat.add_zero] at this;rw [this,List.getElem?_range A];rfl
theorem HI.c1 {n:Nat} (h:HI w g n f sp) {k:Nat} (A:k < n):w.cell? ⟨g,k * 2+1,none⟩=some (.string (f k).2):=by
 unfold HI at h;rw [h.cell,List.getElem?_append_left (by rw [zc _ 2 (fun _=>rfl),List.length_range];omega)];rw [yc (fun k=>KeyL.cells (f k)) 2 (fun _=>rfl) (List.range n) k 1 (by omega),List.getElem?_range A];rfl
theorem HI.below {n:Nat} (h:HI w g n f sp) (hb:Below w.heap.size w w'):HI w' g n f sp:=Blk.below h hb (Blk.lt h)
theorem qaU (n i j:Nat) (f:Nat->KeyL) (hi:i < n) (hj:j < n) (H:i≠j) (sp:List Value):
  ((((((List.range n).flatMap (fun k=>KeyL.cells (f k))++sp).set (i * 2) (.int .i64 (f j).1)).set (i * 2+1) (.string (f j).2)).set (j * 2) (.int .i64 (f i).1)).set (j * 2+1) (.string (f i).2))=(List.range n).flatMap (fun k=>KeyL.cells (swF f i j k))++sp:=by
 have A:∀ h:Nat->KeyL,((List.range n).flatMap (fun k=>KeyL.cells (h k))).length=n * 2:=fun h=>by rw [zc _ 2 (fun _=>rfl),List.length_range]
 apply List.ext_getElem?;intro q
 by_cases I:q < n * 2
 ·have J:q % 2 < 2:=Nat.mod_lt _ (by omega)
  have C:q / 2 < n:=by omega
  have B:∀ h:Nat->KeyL,((List.range n).flatMap (fun k=>KeyL.cells (h k))++sp)[q]?=(KeyL.cells (h (q / 2)))[q % 2]?:=by
   intro h;rw [List.getElem?_append_left (by rw [A];exact I)];have:=yc (fun k=>KeyL.cells (h k)) 2 (fun _=>rfl) (List.range n) (q / 2) (q % 2) J;rw [show q / 2 * 2+q % 2=q from by omega,List.getElem?_range C] at this;exact this
  rw [B (swF f i j)];simp only [List.getElem?_set,List.length_set,List.length_append,A]
  by_cases D:q=j * 2+1
  ·rw [if_pos D.symm,ip,show q / 2=j from by omega,show q % 2=1 from by omega,zah];rfl
  rw [if_neg (fun e=>D e.symm)]
  by_cases E:q=j * 2
  ·rw [if_pos E.symm,ip,show q / 2=j from by omega,show q % 2=0 from by omega,zah];rfl
  rw [if_neg (fun e=>E e.symm)]
  by_cases F:q=i * 2+1
  ·rw [if_pos F.symm,ip,show q / 2=i from by omega,show q % 2=1 from by omega,ZR];rfl
  rw [if_neg (fun e=>F e.symm)]
  by_cases G:q=i * 2
  ·rw [if_pos G.symm,ip,show q / 2=i from by omega,show q % 2=0 from by omega,ZR];rfl
  rw [if_neg (fun e=>G e.symm),B f,xK _ _ _ _ (by omega) (by omega)]
 simp only [List.getElem?_set]
 rw [io,io,io,io,List.getElem?_append_right (by rw [A];omega),List.getElem?_append_right (by rw [A];omega),A,A]
def swW (w:World) (g i j:Nat) (x y:KeyL):World:=(((w.setCell ⟨g,i * 2,none⟩ (.int .i64 y.1)).setCell ⟨g,i * 2+1,none⟩ (.string y.2)).setCell ⟨g,j * 2,none⟩ (.int .i64 x.1)).setCell ⟨g,j * 2+1,none⟩ (.string x.2)
theorem HI.swap {n:Nat} (h:HI w g n f sp) {i j:Nat} (hi:i < n) (hj:j < n) (A:i≠j):HI (swW w g i j (f i) (f j)) g n (swF f i j) sp:=by
 have:=(((Blk.set h (i * 2) (.int .i64 (f j).1)).set (i * 2+1) (.string (f j).2)).set (j * 2) (.int .i64 (f i).1)).set (j * 2+1) (.string (f i).2);rw [qaU n i j f hi hj A sp] at this;exact this
theorem XL (w:World) (g i j:Nat) (x y:KeyL):Frm (fun k=>k=g) w (swW w g i j x y):=
 ((((Frm.refl (fun k=>k=g) w).setCell _ _ (.inl rfl)).setCell _ _ (.inl rfl)).setCell _ _ (.inl rfl)).setCell _ _ (.inl rfl)
def SrR (w:World) (g n a b N:Nat) (D:Nat->KeyL) (sp:List Value) (v:Value) (wr:World):Prop:=∃ i:Nat,i<=N/\v=.int .i64 i/\Hid (HI wr g n (swR D a b i) sp)/\Hid (Frm (fun k=>k=g) w wr)
theorem Xr (g n c a b N:Nat) (D:Nat->KeyL) (sp:List Value) (w:World) (v:Value) (h:HI w g n D sp) (h1:a+N<=b) (h2:b+N<=n) (hn:n<=100000):
  Calls prog 213 #[.slice (some ⟨g,0,none⟩) n c,a,b,N,v] w fun e w'=>e=.returned (.tuple #[])/\HI w' g n (swR D a b N) sp/\Frm (fun k=>k=g) w w':=by
 have A:=Hy h;clear h;go_in;go_wp2_with fail;go_loopw [10] (fun v wr=>SrR w g n a b N D sp v wr) (fun v _=>N - (intOf v).toNat)
 case atStart=>exact ⟨0,by omega,rfl,by unfold Hid;rw [xah];exact A.o,Frm.refl _ _⟩
 case round=>
  clear A;obtain ⟨i,hi,rfl,A,B⟩:=hrel
  by_cases F:i < N
  ·have ⟨p,H⟩:=gn (a+i)
   have ⟨q,I⟩:=gn (b+i);have G:=Hy (by rw [<- H,<- I];exact yah D a b i N h1 F:swF (swR D a b i) p q=swR D a b (i+1));generalize swR D a b i=E at *;have J:=Hy (by rw [<- G.o];exact A.swap (by omega) (by omega) (by omega):HI (swW wr g p q (E p) (E q)) g n (swR D a b (i+1)) sp);have C:=Hy (B.trans (XL wr g p q (E p) (E q)) (fun _ h _=>h));have d:=A.c0 (k:=p) (by omega);have f:=A.c1 (k:=p) (by omega);have j:=A.c0 (k:=q) (by omega);have l:=A.c1 (k:=q) (by omega);have U:∀ k,wr.frozen? ⟨g,k,none⟩=false:=fun k=>Blk.frozen A.o k
   generalize E p=x at *;generalize E q=y at *;clear G A B;have V:p * 2≠q * 2:=by omega
   have W:p * 2+1≠q * 2+1:=by omega
   have Y:p * 2≠q * 2+1:=by omega
   have Z:p * 2+1≠q * 2:=by omega
   have K:IntKind.i64.wrap ((a:Int)+(i:Int))=(p:Int):=by rw [IntWalk.i64_in _ (by omega)];omega
   have L:IntKind.i64.wrap ((b:Int)+(i:Int))=(q:Int):=by rw [IntWalk.i64_in _ (by omega)];omega
   have M:p < n:=by omega
   have b2:q < n:=by omega
   have P:(0:Int)<=(p:Int):=by omega
   have Q:(0:Int)<=(q:Int):=by omega
   have R:(p:Int) < (n:Int):=by omega
   have T:(q:Int) < (n:Int):=by omega
   clear H I;go_wp2_with fail;go_region
   all_goals
    go_wp2_with fail;clear K L;go_roundw
    case rel=>exact ⟨i+1,by omega,by go_num,J.o,C.drew⟩
    case measure=>simp [intOf];omega
  obtain rfl:i=N:=by omega
  go_wp2_with fail;go_end0;exact ⟨rfl,A.o,B.o⟩
theorem zat:∀ (a b:List UInt8),Lib.compareBytes b a= - Lib.compareBytes a b
 | [],[]=>rfl
 | [],_ :: _=>rfl
 | _ :: _,[]=>rfl
 | a :: xs,b :: ys=>by
  unfold Lib.compareBytes
  by_cases h1:a < b
  ·have A:¬ b < a:=by simp only [UInt8.lt_iff_toNat_lt] at *;omega
   simp [h1,A]
  ·by_cases A:b < a
   ·simp [h1,A]
   ·simp only [h1,A,if_false];exact zat xs ys
theorem Ya4:∀ (a b:List UInt8),Lib.compareBytes a b=0->a=b
 | [],[],_=>rfl
 | [],_ :: _,h=>by simp [Lib.compareBytes] at h
 | _ :: _,[],h=>by simp [Lib.compareBytes] at h
 | a :: xs,b :: ys,h=>by
  unfold Lib.compareBytes at h
  by_cases h1:a < b
  ·rw [if_pos h1] at h;simp at h
  ·rw [if_neg h1] at h
   by_cases h2:b < a
   ·rw [if_pos h2] at h;simp at h
   ·rw [if_neg h2] at h
    rw [Ya4 xs ys h]
    congr 1
    apply UInt8.toNat_inj.1
    simp only [UInt8.lt_iff_toNat_lt] at h1 h2
    omega
theorem QU (a b:ByteArray):cmpT b a= - cmpT a b:=zat _ _
theorem YaV {a b:ByteArray} (h:cmpT a b=0):a=b:=by
 have:=Ya4 _ _ h;apply ByteArray.ext;exact Array.toList_inj.1 this
theorem ZV (a b:KeyL):kless a b=true↔a.1 < b.1∨a.1=b.1/\cmpT a.2 b.2 < 0:=by unfold kless;rw [decide_eq_true_eq,zD]
theorem YV {a b:KeyL} (h1:kless a b=false) (h2:kless b a=false):a=b:=by
 have C:¬ kless a b=true:=by rw [h1];decide
 have D:¬ kless b a=true:=by rw [h2];decide
 rw [ZV] at C D;have A:a.1=b.1:=by omega
 have E:=QU a.2 b.2;have B:cmpT a.2 b.2=0:=by omega
 exact Prod.ext A (YaV B)
theorem kless_trans {a b c:KeyL} (h:kless a b=true) (k:kless b c=true):kless a c=true:=by
 unfold kless at *;rw [decide_eq_true_eq] at *;exact xN h k
theorem zB {a b:KeyL} (h:kless a b=true):kless b a=false:=by
 cases A:kless b a
 ·rfl
 rw [ZV] at h A
 have:=QU a.2 b.2;omega
theorem Qd:Ord kless:=by
 refine ⟨fun x y z h1 B=>?_,fun x y h=>zB h⟩;cases C:kless z x
 ·rfl
 by_cases e:x=y
 ·subst e;exact absurd (B.symm.trans C) (by decide)
 have A:kless x y=true:=by
  cases D:kless x y
  ·exact absurd (YV D h1) e
  ·rfl
 exact absurd (B.symm.trans (kless_trans C A)) (by decide)
theorem YL {α:Type} {a b n lo hi:Nat} (D:Nat->α) (h:a+n<=b) (h1:lo<=a) (h2:b+n<=hi):∀ i,i<=n->Seg lo hi D (swR D a b i)
 | 0,_=>by rw [xah];exact Seg.refl _ _ _
 | i+1,hi'=>by
  rw [<- yah D a b i n h (by omega)]
  exact (YL D h h1 h2 i (by omega)).trans (Seg.swap _ (by omega) (by omega) (by omega) (by omega))
def RtR (w:World) (g n a m b:Nat) (D:Nat->KeyL) (sp:List Value) (v10 v11:Value) (wr:World):Prop:=∃ (i j:Nat) (E:Nat->KeyL),1<=i/\1<=j/\i<=m - a/\m+j<=b/\v10=.int .i64 i/\v11=.int .i64 j/\Hid (rotF E (m - i) m (m+j)=rotF D a m b)/\Hid (Seg a b D E)/\Hid (HI wr g n E sp)/\Hid (Frm (fun k=>k=g) w wr)
theorem QQ (g n c a m b:Nat) (D:Nat->KeyL) (sp:List Value) (w:World) (v:Value) (h:HI w g n D sp) (h1:a < m) (h2:m < b) (h3:b<=n) (hn:n<=100000):
  Calls prog 212 #[.slice (some ⟨g,0,none⟩) n c,a,m,b,v] w fun e w'=>e=.returned (.tuple #[])/\HI w' g n (rotF D a m b) sp/\Frm (fun k=>k=g) w w'/\Seg a b D (rotF D a m b):=by
 have P:=Hy h;clear h;have R:IntKind.i64.wrap ((m:Int) - (a:Int))=((m - a:Nat):Int):=by rw [IntWalk.i64_in _ (by omega)];omega
 have z:IntKind.i64.wrap ((b:Int) - (m:Int))=((b - m:Nat):Int):=by rw [IntWalk.i64_in _ (by omega)];omega
 go_in;go_wp2_with fail;clear R z;go_loopw [10,11] (fun M N wr=>RtR w g n a m b D sp M N wr) (fun M N _=>(intOf M).toNat+(intOf N).toNat)
 case atStart=>exact ⟨m - a,b - m,D,by omega,by omega,by omega,by omega,rfl,rfl,by unfold Hid;rw [show m - (m - a)=a by omega,show m+(b - m)=b by omega],Seg.refl _ _ _,P.o,Frm.refl _ _⟩
 case round=>
  clear P;obtain ⟨i,j,E,hi,hj,t,Q,rfl,rfl,V,W,P,U⟩:=hrel;have ⟨p,T⟩:=gn (m - i);have R:IntKind.i64.wrap ((m:Int) - (i:Int))=(p:Int):=by rw [IntWalk.i64_in _ (by omega)];omega
  have I:=Hy T
  by_cases e:i=j
  ·subst e
   have l:((i:Int) != (i:Int))=false:=by simp
   have A:p+i<=m:=by omega
   clear T;go_wp2_with fail;have L:m+i<=n:=by omega
   (with_reducible refine (Xr g n c p m i E sp _ _ P.o A L hn).mono ?_)
   rintro e R ⟨rfl,H,J⟩;have B:=V.o;rw [I.o,<- I.o,<- QaQ E m i (by omega),I.o] at B;rw [B] at H;have F:=Hy H;have C:=Hy (U.trans J (fun _ h _=>h));have G:=Hy (by rw [<- B];exact W.trans (YL E A (by have:=I.o;omega) Q i (nl _)):Seg a b D (rotF D a m b));clear H J B;go_wp2_with fail;go_end0;exact ⟨rfl,F.o,C.o,G.o⟩
  have l:((i:Int) != (j:Int))=true:=by simp;omega
  by_cases u:j < i
  ·have A:p+j<=m:=by omega
   have s:decide ((j:Int) < (i:Int))=true:=by simp;omega
   have w3:IntKind.i64.wrap ((i:Int) - (j:Int))=((i - j:Nat):Int):=by rw [IntWalk.i64_in _ (by omega)];omega
   clear T;go_wp2_with fail;have L:m+j<=n:=by omega
   (with_reducible refine (Xr g n c p m j E sp _ _ P.o A L hn).mono ?_)
   rintro e R ⟨rfl,H,J⟩;have F:=Hy H;have C:=Hy (U.trans J (fun _ h _=>h));have G:=Hy (W.trans (YL E A (by have:=I.o;omega) Q j (nl _)));have K:=Hy (by rw [<- V.o,<- I.o];exact ZaQ E m i j (by omega) u:rotF (swR E p m j) (m - (i - j)) m (m+j)=rotF D a m b);clear H J;go_wp2_with fail;go_roundw
   case rel=>exact ⟨i - j,j,swR E p m j,by omega,by omega,by omega,by omega,rfl,rfl,K.o,G.o,F.o,C.o⟩
   case measure=>simp [intOf];omega
  have Y:i < j:=by omega
  have s:decide ((j:Int) < (i:Int))=false:=by simp;omega
  have ⟨q,f⟩:=gn (m+j - i);have A:p+i<=q:=by omega
  have ⟨r,y⟩:=gn (m+j);have w3:IntKind.i64.wrap ((m:Int)+(j:Int))=(r:Int):=by rw [IntWalk.i64_in _ (by omega)];omega
  have w4:IntKind.i64.wrap ((r:Int) - (i:Int))=(q:Int):=by rw [IntWalk.i64_in _ (by omega)];omega
  have w5:IntKind.i64.wrap ((j:Int) - (i:Int))=((j - i:Nat):Int):=by rw [IntWalk.i64_in _ (by omega)];omega
  have d:=Hy f;have Z:q+i<=n:=by omega
  clear T f y;go_wp2_with fail
  (with_reducible refine (Xr g n c p q i E sp _ _ P.o A Z hn).mono ?_)
  rintro e R ⟨rfl,H,J⟩;have F:=Hy H;have C:=Hy (U.trans J (fun _ h _=>h));have G:=Hy (W.trans (YL E A (by have:=I.o;omega) (by have:=d.o;omega:q+i<=b) i (nl _)));have K:=Hy (by rw [<- V.o,<- I.o,<- d.o];exact qaF E m i j (by omega) Y:rotF (swR E p q i) (m - i) m (m+(j - i))=rotF D a m b);clear H J;go_wp2_with fail;go_roundw
  case rel=>exact ⟨i,j - i,swR E p q i,by omega,by omega,by omega,by omega,rfl,rfl,K.o,G.o,F.o,C.o⟩
  case measure=>simp [intOf];omega
def cmpV:Value:=.func (Fn.func 142) #[] #[]
theorem Xw (x y:KeyL):decide (cmpK x.1 x.2 y.1 y.2 < 0)=kless x y:=rfl
def InO (w:World) (g n a b:Nat) (D:Nat->KeyL) (sp:List Value) (v8:Value) (wr:World):Prop:=∃ (i:Nat) (E:Nat->KeyL),a+1<=i/\(i<=b∨i=a+1)/\v8=.int .i64 i/\Hid (Srt kless E a i)/\Hid (Seg a b D E)/\Hid (HI wr g n E sp)/\Hid (Frm (fun k=>k=g) w wr)
def InJ (w:World) (g n a b i:Nat) (D:Nat->KeyL) (sp:List Value) (v9:Value) (wr:World):Prop:=∃ (j:Nat) (E:Nat->KeyL),a<=j/\j<=i/\v9=.int .i64 j/\Hid (Ins kless E a i j)/\Hid (Seg a b D E)/\Hid (HI wr g n E sp)/\Hid (Frm (fun k=>k=g) w wr)
theorem Qal (g n c a b:Nat) (D:Nat->KeyL) (sp:List Value) (w:World) (h:HI w g n D sp) (h1:a<=b) (h2:b<=n) (hn:n<=100000):
  Calls prog 210 #[.slice (some ⟨g,0,none⟩) n c,a,b,cmpV] w fun e w'=>e=.returned (.tuple #[])/\∃ E,HI w' g n E sp/\Frm (fun k=>k=g) w w'/\Seg a b D E/\Srt kless E a b:=by
 unfold cmpV;have A:=Hy h;clear h;have w1:IntKind.i64.wrap ((a:Int)+1)=((a+1:Nat):Int):=by rw [IntWalk.i64_in _ (by omega)];omega
 go_in;go_wp2_with fail;clear w1;go_loopw [8] (fun v8 wr=>InO w g n a b D sp v8 wr) (fun v _=>b - (intOf v).toNat)
 case atStart=>exact ⟨a+1,D,by omega,.inr rfl,rfl,Srt.one kless D (nl _),Seg.refl _ _ _,A.o,Frm.refl _ _⟩
 case round=>
  clear A;obtain ⟨i,E,Ag,Ah,rfl,L,B,A,I⟩:=hrel
  by_cases Ai:i < b
  ·have N:=Hy (show Ins kless E a i i from Ins.start L.o)
   go_wp2_with fail;go_loopw [9] (fun v9 wq=>InJ w g n a b i D sp v9 wq) (fun v _=>(intOf v).toNat)
   case atStart=>exact ⟨i,E,by omega,by omega,rfl,N.out,B.o,A.o,I.o⟩
   case round=>
    clear L B A I N;obtain ⟨j,G,P,M,rfl,K,B,A,I⟩:=hrel
    by_cases Q:a < j
    ·have ⟨p,T⟩:=gn (j - 1)
     have wp:IntKind.i64.wrap ((j:Int) - 1)=(p:Int):=by rw [IntWalk.i64_in _ (by omega)];omega
     have x0:=A.c0 (k:=j) (by omega);have x1:=A.c1 (k:=j) (by omega);have y0:=A.c0 (k:=p) (by omega);have y1:=A.c1 (k:=p) (by omega);have s:=Hy (fun W (h:HI W g n G sp)=>h.swap (i:=j) (j:=p) (by omega) (by omega) (by omega));have R:=Xw (G j) (G p);have r:=Hy (fun q:kless (G j) (G p)=true=>K.next Qd Q M (by rw [T];exact q));have U:=Hy (fun q:kless (G j) (G p)=false=>K.done Qd P M (.inr (by rw [T];exact q)));have d:=Hy (show Seg a b D (swF G j p) from B.trans (Seg.swap G (by omega) (by omega) (by omega) (by omega)))
     have t:∀ k,wr.frozen? ⟨g,k,none⟩=false:=fun k=>Blk.frozen A.o k;have H:=Blk.lt A.o;rw [T] at r;generalize G j=x at *;generalize G p=y at *;have n1:j * 2≠p * 2:=by omega
     have n2:j * 2+1≠p * 2+1:=by omega
     have n3:j * 2≠p * 2+1:=by omega
     have n4:j * 2+1≠p * 2:=by omega
     have b1:p < n:=by omega
     have b2:j < n:=by omega
     have b3:(0:Int)<=(p:Int):=by omega
     have b4:(0:Int)<=(j:Int):=by omega
     have b5:(p:Int) < (n:Int):=by omega
     have b6:(j:Int) < (n:Int):=by omega
     have da:decide ((a:Int) < (j:Int))=true:=by simp;omega
     have Af:decide (a < j)=true:=by simpa using Q
     have Aj:a<=p:=by omega
     have Ak:p<=i:=by omega
     have Al:p < j:=by omega
     clear T;go_upto_region 4 with fail;go_region_held3 (fun w'=>w'.cell? ⟨g,j * 2,none⟩=some (.int .i64 x.1)/\w'.cell? ⟨g,j * 2+1,none⟩=some (.string x.2)/\w'.cell? ⟨g,p * 2,none⟩=some (.int .i64 y.1)/\w'.cell? ⟨g,p * 2+1,none⟩=some (.string y.2)) (first | go_keep | exact ⟨(HB.cell (p:=⟨g,j * 2,none⟩) H).trans x0,(HB.cell (p:=⟨g,j * 2+1,none⟩) H).trans x1,(HB.cell (p:=⟨g,p * 2,none⟩) H).trans y0,(HB.cell (p:=⟨g,p * 2+1,none⟩) H).trans y1⟩) ((go_at_call 142;refine (xo x.1 x.2 y.1 y.2 _).mono ?_;rintro e u ⟨rfl,z⟩;have HB:=Hy z;clear z));have F:=Hy ((show HI wr.drew g n G sp from A.o).below HB.o)
     have J:=Hy (I.drew.trans (Frm.below (S:=fun k=>k=g) HB.o) (fun _ h _=>h));clear t x0 x1 y0 y1 A I HB;cases C:kless x y
     ·have Z:=Hy C
      rw [C] at R;clear C;go_wp2_with fail;go_roundw
      case rel=>exact ⟨i+1,G,by omega,.inl (by omega),by go_num,U.o Z.o,B.o,F.o,J.o⟩
      case measure=>simp [intOf];omega
     have Z:=Hy C
     rw [C] at R;clear C;have t:∀ k,u.frozen? ⟨g,k,none⟩=false:=fun k=>Blk.frozen F.o k;have l:=Hy (s.o u F.o);have V:=Hy (J.trans (XL u g j p x y) (fun _ h _=>h));clear F J s;go_wp2_with fail;go_region
     all_goals
      go_wp2_with fail;clear wp;go_roundw
      case rel=>exact ⟨p,swF G j p,by omega,by omega,rfl,r.o Z.o,d.o,l.o,V.drew⟩
      case measure=>simp [intOf];omega
    obtain rfl:j=a:=by omega
    have U:=Hy (K.done Qd P M (.inl rfl));have da:decide ((j:Int) < (j:Int))=false:=by simp
    go_upto_region 4 with fail;go_quiet (fail);have Y:=Hy (show HI (wr.drewN nq) g n G sp from A.o);go_wp2_with fail;go_roundw
    case rel=>exact ⟨i+1,G,by omega,.inl (by omega),by go_num,U.o,B.o,Y.o,I.drewN nq⟩
    case measure=>simp [intOf];omega
  have m:b<=i:=by omega
  have f:=Hy (L.mono (nl a) m);go_wp2_with fail;go_end0;exact ⟨rfl,E,A.o,I.o,B.o,f.o⟩
theorem Yaw {α:Type} {a hi:Nat} (D:Nat->α):∀ k,a+k < hi->Seg a hi D (shU D a (a+k))
 | 0,_=>by rw [Nat.add_zero,Qag];exact Seg.refl _ _ _
 | k+1,h=>by
  rw [<- Nat.add_assoc,<- xag D a (a+k) (by omega)]
  exact (Yaw D k (by omega)).trans (Seg.swap _ (by omega) (by omega) (by omega) (by omega))
theorem Zaw {α:Type} {m lo hi:Nat} (D:Nat->α) (h0:m < hi):∀ k,lo+k<=m->Seg lo hi D (shD D m (m - k))
 | 0,_=>by rw [Nat.sub_zero,yag];exact Seg.refl _ _ _
 | k+1,h=>by
  rw [show m - (k+1)=m - k - 1 by omega,<- zag D m (m - k) (by omega) (by omega)]
  exact (Zaw D h0 k (by omega)).trans (Seg.swap _ (by omega) (by omega) (by omega) (by omega))
theorem zaB {h k:Nat} (x:KeyL) (hs:Srt kless D a b) (h1:a<=k) (h2:k<=h) (h3:h < b) (hl:kless (D h) x=true):kless (D k) x=true:=by
 by_cases e:k=h
 ·rw [e];exact hl
 have B:=hs k h h1 (by omega) h3
 cases A:kless (D k) x
 ·have:=Qd.trans x (D k) (D h) A B
  rw [this] at hl;exact absurd hl (by decide)
 rfl
theorem yaX {h k:Nat} (x:KeyL) (hs:Srt kless D a b) (h1:a<=h) (h2:h<=k) (h3:k < b) (hl:kless (D h) x=false):kless (D k) x=false:=by
 by_cases e:k=h
 ·rw [e];exact hl
 exact Qd.trans x (D h) (D k) hl (hs h k h1 (by omega) h3)
def S1R (w:World) (g n a m b:Nat) (D:Nat->KeyL) (sp:List Value) (v10 v11:Value) (wr:World):Prop:=∃ i j:Nat,m<=i/\i<=j/\j<=b/\v10=.int .i64 i/\v11=.int .i64 j/\Hid (∀ k,m<=k->k < i->kless (D k) (D a)=true)/\Hid (∀ k,j<=k->k < b->kless (D k) (D a)=false)/\Hid (HI wr g n D sp)/\Hid (Frm (fun k=>k=g) w wr)
def S1S (w:World) (g n a i:Nat) (D:Nat->KeyL) (sp:List Value) (v13:Value) (wr:World):Prop:=∃ k:Nat,a<=k/\k+1<=i/\v13=.int .i64 k/\Hid (HI wr g n (shU D a k) sp)/\Hid (Frm (fun k=>k=g) w wr)
def Zu (w:World) (g n a b:Nat) (D:Nat->KeyL) (sp:List Value) (e:Ending) (w':World):Prop:=e=.returned (.tuple #[])/\∃ E,HI w' g n E sp/\Frm (fun k=>k=g) w w'/\Seg a b D E/\Srt kless E a b
theorem zaU (g n c a m b:Nat) (D:Nat->KeyL) (sp:List Value) (w:World) (h:HI w g n D sp) (h1:m=a+1) (h2:m < b) (h3:b<=n) (hn:n<=100000) (hs:Srt kless D m b):
  Calls prog 211 #[.slice (some ⟨g,0,none⟩) n c,a,m,b,cmpV] w fun e w'=>Zu w g n a b D sp e w':=by
 unfold cmpV;have A:=Hy h;have I:=Hy hs;clear h hs;have w1:IntKind.i64.wrap ((m:Int) - (a:Int))=1:=by rw [IntWalk.i64_in _ (by omega)];omega
 have HM:=Hy h1;have A8:a < m:=by omega
 have Al:m<=a+1:=by omega
 clear h1;go_in;go_wp2_with fail;clear w1;go_loopw [10,11] (fun K L wr=>S1R w g n a m b D sp K L wr) (fun K L _=>(intOf L).toNat - (intOf K).toNat)
 case atStart=>exact ⟨m,b,by omega,by omega,by omega,rfl,rfl,fun k N P=>by omega,fun k N P=>by omega,A.o,Frm.refl _ _⟩
 case round=>
  clear A;obtain ⟨i,j,Af,A4,Z,rfl,rfl,H,F,A,E⟩:=hrel
  by_cases A7:i < j
  ·have ⟨q,hq⟩:=gn ((i+j) / 2)
   have l:((i:Int)+(j:Int)) / 2=(q:Int):=by omega
   have q1:i<=q:=by omega
   have q2:q < j:=by omega
   have Aa:=Hy (fun (hl:kless (D q) (D a)=true) k (N:m<=k) (P:k < q+1)=>zaB (D a) I.o N (by omega:k<=q) (by omega:q < b) hl);have Ae:=Hy (fun (hl:kless (D q) (D a)=false) k (N:q<=k) (P:k < b)=>yaX (D a) I.o (by omega:m<=q) N P hl);have Ad:=Hy (Xw (D q) (D a));have Au:q < n:=by omega
   have Ay:(0:Int)<=(q:Int):=by omega
   have A2:(q:Int) < (n:Int):=by omega
   have Ar:a < n:=by omega
   have Av:(0:Int)<=(a:Int):=by omega
   have Az:(a:Int) < (n:Int):=by omega
   have s:=A.c0 (k:=q) (by omega);have t:=A.c1 (k:=q) (by omega);have v:=A.c0 (k:=a) (by omega);have z:=A.c1 (k:=a) (by omega);have Aj:=hq;clear hq;have C:=Blk.lt A.o;have J:=Ad.o;have ⟨x,d⟩:=gn (D q);have ⟨y,f⟩:=gn (D a);rw [d,f] at J;rw [d] at s t;rw [f] at v z;have Y:=Hy (by rw [d,f]:kless x y=kless (D q) (D a));clear d f Aj;go_upto_region 5 with fail;go_region_held3 (fun w'=>w'.cell? ⟨g,q * 2,none⟩=some (.int .i64 x.1)/\w'.cell? ⟨g,q * 2+1,none⟩=some (.string x.2)/\w'.cell? ⟨g,a * 2,none⟩=some (.int .i64 y.1)/\w'.cell? ⟨g,a * 2+1,none⟩=some (.string y.2)) (first | go_keep | exact ⟨(HB.cell (p:=⟨g,q * 2,none⟩) C).trans s,(HB.cell (p:=⟨g,q * 2+1,none⟩) C).trans t,(HB.cell (p:=⟨g,a * 2,none⟩) C).trans v,(HB.cell (p:=⟨g,a * 2+1,none⟩) C).trans z⟩) ((go_at_call 142;refine (xo x.1 x.2 y.1 y.2 _).mono ?_;rintro e u ⟨rfl,hb⟩;have HB:=Hy hb;clear hb))
   have T:=Hy ((show HI wr.drew g n D sp from A.o).below HB.o);have Q:=Hy (E.drew.trans (Frm.below (S:=fun k=>k=g) HB.o) (fun _ h _=>h));clear s t v z A E HB;cases B:kless x y
   ·have HK:=Hy (Y.symm.trans B)
    rw [B] at J;clear B;go_wp2_with fail;clear l;go_roundw
    case rel=>exact ⟨i,q,Af,q1,by omega,rfl,rfl,H.o,Ae.o HK.o,T.o,Q.o⟩
    case measure=>simp [intOf];omega
   have HK:=Hy (Y.symm.trans B)
   rw [B] at J;clear B;go_wp2_with fail;clear l;go_roundw
   case rel=>exact ⟨q+1,j,by omega,by omega,Z,by go_num,rfl,Aa.o HK.o,F.o,T.o,Q.o⟩
   case measure=>simp [intOf];omega
  obtain rfl:i=j:=by omega
  have U:=Hy (show Srt kless (shU D a (i - 1)) a b from Za3 Qd (by rw [<- HM.o];exact I.o) (by omega) Z (fun k N P=>H.o k (by omega) P) F.o);have V:=Hy (by have:=Yaw (a:=a) (hi:=b) D (i - 1 - a) (by omega);rwa [show a+(i - 1 - a)=i - 1 by omega] at this:Seg a b D (shU D a (i - 1)));have R:=Hy (by rw [Qag];exact A.o:HI wr g n (shU D a a) sp);have ⟨r,hr⟩:=gn (i - 1);have wi:IntKind.i64.wrap ((i:Int) - 1)=(r:Int):=by rw [IntWalk.i64_in _ (by omega)];omega
  rw [hr] at U V;have A3:a<=r:=by omega
  have AB:r < b:=by omega
  clear H F A hr;go_wp2_with fail;go_loopw [13] (fun M l=>S1S w g n a (r+1) D sp M l) (fun M _=>r - (intOf M).toNat)
  case atStart=>exact ⟨a,by omega,by omega,rfl,R.o,E.o⟩
  case round=>
   clear R E;obtain ⟨k,Ag,A5,rfl,A,E⟩:=hrel
   by_cases A6:k < r
   ·have ⟨p,hp⟩:=gn (k+1)
    have wp:IntKind.i64.wrap ((k:Int)+1)=(p:Int):=by rw [IntWalk.i64_in _ (by omega)];omega
    have W:=Hy (by rw [<- hp];exact xag D a k Ag:swF (shU D a k) k p=shU D a p);generalize shU D a k=G at *;have s:=A.c0 (k:=k) (by omega);have t:=A.c1 (k:=k) (by omega);have v:=A.c0 (k:=p) (by omega);have z:=A.c1 (k:=p) (by omega);have As:k < n:=by omega
    have Aw:(0:Int)<=(k:Int):=by omega
    have A0:(k:Int) < (n:Int):=by omega
    have At:p < n:=by omega
    have Ax:(0:Int)<=(p:Int):=by omega
    have A1:(p:Int) < (n:Int):=by omega
    have n1:k * 2≠p * 2:=by omega
    have n2:k * 2+1≠p * 2+1:=by omega
    have n3:k * 2≠p * 2+1:=by omega
    have n4:k * 2+1≠p * 2:=by omega
    have HX:=Hy (by rw [<- W.o];exact A.swap (by omega) (by omega) (by omega):HI (swW wr g k p (G k) (G p)) g n (shU D a p) sp);have Ab:=Hy (E.trans (XL wr g k p (G k) (G p)) (fun _ h _=>h));have fz:∀ k,wr.frozen? ⟨g,k,none⟩=false:=fun k=>Blk.frozen A.o k;have Ai:a<=p:=by omega
    have A9:p<=r:=by omega
    have AA:k < p:=by omega
    clear hp W A E;generalize G k=x at *;generalize G p=y at *;go_wp2_with fail;go_region
    all_goals
     go_wp2_with fail;clear wp;go_roundw
     case rel=>exact ⟨p,Ai,by omega,rfl,HX.o,Ab.drew⟩
     case measure=>simp [intOf];omega
   obtain rfl:k=r:=by omega
   go_wp2_with fail;go_end0;exact ⟨rfl,shU D a k,A.o,E.o,V.o,U.o⟩
theorem qaC {h k:Nat} (x:KeyL) (hs:Srt kless D a b) (h1:a<=k) (h2:k<=h) (h3:h < b) (hl:kless x (D h)=false):kless x (D k)=false:=by
 by_cases e:k=h
 ·rw [e];exact hl
 exact Qd.trans (D k) (D h) x (hs k h h1 (by omega) h3) hl
theorem YaY {h k:Nat} (x:KeyL) (hs:Srt kless D a b) (h1:a<=h) (h2:h<=k) (h3:k < b) (hl:kless x (D h)=true):kless x (D k)=true:=by
 by_cases e:k=h
 ·rw [e];exact hl
 cases A:kless x (D k)
 ·have:=Qd.trans (D h) (D k) x (hs h k h1 (by omega) h3) A
  rw [this] at hl;exact absurd hl (by decide)
 rfl
def S2R (w:World) (g n a m:Nat) (D:Nat->KeyL) (sp:List Value) (v10 v11:Value) (wr:World):Prop:=∃ i j:Nat,a<=i/\i<=j/\j<=m/\v10=.int .i64 i/\v11=.int .i64 j/\Hid (∀ k,a<=k->k < i->kless (D m) (D k)=false)/\Hid (∀ k,j<=k->k < m->kless (D m) (D k)=true)/\Hid (HI wr g n D sp)/\Hid (Frm (fun k=>k=g) w wr)
def S2S (w:World) (g n m i:Nat) (D:Nat->KeyL) (sp:List Value) (v13:Value) (wr:World):Prop:=∃ k:Nat,i<=k/\k<=m/\v13=.int .i64 k/\Hid (HI wr g n (shD D m k) sp)/\Hid (Frm (fun k=>k=g) w wr)
theorem yaU (g n c a m b:Nat) (D:Nat->KeyL) (sp:List Value) (w:World) (h:HI w g n D sp) (h0:m≠a+1) (h1:b=m+1) (h2:a < m) (h3:b<=n) (hn:n<=100000) (hs:Srt kless D a m):
  Calls prog 211 #[.slice (some ⟨g,0,none⟩) n c,a,m,b,cmpV] w fun e w'=>Zu w g n a b D sp e w':=by
 unfold cmpV;have A:=Hy h;have I:=Hy hs;clear h hs;have ⟨d,hd⟩:=gn (m - a);have w1:IntKind.i64.wrap ((m:Int) - (a:Int))=(d:Int):=by rw [IntWalk.i64_in _ (by omega)];omega
 have w2:IntKind.i64.wrap ((b:Int) - (m:Int))=1:=by rw [IntWalk.i64_in _ (by omega)];omega
 have d1:((d:Int) == 1)=false:=by simp;omega
 have HM:=Hy h1;have Ai:m < b:=by omega
 have Am:b<=m+1:=by omega
 clear h1 hd;go_in;go_wp2_with fail;clear w1 w2 d1;go_loopw [14,15] (fun K L wr=>S2R w g n a m D sp K L wr) (fun K L _=>(intOf L).toNat - (intOf K).toNat)
 case atStart=>exact ⟨a,m,by omega,by omega,by omega,rfl,rfl,fun k W f=>by omega,fun k W f=>by omega,A.o,Frm.refl _ _⟩
 case round=>
  clear A;obtain ⟨i,j,U,A3,V,rfl,rfl,H,F,A,E⟩:=hrel
  by_cases A6:i < j
  ·have ⟨q,hq⟩:=gn ((i+j) / 2)
   have l:((i:Int)+(j:Int)) / 2=(q:Int):=by omega
   have q1:i<=q:=by omega
   have q2:q < j:=by omega
   have z:=Hy (fun (hl:kless (D m) (D q)=false) k (W:a<=k) (f:k < q+1)=>qaC (D m) I.o W (by omega:k<=q) (by omega:q < m) hl);have Af:=Hy (fun (hl:kless (D m) (D q)=true) k (W:q<=k) (f:k < m)=>YaY (D m) I.o (by omega:a<=q) W f hl);have Ac:=Hy (Xw (D m) (D q));have At:q < n:=by omega
   have Ax:(0:Int)<=(q:Int):=by omega
   have A1:(q:Int) < (n:Int):=by omega
   have Ar:m < n:=by omega
   have Av:(0:Int)<=(m:Int):=by omega
   have Az:(m:Int) < (n:Int):=by omega
   have r:=A.c0 (k:=m) (by omega);have s:=A.c1 (k:=m) (by omega);have t:=A.c0 (k:=q) (by omega);have v:=A.c1 (k:=q) (by omega);clear hq;have C:=Blk.lt A.o;have J:=Ac.o;have ⟨x,Y⟩:=gn (D m);have ⟨y,Z⟩:=gn (D q);rw [Y,Z] at J;rw [Y] at r s;rw [Z] at t v;have T:=Hy (by rw [Y,Z]:kless x y=kless (D m) (D q));clear Y Z;go_upto_region 17 with fail;go_region_held3 (fun w'=>w'.cell? ⟨g,m * 2,none⟩=some (.int .i64 x.1)/\w'.cell? ⟨g,m * 2+1,none⟩=some (.string x.2)/\w'.cell? ⟨g,q * 2,none⟩=some (.int .i64 y.1)/\w'.cell? ⟨g,q * 2+1,none⟩=some (.string y.2)) (first | go_keep | exact ⟨(HB.cell (p:=⟨g,m * 2,none⟩) C).trans r,(HB.cell (p:=⟨g,m * 2+1,none⟩) C).trans s,(HB.cell (p:=⟨g,q * 2,none⟩) C).trans t,(HB.cell (p:=⟨g,q * 2+1,none⟩) C).trans v⟩) ((go_at_call 142;refine (xo x.1 x.2 y.1 y.2 _).mono ?_;rintro e u ⟨rfl,hb⟩;have HB:=Hy hb;clear hb))
   have Q:=Hy ((show HI wr.drew g n D sp from A.o).below HB.o);have N:=Hy (E.drew.trans (Frm.below (S:=fun k=>k=g) HB.o) (fun _ h _=>h));clear r s t v A E HB;cases B:kless x y
   ·have HK:=Hy (T.symm.trans B)
    rw [B] at J;clear B;go_wp2_with fail;clear l;go_roundw
    case rel=>exact ⟨q+1,j,by omega,by omega,V,by go_num,rfl,z.o HK.o,F.o,Q.o,N.o⟩
    case measure=>simp [intOf];omega
   have HK:=Hy (T.symm.trans B)
   rw [B] at J;clear B;go_wp2_with fail;clear l;go_roundw
   case rel=>exact ⟨i,q,U,q1,by omega,rfl,rfl,H.o,Af.o HK.o,Q.o,N.o⟩
   case measure=>simp [intOf];omega
  obtain rfl:i=j:=by omega
  have Ad:=Hy (by rw [HM.o];exact Qa3 Qd I.o U V H.o F.o:Srt kless (shD D m i) a b);have Ae:=Hy (by have:=Zaw (m:=m) (lo:=a) (hi:=b) D Ai (m - i) (by omega);rwa [show m - (m - i)=i by omega] at this:Seg a b D (shD D m i));have P:=Hy (by rw [yag];exact A.o:HI wr g n (shD D m m) sp);clear H F A;go_wp2_with fail;go_loopw [17] (fun M l=>S2S w g n m i D sp M l) (fun M _=>(intOf M).toNat)
  case atStart=>exact ⟨m,by omega,by omega,rfl,P.o,E.o⟩
  case round=>
   clear P E;obtain ⟨k,A4,Ag,rfl,A,E⟩:=hrel
   by_cases A5:i < k
   ·have ⟨p,hp⟩:=gn (k - 1)
    have wp:IntKind.i64.wrap ((k:Int) - 1)=(p:Int):=by rw [IntWalk.i64_in _ (by omega)];omega
    have R:=Hy (by rw [<- hp];exact zag D m k Ag (by omega):swF (shD D m k) k p=shD D m p);generalize shD D m k=G at *;have r:=A.c0 (k:=k) (by omega);have s:=A.c1 (k:=k) (by omega);have t:=A.c0 (k:=p) (by omega);have v:=A.c1 (k:=p) (by omega);have Aq:k < n:=by omega
    have Au:(0:Int)<=(k:Int):=by omega
    have Ay:(k:Int) < (n:Int):=by omega
    have As:p < n:=by omega
    have Aw:(0:Int)<=(p:Int):=by omega
    have A0:(p:Int) < (n:Int):=by omega
    have n1:k * 2≠p * 2:=by omega
    have n2:k * 2+1≠p * 2+1:=by omega
    have n3:k * 2≠p * 2+1:=by omega
    have n4:k * 2+1≠p * 2:=by omega
    have HX:=Hy (by rw [<- R.o];exact A.swap (by omega) (by omega) (by omega):HI (swW wr g k p (G k) (G p)) g n (shD D m p) sp);have Aa:=Hy (E.trans (XL wr g k p (G k) (G p)) (fun _ h _=>h));have fz:∀ k,wr.frozen? ⟨g,k,none⟩=false:=fun k=>Blk.frozen A.o k;have Aj:i<=p:=by omega
    have Ak:p<=m:=by omega
    have A7:p < k:=by omega
    clear hp R A E;generalize G k=x at *;generalize G p=y at *;go_wp2_with fail;go_region
    all_goals
     go_wp2_with fail;clear wp;go_roundw
     case rel=>exact ⟨p,Aj,Ak,rfl,HX.o,Aa.drew⟩
     case measure=>simp [intOf];omega
   obtain rfl:k=i:=by omega
   go_wp2_with fail;go_end0;exact ⟨rfl,shD D m k,A.o,E.o,Ae.o,Ad.o⟩
end Go.Proofs.YtinkbgeckjbnbaaGreat
