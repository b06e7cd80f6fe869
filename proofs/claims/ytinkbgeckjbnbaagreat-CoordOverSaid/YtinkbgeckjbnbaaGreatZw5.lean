/- Lemmas (part 5). -/
import Derived.Test.YtinkbgeckjbnbaaGreatZw4
namespace Go.Proofs.YtinkbgeckjbnbaaGreat
open Go.RowKit Go.Proofs.Tryz
set_option autoImplicit true
set_option relaxedAutoImplicit true
set_option linter.unusedVariables false
set_option linter.unusedSimpArgs false
set_option maxRecDepth 100000
set_option maxHeartbeats 32000000
theorem Yd (a b:List Int):ints (a++b)=ints a++ints b:=by simp [ints]
def has {α:Type} [DecidableEq α] (l:List α) (v:α):Bool:=decide (v∈l)
theorem xaM {α:Type} [DecidableEq α] {l:List α} {v:α} (h:v∈l):has l v=true:=by unfold has;simpa using h
theorem xV {α:Type} [DecidableEq α] {l:List α} {v:α}:has l v=false↔v∉l:=by unfold has;simp
def IxOK (r:Int) (b:Bool):Prop:=(b=true->0<=r)/\(b=false->r < 0)
def shardsC (c:CfgM):Int:=if mayC c=true then (c.cuts.length:Int)+1 else 0
theorem Zf {c:CfgM} (h:mayC c=true):c.cuts.length<=5/\1<=c.wk/\c.wk<=5/\1<=c.cp/\c.cp<=3/\c.cp<=c.wk/\1<=c.sl/\c.sl<=4/\1<=c.ca/\c.ca<=50/\0<=c.ji/\c.ji<=10:=by
 unfold mayC at h;simp only [Bool.and_eq_true,decide_eq_true_eq] at h;obtain ⟨⟨_,A⟩,⟨B,C⟩,D⟩:=h
 have E:c.cuts.length<=5:=by
  unfold goodE at A;split at A
  ·omega
  ·omega
 unfold nodesC inB at B;unfold sizesC inB at C;unfold timesC inB at D;simp only [Bool.and_eq_true,decide_eq_true_eq] at B C D;omega
theorem yd {c:CfgM} (h:mayC c=true):shardsC c=(c.cuts.length:Int)+1:=by unfold shardsC;rw [if_pos h]
theorem Xv {c:CfgM} (h:mayC c=false):shardsC c=0:=by unfold shardsC;rw [if_neg (by simp [h])]
theorem xe (c:CfgM):0<=shardsC c/\shardsC c<=6:=by
 cases h:mayC c
 ·rw [Xv h];omega
 rw [yd h];have:=(Zf h).1;omega
theorem XB (c:CfgM) (w:World) (hr:CfgOK w c):
  Calls prog 21 #[c.val] w fun e w'=>e=.returned (.int .i64 (shardsC c))/\Below w.heap.size w w':=by
 have P:=Hy hr;clear hr;have ⟨m,K⟩:=gn (mayC c);have ⟨n,L⟩:=gn c.cuts.length;have N:=Hy L;have M:=Hy (by rw [<- L];exact P.rk.1.symm:c.nc=n);clear L;have B:=Zf (c:=c);rw [K,N.o] at B;have G:=Hy K;clear K;have ⟨R,I⟩:=gn (shardsC c);rw [I];have E:=Hy I;clear I;unfold CfgM.val;rw [M.o];go_in;go_wp2_with fail;have F:=Hy (show Blk (w.alloc (.cells #[.slice c.aw c.nw c.cw,.slice c.ac n c.cc,c.wk,c.cp,c.sl,c.ba,c.le,c.he,c.fi,c.ca,c.ji,c.ne] 25)) w.heap.size 25 [.slice c.aw c.nw c.cw,.slice c.ac n c.cc,c.wk,c.cp,c.sl,c.ba,c.le,c.he,c.fi,c.ca,c.ji,c.ne] from hn_ w _)
 have HB:=Hy ((bf _ w).alloc (nl _) (.cells #[.slice c.aw c.nw c.cw,.slice c.ac n c.cc,c.wk,c.cp,c.sl,c.ba,c.le,c.he,c.fi,c.ca,c.ji,c.ne] 25));generalize (w.alloc (.cells #[.slice c.aw c.nw c.cw,.slice c.ac n c.cc,c.wk,c.cp,c.sl,c.ba,c.le,c.he,c.fi,c.ca,c.ji,c.ne] 25))=W at *;obtain ⟨T,U,V,c3,Y,Z,a,b,c8,d,H,c11⟩:=c12 F.o;have A:=Hy (Q1 c W (P.below HB.o rfl))
 unfold CfgM.val at A;rw [M.o] at A;refine A.mono ?_;rintro e Q ⟨rfl,J⟩;have C:=Hy (HB.trans (J.mono HB.size));have D:=Hy (F.below J F.lt);clear J HB F;have g:Q.cell? ⟨w.heap.size,1,none⟩=some (.slice c.ac n c.cc):=D.cell 1;clear D T U V c3 Y Z a b c8 d H c11 A;rw [G.o];cases m
 ·clear B
  obtain rfl:R=0:=by rw [<- E.o];exact Xv G.o
  go_wp2_with fail;go_ret;exact ⟨rfl,C.o⟩
 have f:=(B rfl).1
 obtain rfl:R=(n:Int)+1:=by rw [<- E.o,yd G.o,N.o]
 clear B;go_wp2_with fail;go_ret;exact ⟨rfl,C.o⟩
theorem QaA (a:Option Addr) (n cap:Nat) (l:List Int) (v:Int) (w:World) (hr:Rd w a n cap (l.map (.int .i64))):
  Calls prog 161 #[.slice a n cap,v] w fun e w'=>∃ r:Int,e=.returned (.int .i64 r)/\IxOK r (has l v)/\w=w':=by
 have K:=hr.1;rw [List.length_map] at K;have E:=hr.2.2.1;have J:=hr.2.1;unfold maxLen at E;subst K;have L:=Hy hr;clear hr;go_in;go_wp2_with fail;go_loop [8] (fun i=>∃ k:Nat,i=.int .i64 k/\k<=l.length/\Hid (has (l.take k) v=false)) (fun i=>l.length - (intOf i).toNat)
 case atStart=>exact ⟨0,rfl,by omega,by simp [Hid,has]⟩
 case round=>
  obtain ⟨k,rfl,N,G⟩:=hrel
  by_cases B:k < l.length
  ·obtain ⟨x,F⟩:∃ x,l[k]?=some x:=⟨l[k],le_ B⟩
   obtain ⟨b,off,rfl,P,I⟩:=L.2.2.2.2 k B;rw [List.getElem?_map,F] at I;simp only [Option.map_some] at I;have H:=Hy F;clear F
   by_cases A:v=x
   ·have D:=Hy (show has l v=true from xaM (by rw [A];exact List.mem_iff_getElem?.2 ⟨k,H.o⟩))
    have M:(v == x)=true:=by simpa using A
    clear A;go_wp2_with fail;go_ret;exact ⟨k,rfl,⟨fun _=>by omega,fun h=>by rw [D.out] at h;exact absurd h (by decide)⟩,rfl⟩
   have D:=Hy (show has (l.take (k+1)) v=false from by
    have:=xV.1 G.o;rw [xV,List.take_add_one,H.o];simp only [Option.toList_some,List.mem_append,List.mem_singleton];intro C;rcases C with C | C
    ·exact this C
    ·exact A C)
   have M:(v == x)=false:=by simpa using A
   clear A;go_wp2_with fail;go_round
   case rel=>exact ⟨k+1,by go_num,by omega,D.out⟩
   case measure=>simp [intOf];omega
  obtain rfl:k=l.length:=by omega
  have D:=Hy (by have:=G.o;rwa [List.take_length] at this:has l v=false);go_wp2_with fail;go_ret;exact ⟨-1,rfl,⟨fun h=>by rw [D.out] at h;exact absurd h (by decide),fun _=>by omega⟩,rfl⟩
theorem xD (a:Option Addr) (n cap:Nat) (l:List Int) (v:Int) (w:World) (hr:Rd w a n cap (l.map (.int .i64))):
  Calls prog 106 #[.slice a n cap,v] w fun e w'=>e=.returned (.bool (has l v))/\w=w':=by
 have B:=Hy (QaA a n cap l v w hr);clear hr;have ⟨R,C⟩:=gn (has l v);rw [C] at B ⊢;clear C;go_in;go_wp2_with fail;refine B.mono ?_;rintro e w' ⟨r,rfl,hd,rfl⟩;cases R
 ·have A:r < 0:=hd.2 rfl
  have D:decide (0<=r)=false:=by simpa using A
  go_wp2_with fail;go_ret;exact ⟨by congr 2,rfl⟩
 have A:0<=r:=hd.1 rfl
 have D:decide (0<=r)=true:=by simpa using A
 go_wp2_with fail;go_ret;exact ⟨by congr 2,rfl⟩
def copiesC (c:CfgM) (s:Int):List Int:=if inB s 0 (shardsC c - 1)=true then (List.range c.cp.toNat).map (fun j:Nat=>1+(s+(j:Int)) % c.wk) else []
theorem xA {c:CfgM} {s:Int} (h:inB s 0 (shardsC c - 1)=false):copiesC c s=[]:=by unfold copiesC;rw [if_neg (by simp [h])]
theorem Yf {c:CfgM} {s:Int} (h:inB s 0 (shardsC c - 1)=true):copiesC c s=(List.range c.cp.toNat).map (fun j:Nat=>1+(s+(j:Int)) % c.wk):=by unfold copiesC;rw [if_pos h]
theorem ZaX {c:CfgM} {s:Int} (h:inB s 0 (shardsC c - 1)=true):mayC c=true/\0<=s/\s<=5:=by
 unfold inB at h;simp only [Bool.and_eq_true,decide_eq_true_eq] at h;cases A:mayC c
 ·rw [Xv A] at h;omega
 have:=(Zf A).1
 rw [yd A] at h;exact ⟨rfl,by omega,by omega⟩
def CpR (w:World) (c:CfgM) (s:Int) (n:Nat) (v5 v15:Value) (wr:World):Prop:=∃ (k:Nat) (ao:Option Addr) (c2:Nat),k<=n/\v15=.int .i64 k/\v5=.slice ao k c2/\Hid (wr.ownsRow w.heap.size 3 1 (.slice ao k c2) k (ints ((List.range k).map (fun j:Nat=>1+(s+(j:Int)) % c.wk))))/\Hid (Below w.heap.size w wr)
theorem QN (c:CfgM) (s:Int) (w:World) (hr:CfgOK w c):
  Calls prog 22 #[c.val,s] w fun e w'=>∃ T n cap,e=.returned (.slice T n cap)/\w'.ownsRow w.heap.size 3 1 (.slice T n cap) n (ints (copiesC c s))/\Below w.heap.size w w':=by
 obtain ⟨i0,hi,Aa,Ab,Ac⟩:=info_parts Xc;clear hi Aa Ab Ac;have HR:=Hy hr;clear hr;have ⟨R,F⟩:=gn (copiesC c s);rw [F];have I:=Hy F;clear F;unfold CfgM.val;go_in;go_wp2_with fail;have Z:=Hy (show Blk (w.alloc (.cells #[.slice c.aw c.nw c.cw,.slice c.ac c.nc c.cc,c.wk,c.cp,c.sl,c.ba,c.le,c.he,c.fi,c.ca,c.ji,c.ne] 25)) w.heap.size 25 [.slice c.aw c.nw c.cw,.slice c.ac c.nc c.cc,c.wk,c.cp,c.sl,c.ba,c.le,c.he,c.fi,c.ca,c.ji,c.ne] from hn_ w _)
 have HB:=Hy ((bf _ w).alloc (nl _) (.cells #[.slice c.aw c.nw c.cw,.slice c.ac c.nc c.cc,c.wk,c.cp,c.sl,c.ba,c.le,c.he,c.fi,c.ca,c.ji,c.ne] 25));generalize (w.alloc (.cells #[.slice c.aw c.nw c.cw,.slice c.ac c.nc c.cc,c.wk,c.cp,c.sl,c.ba,c.le,c.he,c.fi,c.ca,c.ji,c.ne] 25))=W at *;obtain ⟨c0,c1,q,c3,c4,c5,c6,c7,c8,c9,m,c11⟩:=c12 Z.o;have i:=Hy (XB c W (HR.below HB.o rfl))
 unfold CfgM.val at i;refine i.mono ?_;rintro e a ⟨rfl,U⟩;have D:=Hy (HB.trans (U.mono HB.size));have E:=Hy (Z.below U Z.lt);clear U HB Z;clear c0 c1 q c3 c4 c5 c6 c7 c8 c9 m c11 i;have V:=xe c;have ⟨sh,L⟩:=gn (shardsC c);have J:=Hy L;rw [L] at V ⊢;clear L;obtain ⟨Ar,As⟩:=V;go_wp2_with fail;refine (qe _ _ _ a).mono ?_;rintro e w' ⟨rfl,rfl⟩;rcases Bool.eq_false_or_eq_true (inB s 0 (sh - 1)) with hin | hin;rotate_left
 ·rw [hin]
  obtain rfl:R=[]:=by rw [<- I.o];exact xA (by rw [J.o];exact hin)
  clear hin;go_wp2_with fail;go_ret;exact ⟨none,0,0,rfl,World.ownsRow_nil _ _ _ _,D.o⟩
 rw [hin];have A:inB s 0 (shardsC c - 1)=true:=by rw [J.o];exact hin
 have F:=Yf A;rw [I.o] at F;obtain ⟨H,Ax,Ay⟩:=ZaX A;obtain ⟨m1,m2,m3,m4,m5,m6,-⟩:=Zf H;obtain ⟨n,y⟩:=Int.eq_ofNat_of_zero_le (show 0<=c.cp by omega);rw [y] at F m4 m5 m6;rw [Int.toNat_natCast] at F;have ⟨wk,G⟩:=gn c.wk;have q:a.cell? ⟨w.heap.size,2,none⟩=some (.int .i64 wk):=by rw [<- G];exact E.cell 2
 have c3:a.cell? ⟨w.heap.size,3,none⟩=some (.int .i64 n):=by rw [<- show c.cp=(n:Int) from y];exact E.cell 3
 have Q:=Hy G;rw [G] at m2 m3;have P:=Hy F;have HG:=Hy E.lt;clear hin A H y G F m1 E I J HR;go_wp2_with fail;go_loopw [5,15] (fun v5 Ad wr=>CpR a c s n v5 Ad wr) (fun _ v _=>n - (intOf v).toNat)
 case atStart=>exact ⟨0,none,0,nz _,rfl,rfl,World.ownsRow_nil _ _ _ _,bf _ _⟩
 case round=>
  obtain ⟨k,T,cap,At,rfl,rfl,M,HB⟩:=hrel
  by_cases Au:k < n
  ·have d2:=(HB.cell (p:=⟨w.heap.size,2,none⟩) HG.o).trans q
   have ⟨r,z⟩:=gn ((s+(k:Int)).tmod wk);have K:(s+(k:Int)) % wk=r:=by rw [<- z,Int.tmod_eq_emod_of_nonneg (by omega)]
   have Av:0<=r:=by rw [<- K];exact Int.emod_nonneg _ (by omega)
   have Aw:r < 5:=by have:=Int.emod_lt_of_pos (s+(k:Int)) (show 0 < wk by omega);omega
   have h:=Hy K;have A1:k+1<=maxLen:=by unfold maxLen;omega
   have A2:(k+1) * 8<=140737488355328:=by omega
   have hz:=HB.size;clear K;go_wp2_with (at_builtin;refine wa Xc underlying26 (M.alloc _) (Src.one' underlying26 wr _ 3 rfl) A1 A2 (by simp;omega) ?_;intro l t w5 C Y;have N:=Hy C;have d:=Hy ((HB.alloc hz _).grown Y (by simp;omega) (fun b U=>(M.lt b U).1));clear C Y);go_roundw
   case rel=>exact ⟨k+1,l,t,by omega,by go_num,rfl,(by unfold Hid;rw [List.range_succ,List.map_append,Yd,List.map_cons,List.map_nil,Q.o,h.o];rw [Q.o] at N;exact N.o),d.o⟩
   case measure=>simp [intOf];omega
  obtain rfl:k=n:=by omega
  have B:wr.ownsRow w.heap.size 3 1 (.slice T k cap) k (ints ((List.range k).map (fun j:Nat=>1+(s+(j:Int)) % c.wk))):=⟨M.1,M.2.imp id (fun ⟨g,cap,u,h1,h2,h3⟩=>⟨g,cap,u,h1,nr D.size h2,h3⟩)⟩;rw [<- P.o] at B;have f:=Hy B;clear B M P;go_wp2_with fail;go_ret;exact ⟨T,k,cap,rfl,f.o,D.trans (HB.mono D.size)⟩
theorem zak (c:CfgM) (s:Int) (w:World) (hr:CfgOK w c):
  Calls prog 22 #[c.val,s] w fun e w'=>∃ A n cap,e=.returned (.slice A n cap)/\Rd w' A n cap (ints (copiesC c s))/\Below w.heap.size w w':=
 (QN c s w hr).mono fun e w' ⟨A,n,cap,h1,B,C⟩=>⟨A,n,cap,h1,Yc B,C⟩
theorem qt {v:Value} (h:Calls P f args w fun e w'=>e=.returned v/\w=w'):Calls P f args w fun e w'=>e=.returned v/\w'=w:=
 h.mono fun e w' A=>⟨A.1,A.2.symm⟩
def clipI (x:Int):Int:=min (max x 0) 1000
theorem yN (x:Int) (w:World):Calls prog 67 #[x] w fun e w'=>e=.returned (.int .i64 (clipI x))/\w=w':=by
 have ⟨R,A⟩:=gn (clipI x);rw [A];have ⟨p,B⟩:=gn (if x < 0 then 0 else x);have C:(if 1000 < p then 1000 else p)=R:=by rw [<- A,<- B];unfold clipI;split <;> split <;> omega
 clear A;go_in;go_wp2;go_ret;exact ⟨rfl,rfl⟩
theorem zj (x:Int):0<=clipI x/\clipI x<=1000:=by unfold clipI;omega
theorem zq (x:Int) (h1: -9223372036854775808<=x) (h2:x<=9223372036854775807):IntKind.i64.wrap x=x:=by
 simp only [IntKind.wrap,IntKind.bits,IntKind.signed];simp;omega
theorem qaN:(Tryz.prog.info? 107).map (fun i=>(i.zero,i.size,i.bytes))=some (some (.agg #[(),.string ⟨#[]⟩]),2,24):=by kernel_rfl
def tryN (t:Int):Nat:=(min (max t 0) 6).toNat
def tryI (t:Int):Int:=min (min (max t 0) 6+1) 6
theorem qa4 (t:Int) (w:World):Calls prog 120 #[t] w fun e w'=>e=.returned (.int .i64 (tryI t))/\w=w':=by
 have ⟨R,B⟩:=gn (tryI t);rw [B];have ⟨p,D⟩:=gn (if t < 0 then 0 else t);have E:(if 6 < p then 6 else p)=min (max t 0) 6:=by rw [<- D];split <;> split <;> omega
 have ⟨q,A⟩:=gn (min (max t 0) 6);rw [A] at E;have C:0<=q/\q<=6:=by omega
 have H:(if 6 < q+1 then 6 else q+1)=R:=by rw [<- B];unfold tryI;rw [A];split <;> omega
 obtain ⟨F,G⟩:=C;clear B A;go_in;go_wp2;go_ret;exact ⟨rfl,rfl⟩
def waitN (f c:Int):Nat->Int
 | 0=>f
 | r+1=>min (2 * waitN f c r) c
theorem Xah {f c:Int} (h1:0<=f) (h2:f<=1000) (h3:0<=c) (h4:c<=1000) (r:Nat):0<=waitN f c r/\waitN f c r<=1000:=by
 induction r with
 | zero=>exact ⟨h1,h2⟩
 | succ r A=>unfold waitN;omega
def waitC (c:CfgM) (t d:Int):Int:=min (waitN (clipI c.fi) (clipI c.ca) (tryN t)) (clipI c.ca)+lowI d (clipI c.ji+1)
theorem qai (c:CfgM) (t d:Int) (w:World):
  Calls prog 123 #[c.val,t,d] w fun e w'=>e=.returned (.int .i64 (waitC c t d))/\Below w.heap.size w w':=by
 unfold CfgM.val;have ⟨R,A⟩:=gn (waitC c t d);rw [A];unfold waitC at A;have D:=Hy (fun w=>qt (yN c.fi w));have B:=Hy (fun w=>qt (yN c.ca w));have E:=Hy (fun w=>qt (yN c.ji w));have P:=zj c.fi;have Q:=zj c.ca;have b2:=zj c.ji;have ⟨F,T⟩:=gn (clipI c.fi);have ⟨p,U⟩:=gn (clipI c.ca);have ⟨q,V⟩:=gn (clipI c.ji);rw [T] at A P D;rw [U] at A Q B;rw [V] at A b2 E;obtain ⟨a,b⟩:=Q;obtain ⟨n,s⟩:=b2;obtain ⟨f,g⟩:=P;clear T U V;have I:=Hy (fun r=>Xah f g a b r)
 have ⟨Y,L⟩:=gn (if t < 0 then 0 else t);have M:(if 6 < Y then 6 else Y)=((tryN t:Nat):Int):=by rw [<- L];unfold tryN;split <;> split <;> omega
 have ⟨N,J⟩:=gn (tryN t);have j:N<=6:=by rw [<- J];unfold tryN;omega
 rw [J] at M A;clear J;have H:=Hy A;clear A;go_in;have G:=Hy (show Blk (w.alloc (.cells #[.slice c.aw c.nw c.cw,.slice c.ac c.nc c.cc,c.wk,c.cp,c.sl,c.ba,c.le,c.he,c.fi,c.ca,c.ji,c.ne] 25)) w.heap.size 25 [.slice c.aw c.nw c.cw,.slice c.ac c.nc c.cc,c.wk,c.cp,c.sl,c.ba,c.le,c.he,c.fi,c.ca,c.ji,c.ne] from hn_ w _);have HB:=Hy ((bf _ w).alloc (nl _) (.cells #[.slice c.aw c.nw c.cw,.slice c.ac c.nc c.cc,c.wk,c.cp,c.sl,c.ba,c.le,c.he,c.fi,c.ca,c.ji,c.ne] 25))
 have ⟨W,K⟩:=gn (w.alloc (.cells #[.slice c.aw c.nw c.cw,.slice c.ac c.nc c.cc,c.wk,c.cp,c.sl,c.ba,c.le,c.he,c.fi,c.ca,c.ji,c.ne] 25));rw [K] at G HB;have c8:W.cell? ⟨w.heap.size,8,none⟩=some (.int .i64 c.fi):=G.cell 8;have u:W.cell? ⟨w.heap.size,9,none⟩=some (.int .i64 c.ca):=G.cell 9;have h:W.cell? ⟨w.heap.size,10,none⟩=some (.int .i64 c.ji):=G.cell 10;clear G;go_wp2_with (rw [K]);clear K;refine (D.o W).mono ?_;rintro e w' ⟨rfl,rfl⟩;go_wp2_with fail;go_loop [7,14] (fun Z C=>∃ k:Nat,k<=N/\Z=.int .i64 (waitN F p k)/\C=.int .i64 k) (fun Z C=>N - (intOf C).toNat)
 case atStart=>exact ⟨0,nz _,rfl,rfl⟩
 case round=>
  obtain ⟨k,l,rfl,rfl⟩:=hrel;obtain ⟨z1,z2⟩:=I.o k
  by_cases m:k < N
  ·have v:(k:Int) < (N:Int):=by omega
   have i:(if p < 2 * waitN F p k then p else 2 * waitN F p k)=waitN F p (k+1):=by show _=min (2 * waitN F p k) p;split <;> omega
   generalize waitN F p k=x at *;go_wp2_with fail;refine (B.o _).mono ?_;rintro e w' ⟨rfl,rfl⟩;go_wp2_with fail;go_round
   case rel=>exact ⟨k+1,by omega,by go_num,by go_num⟩
   case measure=>simp [intOf];omega
  obtain rfl:k=N:=by omega
  have i:(if p < waitN F p k then p else waitN F p k)=min (waitN F p k) p:=by split <;> omega
  generalize waitN F p k=x at *;have y:=Xal d (q+1) (by omega) (by omega);go_wp2_with fail;go_quiet (first | (go_at_call 67;first | exact Calls.quiet_of_same (B.o _) | exact Calls.quiet_of_same (E.o _)));go_wp2_with fail;go_ret;exact ⟨X3 ((IntWalk.wrap64_in _ ⟨by have:=zh d (q+1) (by omega);omega,by have:=zh d (q+1) (by omega);omega⟩).trans H.o),below_drewN HB.o _⟩
theorem zG (c:CfgM) (t d:Int):0<=waitC c t d/\waitC c t d<=2001:=by
 have A:=zj c.fi;have B:=zj c.ca;have b2:=zj c.ji;have C:=zh d (clipI c.ji+1) (by omega);have:=Xah A.1 A.2 B.1 B.2 (tryN t);unfold waitC;omega
theorem Xx (a b:Int) (w:World) (h1:0<=a) (h2:a<=1000) (h3:0<=b) (h4:b<=1000):Calls prog 112 #[a,b] w fun e w'=>e=.returned (.int .i64 (6 * a+b))/\w=w':=by
 go_in;go_wp2;go_ret;exact ⟨rfl,rfl⟩
theorem Xaj (w:World) (ao:Option Addr) (n c:Nat) (l:List KeyL) (h:RdE KeyL.cells 2 w ao n c l) (hn:n<=1000):
  Calls prog 57 #[.slice ao n c] w fun e w'=>∃ ao' c',e=.returned (.slice ao' n c')/\w'.ownsRow w.heap.size 107 2 (.slice ao' n c') n (l.flatMap KeyL.cells)/\Below w.heap.size w w':=by
 obtain ⟨P,hi,H,I,J⟩:=info_parts qaN;clear hi H I J;have G:=h.1;cases ao with
 | none=>
  obtain ⟨rfl,rfl⟩:=h.nil0 rfl;obtain rfl:l=[]:=List.eq_nil_of_length_eq_zero G;clear h G;have N:∀ W,(binOp .eql 23 (.slice none 0 0) (.slice none 0 0)).run prog W=.ok (.bool true) W:=fun W=>by kernel_rfl
  go_in;go_wp2_with fail;go_ret;exact ⟨none,0,rfl,World.ownsRow_nil _ _ _ _,bf _ _⟩
 | some a=>
  have L:=Hy (show Src prog 2 23 (.slice (some a) n c) n (l.flatMap KeyL.cells) (w.alloc (.cells #[] 107)) from Src.ofRdE (enc:=KeyL.cells) (size:=2) underlying23 (fun _=>rfl) itemOne (h.below ((bf w.heap.size w).alloc (nl _) _) rfl))
  have K:=Hy (show (w.alloc (.cells #[] 107)).ownsRow w.heap.size 107 2 (.slice (some ⟨w.heap.size,0,none⟩) 0 0) 0 [] from
   ⟨rfl,.inr ⟨w.heap.size,0,#[],rfl,nl _,hn_ w _,nl _,nz _,rfl,rfl⟩⟩)
  clear h G;have N:∀ W,(binOp .eql 23 (.slice (some a) n c) (.slice none 0 0)).run prog W=.ok (.bool false) W:=fun W=>by kernel_rfl
  go_in;go_wp2_with (at_builtin;refine wa qaN underlying23 K.o L.o (by unfold maxLen;omega) (by omega) (by simp) ?_;intro E M Q A B;rw [Nat.zero_add,List.nil_append] at A;have D:=Hy A;have C:=Hy (((bf _ w).alloc (nl _) (.cells #[] 107)).grown B (by simp) (fun k F=>by simp only [Value.ownBlock,Option.some.injEq] at F;omega));clear A B);go_ret;exact ⟨E,M,rfl,D.o,C.o⟩
structure PS where
 least:Int
 seq:Int
 ended:Bool
 heard:Bool
 last:KeyL
 waits:List KeyL
def PS.wanted (s:PS):Bool:=!s.ended&&decide (s.waits.length=0)
def PS.might (s:PS) (x:KeyL):Bool:=if s.wanted=false then false else if s.heard=true then kless s.last x else decide (s.least<=x.1)
def PS.open_ (s:PS):Bool:=!s.ended||decide (0 < s.waits.length)
def doneP (n:Int) (S:List PS) (T:List KeyL):Bool:=decide ((T.length:Int)=n)||!(S.any PS.open_)
def headP (s:PS):KeyL:=s.waits.headD (0,⟨#[]⟩)
def aheadP (S:List PS):Nat->Option Nat
 | 0=>none
 | i+1=>match S[i]?,aheadP S i with
  | none,r=>r
  | some s,none=>if s.waits.length=0 then none else some i
  | some s,some b=>if s.waits.length=0 then some b else match S[b]? with
   | none=>some b
   | some t=>if kless (headP s) (headP t)=true then some i else some b
def wantK (S:List PS) (k:Nat):List Int:=((List.range k).filter fun i=>match S[i]? with | some s=>s.wanted | none=>false).map fun i:Nat=>(i:Int)
def wantsP (n:Int) (S:List PS) (T:List KeyL):List Int:=if doneP n S T=true then [] else wantK S S.length
structure MS where
 least:Int
 seq:Int
 ended:Bool
 heard:Bool
 last:KeyL
 wa:Option Addr
 wn:Nat
 wc:Nat
def MS.cells (s:MS):List Value:=[.int .i64 s.least,.int .i64 s.seq,.bool s.ended,.bool s.heard,.int .i64 s.last.1,.string s.last.2,.slice s.wa s.wn s.wc]
theorem MS.clen (s:MS):s.cells.length=7:=rfl
structure ShOK (B:Nat) (W:World) (toV:Option Nat) (m:MS) (s:PS):Prop where
 least:m.least=s.least
 seq:m.seq=s.seq
 ended:m.ended=s.ended
 heard:m.heard=s.heard
 last:m.last=s.last
 waits:RdE KeyL.cells 2 W m.wa m.wn m.wc s.waits
 base:∀ b o sp,m.wa=some ⟨b,o,sp⟩->B<=b
 apart:∀ b o sp,m.wa=some ⟨b,o,sp⟩->toV≠some b
 small:s.waits.length<=5
 ty:∀ b o sp,m.wa=some ⟨b,o,sp⟩->∃ cs,Blk W b 46 cs
theorem ShOK.wlen {toV:Option Nat} {m:MS} {s:PS} (h:ShOK B W toV m s):m.wn=s.waits.length:=h.waits.1.symm
def MG (B:Nat) (W:World) (p:Nat) (n:Int) (S:List PS) (T:List KeyL):Prop:=
 ∃ (gs c:Nat) (M:List MS) (sp:List Value) (ta:Option Addr) (tc:Nat),
  Blk W p 233 [n,.slice (some ⟨gs,0,none⟩) S.length c,.slice ta T.length tc]/\Blk W gs 235 (M.flatMap MS.cells++sp)/\S.length<=c/\c<=maxLen∧
  W.ownsRow B 46 2 (.slice ta T.length tc) T.length (T.flatMap KeyL.cells)/\M.length=S.length/\(∀ (i:Nat) (m:MS) (s:PS),M[i]?=some m->S[i]?=some s->ShOK B W (Value.slice ta T.length tc).ownBlock m s)/\B<=p/\B<=gs/\S.length<=6/\T.length<=10/\1<=n/\n<=10
theorem RdE.frm {α:Type} {enc:α->List Value} {size:Nat} {S:Nat->Prop} {w w':World} {a:Option Addr} {n c:Nat} {l:List α} (h:RdE enc size w a n c l) (hf:Frm S w w') (hs:∀ b o sp,a=some ⟨b,o,sp⟩->¬ S b):RdE enc size w' a n c l:=by
 obtain ⟨h1,B,C,D,E⟩:=h;refine ⟨h1,B,C,D,fun i x H=>?_⟩;obtain ⟨b,off,e,A,F⟩:=E i x H;exact ⟨b,off,e,nt A hf.size,fun j G=>by rw [World.cell?_of_block (w:=w) (hf.block b A (hs b off none e))];exact F j G⟩
theorem ShOK.frm {S:Nat->Prop} {toV:Option Nat} {m:MS} {s:PS} (h:ShOK B W toV m s) (hf:Frm S W W') (hs:∀ b o sp,m.wa=some ⟨b,o,sp⟩->¬ S b):ShOK B W' toV m s:=
 ⟨h.least,h.seq,h.ended,h.heard,h.last,h.waits.frm hf hs,h.base,h.apart,h.small,fun b o sp e=>by
  obtain ⟨cs,A⟩:=h.ty b o sp e
  exact ⟨cs,A.frm hf (hs b o sp e)⟩⟩
theorem MG.frm {n:Int} {S:List PS} {T:List KeyL} (h:MG B W p n S T) (hf:Frm X W W') (hx:∀ k,X k->B<=k->∃ t cs,Blk W k t cs/\t≠233/\t≠235/\t≠46):MG B W' p n S T:=by
 obtain ⟨L,c,M,sp,ta,tc,h1,N,U,V,H,Y,h7,P,Q,G⟩:=h;refine ⟨L,c,M,sp,ta,tc,h1.frm hf (fun e=>?_),N.frm hf (fun e=>?_),U,V,za H hf (fun k C e=>?_),Y,fun i m s J K=>(h7 i m s J K).frm hf (fun b o sp e Z=>?_),P,Q,G⟩
 ·obtain ⟨t,cs,A,E,F,D⟩:=hx p e P
  exact Qe A h1 E rfl
 ·obtain ⟨t,cs,A,E,F,D⟩:=hx L e Q
  exact Qe A N F rfl
 ·obtain ⟨t,cs,A,E,F,D⟩:=hx k e (H.lt k C).1
  exact Qb H A D k C rfl
 obtain ⟨t,cs,A,E,F,D⟩:=hx b Z ((h7 i m s J K).base b o sp e)
 obtain ⟨R,I⟩:=(h7 i m s J K).ty b o sp e;exact Qe A I D rfl
theorem MG.below {n:Int} {S:List PS} {T:List KeyL} (h:MG B W p n S T) (hb:Below W.heap.size W W'):MG B W' p n S T:=
 h.frm (Frm.below (S:=fun _=>False) hb) (fun _ h=>h.elim)
def ShAt (W:World) (g o:Nat) (m:MS):Prop:=∀ j v,m.cells[j]?=some v->W.cell? ⟨g,o+j,none⟩=some v
theorem ShAt.of_row {M:List MS} {sp:List Value} (h:Blk W g 235 (M.flatMap MS.cells++sp)) {i:Nat} {m:MS} (hi:M[i]?=some m):ShAt W g (i * 7) m:=by
 intro j v A;have B:j < 7:=(lg A).1;rw [h.cell,qx MS.cells 7 MS.clen M sp i m j hi B,A]
theorem ShAt.c2 {o:Nat} {m:MS} (h:ShAt W g o m):W.cell? ⟨g,o,none⟩=some (.int .i64 m.least)/\W.cell? ⟨g,o+1,none⟩=some (.int .i64 m.seq)/\W.cell? ⟨g,o+2,none⟩=some (.bool m.ended)/\W.cell? ⟨g,o+3,none⟩=some (.bool m.heard)/\W.cell? ⟨g,o+4,none⟩=some (.int .i64 m.last.1)/\W.cell? ⟨g,o+5,none⟩=some (.string m.last.2)/\W.cell? ⟨g,o+6,none⟩=some (.slice m.wa m.wn m.wc):=
 ⟨h 0 _ rfl,h 1 _ rfl,h 2 _ rfl,h 3 _ rfl,h 4 _ rfl,h 5 _ rfl,h 6 _ rfl⟩
theorem MG.read {n:Int} {S:List PS} {T:List KeyL} (h:MG B W p n S T):∃ (A c:Nat) (M:List MS) (ta:Option Addr) (tc:Nat),W.cell? ⟨p,0,none⟩=some (.int .i64 n)/\W.cell? ⟨p,1,none⟩=some (.slice (some ⟨A,0,none⟩) S.length c)/\W.cell? ⟨p,2,none⟩=some (.slice ta T.length tc)/\M.length=S.length/\(∀ (i:Nat) (m:MS),M[i]?=some m->ShAt W A (i * 7) m)/\(∀ (i:Nat) (m:MS) (s:PS),M[i]?=some m->S[i]?=some s->ShOK B W (Value.slice ta T.length tc).ownBlock m s)/\RdE KeyL.cells 2 W ta T.length tc T/\p < W.heap.size/\A < W.heap.size/\S.length<=c:=by
 obtain ⟨A,c,M,sp,ta,tc,h1,C,E,I,F,G,h7,J,K,D⟩:=h;exact ⟨A,c,M,ta,tc,by rw [h1.cell];rfl,by rw [h1.cell];rfl,by rw [h1.cell];rfl,G,fun i m H=>ShAt.of_row C H,h7,Za (enc:=KeyL.cells) (fun _=>rfl) rfl F,h1.lt,C.lt,E⟩
theorem MG.bd {n:Int} {S:List PS} {T:List KeyL} (h:MG B W p n S T):S.length<=6/\T.length<=10/\1<=n/\n<=10:=by
 obtain ⟨C,c,M,sp,ta,tc,h1,D,E,F,G,H,h7,I,J,A⟩:=h;exact A
theorem qaI (g o:Nat) (m:MS) (w:World) (h:ShAt w g o m):Calls prog 115 #[.pointer (some ⟨g,o,none⟩)] w fun e w'=>e=.returned (.bool (!m.ended&&decide (m.wn=0)))/\w=w':=by
 obtain ⟨_,_,B,_,_,_,C⟩:=h.c2;clear h;cases A:m.ended with
 | true=>
  rw [A] at B;clear A;go_in;go_wp2_with fail;go_ret;exact ⟨rfl,rfl⟩
 | false=>
  rw [A] at B;clear A
  by_cases h0:m.wn=0
  ·rw [h0] at C
   rw [decide_eq_true h0];clear h0;go_in;go_wp2_with fail;go_ret;exact ⟨rfl,rfl⟩
  ·rw [decide_eq_false h0]
   have D:((m.wn:Int) == 0)=false:=by rw [beq_eq_false_iff_ne];omega
   clear h0;go_in;go_wp2_with fail;go_ret;exact ⟨rfl,rfl⟩
theorem Z1 (p gs n c:Nat) (i:Int) (w:World) (h:Cl w p 1 (.slice (some ⟨gs,0,none⟩) n c)) (hi:i < 0∨(n:Int)<=i):Calls prog 163 #[.pointer (some ⟨p,0,none⟩),i] w fun e w'=>e=.returned (.pointer none)/\w=w':=by
 have A:∀ W:World,(binOp .eql 133 (.pointer (some ⟨p,0,none⟩)) (.pointer none)).run prog W=.ok (.bool false) W:=fun W=>by kernel_rfl
 by_cases h0:i < 0
 ·clear hi
  go_in;go_wp2_with fail;go_ret;exact ⟨rfl,rfl⟩
 have h1:0<=i:=by omega
 have B:(n:Int)<=i:=by omega
 clear hi h0;go_in;go_wp2_with fail;go_ret;exact ⟨rfl,rfl⟩
theorem xj (p gs n c i:Nat) (w:World) (h:Cl w p 1 (.slice (some ⟨gs,0,none⟩) n c)) (hi:i < n):Calls prog 163 #[.pointer (some ⟨p,0,none⟩),i] w fun e w'=>e=.returned (.pointer (some ⟨gs,i * 7,none⟩))/\w=w':=by
 have A:∀ W:World,(binOp .eql 133 (.pointer (some ⟨p,0,none⟩)) (.pointer none)).run prog W=.ok (.bool false) W:=fun W=>by kernel_rfl
 have h1:(0:Int)<=(i:Int):=by omega
 have B:(i:Int) < (n:Int):=by omega
 go_in;go_wp2_with fail;go_ret;exact ⟨rfl,rfl⟩
theorem ShAt.below {o:Nat} {m:MS} (h:ShAt W g o m) (hb:Below W.heap.size W W') (hg:g < W.heap.size):ShAt W' g o m:=fun j v A=>(hb.cell (p:=⟨g,o+j,none⟩) hg).trans (h j v A)
def MS.wanted (m:MS):Bool:=!m.ended&&decide (m.wn=0)
def MS.might (m:MS) (x:KeyL):Bool:=if m.wanted=false then false else if m.heard=true then kless m.last x else decide (m.least<=x.1)
def MS.open_ (m:MS):Bool:=!m.ended||decide (0 < m.wn)
theorem ShOK.wanted {toV:Option Nat} {m:MS} {s:PS} (h:ShOK B W toV m s):m.wanted=s.wanted:=by unfold MS.wanted PS.wanted;rw [h.ended,h.wlen]
theorem ShOK.might {toV:Option Nat} {m:MS} {s:PS} (h:ShOK B W toV m s) (x:KeyL):m.might x=s.might x:=by unfold MS.might PS.might;rw [h.wanted,h.heard,h.last,h.least]
theorem ShOK.open_ {toV:Option Nat} {m:MS} {s:PS} (h:ShOK B W toV m s):m.open_=s.open_:=by unfold MS.open_ PS.open_;rw [h.ended,h.wlen]
theorem Xd (g o:Nat) (m:MS) (w:World) (h:ShAt w g o m):Calls prog 115 #[.pointer (some ⟨g,o,none⟩)] w fun e w'=>e=.returned (.bool m.wanted)/\w=w':=qaI g o m w h
theorem itless (a b:KeyL) (w:World):Calls prog 88 #[.agg #[a.1,a.2],.agg #[b.1,b.2]] w fun e w'=>e=.returned (.bool (kless a b))/\Below w.heap.size w w':=QO a.1 a.2 b.1 b.2 w
theorem XaB (g o:Nat) (m:MS) (x:KeyL) (w:World) (h:ShAt w g o m) (hg:g < w.heap.size):
  Calls prog 169 #[.pointer (some ⟨g,o,none⟩),.agg #[x.1,x.2]] w fun e w'=>e=.returned (.bool (m.might x))/\Below w.heap.size w w':=by
 have E:Below w.heap.size w (w.alloc (.cells #[x.1,x.2] 46)):=(bf _ _).alloc (nl _) _;have h1:=h.below E hg;have L:Blk (w.alloc (.cells #[x.1,x.2] 46)) w.heap.size 46 [x.1,x.2]:=hn_ w _;have P:=L.cell 0;have Q:=L.cell 1;rw [show ([x.1,x.2]:List Value)[0]?=some (.int .i64 x.1) from rfl] at P;rw [show ([x.1,x.2]:List Value)[1]?=some (.string x.2) from rfl] at Q;have B:=Hy E;have I:=Hy h1;obtain ⟨W,_,_,M,N,T,_⟩:=h1.c2;have U:=Hy (itless m.last x)
 clear h L h1 E;unfold MS.might;cases C:m.wanted with
 | false=>
  rw [if_pos rfl];go_in;go_wp2_with fail;refine (Xd g o m _ I.o).mono ?_;rintro e w' ⟨rfl,rfl⟩;rw [C];clear C;go_wp2_with fail;go_ret;exact ⟨rfl,B.o⟩
 | true=>
  rw [if_neg (by simp)];have D:=Hy C;clear C;cases K:m.heard with
  | true=>
   rw [if_pos rfl];rw [K] at M;clear K;go_in;go_wp2_with fail;refine (Xd g o m _ I.o).mono ?_;rintro e w' ⟨rfl,rfl⟩;rw [D.o];go_wp2_with fail;have G:g < (w.alloc (.cells #[x.1,x.2] 46)).heap.size:=cell?_lt N;have H:w.heap.size < (w.alloc (.cells #[x.1,x.2] 46)).heap.size:=by simp
   generalize w.alloc (.cells #[x.1,x.2] 46)=w1 at *;have A:Hid (Below w1.heap.size w1 w1.drew):=below_drewN (bf _ _) 1;have J:=Hy (And.intro N (And.intro T (And.intro P Q)));clear N T P Q W M;go_region_held3 (fun w'=>Ci w' g (o+4) m.last.1/\Ct w' g (o+5) m.last.2/\Ci w' w.heap.size 0 x.1/\Ct w' w.heap.size 1 x.2) (exact ⟨(A.cell (p:=⟨g,o+4,none⟩) G).trans J.1,(A.cell (p:=⟨g,o+5,none⟩) G).trans J.2.1,(A.cell (p:=⟨w.heap.size,0,none⟩) H).trans J.2.2.1,(A.cell (p:=⟨w.heap.size,1,none⟩) H).trans J.2.2.2⟩) (first | (go_at_call 88;refine (U.o _).mono ?_;rintro e u ⟨rfl,R⟩;have F:=Hy (A.trans (R.mono A.size));clear A;have A:=F;clear F;clear R))
   all_goals
    go_wp2_with fail;go_ret;exact ⟨rfl,B.trans (A.mono B.size)⟩
  | false=>
   rw [if_neg (by simp)];rw [K] at M;clear K;cases hd:decide (m.least<=x.1) with
   | true=>
    have V:m.least<=x.1:=by simpa using hd
    go_in;go_wp2_with fail;refine (Xd g o m _ I.o).mono ?_;rintro e w' ⟨rfl,rfl⟩;rw [D.o];go_wp2_with fail;go_quiet (fail);go_wp2_with fail;go_ret;exact ⟨rfl,below_drewN B.o _⟩
   | false=>
    have V:x.1 < m.least:=by simpa using hd
    go_in;go_wp2_with fail;refine (Xd g o m _ I.o).mono ?_;rintro e w' ⟨rfl,rfl⟩;rw [D.o];go_wp2_with fail;go_quiet (fail);go_wp2_with fail;go_ret;exact ⟨rfl,below_drewN B.o _⟩
theorem zaz (m:MS) (w:World):Calls prog 170 #[(.agg #[m.least,m.seq,.bool m.ended,.bool m.heard,m.last.1,m.last.2,.slice m.wa m.wn m.wc])] w fun e w'=>e=.returned (.bool m.open_)/\Below w.heap.size w w':=by
 unfold MS.open_;cases B:m.ended with
 | false=>
  go_in;go_wp2_with fail;go_ret;exact ⟨rfl,(bf _ _).alloc (nl _) _⟩
 | true=>
  by_cases h0:0 < m.wn
  ·rw [decide_eq_true h0]
   have A:(0:Int) < (m.wn:Int):=by omega
   go_in;go_wp2_with fail;go_ret;exact ⟨rfl,(bf _ _).alloc (nl _) _⟩
  ·have h1:m.wn=0:=by omega
   rw [h1,decide_eq_false (by omega)];clear h0 h1;go_in;go_wp2_with fail;go_ret;exact ⟨rfl,(bf _ _).alloc (nl _) _⟩
def TlAt (w:World) (b g o:Nat) (x:KeyL):Prop:=∃ (wb wo k c:Nat),w.cell? ⟨b,0,none⟩=some (.pointer (some ⟨g,o,none⟩))/\w.cell? ⟨g,o+6,none⟩=some (.slice (some ⟨wb,wo,none⟩) (k+1:Nat) c)/\w.cell? ⟨wb,wo,none⟩=some (.int .i64 x.1)/\w.cell? ⟨wb,wo+1,none⟩=some (.string x.2)
theorem TlAt.below {o:Nat} {x:KeyL} (h:TlAt w b g o x) (hb:Below w.heap.size w w'):TlAt w' b g o x:=by
 obtain ⟨A,B,k,c,h1,C,D,E⟩:=h;exact ⟨A,B,k,c,(hb.cell (p:=⟨b,0,none⟩) (cell?_lt h1)).trans h1,(hb.cell (p:=⟨g,o+6,none⟩) (cell?_lt C)).trans C,(hb.cell (p:=⟨A,B,none⟩) (cell?_lt D)).trans D,(hb.cell (p:=⟨A,B+1,none⟩) (cell?_lt E)).trans E⟩
theorem xaH (m:MS) (b g o:Nat) (x:KeyL) (w:World) (h:TlAt w b g o x):Calls prog 168 #[(.agg #[m.least,m.seq,.bool m.ended,.bool m.heard,m.last.1,m.last.2,.slice m.wa m.wn m.wc]),.pointer (some ⟨b,0,none⟩)] w fun e w'=>e=.returned (.bool (m.might x))/\Below w.heap.size w w':=by
 have A:Below w.heap.size w (w.alloc (.cells m.cells.toArray 235)):=(bf _ _).alloc (nl _) _;obtain ⟨M,N,k,c,h1,I,J,K⟩:=h.below A;have E:Blk (w.alloc (.cells m.cells.toArray 235)) w.heap.size 235 m.cells:=hn_ w _;have F:=Hy (show ShAt (w.alloc (.cells m.cells.toArray 235)) w.heap.size 0 m from fun j v H=>by rw [Nat.zero_add,E.cell];exact H);have G:w.heap.size < (w.alloc (.cells m.cells.toArray 235)).heap.size:=by simp
 have B:=Hy A;clear h E A;unfold MS.cells at *;go_in;go_wp2_with fail;refine (XaB w.heap.size 0 m x _ F.o G).mono ?_;rintro e L ⟨rfl,D⟩;have C:=Hy (B.trans (D.mono B.size));clear D;go_wp2_with fail;go_ret;exact ⟨rfl,C.o⟩
def opnR (M:List MS) (P:MS->Bool) (w:World) (v:Value) (wr:World):Prop:=∃ k:Nat,k<=M.length/\v=.int .i64 k/\Hid (∀ j m,j < k->M[j]?=some m->P m=false)/\Hid (Below w.heap.size w wr)
theorem Za6 (gs c:Nat) (M:List MS) (w:World) (hM:∀ (i:Nat) (m:MS),M[i]?=some m->ShAt w gs (i * 7) m) (hg:gs < w.heap.size) (hl:M.length<=6):
  Calls prog 200 #[.slice (some ⟨gs,0,none⟩) M.length c,(.func (Fn.func 170) #[] #[])] w fun e w'=>∃ r:Int,e=.returned (.int .i64 r)/\(decide (0<=r)=M.any (fun m=>m.open_))/\Below w.heap.size w w':=by
 have T:=Hy hM;clear hM;have ⟨n,Q⟩:=gn M.length;rw [Q] at hl ⊢;have E:=Hy Q;clear Q;go_in;go_wp2_with fail;go_loopw [8] (fun v wr=>opnR M (fun m=>m.open_) w v wr) (fun v _=>n - (intOf v).toNat)
 case atStart=>exact ⟨0,nz _,rfl,(fun j m H=>by omega),bf _ _⟩
 case round=>
  obtain ⟨k,P,rfl,D,HB⟩:=hrel;rw [E.o] at P
  by_cases A:k < n
  ·have K:M[k]?=some (M[k]'(by rw [E.o];exact A)):=le_ _
   have ⟨m,I⟩:=gn (M[k]'(by rw [E.o];exact A));rw [I] at K;obtain ⟨U,V,W,Y,Z,a,b⟩:=((T.o k m K).below HB.o hg).c2;have R:=Hy K;clear K I;have d:(0:Int)<=(k:Int):=by omega
   have f:(k:Int) < (n:Int):=by omega
   go_wp2_with fail;refine (zaz m _).mono ?_;rintro e g ⟨rfl,F⟩;have C:=Hy (HB.trans (F.mono HB.size));clear F U V W Y Z a b;cases J:m.open_ with
   | true=>
    have L:Hid (M.any (fun m=>m.open_)=true):=List.any_eq_true.2 ⟨m,lm R.o,J⟩;clear J D;go_wp2_with fail;go_ret;exact ⟨_,rfl,by rw [L.o];simp,C.o⟩
   | false=>
    have N:Hid (∀ j m,j < k+1->M[j]?=some m->m.open_=false):=by
     intro j m' H B;rcases (by omega:j < k∨j=k) with h | h
     ·exact D.o j m' h B
     ·subst h;rw [R.o] at B;cases B;exact J
    clear J D;go_wp2_with fail;go_roundw
    case rel=>exact ⟨k+1,by rw [E.o];omega,by go_num,N.o,C.o⟩
    case measure=>simp [intOf];omega
  have G:k=n:=by omega
  have L:Hid (M.any (fun m=>m.open_)=false):=by
   unfold Hid;rw [List.any_eq_false];intro m I;obtain ⟨j,H,e⟩:=List.mem_iff_getElem.1 I;have:=D.o j m (by rw [G,<- E.o];exact H) (by rw [<- e];exact le_ H);simp [this]
  subst G;clear D A;go_wp2_with fail;go_ret;exact ⟨-1,rfl,by rw [L.o];simp,HB.o⟩
theorem XaZ (gs c:Nat) (M:List MS) (w:World) (hM:∀ (i:Nat) (m:MS),M[i]?=some m->ShAt w gs (i * 7) m) (hg:gs < w.heap.size) (hl:M.length<=6):
  Calls prog 167 #[.slice (some ⟨gs,0,none⟩) M.length c,(.func (Fn.func 170) #[] #[])] w fun e w'=>e=.returned (.bool (M.any (fun m=>m.open_)))/\Below w.heap.size w w':=by
 have B:=Hy (Za6 gs c M w hM hg hl);clear hM;have ⟨R,C⟩:=gn (M.any (fun m=>m.open_));rw [C] at B ⊢;clear C;go_in;go_wp2_with fail;refine B.mono ?_;rintro e w' ⟨r,rfl,A,D⟩;have HB:=Hy D;clear D;cases R with
 | true=>
  have h0:0<=r:=by simpa using A
  clear A B;go_wp2_with fail;go_ret;exact ⟨rfl,HB.o⟩
 | false=>
  have h0:r < 0:=by simpa using A
  have E:decide (0<=r)=false:=A;clear A B;go_wp2_with fail;go_ret;exact ⟨rfl,HB.o⟩
def migR (M:List MS) (P:MS->Bool) (w:World) (v:Value) (wr:World):Prop:=∃ k:Nat,k<=M.length/\v=.int .i64 k/\Hid (∀ j m,j < k->M[j]?=some m->P m=false)/\Hid (Below w.heap.size w wr)
theorem ya6 (gs c:Nat) (M:List MS) (b g o:Nat) (x:KeyL) (w:World) (hM:∀ (i:Nat) (m:MS),M[i]?=some m->ShAt w gs (i * 7) m) (hg:gs < w.heap.size) (hl:M.length<=6) (hT:TlAt w b g o x):
  Calls prog 200 #[.slice (some ⟨gs,0,none⟩) M.length c,(.func (Fn.func 168) #[] #[.pointer (some ⟨b,0,none⟩)])] w fun e w'=>∃ r:Int,e=.returned (.int .i64 r)/\(decide (0<=r)=M.any (fun m=>m.might x))/\Below w.heap.size w w':=by
 have U:=Hy hM;clear hM;have ⟨n,R⟩:=gn M.length;rw [R] at hl ⊢;have E:=Hy R;clear R;have V:=Hy hT;clear hT;go_in;go_wp2_with fail;go_loopw [8] (fun v wr=>migR M (fun m=>m.might x) w v wr) (fun v _=>n - (intOf v).toNat)
 case atStart=>exact ⟨0,nz _,rfl,(fun j m H=>by omega),bf _ _⟩
 case round=>
  obtain ⟨k,Q,rfl,D,HB⟩:=hrel;rw [E.o] at Q
  by_cases A:k < n
  ·have K:M[k]?=some (M[k]'(by rw [E.o];exact A)):=le_ _
   have ⟨m,I⟩:=gn (M[k]'(by rw [E.o];exact A));rw [I] at K;obtain ⟨W,Y,Z,a,d,f,l⟩:=((U.o k m K).below HB.o hg).c2;have T:=Hy K;clear K I;have p:(0:Int)<=(k:Int):=by omega
   have q:(k:Int) < (n:Int):=by omega
   have P:=Hy (V.below HB.o);go_wp2_with fail;refine (xaH m b g o x _ P.o).mono ?_;rintro e s ⟨rfl,F⟩;have C:=Hy (HB.trans (F.mono HB.size));clear F W Y Z a d f l;cases J:m.might x with
   | true=>
    have L:Hid (M.any (fun m=>m.might x)=true):=List.any_eq_true.2 ⟨m,lm T.o,J⟩;clear J D;go_wp2_with fail;go_ret;exact ⟨_,rfl,by rw [L.o];simp,C.o⟩
   | false=>
    have N:Hid (∀ j m,j < k+1->M[j]?=some m->m.might x=false):=by
     intro j m' H B;rcases (by omega:j < k∨j=k) with h | h
     ·exact D.o j m' h B
     ·subst h;rw [T.o] at B;cases B;exact J
    clear J D;go_wp2_with fail;go_roundw
    case rel=>exact ⟨k+1,by rw [E.o];omega,by go_num,N.o,C.o⟩
    case measure=>simp [intOf];omega
  have G:k=n:=by omega
  have L:Hid (M.any (fun m=>m.might x)=false):=by
   unfold Hid;rw [List.any_eq_false];intro m I;obtain ⟨j,H,e⟩:=List.mem_iff_getElem.1 I;have:=D.o j m (by rw [G,<- E.o];exact H) (by rw [<- e];exact le_ H);simp [this]
  subst G;clear D A;go_wp2_with fail;go_ret;exact ⟨-1,rfl,by rw [L.o];simp,HB.o⟩
theorem zaY (gs c:Nat) (M:List MS) (b g o:Nat) (x:KeyL) (w:World) (hM:∀ (i:Nat) (m:MS),M[i]?=some m->ShAt w gs (i * 7) m) (hg:gs < w.heap.size) (hl:M.length<=6) (hT:TlAt w b g o x):
  Calls prog 167 #[.slice (some ⟨gs,0,none⟩) M.length c,(.func (Fn.func 168) #[] #[.pointer (some ⟨b,0,none⟩)])] w fun e w'=>e=.returned (.bool (M.any (fun m=>m.might x)))/\Below w.heap.size w w':=by
 have B:=Hy (ya6 gs c M b g o x w hM hg hl hT);clear hM hT;have ⟨R,C⟩:=gn (M.any (fun m=>m.might x));rw [C] at B ⊢;clear C;go_in;go_wp2_with fail;refine B.mono ?_;rintro e w' ⟨r,rfl,A,D⟩;have HB:=Hy D;clear D;cases R with
 | true=>
  have h0:0<=r:=by simpa using A
  clear A B;go_wp2_with fail;go_ret;exact ⟨rfl,HB.o⟩
 | false=>
  have h0:r < 0:=by simpa using A
  have E:decide (0<=r)=false:=A;clear A B;go_wp2_with fail;go_ret;exact ⟨rfl,HB.o⟩
theorem Yas {M:List MS} {S:List PS} (hl:M.length=S.length) (h:∀ (i:Nat) (m:MS) (s:PS),M[i]?=some m->S[i]?=some s->ShOK B W toV m s) (f:MS->Bool) (g:PS->Bool) (A:∀ m s,ShOK B W toV m s->f m=g s):M.any f=S.any g:=by
 induction M generalizing S with
 | nil=>cases S with
  | nil=>rfl
  | cons s S=>simp at hl
 | cons m M D=>cases S with
  | nil=>simp at hl
  | cons s S=>
   rw [List.any_cons,List.any_cons,A m s (h 0 m s rfl rfl),D (by simpa using hl) (fun i m' s' h1 C=>h (i+1) m' s' (by simpa using h1) (by simpa using C))]
theorem yan (p o:Nat) (W:World):(binOp .eql 133 (.pointer (some ⟨p,o,none⟩)) (.pointer none)).run prog W=.ok (.bool false) W:=by kernel_rfl
theorem Ys (B p:Nat) (n:Int) (S:List PS) (T:List KeyL) (w:World) (h:MG B w p n S T):
  Calls prog 114 #[.pointer (some ⟨p,0,none⟩)] w fun e w'=>e=.returned (.bool (doneP n S T))/\Below w.heap.size w w':=by
 have U:=h.bd;have q:=Hy h;obtain ⟨f,c,M,ta,tc,P,r,I,G,a,H,i,b,j,g⟩:=h.read;have D:=Yas G H MS.open_ PS.open_ (fun m s h=>h.open_);have V:=XaZ f c M w a j (by omega);rw [show (fun m:MS=>m.open_)=MS.open_ from rfl,D,G] at V;have K:=Hy V;have ⟨R,Q⟩:=gn (doneP n S T);have E:=Hy Q;rw [Q];unfold doneP at E;have ⟨A,Z⟩:=gn (S.any PS.open_);rw [Z] at E K;clear Q Z V D a H i h;have ⟨k,F⟩:=gn T.length;rw [F] at E I U;clear F;have l:=fun W=>yan p 0 W;have L:=Hy P;have N:=Hy I
 clear P I;go_in;go_wp2_with fail;refine K.mono ?_;rintro e t ⟨rfl,J⟩;have P:=(J.cell (p:=⟨p,0,none⟩) b).trans L.o;have I:=(J.cell (p:=⟨p,2,none⟩) b).trans N.o;have HB:=Hy J;clear J K
 by_cases C:(k:Int)=n
 ·have Y:R=true:=by rw [<- E.o];simp [C]
  subst Y;have d:((k:Int) == n)=true:=by rw [beq_iff_eq];exact C
  clear E C;go_wp2_with fail;go_quiet (fail);go_wp2_with fail;go_ret;exact ⟨rfl,below_drewN HB.o _⟩
 have Y:R=!A:=by rw [<- E.o];simp [C]
 subst Y;have d:((k:Int) == n)=false:=by rw [beq_eq_false_iff_ne];exact C
 clear E C;go_wp2_with fail;go_quiet (fail);go_wp2_with fail;go_ret;exact ⟨rfl,below_drewN HB.o _⟩
def atS (S:List PS) (i:Int):Option PS:=if i < 0 then none else S[i.toNat]?
def seqP (S:List PS) (i:Int):Int:=match atS S i with | some s=>s.seq | none=>0
theorem qaK {S:List PS} {i:Int} (h:i < 0∨(S.length:Int)<=i):atS S i=none:=by
 unfold atS;split
 ·rfl
 rw [List.getElem?_eq_none (by omega)]
theorem YK {S:List PS} {k:Nat}:atS S (k:Int)=S[k]?:=by unfold atS;rw [if_neg (by omega)];rfl
theorem qax (p o:Nat) (W:World):(binOp .neq 257 (.pointer (some ⟨p,o,none⟩)) (.pointer none)).run prog W=.ok (.bool true) W:=by kernel_rfl
theorem ZL (p o:Nat) (W:World):(binOp .eql 257 (.pointer (some ⟨p,o,none⟩)) (.pointer none)).run prog W=.ok (.bool false) W:=by kernel_rfl
theorem qa3 (B p:Nat) (n i:Int) (S:List PS) (T:List KeyL) (w:World) (h:MG B w p n S T):
  Calls prog 172 #[.pointer (some ⟨p,0,none⟩),i] w fun e w'=>e=.returned (.int .i64 (seqP S i))/\w=w':=by
 obtain ⟨E,c,M,ta,tc,I,J,K,D,F,A,N,U,R,P⟩:=h.read
 by_cases hi:i < 0∨(S.length:Int)<=i
 ·unfold seqP
  rw [qaK hi];clear F A N h I K D;generalize S.length=k at *;go_in;go_wp2_with fail;refine (Z1 p E k c i _ J hi).mono ?_;rintro e w' ⟨rfl,rfl⟩;go_wp2_with fail;go_ret;exact ⟨rfl,rfl⟩
 obtain ⟨k,rfl⟩:∃ k:Nat,i=k:=⟨i.toNat,by omega⟩
 have C:k < S.length:=by omega
 obtain ⟨s,H⟩:∃ s,S[k]?=some s:=⟨_,le_ C⟩;obtain ⟨m,G⟩:∃ m,M[k]?=some m:=⟨_,le_ (show k < M.length by omega)⟩;obtain ⟨_,Q,_⟩:=(F k _ G).c2;rw [(A k _ _ G H).seq] at Q;have L:seqP S (k:Int)=s.seq:=by unfold seqP;rw [YK,H]
 rw [L];clear F A N h I K D L H G hi;generalize s.seq=v at *;generalize S.length=n at *;have V:=fun o W=>qax E o W;go_in;go_wp2_with fail;refine (xj p E n c k _ J C).mono ?_;rintro e w' ⟨rfl,rfl⟩;go_wp2_with fail;go_ret;exact ⟨rfl,rfl⟩
def afterP (S:List PS) (i:Int):KeyL×Bool:=match atS S i with | some s=>(s.last,s.heard) | none=>((0,⟨#[]⟩),false)
theorem Qax (B p:Nat) (n i:Int) (S:List PS) (T:List KeyL) (w:World) (h:MG B w p n S T):
  Calls prog 171 #[.pointer (some ⟨p,0,none⟩),i] w fun e w'=>e=.returned (.tuple #[.agg #[.int .i64 (afterP S i).1.1,.string (afterP S i).1.2],.bool (afterP S i).2])/\Below w.heap.size w w':=by
 have A:Below w.heap.size w (w.alloc (.cells #[(),.string ⟨#[]⟩] 46)):=(bf _ _).alloc (nl _) _;obtain ⟨D,c,M,ta,tc,V,J,Y,F,L,C,a,hp,z,d⟩:=(h.below A).read
 have P:D < w.heap.size:=by
  obtain ⟨b,y,u,r,t,_,K,_,_,_,_,_,R,N,_⟩:=h.read;have e:=(A.cell (p:=⟨p,1,none⟩) R).trans K;rw [J] at e;simp only [Option.some.injEq,Value.slice.injEq,Addr.mk.injEq,and_true] at e;rw [e.1];exact N
 have I:=Hy A;clear A
 by_cases hi:i < 0∨(S.length:Int)<=i
 ·unfold afterP
  rw [qaK hi];clear L C a h V Y F;generalize S.length=k at *;go_in;go_wp2_with fail;refine (Z1 p D k c i _ J hi).mono ?_;rintro e w' ⟨rfl,rfl⟩;go_wp2_with fail;exact bodyPost_ret (v:=.tuple #[.agg #[(),.string ⟨#[]⟩],false]) (by simp [results,Tryz.results171,go_sem]) rfl ⟨rfl,I.o⟩
 obtain ⟨k,rfl⟩:∃ k:Nat,i=k:=⟨i.toNat,by omega⟩
 have E:k < S.length:=by omega
 obtain ⟨s,H⟩:∃ s,S[k]?=some s:=⟨_,le_ E⟩;obtain ⟨m,G⟩:∃ m,M[k]?=some m:=⟨_,le_ (show k < M.length by omega)⟩;obtain ⟨_,_,_,U,l,q,_⟩:=(L k _ G).c2;rw [(C k _ _ G H).heard] at U;rw [(C k _ _ G H).last] at l q;have Z:afterP S (k:Int)=(s.last,s.heard):=by unfold afterP;rw [YK,H]
 rw [Z];clear L C a h V Y F Z H G hi;generalize s.last=v at *;generalize s.heard=hd at *;generalize S.length=n at *;have hq:=fun o W=>qax D o W;have Q:D < w.heap.size:=P
 have j:(w.alloc (.cells #[v.1,v.2] 46)).cell? ⟨D,k * 7+3,none⟩=some (.bool hd):=by
  rw [World.cell?_alloc_lt _ _ _ (by exact Q)] at U ⊢;exact U
 have f:(w.alloc (.cells #[(),.string ⟨#[]⟩] 46)).cell? ⟨w.heap.size,0,none⟩=some (.int .i64 0):=by rw [cell_of_row _ _ _ _ _ _ (heap_alloc_new w _)];rfl
 have g:(w.alloc (.cells #[(),.string ⟨#[]⟩] 46)).cell? ⟨w.heap.size,1,none⟩=some (.string ⟨#[]⟩):=by rw [cell_of_row _ _ _ _ _ _ (heap_alloc_new w _)];rfl
 go_in;go_wp2_with fail;refine (xj p D n c k _ J E).mono ?_;rintro e w' ⟨rfl,rfl⟩;go_wp2_with fail;go_region
 all_goals go_wp2_with fail
 all_goals exact bodyPost_ret (v:=.tuple #[.agg #[v.1,v.2],.bool hd]) (by simp [results,Tryz.results171,go_sem]) rfl ⟨rfl,(below_drewN ((bf w.heap.size w).alloc (nl _) _) 1)⟩
theorem xS {S:List PS} {k:Nat} {s:PS} (h:S[k]?=some s):wantK S (k+1)=wantK S k++(if s.wanted=true then [(k:Int)] else []):=by
 unfold wantK;rw [List.range_succ,List.filter_append,List.map_append];congr 1;cases A:s.wanted with
 | true=>simp [h,A]
 | false=>simp [h,A]
theorem Xz (S:List PS) (k:Nat):(wantK S k).length<=k:=by unfold wantK;rw [List.length_map];exact nr (List.length_filter_le _ _) (by simp)
def WaR (w:World) (S:List PS) (v3 v16:Value) (wr:World):Prop:=∃ (i k c2:Nat) (ao2:Option Addr),i<=S.length/\v16=.int .i64 i/\v3=.slice ao2 k c2/\Hid ((wantK S i).length=k)/\Hid (wr.ownsRow w.heap.size 3 1 (.slice ao2 k c2) k ((wantK S i).map (Value.int .i64)))/\Hid (Below w.heap.size w wr)
theorem zaI (B p:Nat) (n:Int) (S:List PS) (T:List KeyL) (w:World) (h:MG B w p n S T):
  Calls prog 69 #[.pointer (some ⟨p,0,none⟩)] w fun e w'=>∃ ao c',e=.returned (.slice ao (wantsP n S T).length c')/\w'.ownsRow w.heap.size 3 1 (.slice ao (wantsP n S T).length c') (wantsP n S T).length ((wantsP n S T).map (Value.int .i64))/\Below w.heap.size w w':=by
 obtain ⟨i0,hi,Ai,Aj,Ak⟩:=info_parts Xc;clear hi Ai Aj Ak;have V:=h.bd;have HG:=Hy h;have L:=Hy (Ys B p n S T w h);have A3:=fun W=>yan p 0 W;unfold wantsP;cases hd:doneP n S T with
 | true=>
  rw [hd] at L;rw [if_pos rfl];clear h hd V;go_in;go_wp2_with fail;refine L.mono ?_;rintro e w1 ⟨rfl,F⟩;have HB:=Hy F;clear F L;go_wp2_with fail;go_ret;exact ⟨none,0,rfl,World.ownsRow_nil _ _ _ _,HB.o⟩
 | false=>
  rw [hd] at L;rw [if_neg (by exact Bool.false_ne_true)];clear h hd;have ⟨R,hR⟩:=gn (wantK S S.length);rw [hR];have HR:=Hy hR;clear hR;have ⟨m,hm⟩:=gn S.length;have H:=Hy hm;clear hm;go_in;go_wp2_with fail;refine L.mono ?_;rintro e w1 ⟨rfl,F⟩;have HB:=Hy F;have Q:=HG.below F;obtain ⟨gs,c,M,ta,tc,c0,j,l,J,U,Z,hT,hp,hg,Ad⟩:=Q.read;rw [H.o] at j J;have u:=Hy U;have z:=Hy Z;have t:=Hy J;have r:=Hy j;have Az:m<=6:=by have:=H.o;omega
  clear F L Q U Z J hT c0 l V Ad;go_wp2_with fail;clear j;go_loopw [3,16] (fun v3 Al wr=>WaR w1 S v3 Al wr) (fun _ v _=>m - (intOf v).toNat)
  case atStart=>exact ⟨0,0,0,none,nz _,rfl,rfl,rfl,World.ownsRow_nil _ _ _ _,bf _ _⟩
  case round=>
   obtain ⟨i,k,l,P,hi,rfl,rfl,G,N,A⟩:=hrel;rw [H.o] at hi;have j:=(A.cell (p:=⟨p,1,none⟩) hp).trans r.o
   by_cases Ag:i < m
   ·obtain ⟨s,hs⟩:∃ s,S[i]?=some s:=⟨_,le_ (show i < S.length by have:=H.o;omega)⟩
    obtain ⟨g,K⟩:∃ g,M[i]?=some g:=⟨_,le_ (show i < M.length by have:=t.o;omega)⟩;have d:=(u.o i g K).below A.o hg;have f:=(z.o i g s K hs).wanted;have Ax:k<=i:=by have:=Xz S i;have:=G.o;omega
    have Aa:=Hy d;have HS:=Hy hs;have I:=Hy f;have hz:=A.size;clear d hs f K;have k1:(0:Int)<=(i:Int):=by omega
    have k2:(i:Int) < (m:Int):=by omega
    go_wp2_with fail;refine (Xd gs (i * 7) g _ Aa.o).mono ?_;rintro e w' ⟨rfl,rfl⟩;rw [I.o];have C:=Hy (xS HS.o);cases E:s.wanted with
    | false=>
     rw [E,if_neg (by exact Bool.false_ne_true),List.append_nil] at C;clear E I;go_wp2_with fail;go_roundw
     case rel=>exact ⟨i+1,k,l,P,by rw [H.o];omega,by go_num,rfl,by unfold Hid;rw [C.o];exact G.o,by unfold Hid;rw [C.o];exact N.o,A.o⟩
     case measure=>simp [intOf];omega
    | true=>
     rw [E,if_pos rfl] at C;clear E I;have A1:k+1<=maxLen:=by unfold maxLen;omega
     have A2:(k+1) * 8<=140737488355328:=by omega
     go_wp2_with (at_builtin;refine wa Xc underlying26 (N.alloc _) (Src.one' underlying26 wr _ 3 rfl) A1 A2 (by simp;omega) ?_;intro Ab c3 w5 D Y;have y:=Hy D;have q:=Hy ((A.alloc hz _).grown Y (by simp;omega) (fun b F=>(N.lt b F).1));clear D Y);go_roundw
     case rel=>exact ⟨i+1,k+1,c3,Ab,by rw [H.o];omega,by go_num,rfl,by unfold Hid;rw [C.o,List.length_append,G.o];rfl,by unfold Hid;rw [C.o,List.map_append];exact y.o,q.o⟩
     case measure=>simp [intOf];omega
   ·have Ae:i=m:=by omega
    subst Ae;clear Ag;have a:wantK S i=R:=by rw [<- HR.o,H.o]
    have hl:=G.o;rw [a] at G N;have Af:R.length=k:=G.o;subst Af;clear G hl a;go_wp2_with fail;go_ret;exact ⟨P,l,rfl,zi N.o HB.size,HB.trans (A.mono HB.size)⟩
theorem yo:∀ {S:List PS} {i b:Nat},aheadP S i=some b->b < i/\∃ s,S[b]?=some s/\0 < s.waits.length
 | S,0,b,h=>by simp [aheadP] at h
 | S,i+1,b,h=>by
  unfold aheadP at h
  cases hs:S[i]? with
  | none=>
   simp only [hs] at h
   obtain ⟨h1,A⟩:=yo h
   exact ⟨by omega,A⟩
  | some s=>
   cases B:aheadP S i with
   | none=>
    simp only [hs,B] at h
    split at h
    ·cases h
    ·cases h
     exact ⟨by omega,s,hs,by omega⟩
   | some c=>
    obtain ⟨h1,A⟩:=yo B
    simp only [hs,B] at h
    split at h
    ·cases h;exact ⟨by omega,A⟩
    ·split at h
     ·cases h;exact ⟨by omega,A⟩
     ·split at h
      ·cases h;exact ⟨by omega,s,hs,by omega⟩
      ·cases h;exact ⟨by omega,A⟩
theorem X8 {S:List PS} {i:Nat} {s:PS} (hs:S[i]?=some s) (h0:s.waits.length=0):aheadP S (i+1)=aheadP S i:=by
 rw [aheadP];cases A:aheadP S i <;> simp [hs,h0]
theorem Q9 {S:List PS} {i:Nat} {s:PS} (hs:S[i]?=some s) (h0:0 < s.waits.length) (ha:aheadP S i=none):aheadP S (i+1)=some i:=by
 rw [aheadP];simp only [hs,ha];rw [io]
theorem Z9 {S:List PS} {i b:Nat} {s t:PS} (hs:S[i]?=some s) (h0:0 < s.waits.length) (ha:aheadP S i=some b) (ht:S[b]?=some t):aheadP S (i+1)=if kless (headP s) (headP t)=true then some i else some b:=by
 rw [aheadP];simp only [hs,ha,ht];rw [io]
theorem qE {s:PS} (h:0 < s.waits.length):s.waits[0]?=some (headP s):=by
 unfold headP;cases A:s.waits with
 | nil=>rw [A] at h;simp at h
 | cons a l=>rfl
def HdAt (W:World) (m:MS) (x:KeyL):Prop:=∃ wb wo,m.wa=some ⟨wb,wo,none⟩/\W.cell? ⟨wb,wo,none⟩=some (.int .i64 x.1)/\W.cell? ⟨wb,wo+1,none⟩=some (.string x.2)
theorem ShOK.head {toV:Option Nat} {m:MS} {s:PS} (h:ShOK B W toV m s) (h0:0 < s.waits.length):HdAt W m (headP s):=by
 obtain ⟨b,o,e,h1,A,_⟩:=h.waits.atI (qE h0);rw [Nat.zero_mul,Nat.add_zero] at h1 A;exact ⟨b,o,e,h1,A⟩
theorem HdAt.below {m:MS} {x:KeyL} (h:HdAt W m x) (hb:Below W.heap.size W W'):HdAt W' m x:=by
 obtain ⟨b,o,e,h1,A⟩:=h;exact ⟨b,o,e,(hb.cell (p:=⟨b,o,none⟩) (cell?_lt h1)).trans h1,(hb.cell (p:=⟨b,o+1,none⟩) (cell?_lt A)).trans A⟩
def optPtr (gs:Nat):Option Nat->Value
 | none=>.pointer none
 | some b=>.pointer (some ⟨gs,b * 7,none⟩)
def AhR (w:World) (S:List PS) (gs:Nat) (v3 v11:Value) (wr:World):Prop:=∃ i:Nat,i<=S.length/\v11=.int .i64 i/\v3=optPtr gs (aheadP S i)/\Hid (Below w.heap.size w wr)
theorem Zax (B p gs c:Nat) (n:Int) (S:List PS) (T:List KeyL) (w:World) (h:MG B w p n S T) (G:Cl w p 1 (.slice (some ⟨gs,0,none⟩) S.length c)):
  Calls prog 166 #[.pointer (some ⟨p,0,none⟩)] w fun e w'=>e=.returned (optPtr gs (aheadP S S.length))/\Below w.heap.size w w':=by
 have K:=h.bd;obtain ⟨A4,c',M,ta,tc,c0,c1,c2,N,f,D,hT,hp,hg,Ak⟩:=h.read;rw [G] at c1;simp only [Option.some.injEq,Value.slice.injEq,Addr.mk.injEq,and_true,true_and] at c1;obtain ⟨rfl,rfl⟩:=c1;have Y:=Hy f;have Z:=Hy D;have ⟨R,hR⟩:=gn (aheadP S S.length);rw [hR];have HR:=Hy hR;have ⟨m,hm⟩:=gn S.length;rw [hm] at N G K;have J:=Hy hm;have V:=Hy N;have Ag:=Hy G;have A7:=K.1;clear hR hm N f D hT c0 c2 h K Ak;have A9:=fun o W=>ZL gs o W;go_in;go_wp2_with fail;clear G
 go_loopw [3,11] (fun v3 As wr=>AhR w S gs v3 As wr) (fun _ v=>fun _=>m - (intOf v).toNat)
 case atStart=>exact ⟨0,nz _,rfl,rfl,bf _ _⟩
 case round=>
  obtain ⟨i,hi,rfl,rfl,HB⟩:=hrel;rw [J.o] at hi;have c1:=(HB.cell (p:=⟨p,1,none⟩) hp).trans Ag.o
  by_cases Am:i < m
  ·obtain ⟨s,hs⟩:∃ s,S[i]?=some s:=⟨_,le_ (show i < S.length by have:=J.o;omega)⟩
   obtain ⟨z,P⟩:∃ z,M[i]?=some z:=⟨_,le_ (show i < M.length by have:=V.o;omega)⟩;obtain ⟨_,_,_,_,_,_,s6⟩:=((Y.o i z P).below HB.o hg).c2;have D:=Z.o i z s P hs;have l:=D.wlen;rw [l] at s6;have HS:=Hy hs;have a:=Hy D;clear hs D P l;have k1:(0:Int)<=(i:Int):=by omega
   have k2:(i:Int) < (m:Int):=by omega
   by_cases h0:s.waits.length=0
   ·have F:=Hy (X8 HS.o h0)
    rw [h0] at s6;clear h0;generalize aheadP S i=r at *;go_wp2_with fail;go_quiet (fail);go_wp2_with fail;go_roundw
    case rel=>exact ⟨i+1,by rw [J.o];omega,by go_num,by rw [F.o],below_drewN HB.o _⟩
    case measure=>simp [intOf];omega
   have h1:0 < s.waits.length:=by omega
   have hd:=a.head h1;obtain ⟨wb,wo,ea,x0,x1⟩:=hd.below HB.o;rw [ea] at s6;have d1:decide (0 < s.waits.length)=true:=by simpa using h1
   have d2:(0:Int) < (s.waits.length:Int):=by omega
   cases g:aheadP S i with
   | none=>
    have F:=Hy (Q9 HS.o h1 g);clear g h0 h1 hd ea x0 x1;generalize s.waits.length=wl at *;unfold optPtr;go_wp2_with fail;go_quiet (fail);go_wp2_with fail;go_roundw
    case rel=>exact ⟨i+1,by rw [J.o];omega,by go_num,by rw [F.o];rfl,below_drewN HB.o _⟩
    case measure=>simp [intOf];omega
   | some b=>
    obtain ⟨A6,t,ht,Aq⟩:=yo g;have F:=Hy (Z9 HS.o h1 g ht);obtain ⟨q,L⟩:∃ q,M[b]?=some q:=⟨_,le_ (show b < M.length by have:=V.o;omega)⟩;obtain ⟨_,_,_,_,_,_,r6⟩:=((Y.o b q L).below HB.o hg).c2;have E:=Z.o b q t L ht;rw [E.wlen] at r6;obtain ⟨vb,vo,eb,y0,y1⟩:=(E.head Aq).below HB.o;rw [eb] at r6;have d3:(0:Int) < (t.waits.length:Int):=by omega
    have U:=Hy (itless (headP s) (headP t));have A:Hid (Below wr.heap.size wr wr.drew):=below_drewN (bf _ _) 1;have C:=Hy (And.intro s6 (And.intro x0 (And.intro x1 (And.intro r6 (And.intro y0 y1)))));clear g h0 hd ea eb ht L E d1;generalize headP s=x at *;generalize headP t=y at *;generalize s.waits.length=wl at *;generalize t.waits.length=tl at *;have ⟨lb,k⟩:=gn (kless x y);rw [k] at F U;clear k;have j:=cell?_lt s6;have I:=cell?_lt x0;have H:=cell?_lt y0;unfold optPtr;go_wp2_with fail;go_region_held3 (fun w'=>Cl w' gs (i * 7+6) (.slice (some ⟨wb,wo,none⟩) wl z.wc)/\Ci w' wb wo x.1/\Ct w' wb (wo+1) x.2/\Cl w' gs (b * 7+6) (.slice (some ⟨vb,vo,none⟩) tl q.wc)/\Ci w' vb vo y.1/\Ct w' vb (vo+1) y.2) (exact ⟨(A.cell (p:=⟨gs,i * 7+6,none⟩) j).trans C.1,(A.cell (p:=⟨wb,wo,none⟩) I).trans C.2.1,(A.cell (p:=⟨wb,wo+1,none⟩) I).trans C.2.2.1,(A.cell (p:=⟨gs,b * 7+6,none⟩) j).trans C.2.2.2.1,(A.cell (p:=⟨vb,vo,none⟩) H).trans C.2.2.2.2.1,(A.cell (p:=⟨vb,vo+1,none⟩) H).trans C.2.2.2.2.2⟩) (first | (go_at_call 88;refine (U.o _).mono ?_;rintro e u ⟨rfl,hb⟩;have d:=Hy (A.trans (hb.mono A.size));clear A;have A:=d;clear d;clear hb))
    all_goals
     have Q:=Hy (HB.trans (A.mono HB.size));cases lb with
     | true=>
      rw [if_pos rfl] at F;go_wp2_with fail;go_roundw
      case rel=>exact ⟨i+1,by rw [J.o];omega,by go_num,by rw [F.o];rfl,Q.o⟩
      case measure=>simp [intOf];omega
     | false=>
      rw [if_neg (by exact Bool.false_ne_true)] at F;go_wp2_with fail;go_roundw
      case rel=>exact ⟨i+1,by rw [J.o];omega,by go_num,by rw [F.o];rfl,Q.o⟩
      case measure=>simp [intOf];omega
  have Al:i=m:=by omega
  subst Al;clear Am;have hr:aheadP S i=R:=by rw [<- HR.o,J.o]
  rw [hr];clear hr HR;go_wp2_with fail;go_ret;exact ⟨rfl,HB.o⟩
theorem yav:(Tryz.prog.info? 235).map (fun i=>(i.zero,i.size,i.bytes))=some (some (.agg #[(),(),false,false,(),.string ⟨#[]⟩,.slice none 0 0]),7,72):=by kernel_rfl
def newMS (d:Int):MS:=⟨d,0,decide (d < 0),false,(0,⟨#[]⟩),none,0,0⟩
def newPS (d:Int):PS:=⟨d,0,decide (d < 0),false,(0,⟨#[]⟩),[]⟩
theorem shOne (m:MS):∀ u∈m.cells,u.oneCell'=true:=by
 intro u A;unfold MS.cells at A;simp only [List.mem_cons,List.not_mem_nil,or_false] at A;rcases A with rfl | rfl | rfl | rfl | rfl | rfl | rfl <;> rfl
def NwR (w:World) (p:Nat) (n:Int) (l:List Int) (v30:Value) (wr:World):Prop:=∃ (k c:Nat) (ao:Option Addr),k<=l.length/\v30=.int .i64 k/\Hid (Blk wr p 233 [n,.slice ao k c,.slice none 0 0])/\Hid (wr.ownsRow w.heap.size 235 7 (.slice ao k c) k (((l.take k).map newMS).flatMap MS.cells))/\Hid (Below w.heap.size w wr)
theorem ZaO (a:Option Addr) (m cap:Nat) (l:List Int) (n:Int) (w:World) (hr:Rd w a m cap (ints l)) (h1:1<=m) (h2:m<=6) (h3:1<=n) (h4:n<=10):
  Calls prog 65 #[.slice a m cap,n] w fun e w'=>e=.returned (.tuple #[.pointer (some ⟨w.heap.size,0,none⟩),()])/\MG w.heap.size w' w.heap.size n (l.map newPS) []/\Below w.heap.size w w':=by
 obtain ⟨i0,hi,Al,Am,An⟩:=info_parts yav;clear hi Al Am An;have f:l.length=m:=by rw [<- hr.1,yx]
 have HR:=Hy hr;have I:=Hy f;clear hr f;have e1:((m:Int) == 0)=false:=by rw [beq_eq_false_iff_ne];omega
 have e2:decide (6 < m)=false:=by simp;omega
 have U:Below w.heap.size w (w.alloc (.cells #[n,.slice none 0 0,.slice none 0 0] 233)):=(bf _ _).alloc (nl _) _;have j:Blk (w.alloc (.cells #[n,.slice none 0 0,.slice none 0 0] 233)) w.heap.size 233 [n,.slice none 0 0,.slice none 0 0]:=hn_ w _;have Q:=Hy U;have K:=Hy j;clear U j;go_in;go_wp2_with fail;generalize w.alloc (.cells #[n,.slice none 0 0,.slice none 0 0] 233)=w1 at *;have ⟨p,hp⟩:=gn w.heap.size;rw [hp] at K ⊢;have D:=Hy hp;clear hp;go_loopw [30] (fun v wr=>NwR w p n l v wr) (fun v _=>m - (intOf v).toNat)
 case atStart=>exact ⟨0,0,none,nz _,rfl,K.o,World.ownsRow_nil _ _ _ _,Q.o⟩
 case round=>
  clear K Q;obtain ⟨k,c,T,Ah,rfl,R,r,HB⟩:=hrel;rw [I.o] at Ah;have c1:=R.cell 1;rw [show ([n,.slice T k c,.slice none 0 0]:List Value)[1]?=some (.slice T k c) from rfl] at c1
  by_cases A:k < m
  ·obtain ⟨b,o,rfl,Az,V⟩:=(HR.below HB.o rfl).2.2.2.2 k A
   rw [Zac l k (by rw [I.o];exact A)] at V;have ⟨d,hd⟩:=gn (l[k]'(by rw [I.o];exact A));rw [hd] at V;have q:l.take (k+1)=l.take k++[d]:=by rw [List.take_add_one,List.getElem?_eq_getElem (by rw [I.o];exact A),hd];rfl
   have Ab:=Hy q;have k1:(0:Int)<=(k:Int):=by omega
   have k2:(k:Int) < (m:Int):=by omega
   have A1:k+1<=maxLen:=by unfold maxLen;omega
   have A2:(k+1) * 72<=140737488355328:=by omega
   have hz:=HB.size
   have G:Src prog 7 231 (.slice (some ⟨wr.heap.size,0,none⟩) 1 1) 1 (newMS d).cells (wr.alloc (.cells #[d,(),.bool (decide (d < 0)),false,(),.string ⟨#[]⟩,.slice none 0 0] 235)):=
    Src.ofSlice _ underlying231 ⟨wr.heap.size,0,none⟩ 1 1 (newMS d).cells rfl (World.news_of_block (hn_ wr _)) (shOne _)
   have HS:=Hy G;clear hd q G;have Ad:=R.frozen 1;clear Ad;go_wp2_with (at_builtin;refine wa yav underlying231 (r.alloc _) HS.o A1 A2 (by simp;omega) ?_;intro M c2 w5 B P;have F:=Blk.alloc R.o (.cells #[d,(),.bool (decide (d < 0)),false,(),.string ⟨#[]⟩,.slice none 0 0] 235);have E:=F.frm (Frm.grown (S:=fun i=>(Value.slice T k c).ownBlock=some i) P (fun g h=>h)) (fun e=>Qb r.o R.o (by decide) _ e rfl);have c15:=E.cell 1;have Ax:=E.frozen 1;rw [show ([n,.slice T k c,.slice none 0 0]:List Value)[1]?=some (.slice T k c) from rfl] at c15;have L:=Hy E;have J:=Hy B;have H:=Hy ((HB.alloc hz _).grown P (by simp;omega) (fun b hb=>(r.lt b hb).1));clear F E B P)
   have Z:=Qb J.o L.o (by decide);have C:Frm (fun i=>i=p) w5 (w5.setCell ⟨p,1,none⟩ (.slice M (k+1:Nat) c2)):=(Frm.refl _ _).setCell _ _ (.inl rfl);have z:=Hy (za J.o C Z);have u:=Hy (H.trans (C.toBelow H.size (fun i hi e=>by have:=D.o;omega)));have Aa:=Hy (L.set 1 (.slice M (k+1:Nat) c2));clear Z C J H L;go_roundw
   case rel=>exact ⟨k+1,c2,M,by rw [I.o];omega,by go_num,Aa.o,by unfold Hid;rw [Ab.o,List.map_append,List.flatMap_append];simpa using z.o,u.o⟩
   case measure=>simp [intOf];omega
  have Ai:k=m:=by omega
  subst Ai;clear A;have N:l.take k=l:=List.take_of_length_le (by rw [I.o];exact nl _)
  have Y:MG w.heap.size wr p n (l.map newPS) []:=by
   have t:=r.o;rw [N] at t;obtain ⟨g,cap,hv,Ae,_⟩:=t.form (by omega);simp only [Value.slice.injEq,true_and] at hv;obtain ⟨rfl,rfl⟩:=hv;obtain ⟨sp,A0,Af⟩:=ze t
   have Ag:k<=c/\c<=maxLen:=by
    rcases t.2 with ⟨h',_⟩ | ⟨g',cap',cur,h',_,_,hnc,hmx,_⟩
    ·simp at h'
    ·simp only [Value.slice.injEq] at h';obtain ⟨_,_,rfl⟩:=h';exact ⟨hnc,hmx⟩
   have Aj:=I.o;refine ⟨g,c,l.map newMS,sp,none,0,?_,Af,by simp;omega,Ag.2,World.ownsRow_nil _ _ _ _,by simp,?_,by have:=D.o;omega,Ae,by simp;omega,by simp,h3,h4⟩
   ·rw [List.length_map,Aj];exact R.o
   ·intro i ms s hm hs
    rw [List.getElem?_map,Option.map_eq_some_iff] at hm hs;obtain ⟨d,hd,rfl⟩:=hm;obtain ⟨d',W,rfl⟩:=hs;rw [hd] at W;cases W;exact ⟨rfl,rfl,rfl,rfl,rfl,⟨rfl,nl _,nz _,fun _=>rfl,fun i x hx=>by simp [newPS] at hx⟩,fun b o sp e=>by simp [newMS] at e,fun b o sp e=>by simp [newMS] at e,nz _,fun b o sp e=>by simp [newMS] at e⟩
  have y:=Hy Y;clear Y;go_wp2_with fail;go_ret2;refine ⟨by rw [D.o];rfl,?_,HB.o⟩;have:=y.o;rw [<- D.o] at this;exact this
def okI (least:Int):Bool->KeyL->List KeyL->Bool
 | _,_,[]=>true
 | heard,last,x :: l=>if (heard&&!kless last x)||decide (x.1 < least) then false else okI least true x l
def PS.put (s:PS) (l:List KeyL) (e:Bool):PS:=⟨s.least,s.seq+1,e,s.heard||decide (0 < l.length),l.getLastD s.last,l⟩
def putOK (n:Int) (S:List PS) (T:List KeyL) (i seq:Int) (l:List KeyL) (e:Bool):Option PS:=
 match atS S i with
 | none=>none
 | some s=>if doneP n S T=true∨s.wanted=false∨s.seq≠seq∨5 < l.length∨(l.length=0/\e=false)∨okI s.least s.heard s.last l=false then none else some s
def putP (n:Int) (S:List PS) (T:List KeyL) (i seq:Int) (l:List KeyL) (e:Bool):Bool×List PS:=
 match putOK n S T i seq l e with
 | none=>(false,S)
 | some s=>(true,S.set i.toNat (s.put l e))
theorem Ye {M:List MS} {sp:List Value} {i:Nat} {m m':MS} {j:Nat} {v:Value} (hm:M[i]?=some m) (hj:j < 7) (he:m'.cells=m.cells.set j v):(M.flatMap MS.cells++sp).set (i * 7+j) v=(M.set i m').flatMap MS.cells++sp:=by
 have hi:i < M.length:=(lg hm).1;have B:∀ K:List MS,(K.flatMap MS.cells).length=K.length * 7:=fun K=>zc MS.cells 7 MS.clen K;apply List.ext_getElem?;intro q;rw [List.getElem?_set]
 by_cases L:q < M.length * 7
 ·have J:q % 7 < 7:=Nat.mod_lt _ (by omega)
  have G:q / 7 < M.length:=by omega
  have F:q / 7 * 7+q % 7=q:=by omega
  have A:∀ (K:List MS) (x:MS),K[q / 7]?=some x->(K.flatMap MS.cells++sp)[q]?=x.cells[q % 7]?:=fun K x D=>by
   have:=qx MS.cells 7 MS.clen K sp (q / 7) x (q % 7) D J;rw [F] at this;exact this
  by_cases I:i * 7+j=q
  ·rw [if_pos I,if_pos (by rw [List.length_append,B];omega)]
   have C:q / 7=i:=by omega
   have H:q % 7=j:=by omega
   rw [A (M.set i m') m' (by rw [C,List.getElem?_set_self hi]),he,H,List.getElem?_set_self (by rw [MS.clen];exact hj)]
  rw [if_neg I]
  by_cases E:q / 7=i
  ·rw [A M m (by rw [E];exact hm),A (M.set i m') m' (by rw [E,List.getElem?_set_self hi]),he,List.getElem?_set_ne (by omega)]
  obtain ⟨x,D⟩:∃ x,M[q / 7]?=some x:=⟨_,le_ G⟩
  rw [A M x D,A (M.set i m') x (by rw [List.getElem?_set_ne (fun e=>E e.symm)];exact D)]
 rw [io,List.getElem?_append_right (by rw [B];omega),List.getElem?_append_right (by rw [B,List.length_set];omega),B,B,List.length_set]
theorem yi {M:List MS} {i:Nat} {m:MS} (hm:M[i]?=some m) (m':MS):(M.set i m')[i]?=some m':=by rw [List.getElem?_set_self (List.getElem?_eq_some_iff.1 hm).1]
theorem Zba (M:List MS) (i:Nat) (a b:MS):(M.set i a).set i b=M.set i b:=by rw [List.set_set]
theorem xa7 (B p:Nat) (n i seq:Int) (S:List PS) (T:List KeyL) (l:List KeyL) (e:Bool) (a:Option Addr) (m cap:Nat) (w:World) (h:MG B w p n S T) (hr:RdE KeyL.cells 2 w a m cap l)
  (hx:atS S i=none∨∃ s,atS S i=some s/\(doneP n S T=true∨s.wanted=false∨s.seq≠seq∨5 < l.length∨(l.length=0/\e=false))):
  Calls prog 110 #[.pointer (some ⟨p,0,none⟩),i,seq,.slice a m cap,.bool e] w fun e w'=>e=.returned (.bool false)/\Below w.heap.size w w':=by
 have P:=hr.1;have HG:=Hy h;obtain ⟨H,c,M,ta,tc,c0,u,c2,f,y,Y,hT,hp,V,Ak⟩:=h.read;have N:=Hy (Ys B p n S T w h)
 by_cases hi:i < 0∨(S.length:Int)<=i
 ·clear hx y Y hT h c0 c2 f N HG hr P
  generalize S.length=k at *;go_in;go_wp2_with fail;refine (Z1 p H k c i _ u hi).mono ?_;rintro e w' ⟨rfl,rfl⟩;go_wp2_with fail;go_ret;exact ⟨rfl,bf _ _⟩
 obtain ⟨k,rfl⟩:∃ k:Nat,i=k:=⟨i.toNat,by omega⟩
 have F:k < S.length:=by omega
 obtain ⟨s,L⟩:∃ s,S[k]?=some s:=⟨_,le_ F⟩;obtain ⟨J,z⟩:∃ m,M[k]?=some m:=⟨_,le_ (show k < M.length by omega)⟩;rw [YK,L] at hx
 have q:doneP n S T=true∨s.wanted=false∨s.seq≠seq∨5 < l.length∨(l.length=0/\e=false):=by
  rcases hx with hx | ⟨s',e',hx⟩
  ·cases hx
  ·cases e';exact hx
 have g:=y k J z;have I:=Y k J s z L;have A:=Hy g;have K:=Hy I.wanted;have b:=Hy I.seq;have G:=Hy u;have HX:=Hy q;have HL:=Hy P;clear hx q y Y hT h c0 u c2 f hr L z hi g I;have hq:=fun o W=>ZL H o W;generalize S.length=k2 at *;have Al:0<=m:=nz _;cases hd:doneP n S T with
 | true=>
  rw [hd] at N;go_in;go_wp2_with fail;refine (xj p H k2 c k _ G.o F).mono ?_;rintro e w' ⟨rfl,rfl⟩;go_wp2_with fail;refine N.mono ?_;rintro e t ⟨rfl,D⟩;have HB:=Hy D;clear D;go_wp2_with fail;go_ret;exact ⟨rfl,HB.o⟩
 | false=>
  rw [hd] at N;have E:=HX.o;rw [hd] at E;have Q:=Hy E;clear hd E HX;cases j:s.wanted with
  | false=>
   have d:Hid (J.wanted=false):=K.trans j;clear j K Q;go_in;go_wp2_with fail;refine (xj p H k2 c k _ G.o F).mono ?_;rintro e w' ⟨rfl,rfl⟩;go_wp2_with fail;refine N.mono ?_;rintro e t ⟨rfl,D⟩;have HB:=Hy D;have C:=Hy (A.below D V);clear D A;go_wp2_with fail;refine (Xd H (k * 7) J _ C.o).mono ?_;rintro e w' ⟨rfl,rfl⟩;rw [d.o];go_wp2_with fail;go_ret;exact ⟨rfl,HB.o⟩
  | true=>
   have d:Hid (J.wanted=true):=K.trans j;have E:=Q.o;rw [j] at E
   have Z:s.seq≠seq∨5 < l.length∨(l.length=0/\e=false):=by
    rcases E with h | h | h
    ·cases h
    ·cases h
    ·exact h
   rw [HL.o] at Z;have R:=Hy Z;clear j K Q E Z
   by_cases L:s.seq=seq
   ·have d1:(J.seq != seq)=false:=by rw [b.o,L];simp
    have r:5 < m∨(m=0/\e=false):=by
     rcases R.o with h | h
     ·exact absurd L h
     ·exact h
    have U:=Hy r;clear r R L
    by_cases v:5 < m
    ·have d2:decide (5 < m)=true:=by simpa using v
     have Aj:(5:Int) < (m:Int):=by omega
     clear U;go_in;go_wp2_with fail;refine (xj p H k2 c k _ G.o F).mono ?_;rintro e w' ⟨rfl,rfl⟩;go_wp2_with fail;refine N.mono ?_;rintro e t ⟨rfl,D⟩;have HB:=Hy D;have C:=Hy (A.below D V);obtain ⟨_,s1,_⟩:=(A.below D V).c2;clear D A;go_wp2_with fail;refine (Xd H (k * 7) J _ C.o).mono ?_;rintro e w' ⟨rfl,rfl⟩;rw [d.o];go_wp2_with fail;go_ret;exact ⟨rfl,HB.o⟩
    ·have Aa:m=0/\e=false:=by
      rcases U.o with h | h
      ·exact absurd h v
      ·exact h
     obtain ⟨rfl,rfl⟩:=Aa;clear U v;go_in;go_wp2_with fail;refine (xj p H k2 c k _ G.o F).mono ?_;rintro e w' ⟨rfl,rfl⟩;go_wp2_with fail;refine N.mono ?_;rintro e t ⟨rfl,D⟩;have HB:=Hy D;have C:=Hy (A.below D V);obtain ⟨_,s1,_⟩:=(A.below D V).c2;clear D A;go_wp2_with fail;refine (Xd H (k * 7) J _ C.o).mono ?_;rintro e w' ⟨rfl,rfl⟩;rw [d.o];go_wp2_with fail;go_ret;exact ⟨rfl,HB.o⟩
   ·have d1:(J.seq != seq)=true:=by rw [b.o];simpa using L
    clear R L;go_in;go_wp2_with fail;refine (xj p H k2 c k _ G.o F).mono ?_;rintro e w' ⟨rfl,rfl⟩;go_wp2_with fail;refine N.mono ?_;rintro e t ⟨rfl,D⟩;have HB:=Hy D;have C:=Hy (A.below D V);obtain ⟨_,s1,_⟩:=(A.below D V).c2;clear D A;go_wp2_with fail;refine (Xd H (k * 7) J _ C.o).mono ?_;rintro e w' ⟨rfl,rfl⟩;rw [d.o];go_wp2_with fail;go_ret;exact ⟨rfl,HB.o⟩
structure MGx (B:Nat) (W:World) (p:Nat) (n:Int) (S:List PS) (T:List KeyL) (gs c:Nat) (M:List MS) (sp:List Value) (ta:Option Addr) (tc:Nat):Prop where
 P:Blk W p 233 [n,.slice (some ⟨gs,0,none⟩) S.length c,.slice ta T.length tc]
 G:Blk W gs 235 (M.flatMap MS.cells++sp)
 hc:S.length<=c
 hm:c<=maxLen
 told:W.ownsRow B 46 2 (.slice ta T.length tc) T.length (T.flatMap KeyL.cells)
 len:M.length=S.length
 sh:∀ (i:Nat) (m:MS) (s:PS),M[i]?=some m->S[i]?=some s->ShOK B W (Value.slice ta T.length tc).ownBlock m s
 bp:B<=p
 bg:B<=gs
 bd:S.length<=6/\T.length<=10/\1<=n/\n<=10
theorem MG.x {n:Int} {S:List PS} {T:List KeyL} (h:MG B W p n S T):∃ A c M sp ta tc,MGx B W p n S T A c M sp ta tc:=by
 obtain ⟨A,c,M,sp,ta,tc,h1,D,E,F,G,H,h7,I,J,C⟩:=h;exact ⟨A,c,M,sp,ta,tc,h1,D,E,F,G,H,h7,I,J,C⟩
theorem MGx.mg {n:Int} {S:List PS} {T:List KeyL} {c:Nat} {ta:Option Addr} {tc:Nat} (h:MGx B W p n S T gs c M sp ta tc):MG B W p n S T:=
 ⟨gs,c,M,sp,ta,tc,h.P,h.G,h.hc,h.hm,h.told,h.len,h.sh,h.bp,h.bg,h.bd⟩
theorem MGx.read {n:Int} {S:List PS} {T:List KeyL} {c:Nat} {ta:Option Addr} {tc:Nat} (h:MGx B W p n S T gs c M sp ta tc):W.cell? ⟨p,0,none⟩=some (.int .i64 n)/\W.cell? ⟨p,1,none⟩=some (.slice (some ⟨gs,0,none⟩) S.length c)/\W.cell? ⟨p,2,none⟩=some (.slice ta T.length tc)/\M.length=S.length/\(∀ (i:Nat) (m:MS),M[i]?=some m->ShAt W gs (i * 7) m)/\(∀ (i:Nat) (m:MS) (s:PS),M[i]?=some m->S[i]?=some s->ShOK B W (Value.slice ta T.length tc).ownBlock m s)/\RdE KeyL.cells 2 W ta T.length tc T/\p < W.heap.size/\gs < W.heap.size/\S.length<=c:=
 ⟨by rw [h.P.cell];rfl,by rw [h.P.cell];rfl,by rw [h.P.cell];rfl,h.len,fun i m A=>ShAt.of_row h.G A,h.sh,Za (enc:=KeyL.cells) (fun _=>rfl) rfl h.told,h.P.lt,h.G.lt,h.hc⟩
theorem ya2 {M:List MS} {sp:List Value} {k:Nat} {m:MS} (hm:M[k]?=some m) (sq:Int) (e hd:Bool) (la:KeyL) (a:Option Addr) (n c:Nat):
  ((((((M.flatMap MS.cells++sp).set (k * 7+4) (.int .i64 la.1)).set (k * 7+5) (.string la.2)).set (k * 7+3) (.bool hd)).set (k * 7+6) (.slice a n c)).set (k * 7+1) (.int .i64 sq)).set (k * 7+2) (.bool e)=(M.set k ⟨m.least,sq,e,hd,la,a,n,c⟩).flatMap MS.cells++sp:=by
 obtain ⟨d,A,C,E,⟨Q,P⟩,F,H,G⟩:=m;obtain ⟨B,D⟩:=la;have h1:=Ye (sp:=sp) (m':=⟨d,A,C,E,(B,P),F,H,G⟩) (v:=.int .i64 B) hm (j:=4) (by decide) rfl;have I:=Ye (sp:=sp) (m':=⟨d,A,C,E,(B,D),F,H,G⟩) (v:=.string D) (yi hm ⟨d,A,C,E,(B,P),F,H,G⟩) (j:=5) (by decide) rfl;have J:=Ye (sp:=sp) (m':=⟨d,A,C,hd,(B,D),F,H,G⟩) (v:=.bool hd) (yi hm ⟨d,A,C,E,(B,D),F,H,G⟩) (j:=3) (by decide) rfl;have K:=Ye (sp:=sp) (m':=⟨d,A,C,hd,(B,D),a,n,c⟩) (v:=.slice a n c) (yi hm ⟨d,A,C,hd,(B,D),F,H,G⟩) (j:=6) (by decide) rfl
 have L:=Ye (sp:=sp) (m':=⟨d,sq,C,hd,(B,D),a,n,c⟩) (v:=.int .i64 sq) (yi hm ⟨d,A,C,hd,(B,D),a,n,c⟩) (j:=1) (by decide) rfl;have N:=Ye (sp:=sp) (m':=⟨d,sq,e,hd,(B,D),a,n,c⟩) (v:=.bool e) (yi hm ⟨d,sq,C,hd,(B,D),a,n,c⟩) (j:=2) (by decide) rfl;rw [Zba] at I J K L N;dsimp only;rw [h1,I,J,K,L,N]
theorem ql {w:World} {base e size n c n':Nat} {b o:Nat} {sp:Option Nat} {xs:List Value} (h:w.ownsRow base e size (.slice (some ⟨b,o,sp⟩) n c) n' xs):base<=b/\∃ cs,Blk w b e cs:=by
 rcases h.2 with h' | ⟨g,cap,cur,h',h1,hb,_⟩
 ·simp at h'
 simp only [Value.slice.injEq,Option.some.injEq,Addr.mk.injEq] at h'
 obtain ⟨⟨rfl,_⟩,_⟩:=h';exact ⟨h1,cur.toList,by unfold Blk;rw [hb]⟩
theorem yaO (hx:MGx B w p n S T gs c M sp ta tc) {k:Nat} {m':MS} {s':PS}
  (hf:Frm (fun i=>i=gs) w w') (hg:Blk w' gs 235 ((M.set k m').flatMap MS.cells++sp)) (D:k < S.length->ShOK B w' (Value.slice ta T.length tc).ownBlock m' s'):
  MGx B w' p n (S.set k s') T gs c (M.set k m') sp ta tc:=by
 have J:p≠gs:=Qe hx.P hx.G (by decide);have K:∀ k,(Value.slice ta T.length tc).ownBlock=some k->k≠gs:=Qb hx.told hx.G (by decide);refine ⟨by rw [List.length_set];exact hx.P.frm hf J,hg,by rw [List.length_set];exact hx.hc,hx.hm,za hx.told hf K,by rw [List.length_set,List.length_set];exact hx.len,fun i m s h1 C=>?_,hx.bp,hx.bg,by rw [List.length_set];exact hx.bd⟩
 by_cases F:k=i
 ·subst F
  have A:k < S.length:=by
   have:=(lg C).1;rwa [List.length_set] at this
  rw [List.getElem?_set_self (by rw [hx.len];exact A)] at h1;rw [List.getElem?_set_self A] at C;cases h1;cases C;exact D A
 rw [List.getElem?_set_ne F] at h1 C
 have H:=hx.sh i m s h1 C
 exact H.frm hf (fun b o E e=>by
  obtain ⟨cs,I⟩:=H.ty b o E e;exact Qe I hx.G (by decide))
def WOld (h:Nat) (M M':List MS):Prop:=∀ (i:Nat) (x:MS),M'[i]?=some x->∀ b o s,x.wa=some ⟨b,o,s⟩->(∃ (j:Nat) (y:MS),M[j]?=some y/\y.wa=some ⟨b,o,s⟩)∨h<=b
theorem WOld.refl (h:Nat) (M:List MS):WOld h M M:=fun i x A b o s e=>.inl ⟨i,x,A,e⟩
theorem zaO (hx:MGx B w p n S T gs c M sp ta tc) {k:Nat} {m:MS} {s:PS} (hm:M[k]?=some m) (hs:S[k]?=some s)
  {e:Bool} {l:List KeyL} {a:Option Addr} {c' q:Nat} (hl:l.length=q) (h5:q<=5) (hB:B<=w.heap.size) (hf:Frm (fun i=>i=gs) w w') (ho:w'.ownsRow w.heap.size 46 2 (.slice a q c') q (l.flatMap KeyL.cells)) {hd:Bool} {la:KeyL} (F:hd=(s.heard||decide (0 < q))) (G:la=l.getLastD s.last)
  (hg:Blk w' gs 235 (((((((M.flatMap MS.cells++sp).set (k * 7+4) (.int .i64 la.1)).set (k * 7+5) (.string la.2)).set (k * 7+3) (.bool hd)).set (k * 7+6) (.slice a q c')).set (k * 7+1) (.int .i64 (s.seq+1))).set (k * 7+2) (.bool e))):
  ∃ M',MGx B w' p n (S.set k (s.put l e)) T gs c M' sp ta tc/\WOld w.heap.size M M':=by
 rw [ya2 hm] at hg;refine ⟨_,yaO hx hf hg (fun H=>?_),fun i x C b o s' D=>?_⟩;rotate_left 1
 ·by_cases E:k=i
  ·subst E
   rw [yi hm] at C;cases C;rw [show a=some ⟨b,o,s'⟩ from D] at ho;exact .inr (ql ho).1
  rw [List.getElem?_set_ne E] at C
  exact .inl ⟨i,x,C,D⟩
 have h0:=hx.sh k m s hm hs;refine ⟨h0.least,rfl,rfl,by rw [F,<- hl];rfl,G,?_,?_,?_,by rw [show (s.put l e).waits=l from rfl,hl];exact h5,?_⟩
 ·exact Za (enc:=KeyL.cells) (fun _=>rfl) hl ho
 ·intro b o A D
  rw [show a=some ⟨b,o,A⟩ from D] at ho;exact nr hB (ql ho).1
 ·intro b o A D E
  rw [show a=some ⟨b,o,A⟩ from D] at ho;have:=(ql ho).1;have:=(hx.told.lt b E).2;omega
 intro b o A D
 rw [show a=some ⟨b,o,A⟩ from D] at ho;exact (ql ho).2
end Go.Proofs.YtinkbgeckjbnbaaGreat
