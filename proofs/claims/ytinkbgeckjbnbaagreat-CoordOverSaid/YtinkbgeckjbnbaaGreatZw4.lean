/- Lemmas (part 4). -/
import Derived.Test.YtinkbgeckjbnbaaGreatRows
import Derived.Test.YtinkbgeckjbnbaaGreatZw3
namespace Go.Proofs.YtinkbgeckjbnbaaGreat
open Go.RowKit Go.Proofs.Tryz
set_option autoImplicit true
set_option relaxedAutoImplicit true
set_option linter.unusedVariables false
set_option linter.unusedSimpArgs false
set_option maxRecDepth 100000
set_option maxHeartbeats 32000000
section
theorem X5 {P:Program} {w:World} (ts:Array TypeId) (t:TypeId) (k k' k2 k3:IntKind) (x y z u:Int):(Builtin.min_ ts t #[.int k x,.int k' y,.int k2 z,.int k3 u]).run P w=.ok (.int k (if u < (if z < (if y < x then y else x) then z else (if y < x then y else x)) then u else (if z < (if y < x then y else x) then z else (if y < x then y else x)))) w:=by
 simp [Builtin.min_,Builtin.min2]
attribute [local go_sem] X5
def rowI (R:Nat->Int) (m:Nat):List Value:=(List.range m).map fun j=>Value.int .i64 (R j)
theorem zF (R:Nat->Int) {m j:Nat} (h:j < m):(rowI R m)[j]?=some (.int .i64 (R j)):=by unfold rowI;rw [List.getElem?_map,List.getElem?_range h];rfl
theorem XaQ (R:Nat->Int) (m j:Nat) (x:Int):(rowI R m).set j (.int .i64 x)=rowI (setR R j x) m:=by
 apply List.ext_getElem?;intro q;rw [List.getElem?_set]
 by_cases A:q < m
 ·by_cases e:j=q
  ·subst e;rw [if_pos rfl,if_pos (by simp [rowI];exact A),zF _ A,Qz]
  rw [if_neg e,zF _ A,zF _ A,qr _ _ (fun B=>e B.symm)]
 have h1:(rowI R m).length=m:=by simp [rowI]
 rw [List.getElem?_eq_none (l:=rowI (setR R j x) m) (by simp [rowI];omega)];split
 ·rw [io]
 rw [List.getElem?_eq_none (by omega)]
def BkR (w:World) (g m:Nat) (R:Nat->Int):Prop:=Blk w g 3 (rowI R m)
theorem BkR.cell {m:Nat} (h:BkR w g m R) {j:Nat} (hj:j < m):w.cell? ⟨g,j,none⟩=some (.int .i64 (R j)):=by rw [Blk.cell h,zF _ hj]
theorem BkR.set {m:Nat} (h:BkR w g m R) (j:Nat) (x:Int):BkR (w.setCell ⟨g,j,none⟩ (.int .i64 x)) g m (setR R j x):=by
 unfold BkR;rw [<- XaQ];exact Blk.set h j _
def WiA (w:World) (m:Nat) (far:Int) (v53:Value) (wr:World):Prop:=∃ (j:Nat) (R:Nat->Int),j<=m/\v53=.int .i64 j/\Hid (∀ q,q < j->R q=capI far (q:Int))/\Hid (BkR wr w.heap.size m R)/\Hid (Below w.heap.size w wr)
def WiB (w:World) (la lb:List Int) (K:Nat) (v65:Value) (wr:World):Prop:=∃ (i:Nat) (R:Nat->Int),i<=la.length/\v65=.int .i64 i/\Hid (BdOK la lb K i R)/\Hid (BkR wr w.heap.size (lb.length+1) R)/\Hid (Below w.heap.size w wr)
def WiC (w:World) (la lb:List Int) (K i f N:Nat) (v14 v102:Value) (wr:World):Prop:=∃ (c:Nat) (R:Nat->Int) (was:Int),c<=N/\v102=.int .i64 c/\v14=.int .i64 was/\Hid (was=capI ((K:Int)+1) (Dm la lb i (f+c - 1)))/\Hid (MdOK la lb K i (f+c) R)/\Hid (BkR wr w.heap.size (lb.length+1) R)/\Hid (Below w.heap.size w wr)
theorem yaI (a:Option Addr) (n cap:Nat) (la:List Int) (b:Option Addr) (m bc:Nat) (lb:List Int) (k:Int) (w:World) (ha:RdR w a n cap la) (hb:RdR w b m bc lb) (h1:la.length<=1000) (h2:lb.length<=1000) (B:k < 0∨k < (la.length:Int) - lb.length∨k < (lb.length:Int) - la.length):
  Calls prog 185 #[.slice a n cap,.slice b m bc,k] w fun e w'=>e=.returned (.tuple #[(),false])/\w=w':=by
 have C:=ha.len;subst C;have C:=hb.len;subst C;clear ha hb;obtain ⟨d,hd⟩:∃ d:Int,(la.length:Int) - lb.length=d:=⟨_,rfl⟩;obtain ⟨D,A⟩:∃ d:Int,(lb.length:Int) - la.length=d:=⟨_,rfl⟩;have J:IntKind.i64.wrap ((la.length:Int) - lb.length)=d:=by rw [IntWalk.i64_in _ (by omega)];exact hd
 have K:IntKind.i64.wrap ((lb.length:Int) - la.length)=D:=by rw [IntWalk.i64_in _ (by omega)];exact A
 by_cases E:k < 0
 ·clear B hd A
  go_in;go_wp2_with fail;go_ret2;exact ⟨rfl,rfl⟩
 have F:decide (k < 0)=false:=by simpa using E
 by_cases G:k < d
 ·clear B hd A
  go_in;go_wp2_with fail;go_ret2;exact ⟨rfl,rfl⟩
 have H:decide (k < d)=false:=by simpa using G
 have I:k < D:=by omega
 clear B hd A;go_in;go_wp2_with fail;go_ret2;exact ⟨rfl,rfl⟩
theorem yaa (a:Option Addr) (n cap:Nat) (la:List Int) (b:Option Addr) (m bc:Nat) (lb:List Int) (k:Int) (w:World) (ha:RdR w a n cap la) (hb:RdR w b m bc lb) (h1:la.length<=1000) (h2:lb.length<=1000):
  Calls prog 185 #[.slice a n cap,.slice b m bc,k] w fun e w'=>e=.returned (.tuple #[.int .i64 (nearL la lb k).1,.bool (nearL la lb k).2])/\Below w.heap.size w w':=by
 by_cases Ab:k < 0∨k < (la.length:Int) - lb.length∨k < (lb.length:Int) - la.length
 ·have e:nearL la lb k=(0,false):=by
   rcases Ab with h | h | h
   ·exact zaD h
   ·exact XaC h
   ·exact qaD h
  rw [e];exact (yaI a n cap la b m bc lb k w ha hb h1 h2 Ab).mono fun e w' ⟨h1,h2⟩=>by subst h2;exact ⟨h1,bf _ _⟩
 obtain ⟨⟨n1,n2⟩,Ay⟩:∃ x,nearL la lb k=x:=⟨_,rfl⟩;rw [Ay];have Bn:=Hy Ay;clear Ay;have hn:=ha.len;subst hn;have hn:=hb.len;subst hn;obtain ⟨i0,hi,Bc,Bd,J⟩:=info_parts infoI;have HI:=Hy hi;have Bq:=Hy Bc;have Br:=Hy Bd;have Bs:=Hy J;have HA:=Hy ha;have Bm:=Hy hb;have BI:=ha.2.1;have Bw:=hb.2.1;have k0:0<=k:=by omega
 obtain ⟨d,hd⟩:∃ d:Int,(la.length:Int) - lb.length=d:=⟨_,rfl⟩;obtain ⟨d',AQ⟩:∃ d:Int,(lb.length:Int) - la.length=d:=⟨_,rfl⟩;have w1:IntKind.i64.wrap ((la.length:Int) - lb.length)=d:=by rw [IntWalk.i64_in _ (by omega)];exact hd
 have w2:IntKind.i64.wrap ((lb.length:Int) - la.length)=d':=by rw [IntWalk.i64_in _ (by omega)];exact AQ
 have e0:decide (k < 0)=false:=by simp;omega
 have e1:decide (k < d)=false:=by simp;omega
 have e2:decide (k < d')=false:=by simp;omega
 obtain ⟨S,hS⟩:∃ S:Int,(la.length:Int)+lb.length=S:=⟨_,rfl⟩;have w3:IntKind.i64.wrap ((la.length:Int)+lb.length)=S:=by rw [IntWalk.i64_in _ (by omega)];exact hS
 obtain ⟨K,hK⟩:∃ K:Nat,(if S < k then S else k)=(K:Int):=⟨(if S < k then S else k).toNat,by split <;> omega⟩;have HK:=Hy (by rw [hS,hK]:(K:Int)=(if (la.length:Int)+lb.length < k then (la.length:Int)+lb.length else k));have Cj:K<=2000:=by split at hK <;> omega
 have Ck:la.length<=lb.length+K:=by split at hK <;> omega
 have Cm:lb.length<=la.length+K:=by split at hK <;> omega
 obtain ⟨A,Aa⟩:∃ A:Int,(K:Int)+1=A:=⟨_,rfl⟩;have w4:IntKind.i64.wrap ((K:Int)+1)=A:=by rw [IntWalk.i64_in _ (by omega)];exact Aa
 have Co:1<=A:=by omega
 have Cq:A<=2001:=by omega
 have D:=Hy Aa;clear hi Bc Bd J ha hb Ab hd AQ hS Aa;go_in;go_wp2_with (at_make;refine wpList_make_full w rfl _ _ 26 rfl w.heap.size 3 i0 (.int .i64 0) 1 underlying26 HI.o Bq.o Br.o .i64 .i64 _ _ (lb.length+1) rfl rfl (by omega) (by omega) (by rw [Bs.o];omega) (by unfold maxLen;omega) (nl _) ?_;intro wb Ac AS;have AD:=Hy (zaa Ac);have AG:=Hy ((bf w.heap.size w).grown AS (nl _) (fun k Ab=>by cases Ab));clear Ac AS)
 have AC:Hid (BkR wb w.heap.size (lb.length+1) (fun _=>0)):=by
  have:=AD.o;rw [show (Value.int .i64 0).cells=#[.int .i64 0] from rfl,Nat.mul_one,toList_madeCells_one] at this
  have e:rowI (fun _=>0) (lb.length+1)=List.replicate (lb.length+1) (.int .i64 0):=by
   unfold rowI;rw [List.map_const',List.length_range]
  unfold Hid BkR;rw [e];exact this
 clear AD w1 w2 w3 e0 e1 e2 hK;go_loopw [53] (fun B6 wr=>WiA w (lb.length+1) A B6 wr) (fun v _=>lb.length+1 - (intOf v).toNat)
 case atStart=>exact ⟨0,_,by omega,rfl,fun q hq=>by omega,AC.o,AG.o⟩
 case round=>
  clear AC AG;obtain ⟨j,R,hj,rfl,HR,I,T⟩:=hrel
  by_cases L:j < lb.length+1
  ·have ⟨c,hc⟩:=gn (if A < (j:Int) then A else (j:Int))
   have HC:=Hy (show c=capI A (j:Int) from hc.symm);have c0:=I.cell L;have f0:wr.frozen? ⟨w.heap.size,j,none⟩=false:=Blk.frozen I.o j;have F:=Hy (I.set j c);have G:=Hy (T.setCell (p:=⟨w.heap.size,j,none⟩) (nl _) (.int .i64 c))
   have Bp:=Hy (show ∀ q,q < j+1->setR R j c q=capI A (q:Int) from fun q hq=>by
    by_cases e:q=j
    ·rw [e,Qz,HC.o]
    ·rw [qr _ _ e];exact HR.o q (by omega))
   generalize R j=r0 at c0;go_wp2_with fail;clear hc;go_roundw
   case rel=>exact ⟨j+1,setR R j c,by omega,by go_num,Bp.o,F.o,G.o⟩
   case measure=>simp [intOf];omega
  obtain rfl:j=lb.length+1:=by omega
  have V:=Hy (show BdOK la lb K 0 R from BdOK.zero fun q hq=>by rw [D.o];exact HR.o q (by omega));clear HR L;go_wp2_with fail;obtain ⟨wo,rfl⟩:∃ wo:World,wo=wr:=⟨_,rfl⟩;go_loopw [65] (fun B7 wr=>WiB w la lb K B7 wr) (fun v _=>la.length - (intOf v).toNat)
  case atStart=>exact ⟨0,R,by omega,rfl,V.o,I.o,T.o⟩
  case round=>
   clear V I T;obtain ⟨i,R,hi,rfl,V,I,T⟩:=hrel
   by_cases L:i < la.length
   ·have ⟨i1,AT⟩:=gn (i+1)
    have wi:IntKind.i64.wrap ((i:Int)+1)=(i1:Int):=by rw [IntWalk.i64_in _ (by omega)];omega
    obtain ⟨q,hq⟩:∃ q:Int,(i1:Int) - (K:Int)=q:=⟨_,rfl⟩;have wq:IntKind.i64.wrap ((i1:Int) - (K:Int))=q:=by rw [IntWalk.i64_in _ (by omega)];exact hq
    obtain ⟨f,hf⟩:∃ f:Nat,(if q < 1 then 1 else q)=(f:Int):=⟨(if q < 1 then 1 else q).toNat,by split <;> omega⟩;obtain ⟨e,he⟩:∃ e:Int,(i1:Int)+(K:Int)=e:=⟨_,rfl⟩;have we:IntKind.i64.wrap ((i1:Int)+(K:Int))=e:=by rw [IntWalk.i64_in _ (by omega)];exact he
    obtain ⟨t,ht⟩:∃ t:Nat,(if (lb.length:Int) < e then (lb.length:Int) else e)=(t:Int):=⟨(if (lb.length:Int) < e then (lb.length:Int) else e).toNat,by split <;> omega⟩;have f1:1<=f:=by split at hf <;> omega
    have f2:i+1<=f+K:=by split at hf <;> omega
    have f3:f=1∨f+K=i+1:=by split at hf <;> omega
    have t1:t<=lb.length:=by split at ht <;> omega
    have t2:t=lb.length∨t=i+1+K/\t < lb.length:=by split at ht <;> omega
    have Be:=t2;have t3:f<=t+1:=by split at ht <;> omega
    have t4:t<=i+1+K:=by split at ht <;> omega
    have ⟨Q,A0⟩:=gn (f - 1);have wf:IntKind.i64.wrap ((f:Int) - 1)=(Q:Int):=by rw [IntWalk.i64_in _ (by omega)];omega
    obtain ⟨tf,AZ⟩:∃ tf:Int,(t:Int) - (f:Int)=tf:=⟨_,rfl⟩;have wt:IntKind.i64.wrap ((t:Int) - (f:Int))=tf:=by rw [IntWalk.i64_in _ (by omega)];exact AZ
    have ⟨N,hN⟩:=gn (t+1 - f);have wN:IntKind.i64.wrap (tf+1)=(N:Int):=by rw [IntWalk.i64_in _ (by omega)];omega
    have cf:=I.cell (j:=Q) (by omega);have ff:wr.frozen? ⟨w.heap.size,Q,none⟩=false:=Blk.frozen I.o Q;have s:=Hy (by rw [<- D.o];exact V.o Q (by omega) (by omega) (by omega):R Q=capI A (Dm la lb i Q));have F:=Hy (I.set Q A);have G:=Hy (T.setCell (p:=⟨w.heap.size,Q,none⟩) (nl _) (.int .i64 A));have A3:=MdOK.start V.o L f1 f2 f3;rw [A0,D.o] at A3;have AE:=Hy A3;have u:f+N<=t+1:=by omega
    have y:t+1<=f+N:=by omega
    have A9:=Hy (And.intro u y);have Ar:Q+1<=f:=by omega
    have As:f<=Q+1:=by omega
    have BU:Q < lb.length+1:=by omega
    have BA:(Q:Int) < (lb.length:Int)+1:=by omega
    have BK:i1<=i+1:=by omega
    have BL:i+1<=i1:=by omega
    have AA:=Hy A0;have AB:=Hy AT;have ⟨B8,Au⟩:=gn (R Q);rw [Au] at cf s;clear A3 hq he AZ hN A0 AT Au f3 t2 u y;have AF:=Hy Be;clear Be;go_upto_region 15 with fail;clear hf ht
    by_cases Ak:f=1
    focus
     have U:f=1:=by assumption
     have Az:((f:Int) == 1)=true:=by simp;omega
     have AR:Q=0:=by omega
     subst AR;have ⟨c2,AN⟩:=gn (if A < (i1:Int) then A else (i1:Int));have A7:=Hy (by rw [<- AN,<- AB.o];rfl:c2=capI A ((i:Int)+1));have Av:=Hy (by rw [if_pos Ak,<- A7.o];exact F.set 0 c2:BkR ((wr.setCell ⟨w.heap.size,0,none⟩ (.int .i64 A)).setCell ⟨w.heap.size,0,none⟩ (.int .i64 c2)) w.heap.size (lb.length+1) (if f=1 then setR (setR R 0 A) 0 (capI A ((i:Int)+1)) else setR R 0 A));have Aw:=Hy (G.setCell (p:=⟨w.heap.size,0,none⟩) (nl _) (.int .i64 c2));clear Ak A7;have A8:=Hy U;clear U Ar As
     go_wp2_with fail;clear AN Az cf ff;generalize (wr.setCell ⟨w.heap.size,0,none⟩ (.int .i64 A)).setCell ⟨w.heap.size,0,none⟩ (.int .i64 c2)=W3 at *
    rotate_left
    focus
     have U:¬ f=1:=by assumption
     have Az:((f:Int) == 1)=false:=by simp;omega
     have Av:=Hy (by rw [if_neg Ak];exact F.o:BkR (wr.setCell ⟨w.heap.size,Q,none⟩ (.int .i64 A)) w.heap.size (lb.length+1) (if f=1 then setR (setR R 0 A) 0 (capI A ((i:Int)+1)) else setR R Q A));have Aw:=Hy G.o;clear Ak;have A8:=Hy U;clear U Ar As;go_wp2_with fail;clear Az cf ff;generalize wr.setCell ⟨w.heap.size,Q,none⟩ (.int .i64 A)=W3 at *
    all_goals
     clear F G I T V AB wi wq we wf;obtain ⟨u,y⟩:=A9.o;have t2:=AF.o;clear A9 AF A8;generalize (if f=1 then setR (setR R 0 A) 0 (capI A ((i:Int)+1)) else setR R _ A)=R3 at *;go_loopw [14,102] (fun B5 Ad wz=>WiC w la lb K i f N B5 Ad wz) (fun _ Ad _=>N - (intOf Ad).toNat)
     case atStart=>exact ⟨0,R3,B8,by omega,rfl,rfl,(by unfold Hid;rw [D.o,s.o,Nat.add_zero,AA.o]),AE.o,Av.o,Aw.o⟩
     case round=>
      clear Av Aw AE s AA;obtain ⟨c,R,H,hc,rfl,rfl,Aj,l,I,T⟩:=hrel
      by_cases BO:c < N
      ·have ⟨j,hj⟩:=gn (f+c)
       have wj:IntKind.i64.wrap ((c:Int)+(f:Int))=(j:Int):=by rw [IntWalk.i64_in _ (by omega)];omega
       have ⟨E,AW⟩:=gn (j - 1);have Bf:IntKind.i64.wrap ((j:Int) - 1)=(E:Int):=by rw [IntWalk.i64_in _ (by omega)];omega
       have M:=l.o;have Ao:=Aj.o;rw [hj] at M;rw [hj,AW,D.o] at Ao;have hu:=M.2 j (nl j) (by omega) (by omega);have hv:=M.1 E (by omega) (by omega) (by omega);rw [D.o] at hu hv;have BM:E+1<=j:=by omega
       have BN:j<=E+1:=by omega
       have Al:E+1=j:=by omega
       have A1:=MdOK.next (by rw [Al];exact M:MdOK la lb K i (E+1) R) L (by omega:E < lb.length) (by omega);rw [D.o,Al] at A1;have A2:=XaI la lb E L;rw [Al] at A2;have c1:i < la.length:=L;have c2:(0:Int)<=(i:Int):=by omega
       have c3:(i:Int) < (la.length:Int):=by omega
       have c4:E < lb.length:=by omega
       have c5:(0:Int)<=(E:Int):=by omega
       have c6:(E:Int) < (lb.length:Int):=by omega
       have c7:j < lb.length+1:=by omega
       have c8:E < lb.length+1:=by omega
       have Cr:j≠E:=by omega
       have bu:=zU la lb (j) (show i<=la.length by omega);have bv:=zU la lb E (show i+1<=la.length from L);have bt:=zU la lb E (show i<=la.length by omega);have cu:=I.cell (j:=j) (by omega);have cv:=I.cell (j:=E) (by omega);have fu:wr.frozen? ⟨w.heap.size,j,none⟩=false:=Blk.frozen I.o (j);obtain ⟨ga,oa,rfl,AK,AO⟩:=HA.at L;have ca:=(T.cell (p:=⟨ga,oa+i,none⟩) AK).trans AO;obtain ⟨gb,ob,rfl,AL,AP⟩:=Bm.at (k:=E) (by omega);have cb:=(T.cell (p:=⟨gb,ob+E,none⟩) AL).trans AP;have HC:=Hy (xaK A (Dm la lb i (j)) (Dm la lb (i+1) E) (Dm la lb i E))
       have Ag:=Hy (fun z (hz:z=capI A (Dm la lb (i+1) (j)))=>show MdOK la lb K i (j+1) (setR R j z) from hz ▸ A1);have Ah:=Hy A2;have HJ:=Hy hj;rw [hu] at cu;rw [hv] at cv;have HU:=Hy hu;have ⟨B,Ap⟩:=gn (capI A (Dm la lb i (j)));have ⟨C,A4⟩:=gn (capI A (Dm la lb (i+1) E));have lu:=ZY A (Dm la lb i (j));have lv:=ZY A (Dm la lb (i+1) E);have lt:=ZY A (Dm la lb i E);have B1:0<=capI A (Dm la lb i (j)):=by unfold capI;split <;> omega
       have B2:0<=capI A (Dm la lb (i+1) E):=by unfold capI;split <;> omega
       have B0:0<=capI A (Dm la lb i E):=by unfold capI;split <;> omega
       rw [<- Ao] at lt B0;rw [Ap] at cu lu B1;rw [A4] at cv lv B2;have AH:=Hy Ap;have Cv:=lu.1;have Cw:=lv.1;have Cu:=lt.1;have Ae:=Hy (fun c hc=>show (if A < (if H+c < (if C < B then C+1 else B+1) then H+c else if C < B then C+1 else B+1) then A else if H+c < (if C < B then C+1 else B+1) then H+c else if C < B then C+1 else B+1)=capI A (ZH (Dm la lb (i+1) E+1) (Dm la lb i j+1) (Dm la lb i E+c)) from by rw [Ao,<- Ap,<- A4];exact HC.o c hc);have Af:=Hy (fun z nq=>(show BkR (wr.drewN nq) w.heap.size (lb.length+1) R from I.o).set (j) z)
       have Ai:=Hy (fun z nq=>(below_drewN T.o nq).setCell (p:=⟨w.heap.size,j,none⟩) (nl _) (.int .i64 z));clear Al M A1 A2 bu bv bt AO AP HC Ap A4 lu lv lt Ao hu hv hj AW I T l Aj;generalize la.getD i 0=qa at *;generalize lb.getD E 0=qb at *
       by_cases Am:qa=qb
       ·subst Am
        have dq:(qa != qa)=false:=by simp
        have ⟨z,J⟩:=gn (if A < (if H < (if C < B then C+1 else B+1) then H else if C < B then C+1 else B+1) then A else if H < (if C < B then C+1 else B+1) then H else if C < B then C+1 else B+1);have hz:(if A < (if H < (if C+1 < B+1 then C+1 else B+1) then H else if C+1 < B+1 then C+1 else B+1) then A else if H < (if C+1 < B+1 then C+1 else B+1) then H else if C+1 < B+1 then C+1 else B+1)=z:=by rw [<- J];simp only [Int.add_lt_add_iff_right]
        have hM:¬ A < (if H < (if C < B then C+1 else B+1) then H else if C < B then C+1 else B+1):=by (repeat' split) <;> omega
        have Bz:(if H < (if C < B then C+1 else B+1) then H else if C < B then C+1 else B+1)=z:=by rw [<- J,if_neg hM]
        clear hM
        have HZ:=Hy (show z=capI A (Dm la lb (i+1) (j)) from by
         rw [Ah.o,if_pos rfl,<- Ae.o 0 (.inl rfl),<- J];simp only [Int.add_zero])
        have r:=Hy (Ag.o z HZ.o);clear Ag Ae Ah HZ;go_wp2_with fail;go_quiet (fail);have F:=Hy (Af.o z nq);have G:=Hy (Ai.o z nq);clear Af Ai;go_wp2_with fail;clear hz J Bz wj Bf;go_roundw
        case rel=>exact ⟨c+1,setR R (j) z,B,by omega,by go_num,rfl,(by unfold Hid;rw [D.o,<- AH.o];congr 2;have:=HJ.o;omega),(by have:=r.o;unfold Hid;rw [show f+(c+1)=j+1 from by have:=HJ.o;omega];exact this),F.o,G.o⟩
        case measure=>simp [intOf];omega
       ·have dq:(qa != qb)=true:=by simpa using Am
        have ⟨z,J⟩:=gn (if A < (if H+1 < (if C < B then C+1 else B+1) then H+1 else if C < B then C+1 else B+1) then A else if H+1 < (if C < B then C+1 else B+1) then H+1 else if C < B then C+1 else B+1);have hz:(if A < (if H+1 < (if C+1 < B+1 then C+1 else B+1) then H+1 else if C+1 < B+1 then C+1 else B+1) then A else if H+1 < (if C+1 < B+1 then C+1 else B+1) then H+1 else if C+1 < B+1 then C+1 else B+1)=z:=by rw [<- J];simp only [Int.add_lt_add_iff_right]
        have HZ:=Hy (show z=capI A (Dm la lb (i+1) (j)) from by
         rw [Ah.o,if_neg Am,<- Ae.o 1 (.inr rfl),<- J])
        have r:=Hy (Ag.o z HZ.o);clear Ag Ae Ah HZ Am;go_wp2_with fail;go_quiet (fail);have F:=Hy (Af.o z nq);have G:=Hy (Ai.o z nq);clear Af Ai;go_wp2_with fail;clear hz J wj Bf;go_roundw
        case rel=>exact ⟨c+1,setR R (j) z,B,by omega,by go_num,rfl,(by unfold Hid;rw [D.o,<- AH.o];congr 2;have:=HJ.o;omega),(by have:=r.o;unfold Hid;rw [show f+(c+1)=j+1 from by have:=HJ.o;omega];exact this),F.o,G.o⟩
        case measure=>simp [intOf];omega
      ·obtain rfl:c=N:=by omega
       have M:=l.o;rw [show f+c=t+1 by omega] at M;have Y:=MdOK.done f2 M L t2
       by_cases An:t < lb.length
       ·rw [if_pos An,D.o] at Y
        have g:=Hy Y;have ⟨P,At⟩:=gn (t+1);have B9:IntKind.i64.wrap ((t:Int)+1)=(P:Int):=by rw [IntWalk.i64_in _ (by omega)];omega
        have ct:=I.cell (j:=P) (by omega);have ft:wr.frozen? ⟨w.heap.size,P,none⟩=false:=Blk.frozen I.o P;have F:=Hy (by rw [At];exact I.set P A:BkR (wr.setCell ⟨w.heap.size,P,none⟩ (.int .i64 A)) w.heap.size (lb.length+1) (setR R (t+1) A));have G:=Hy (T.setCell (p:=⟨w.heap.size,P,none⟩) (nl _) (.int .i64 A));have b1:P < lb.length+1:=by omega
        clear M Y At l Aj I T;generalize R P=rt at ct;go_wp2_with fail;clear B9;go_roundw
        case rel=>first | exact ⟨i+1,_,by omega,by go_num,g.o,F.o,G.o⟩ | ((repeat apply Exists.intro);exact ⟨⟨i+1,_,by omega,by go_num,g.o,F.o,G.o⟩,rfl⟩)
        case measure=>simp [intOf];omega
       ·rw [if_neg An] at Y
        have g:=Hy Y;have dt:decide ((t:Int) < (lb.length:Int))=false:=by simp;omega
        have Cb:decide (t < lb.length)=false:=by simpa using An
        clear M Y l Aj An;go_wp2_with fail;go_roundw
        case rel=>first | exact ⟨i+1,R,by omega,by go_num,g.o,I.o,T.o⟩ | ((repeat apply Exists.intro);exact ⟨⟨i+1,R,by omega,by go_num,g.o,I.o,T.o⟩,rfl⟩)
        case measure=>simp [intOf];omega
   obtain rfl:i=la.length:=by omega
   have hx:=V.o lb.length (nl _) (by omega) (by omega);have W:=YaC HK.o (x:=R lb.length) (by rw [hx];rfl);have cx:=I.cell (j:=lb.length) (by omega);have ⟨x,Ba⟩:=gn (R lb.length);rw [Ba] at cx W;have Z:=Bn.symm.trans W;clear hx W Ba
   by_cases Ax:(K:Int) < x
   ·rw [if_pos Ax] at Z
    obtain ⟨rfl,rfl⟩:=Prod.mk.inj Z;clear Z;go_wp2_with fail;go_ret2;exact ⟨rfl,T.o⟩
   rw [if_neg Ax] at Z
   obtain ⟨rfl,rfl⟩:=Prod.mk.inj Z;clear Z;have dK:decide ((K:Int) < n1)=false:=by simpa using Ax
   go_wp2_with fail;go_ret2;exact ⟨rfl,T.o⟩
end
def toIter (W:World) (B:Nat) (s:ByteArray) (pos:Nat):World:={W with heap:=W.heap.setIfInBounds B (.stringIter s pos)}
def atIter (W:World) (B:Nat) (s:ByteArray) (pos:Nat):Prop:=W.heap[B]?=some (.stringIter s pos)
theorem zay {W:World} {B:Nat} {s:ByteArray} {pos:Nat} (h:atIter W B s pos) (A:Nat):atIter (toIter W B s A) B s A:=by
 unfold atIter toIter at *;have C:=(Array.getElem?_eq_some_iff.1 h).1;simp [C]
theorem Yaf {P:Program} {W:World} {B:Nat} {s:ByteArray} {pos:Nat} (hB:atIter W B s pos) (ty:TypeId) (h:pos < s.size):
  (Instr.next (.pointer (some ⟨B,0,none⟩)) true ty).run P W=.ok (.tuple #[true,pos,.int .i32 (Utf8.decode s pos).1]) (toIter W B s (pos+(Utf8.decode s pos).2)):=by
 unfold atIter at hB;simp only [Instr.next,getObj,setObj,Sem.run_bind,Sem.run,hB,Result.andThen,h,if_true,toIter];simp [goInt]
theorem zT {P:Program} {W:World} {B:Nat} {s:ByteArray} {pos:Nat} (hB:atIter W B s pos) (ty:TypeId) (h:¬ pos < s.size):
  (Instr.next (.pointer (some ⟨B,0,none⟩)) true ty).run P W=.ok (.tuple #[false]) W:=by
 unfold atIter at hB;simp [Instr.next,getObj,Sem.run,hB,h]
theorem z8 (W:World) (B:Nat) (s:ByteArray) (C:Nat):W.grownBy (toIter W B s C) (some B):=
 ⟨rfl,rfl,rfl,by simp [toIter],fun k D A=>by unfold toIter;simp only;rw [Array.getElem?_setIfInBounds_ne (by intro e;subst e;exact A rfl)]⟩
theorem XC {W W':World} {B:Nat} {s:ByteArray} {pos:Nat} {row:Option Nat} (h:atIter W B s pos) (hg:W.grownBy W' row) (hr:row≠some B):atIter W' B s pos:=by
 unfold atIter at *;have A:=(Array.getElem?_eq_some_iff.1 h).1;rw [hg.block B A (fun e=>hr e.symm)];exact h
def iterPos' (W:World) (B:Nat):Nat:=match W.heap[B]? with | some (.stringIter _ p)=>p | _=>0
theorem xJ {W:World} {B:Nat} {s:ByteArray} {pos:Nat} (h:atIter W B s pos):iterPos' W B=pos:=by unfold iterPos';unfold atIter at h;rw [h]
def rFrom (s:ByteArray):Nat->Nat->List Int->Option (List Int)
 | 0,_,acc=>some acc
 | b+1,pos,acc=>if pos < s.size then (if (Utf8.decode s pos).1=65533 then none else rFrom s b (pos+(Utf8.decode s pos).2) (acc++[((Utf8.decode s pos).1:Int)])) else some acc
def runesO (s:ByteArray):Option (List Int):=rFrom s s.size 0 []
theorem xW (s:ByteArray) (b B:Nat) (A:List Int) (h:¬ B < s.size):rFrom s b B A=some A:=by
 cases b with
 | zero=>rfl
 | succ b=>simp [rFrom,h]
theorem QW (s:ByteArray):∀ (b pos:Nat) (acc:List Int),tLenFrom s b pos acc.length=(match rFrom s b pos acc with | none=> -1 | some l=>(l.length:Int))
 | 0,_,acc=>rfl
 | b+1,pos,acc=>by
  unfold tLenFrom rFrom
  split
  ·split
   ·rfl
   ·have:=QW s b (pos+(Utf8.decode s pos).2) (acc++[((Utf8.decode s pos).1:Int)])
    rw [List.length_append] at this
    exact this
  ·rfl
theorem Xap (s:ByteArray):tLen s=(match runesO s with | none=> -1 | some l=>(l.length:Int)):=QW s s.size 0 []
theorem infoR:(Tryz.prog.info? 21).map (fun i=>(i.zero,i.size,i.bytes))=some (some (.int .i32 0),1,4):=by kernel_rfl
def GotR (w:World) (r:Option (List Int)) (e:Ending) (w':World):Prop:=(match r with | none=>e=.returned (.tuple #[.slice none 0 0,false]) | some l=>∃ ao c,e=.returned (.tuple #[.slice ao l.length c,true])/\RdR w' ao l.length c l)/\Below w.heap.size w w'
def r32 (l:List Int):List Value:=l.map (Value.int .i32)
def RRel (w:World) (s:ByteArray) (v4:Value) (wr:World):Prop:=∃ (pos b:Nat) (acc:List Int) (ao:Option Addr) (q c:Nat),v4=.slice ao q c/\Hid (acc.length=q)/\q<=pos/\q<=s.size/\s.size<=pos+b/\Hid (rFrom s b pos acc=runesO s)/\Hid (atIter wr w.heap.size s pos)/\Hid (wr.ownsRow (w.heap.size+1) 21 1 (.slice ao q c) q (r32 acc))/\Hid (Below w.heap.size w wr)
theorem XW (s:ByteArray) (w:World) (hs:s.size<=1000000):
  Calls prog 184 #[s] w (GotR w (runesO s)):=by
 obtain ⟨i0,hi,m,n,p⟩:=info_parts infoR;clear hi m n p;have R:=Hy (show Below w.heap.size w (w.iter s 0) from (bf _ w).alloc (nl _) _);have B:=Hy (show atIter (w.iter s 0) w.heap.size s 0 from World.iter_heap w s 0);go_in;go_wp2_with fail;generalize w.iter s 0=w0 at *;go_loopw [4,6] (fun v4 _ wr=>RRel w s v4 wr) (fun _ _ wr=>s.size - iterPos' wr w.heap.size)
 case atStart=>exact ⟨0,s.size,[],none,0,0,rfl,rfl,by omega,by omega,by omega,rfl,B.o,World.ownsRow_nil _ _ _ _,R.o⟩
 case round=>
  clear R B;obtain ⟨A,b,I,ao,q,c,rfl,f,Ae,Af,hb,T,B,W,Y⟩:=hrel;have a:=Hy (xJ B.o);have j:=Y.size;have t:w.heap.size < wr.heap.size:=(Array.getElem?_eq_some_iff.1 B.o).1
  by_cases Q:A < s.size
  ·have N:∀ P,(Instr.next (.pointer (some ⟨w.heap.size,0,none⟩)) true P).run prog wr=_:=fun P=>Yaf B.o P Q
   have l:=Lib.decode_width_pos s A Q;have D:=Hy (zay B.o (A+(Utf8.decode s A).2));have L:=z8 wr w.heap.size s (A+(Utf8.decode s A).2);have G:=Hy (W.kept L (.inr (by intro e;have:=(W.lt _ e).1;omega)));have H:=Hy (Y.grown L j (fun k M=>by cases M;exact nl _));have V:=H.size;have u:w.heap.size < (toIter wr w.heap.size s (A+(Utf8.decode s A).2)).heap.size:=(Array.getElem?_eq_some_iff.1 D.o).1;clear L
   by_cases C:(Utf8.decode s A).1=65533
   ·rw [C] at N
    have v:runesO s=none:=by
     rw [<- T.o];cases b with
     | zero=>omega
     | succ b=>simp [rFrom,Q,C]
    have z:=Hy v;clear v T;generalize toIter wr w.heap.size s (A+(Utf8.decode s A).2)=w2 at *;go_wp2_with fail;go_ret2;rw [z.o];exact ⟨rfl,H.o⟩
   obtain ⟨r,i⟩:∃ r:Int,((Utf8.decode s A).1:Int)=r:=⟨_,rfl⟩
   have U:Hid (rFrom s (b - 1) (A+(Utf8.decode s A).2) (I++[r])=runesO s):=by
    unfold Hid;rw [<- T.o];cases b with
    | zero=>omega
    | succ b=>rw [<- i];simp [rFrom,Q,C]
   generalize toIter wr w.heap.size s (A+(Utf8.decode s A).2)=w2 at *;have ⟨wd,y⟩:=gn ((Utf8.decode s A).2);have Ac:(r == 65533)=false:=by simp;omega
   rw [i] at N;rw [y] at l U D;clear i y C T B W Y;go_wp2_with (at_builtin;refine wa infoR underlying270 (G.alloc _) (Src.one' underlying270 w2 _ 21 rfl) (by unfold maxLen;omega) (by omega) (by simp;omega) ?_;intro h c2 w3 E K;have d:=Hy E;have g:=Hy ((H.alloc V _).grown K (by simp;omega) (fun k M=>by have:=(G.lt k M).1;omega));have F:=Hy (XC (XC D.o (xO _ _ none) (by simp)) K (by intro e;have:=(G.lt _ e).1;omega));clear E K);go_roundw
   case rel=>exact ⟨A+wd,b - 1,I++[r],h,q+1,c2,rfl,(by unfold Hid;rw [List.length_append,f.o];rfl),by omega,by omega,by omega,U.o,F.o,(by unfold r32;rw [List.map_append];exact d.o),g.o⟩
   case measure=>rw [xJ F.o,a.o];omega
  have N:∀ P,(Instr.next (.pointer (some ⟨w.heap.size,0,none⟩)) true P).run prog wr=_:=fun P=>zT B.o P Q
  have J:=T.o;rw [xW s b A I Q] at J;have Z:=Hy J;have hq:=f.o;subst hq;clear J f;go_wp2_with fail;go_ret2;rw [<- Z.o];exact ⟨⟨ao,c,rfl,Yc W.o⟩,Y.o⟩
def askedB (s:ByteArray):Bool:=decide (0<=tLen s)&&decide (tLen s<=16)
theorem yU (s:ByteArray) (w:World) (hs:s.size<=maxLen):
  Calls prog 71 #[s] w fun e w'=>e=.returned (.bool (askedB s))/\Below w.heap.size w w':=by
 unfold askedB;have H:=Hy (xE s w hs);generalize tLen s=z at *
 by_cases h1:0<=z
 ·have A:decide (0<=z)=true:=by simp;omega
  rw [A];go_in;go_wp2_with fail;refine (H.o).mono ?_;rintro e w' ⟨rfl,B⟩;go_wp2_with fail;go_ret;exact ⟨by simp,B⟩
 have A:decide (0<=z)=false:=by simp;omega
 rw [A];go_in;go_wp2_with fail;refine (H.o).mono ?_;rintro e w' ⟨rfl,B⟩;go_wp2_with fail;go_ret;exact ⟨by simp,B⟩
def distT (s t:ByteArray):Int:=match runesO s,runesO t with
 | some a,some b=>distL a b
 | _,_=> -1
theorem XaK (a b:List Int):0<=distL a b/\distL a b<=(a.length:Int)+b.length:=by
 have:=XE a b b.length a.length (nl _);unfold distL rowsL;omega
theorem Xad (s:ByteArray):∀ (b pos:Nat) (acc l:List Int),rFrom s b pos acc=some l->l.length<=acc.length+b
 | 0,_,acc,l,h=>by simp [rFrom] at h;rw [<- h];omega
 | b+1,pos,acc,l,h=>by
  unfold rFrom at h
  split at h
  ·split at h
   ·cases h
   ·have:=Xad s b _ _ l h
    simp at this;omega
  ·simp at h;rw [<- h];omega
theorem YW {s:ByteArray} {l:List Int} (h:runesO s=some l):l.length<=s.size:=by
 have:=Xad s s.size 0 [] l h;simpa using this
theorem zab {s t:ByteArray} (h:runesO s=none):distT s t= -1:=by unfold distT;rw [h]
theorem yab {s t:ByteArray} (h:runesO t=none):distT s t= -1:=by unfold distT;rw [h];cases runesO s <;> rfl
theorem xak {s t:ByteArray} {a b:List Int} (h:runesO s=some a) (k:runesO t=some b):distT s t=distL a b:=by unfold distT;rw [h,k]
def nearT (s t:ByteArray) (k:Int):Int×Bool:=if 0<=distT s t/\distT s t<=k then (distT s t,true) else (0,false)
theorem QJ {s t:ByteArray} {k:Int} (h:runesO s=none):nearT s t k=(0,false):=by unfold nearT;rw [zab h,if_neg (by omega)]
theorem qad {s t:ByteArray} {k:Int} (h:runesO t=none):nearT s t k=(0,false):=by unfold nearT;rw [yab h,if_neg (by omega)]
theorem Qam {s t:ByteArray} {k:Int} {a b:List Int} (h:runesO s=some a) (h2:runesO t=some b):nearT s t k=nearL a b k:=by
 unfold nearT nearL;rw [xak h h2];have:=XaK a b
 by_cases A:distL a b<=k
 ·rw [if_pos ⟨this.1,A⟩,if_pos A]
 rw [if_neg (fun h=>A h.2),if_neg A]
theorem XaO (s t:ByteArray) (k:Int) (w:World) (h1:s.size<=1000) (h2:t.size<=1000):
  Calls prog 139 #[s,t,k] w fun e w'=>e=.returned (.tuple #[.int .i64 (nearT s t k).1,.bool (nearT s t k).2])/\Below w.heap.size w w':=by
 have I:=Hy (fun W=>XW s W (by omega));have HB:=Hy (fun W=>XW t W (by omega));obtain ⟨⟨d,b⟩,hd⟩:∃ d,nearT s t k=d:=⟨_,rfl⟩;rw [hd];have J:=Hy hd;clear hd;cases H:runesO s with
 | none=>
  rw [H] at I;have E:=Hy H;clear H;go_in;go_wp2_with fail;refine (I.o _).mono ?_;rintro e Z ⟨rfl,A⟩;have B:=Hy A;clear A;cases D:runesO t with
  | none=>
   rw [D] at HB;clear D;go_wp2_with fail;refine (HB.o _).mono ?_;rintro e P ⟨rfl,A⟩;have C:=Hy (B.trans (A.mono B.size));clear A;obtain ⟨rfl,rfl⟩:=Prod.mk.inj (J.symm.trans (QJ E.o));go_wp2_with fail;go_ret2;exact ⟨rfl,C.o⟩
  | some Q=>
   rw [D] at HB;clear D;go_wp2_with fail;refine (HB.o _).mono ?_;rintro e P ⟨⟨T,c,rfl,G⟩,A⟩;have C:=Hy (B.trans (A.mono B.size));clear A G;obtain ⟨rfl,rfl⟩:=Prod.mk.inj (J.symm.trans (QJ E.o));go_wp2_with fail;go_ret2;exact ⟨rfl,C.o⟩
 | some la=>
  have V:=YW H;rw [H] at I;have E:=Hy H;clear H;go_in;go_wp2_with fail;refine (I.o _).mono ?_;rintro e Z ⟨⟨T,c,rfl,G⟩,A⟩;have B:=Hy A;have L:=Hy G;clear A G;cases D:runesO t with
  | none=>
   rw [D] at HB;have F:=Hy D;clear D;go_wp2_with fail;refine (HB.o _).mono ?_;rintro e P ⟨rfl,A⟩;have C:=Hy (B.trans (A.mono B.size));clear A;obtain ⟨rfl,rfl⟩:=Prod.mk.inj (J.symm.trans (qad F.o));go_wp2_with fail;go_ret2;exact ⟨rfl,C.o⟩
  | some Q=>
   have Y:=YW D;rw [D] at HB;have F:=Hy D;clear D;go_wp2_with fail;refine (HB.o _).mono ?_;rintro e P ⟨⟨U,a,rfl,G⟩,A⟩;have C:=Hy (B.trans (A.mono B.size));have M:=Hy G;have N:=Hy (L.below A rfl);clear A G;have R:=Hy (J.symm.trans (Qam E.o F.o));go_wp2_with fail;refine (yaa _ _ _ la _ _ _ Q k _ N.o M.o (by omega) (by omega)).mono ?_;rintro e f ⟨rfl,A⟩;rw [<- R.o];have K:=Hy (C.trans (A.mono C.size));clear A;go_wp2_with fail;go_ret2;exact ⟨rfl,K.o⟩
def nearO (s:ByteArray) (k:Int) (w:ByteArray):Option KeyL:=if (nearT s w k).2=true then some ((nearT s w k).1,w) else none
def nearI (words:List ByteArray) (s:ByteArray) (k:Int):List KeyL:=words.filterMap (nearO s k)
theorem xam (words:List ByteArray) (s:ByteArray) (k:Int) (w:ByteArray):nearI (words++[w]) s k=nearI words s k++(if (nearT s w k).2=true then [((nearT s w k).1,w)] else []):=by
 unfold nearI;rw [List.filterMap_append];congr 1;unfold nearO;rw [List.filterMap_cons];split <;> rename_i h
 ·split at h
  ·cases h
  rename_i A;rw [if_neg A];rfl
 split at h
 ·rename_i A;cases h;rw [if_pos A];rfl
 cases h
theorem QaC (words:List ByteArray) (s:ByteArray) (k:Int):(nearI words s k).length<=words.length:=List.length_filterMap_le _ _
def allL (words:List ByteArray) (s:ByteArray) (k:Int):List KeyL:=sortL (nearI words s k)
def mayQ (q:ByteArray) (k n:Int):Bool:=askedB q&&decide (0<=k)&&decide (k<=4)&&decide (1<=n)&&decide (n<=10)
theorem xaJ (words:List ByteArray) (s:ByteArray) (k:Int):(allL words s k).length<=words.length:=by unfold allL;rw [xX];exact QaC _ _ _
theorem yaQ (q:ByteArray) (k n:Int) (w:World) (hs:q.size<=maxLen):
  Calls prog 24 #[.agg #[q,k,n]] w fun e w'=>e=.returned (.bool (mayQ q k n))/\Below w.heap.size w w':=by
 have ⟨R,F⟩:=gn (mayQ q k n);rw [F];have C:=Hy F;clear F;have L:=Hy (fun W=>yU q W hs);have B:=Hy (show mayQ q k n=(askedB q&&decide (0<=k)&&decide (k<=4)&&decide (1<=n)&&decide (n<=10)) from rfl);generalize askedB q=x at *;have HB:=Hy ((bf _ w).alloc (nl _) (.cells #[q,k,n] 40));have E:=Hy (show Blk (w.alloc (.cells #[q,k,n] 40)) w.heap.size 40 [q,k,n] from hn_ w _);go_in;go_wp2_with fail;refine (L.o _).mono ?_
 rintro e Q ⟨rfl,G⟩;have A:=Hy (HB.trans (G.mono HB.size));have D:=Hy (E.below G (Blk.lt E.o));obtain ⟨M,N,P⟩:=c3 D.o;clear G HB E D;cases x
 ·obtain rfl:R=false:=by rw [<- C.o,B.o];rfl
  go_wp2_with fail;go_ret;exact ⟨rfl,A.o⟩
 by_cases H:0<=k
 ·by_cases I:k<=4
  ·by_cases J:1<=n
   ·by_cases K:n<=10
    ·obtain rfl:R=true:=by rw [<- C.o,B.o];simp [H,I,J,K]
     go_wp2_with fail;go_ret;exact ⟨rfl,A.o⟩
    have d:decide (n<=10)=false:=by simpa using K
    obtain rfl:R=false:=by rw [<- C.o,B.o,d];simp
    go_wp2_with fail;go_ret;exact ⟨rfl,A.o⟩
   have d:decide (1<=n)=false:=by simpa using J
   obtain rfl:R=false:=by rw [<- C.o,B.o,d];simp
   go_wp2_with fail;go_ret;exact ⟨rfl,A.o⟩
  have d:decide (k<=4)=false:=by simpa using I
  obtain rfl:R=false:=by rw [<- C.o,B.o,d];simp
  go_wp2_with fail;go_ret;exact ⟨rfl,A.o⟩
 have d:decide (0<=k)=false:=by simpa using H
 obtain rfl:R=false:=by rw [<- C.o,B.o,d];simp
 go_wp2_with fail;go_ret;exact ⟨rfl,A.o⟩
def AlR (w:World) (words:List ByteArray) (s:ByteArray) (k:Int) (v7 v14:Value) (wr:World):Prop:=∃ (i m:Nat) (ao:Option Addr) (c:Nat),i<=words.length/\m<=i/\v14=.int .i64 i/\v7=.slice ao m c/\Hid ((nearI (words.take i) s k).length=m)/\Hid (wr.ownsRow w.heap.size 46 2 (.slice ao m c) m ((nearI (words.take i) s k).flatMap KeyL.cells))/\Hid (Below w.heap.size w wr)
theorem Src.item1 (w:World) (x:KeyL):Src prog 2 56 (.slice (some ⟨w.heap.size,0,none⟩) 1 1) 1 (KeyL.cells x) (w.alloc (.cells #[x.1,x.2] 46)):=
 Src.ofSlice _ underlying56 ⟨w.heap.size,0,none⟩ 1 1 (KeyL.cells x) rfl (World.news_of_block (hn_ w _)) (itemOne x)
theorem qae (w:World) (R:Option Addr) (n c:Nat) (words:List ByteArray) (s:ByteArray) (k:Int) (h:RdT w R n c words) (hn:words.length<=1000) (hw:∀ x∈words,x.size<=1000) (hs:s.size<=1000):
  Calls prog 86 #[.slice R n c,s,k] w fun e w'=>OwnI w (allL words s k) e w':=by
 obtain ⟨i0,hi,t,u,y⟩:=info_parts Qf;clear hi t u y;have hl:words.length=n:=by have:=h.1;simpa using this
 subst hl;have Ah:=h.2.1;have q:=h.2.2.1;unfold maxLen at q;have HR:=Hy h;have HW:=Hy hw;have V:=Hy (fun x W (I:x.size<=1000)=>XaO s x k W hs I);have f:=Hy (fun w R n c l h hn=>QaF w R n c l h hn);clear h hw;go_in;go_wp2_with fail;go_loopw [7,14] (fun v7 z wr=>AlR w words s k v7 z wr) (fun _ v _=>words.length - (intOf v).toNat)
 case atStart=>exact ⟨0,0,none,0,by omega,by omega,rfl,rfl,rfl,World.ownsRow_nil _ _ _ _,bf _ _⟩
 case round=>
  obtain ⟨i,m,a1,c1,hi,At,rfl,rfl,F,Y,HB⟩:=hrel
  by_cases P:i < words.length
  ·obtain ⟨x,I⟩:∃ x,words[i]?=some x:=⟨_,le_ P⟩
   have Q:=HW.o x (List.mem_iff_getElem?.2 ⟨i,I⟩);obtain ⟨b,off,rfl,Aq,hc⟩:=(Rd.below HR.o HB.o rfl).2.2.2.2 i P;have cx:wr.cell? ⟨b,off+i,none⟩=some (.string x):=by rw [hc,List.getElem?_map,I];rfl
   have G:=Hy (by rw [List.take_add_one,I];exact xam _ _ _ _:nearI (words.take (i+1)) s k=nearI (words.take i) s k++(if (nearT s x k).2=true then [((nearT s x k).1,x)] else []));have j:=Hy Q;clear I hc Q;go_wp2_with fail;refine (V.o x wr j.o).mono ?_;rintro e w1 ⟨rfl,D⟩;have C:=Hy (HB.trans (D.mono HB.size));have L:=Hy (Qa Y.o D);clear D HB Y cx;obtain ⟨⟨d,ok⟩,M⟩:∃ p,nearT s x k=p:=⟨_,rfl⟩;rw [M] at G ⊢;clear M;cases ok
   ·have A:=Hy (by rw [G.o];simp:nearI (words.take (i+1)) s k=nearI (words.take i) s k)
    go_wp2_with fail;go_roundw
    case rel=>exact ⟨i+1,m,a1,c1,by omega,by omega,by go_num,rfl,by rw [A.o];exact F.o,by rw [A.o];exact L.o,C.o⟩
    case measure=>simp [intOf];omega
   have A:=Hy (by rw [G.o];simp:nearI (words.take (i+1)) s k=nearI (words.take i) s k++[(d,x)])
   have A1:m+1<=maxLen:=by unfold maxLen;omega
   have A2:(m+1) * 24<=140737488355328:=by omega
   have J:=Hy ((bf _ w1).alloc (nl _) (.cells #[d,x] 46));have K:=Hy (Qa L.o J.o);have hz:w.heap.size<=(w1.alloc (.cells #[d,x] 46)).heap.size:=nr C.size J.size;have U:=Hy (C.alloc C.size (.cells #[d,x] 46));have g:=Hy (Src.item1 w1 (d,x));go_wp2_with (at_builtin;refine wa Qf underlying56 K.o g.o A1 A2 hz ?_;intro a3 c3 w5 B N;have Z:=Hy (by rw [A.o,List.flatMap_append];simpa using B:w5.ownsRow w.heap.size 46 2 (.slice a3 (m+1) c3) (m+1) ((nearI (words.take (i+1)) s k).flatMap KeyL.cells));have T:=Hy (U.grown N hz (fun b D=>(K.lt b D).1));clear B N)
   go_roundw
   case rel=>exact ⟨i+1,m+1,a3,c3,by omega,by omega,by go_num,rfl,by rw [A.o,List.length_append,F.o];rfl,Z.o,T.o⟩
   case measure=>simp [intOf];omega
  obtain rfl:i=words.length:=by omega
  have H:=F.o;have r:=Y.o;rw [List.take_length] at H r;have a:=Hy (Za (enc:=KeyL.cells) (fun _=>rfl) H r);have hm:m<=1000:=by omega
  clear H r;go_wp2_with fail;refine (f.o wr a1 m c1 (nearI words s k) a.o hm).mono ?_;rintro e w2 ⟨a2,c2,rfl,E,D⟩;have HE:=Hy (show OwnI w (allL words s k) (.returned (.slice a2 (sortL (nearI words s k)).length c2)) w2 from ⟨a2,c2,rfl,zi E HB.size,HB.trans (D.mono HB.size)⟩);clear E D;go_wp2_with fail;go_ret;exact HE.o
def atF (L:List Nat) (k:Int):Option Int:=if 0<=k then (match L[k.toNat]? with | some x=>if x=0 then none else some (x:Int) | none=>none) else none
def ofF (L:List Nat) (id:Int):Option Int:=if 0 < id then (L.findIdx? (fun x:Nat=>decide ((x:Int)=id))).map (fun s:Nat=>(s:Int)) else none
def cntS (L:List Nat):Nat:=L.countP (fun x=>decide (x≠0))
structure SlOK (L:List Nat) (last:Nat):Prop where
 one:∀ (s s' x:Nat),L[s]?=some x->L[s']?=some x->x≠0->s=s'
 le:∀ x∈L,x<=last
 len:1<=L.length/\L.length<=4
theorem XaV (L:List Nat):cntS L<=L.length:=List.countP_le_length
def freeS (L:List Nat):Option Nat:=L.findIdx? (fun x=>decide (x=0))
theorem yV {L:List Nat}:freeS L=none↔cntS L=L.length:=by
 unfold freeS cntS;rw [List.findIdx?_eq_none_iff,List.countP_eq_length];constructor
 ·intro h x A;have:=h x A;simpa using this
 intro h x A;have:=h x A;simpa using this
theorem qH {L:List Nat} {s:Nat} (h:freeS L=some s):L[s]?=some 0/\∀ j,j < s->∃ x,L[j]?=some x/\x≠0:=by
 unfold freeS at h;rw [List.findIdx?_eq_some_iff_getElem] at h;obtain ⟨h1,A,B⟩:=h;refine ⟨by rw [List.getElem?_eq_getElem h1];simpa using A,fun j C=>⟨L[j]'(by omega),le_ _,?_⟩⟩;have:=B j C;simpa using this
theorem yD {L:List Nat} {s x y:Nat} (h:L[s]?=some x):cntS (L.set s y)+(if x≠0 then 1 else 0)=cntS L+(if y≠0 then 1 else 0):=by
 obtain ⟨B,A⟩:=lg h;unfold cntS;rw [List.countP_set B,A]
 have:(if decide (x≠0)=true then 1 else 0)<=L.countP (fun x=>decide (x≠0)):=by
  split
  ·rename_i C
   exact List.countP_pos_iff.2 ⟨x,lm h,C⟩
  ·exact nz _
 simp only [decide_eq_true_eq] at this ⊢;omega
theorem Xas {L:List Nat} {s x y:Nat} (h:L[s]?=some x) (j:Int):atF (L.set s y) j=mputF (atF L) (s:Int) (if y=0 then none else some (y:Int)) j:=by
 obtain ⟨B,C⟩:=lg h;unfold mputF;unfold atF
 by_cases e:j=(s:Int)
 ·subst e
  rw [ip,if_pos rfl,Int.toNat_natCast,List.getElem?_set_self B]
 rw [if_neg e]
 by_cases A:0<=j
 ·rw [if_pos A,if_pos A,List.getElem?_set_ne (by omega)]
 rw [if_neg A,if_neg A]
theorem Zc (ho:SlOK L last) {id:Int} {s:Int}:ofF L id=some s↔0 < id/\0<=s/\L[s.toNat]?=some id.toNat:=by
 unfold ofF
 by_cases C:0 < id
 ·rw [if_pos C]
  constructor
  ·intro h
   simp only [Option.map_eq_some_iff] at h;obtain ⟨k,A,rfl⟩:=h;rw [List.findIdx?_eq_some_iff_getElem] at A;obtain ⟨h1,D,_⟩:=A;refine ⟨C,by omega,?_⟩;rw [Int.toNat_natCast,List.getElem?_eq_getElem h1];simp only [decide_eq_true_eq] at D;congr 1;omega
  rintro ⟨_,D,E⟩
  simp only [Option.map_eq_some_iff];refine ⟨s.toNat,?_,by omega⟩;obtain ⟨F,G⟩:=lg E;rw [List.findIdx?_eq_some_iff_getElem];refine ⟨F,by simp only [decide_eq_true_eq];omega,fun j H=>?_⟩;simp only [decide_eq_true_eq];intro e;have B:j < L.length:=by omega
  have:=ho.one j s.toNat id.toNat (by rw [List.getElem?_eq_getElem B];congr 1;omega) E (by omega);omega
 rw [if_neg C]
 constructor
 ·intro h;cases h
 rintro ⟨h,_⟩;omega
theorem SlOK.put {L:List Nat} {last s:Nat} (h:SlOK L last) (hs:L[s]?=some 0):SlOK (L.set s (last+1)) (last+1):=by
 obtain ⟨E,F⟩:=lg hs;refine ⟨fun i j x hi A C=>?_,fun x C=>?_,by rw [List.length_set];exact h.len⟩
 ·by_cases D:i=s
  ·subst D
   rw [List.getElem?_set_self E] at hi;cases hi
   by_cases B:j=i
   ·exact B.symm
   rw [List.getElem?_set_ne (fun q=>B q.symm)] at A
   have:=h.le _ (lm A);omega
  rw [List.getElem?_set_ne (fun q=>D q.symm)] at hi
  by_cases B:j=s
  ·subst B
   rw [List.getElem?_set_self E] at A;cases A;have:=h.le _ (lm hi);omega
  rw [List.getElem?_set_ne (fun q=>B q.symm)] at A
  exact h.one i j x hi A C
 rcases List.mem_or_eq_of_mem_set C with C | rfl
 ·have:=h.le x C;omega
 exact nl _
theorem SlOK.free {L:List Nat} {last s:Nat} (h:SlOK L last):SlOK (L.set s 0) last:=by
 refine ⟨fun i j x hi C A=>?_,fun x A=>?_,by rw [List.length_set];exact h.len⟩
 ·have B:∀ i:Nat,(L.set s 0)[i]?=some x->L[i]?=some x:=by
   intro i hi
   by_cases e:i=s
   ·subst e
    by_cases D:i < L.length
    ·rw [List.getElem?_set_self D] at hi;cases hi;exact absurd rfl A
    ·rw [List.getElem?_eq_none (by rw [List.length_set];omega)] at hi;cases hi
   ·rwa [List.getElem?_set_ne (fun q=>e q.symm)] at hi
  exact h.one i j x (B i hi) (B j C) A
 rcases List.mem_or_eq_of_mem_set A with A | rfl
 ·exact h.le x A
 exact nz _
theorem QaZ {s:Nat} (h:SlOK L last) (hs:L[s]?=some 0) (id:Int):ofF (L.set s (last+1)) id=mputF (ofF L) ((last+1:Nat):Int) (some (s:Int)) id:=by
 obtain ⟨F,G⟩:=lg hs;have D:=h.put hs;unfold mputF
 by_cases e:id=((last+1:Nat):Int)
 ·rw [if_pos e]
  subst e;rw [Zc D];exact ⟨by omega,by omega,by rw [Int.toNat_natCast,Int.toNat_natCast,List.getElem?_set_self F]⟩
 rw [if_neg e]
 cases E:ofF L id with
 | some z=>
  rw [Zc h] at E;rw [Zc D];obtain ⟨q1,q2,A⟩:=E;refine ⟨q1,q2,?_⟩;rw [List.getElem?_set_ne]
  ·exact A
  ·intro C
   rw [<- C,hs] at A;simp at A;omega
 | none=>
  cases B:ofF (L.set s (last+1)) id with
  | none=>rfl
  | some z=>
   exfalso;rw [Zc D] at B;obtain ⟨q1,q2,A⟩:=B
   have:ofF L id=some z:=by
    rw [Zc h];refine ⟨q1,q2,?_⟩
    by_cases C:s=z.toNat
    ·subst C
     rw [List.getElem?_set_self F] at A;simp at A;omega
    ·rwa [List.getElem?_set_ne C] at A
   rw [E] at this;cases this
theorem zaP {s x:Nat} (h:SlOK L last) (hs:L[s]?=some x) (hx:x≠0) (id:Int):ofF (L.set s 0) id=mputF (ofF L) (x:Int) none id:=by
 obtain ⟨F,G⟩:=lg hs;have E:=h.free (s:=s);unfold mputF
 by_cases e:id=(x:Int)
 ·rw [if_pos e]
  subst e;cases C:ofF (L.set s 0) (x:Int) with
  | none=>rfl
  | some z=>
   exfalso;rw [Zc E] at C;obtain ⟨q1,q2,A⟩:=C;rw [Int.toNat_natCast] at A
   by_cases B:s=z.toNat
   ·subst B
    rw [List.getElem?_set_self F] at A;simp at A;omega
   ·rw [List.getElem?_set_ne B] at A
    exact B (h.one s z.toNat x hs A hx)
 rw [if_neg e]
 cases C:ofF L id with
 | some z=>
  rw [Zc h] at C;rw [Zc E];obtain ⟨q1,q2,A⟩:=C;refine ⟨q1,q2,?_⟩;rw [List.getElem?_set_ne]
  ·exact A
  ·intro B
   rw [<- B,hs] at A;simp at A;omega
 | none=>
  cases D:ofF (L.set s 0) id with
  | none=>rfl
  | some z=>
   exfalso;rw [Zc E] at D;obtain ⟨q1,q2,A⟩:=D
   have:ofF L id=some z:=by
    rw [Zc h];refine ⟨q1,q2,?_⟩
    by_cases B:s=z.toNat
    ·subst B
     rw [List.getElem?_set_self F] at A;simp at A;omega
    ·rwa [List.getElem?_set_ne B] at A
   rw [C] at this;cases this
theorem xa6 (L:List Nat) (h:SlOK L last):ofF L ((last+1:Nat):Int)=none:=by
 cases A:ofF L ((last+1:Nat):Int) with
 | none=>rfl
 | some z=>
  exfalso;rw [Zc h] at A;obtain ⟨_,_,B⟩:=A;have:=h.le _ (lm B);omega
structure SlAt (w:World) (p gf ga:Nat) (L:List Nat) (last:Nat):Prop where
 blk:Blk w p 220 [(L.length:Nat),(last:Nat),.map (some gf),.map (some ga)]
 of:MapF rdI (Lit.int .i64) w gf last (cntS L) (ofF L)
 at_:MapF rdI (Lit.int .i64) w ga last (cntS L) (atF L)
 ne1:p≠gf
 ne2:p≠ga
 ne3:gf≠ga
 ok:SlOK L last
theorem MapF.cong {V:Type} {R:Value->Option (DataW Unit×List MemPlace)} {lt:V->Lit} {w:World} {b n c:Nat} {f g:Int->Option V} (h:MapF R lt w b n c f) (hg:∀ k,f k=g k):MapF R lt w b n c g:=by
 obtain ⟨D,h1,B,C⟩:=h;exact ⟨D,h1,B,fun k A=>by rw [<- hg k];exact C k A⟩
theorem SlAt.frm {S:Nat->Prop} {L:List Nat} {last:Nat} (h:SlAt w p gf ga L last) (hf:Frm S w w') (h1:¬ S p) (h2:¬ S gf) (h3:¬ S ga):SlAt w' p gf ga L last:=
 ⟨h.blk.frm hf h1,h.of.frm hf h2,h.at_.frm hf h3,h.ne1,h.ne2,h.ne3,h.ok⟩
theorem SlAt.below {L:List Nat} {last:Nat} (h:SlAt w p gf ga L last) (hb:Below w.heap.size w w'):SlAt w' p gf ga L last:=
 h.frm (Frm.below (S:=fun _=>False) hb) id id id
theorem yR (p o:Nat) (W:World):(binOp .eql 117 (.pointer (some ⟨p,o,none⟩)) (.pointer none)).run prog W=.ok (.bool false) W:=by kernel_rfl
def SlX (p gf ga:Nat) (i:Nat):Prop:=i=p∨i=gf∨i=ga
theorem zy (w:World):(zeroValue 3).run prog w=.ok (.int .i64 0) w:=by kernel_rfl
theorem Qba (A:Int) (w:World) (h1:1<=A) (h2:A<=4):
  Calls prog 59 #[A] w fun e w'=>e=.returned (.tuple #[.pointer (some ⟨w.heap.size+2,0,none⟩),()])/\SlAt w' (w.heap.size+2) w.heap.size (w.heap.size+1) (List.replicate A.toNat 0) 0/\Below w.heap.size w w':=by
 obtain ⟨m,rfl⟩:∃ m:Nat,A=m:=⟨A.toNat,by omega⟩;have E:1<=m:=by omega
 have F:m<=4:=by omega
 rw [Int.toNat_natCast];have N:=fun V=>run_makeMap (P:=prog) 218 V;go_in;go_wp2_with fail;go_ret2;have K:=MapF.made (R:=rdI) (lt:=Lit.int .i64) w;have H:=MapF.made (R:=rdI) (lt:=Lit.int .i64) (w.alloc (.map #[] 0));have G:(w.alloc (.map #[] 0)).heap.size=w.heap.size+1:=by simp
 have D:((w.alloc (.map #[] 0)).alloc (.map #[] 0)).heap.size=w.heap.size+2:=by simp
 have I:=hn_ ((w.alloc (.map #[] 0)).alloc (.map #[] 0)) (.cells #[(m:Nat),(),.map (some w.heap.size),.map (some (w.heap.size+1))] 220);rw [G] at H;rw [D] at I;have L:Below (w.alloc (.map #[] 0)).heap.size (w.alloc (.map #[] 0)) (((w.alloc (.map #[] 0)).alloc (.map #[] 0)).alloc (.cells #[(m:Nat),(),.map (some w.heap.size),.map (some (w.heap.size+1))] 220)):=((bf _ _).alloc (nl _) _).alloc (by simp) _;have M:Below ((w.alloc (.map #[] 0)).alloc (.map #[] 0)).heap.size ((w.alloc (.map #[] 0)).alloc (.map #[] 0)) (((w.alloc (.map #[] 0)).alloc (.map #[] 0)).alloc (.cells #[(m:Nat),(),.map (some w.heap.size),.map (some (w.heap.size+1))] 220)):=(bf _ _).alloc (nl _) _
 have J:cntS (List.replicate m 0)=0:=by unfold cntS;rw [List.countP_eq_zero];intro x B;rw [List.eq_of_mem_replicate B];decide
 refine ⟨rfl,⟨by rw [List.length_replicate];exact I,?_,?_,by omega,by omega,by omega,⟨fun s s' x Q _ B=>absurd (List.eq_of_mem_replicate (lm Q)) B,fun x B=>by rw [List.eq_of_mem_replicate B];exact nl _,by simpa using ⟨E,F⟩⟩⟩,?_⟩
 ·rw [J]
  exact (K.frm (Frm.below (S:=fun _=>False) L) id).cong (fun k=>by
   unfold ofF;split
   ·symm
    rw [Option.map_eq_none_iff,List.findIdx?_eq_none_iff];intro x B;rw [List.eq_of_mem_replicate B];simp;omega
   ·rfl)
 ·rw [J]
  exact (H.frm (Frm.below (S:=fun _=>False) M) id).cong (fun k=>by
   unfold atF;split
   ·rw [List.getElem?_replicate]
    by_cases C:k.toNat < m
    ·rw [if_pos C];simp
    ·rw [if_neg C]
   ·rfl)
 exact (((bf _ w).alloc (nl _) _).alloc (by simp) _).alloc (by rw [D];omega) _
theorem Xbb (p gf ga:Nat) (L:List Nat) (A:Nat) (id:Int) (w:World) (h:SlAt w p gf ga L A) (B:Yk id):
  Calls prog 175 #[.pointer (some ⟨p,0,none⟩),id] w fun e w'=>e=.returned (.tuple #[.int .i64 ((ofF L id).getD 0),.bool (ofF L id).isSome])/\w=w':=by
 have E:Cl w p 2 (.map (some gf)):=h.blk.cell 2;have C:=h.of.look_ok codI underlying218 0 (zy w) B;have D:=fun V=>yR p 0 V;clear h;generalize (ofF L id).getD 0=a at *;generalize (ofF L id).isSome=b at *;go_in;go_wp2_with fail;go_ret2;exact ⟨rfl,rfl⟩
theorem xba (p gf ga:Nat) (L:List Nat) (A:Nat) (k:Int) (w:World) (h:SlAt w p gf ga L A) (B:Yk k):
  Calls prog 68 #[.pointer (some ⟨p,0,none⟩),k] w fun e w'=>e=.returned (.tuple #[.int .i64 ((atF L k).getD 0),.bool (atF L k).isSome])/\w=w':=by
 have E:Cl w p 3 (.map (some ga)):=h.blk.cell 3;have C:=h.at_.look_ok codI underlying218 0 (zy w) B;have D:=fun V=>yR p 0 V;clear h;generalize (atF L k).getD 0=a at *;generalize (atF L k).isSome=b at *;go_in;go_wp2_with fail;go_ret2;exact ⟨rfl,rfl⟩
def freeL (L:List Nat) (id:Int):List Nat:=match ofF L id with | some s=>L.set s.toNat 0 | none=>L
theorem qa9 (p gf ga:Nat) (L:List Nat) (A:Nat) (id:Int) (w:World) (h:SlAt w p gf ga L A) (F:Yk id):
  Calls prog 124 #[.pointer (some ⟨p,0,none⟩),id] w fun e w'=>e=.returned (.bool (ofF L id).isSome)/\SlAt w' p gf ga (freeL L id) A/\Frm (SlX p gf ga) w w':=by
 have K:=Hy (Xbb p gf ga L A id w h F);have B:=Hy h;unfold freeL;cases I:ofF L id with
 | none=>
  rw [I] at K;clear I h;go_in;go_wp2_with fail;refine K.mono ?_;rintro e w' ⟨rfl,rfl⟩;go_wp2_with fail;go_ret;exact ⟨rfl,B.o,Frm.refl _ _⟩
 | some s=>
  rw [I] at K;have m:=(Zc h.ok).1 I;obtain ⟨k,rfl⟩:∃ k:Nat,s=k:=⟨s.toNat,by omega⟩;obtain ⟨h0,_,E⟩:=m;rw [Int.toNat_natCast] at E;have t:k < L.length:=(lg E).1;have U:Yk (k:Int):=zo (by omega) (by have:=h.ok.len.2;omega)
  have M:atF L (k:Int)=some id:=by
   unfold atF;rw [ip,Int.toNat_natCast,E];simp only;rw [io];congr 1;omega
  have d:=Hy (zaP h.ok E (by omega));have f:=Hy (fun j=>Xas (y:=0) E j);have T:((id.toNat:Nat):Int)=id:=by omega
  rw [T] at d;have N:=yD (y:=0) E;have c:=Hy (by rw [ip,if_neg (by decide)] at N;omega:cntS (L.set k 0)=cntS L - 1);have l:=Hy I;have W:=Hy M;have b:=Hy (h.ok.free (s:=k));have g:=Hy F;have Y:=Hy U;have n:w.cell? ⟨p,2,none⟩=some (.map (some gf)):=h.blk.cell 2;clear I h E M T N F U;go_in;go_wp2_with fail;refine K.mono ?_;rintro e w' ⟨rfl,rfl⟩;clear K;go_upto_region 4 with (refine zA (R:=rdI) (lt:=Lit.int .i64) rfl _ _ 218 3 rfl underlying218 gf A (cntS L) (ofF L) rfl B.of id rfl g.o ?_;intro r G P;rw [l.o] at G;have Z:=Hy G;have C:=Hy P;clear G P)
  have J:=Hy (B.blk.frm C.o (fun e=>B.ne1 e));have V:=Hy (B.at_.frm C.o (fun e=>B.ne3 e.symm));have u:r.cell? ⟨p,3,none⟩=some (.map (some ga)):=J.cell 3;clear n;go_wp2_with (refine zA (R:=rdI) (lt:=Lit.int .i64) rfl _ _ 218 3 rfl underlying218 ga A (cntS L) (atF L) rfl V.o (k:Nat) rfl Y.o ?_;intro v H Q;rw [W.o] at H;have a:=Hy H;have D:=Hy Q;clear H Q);go_ret;refine ⟨rfl,⟨?_,?_,?_,B.ne1,B.ne2,B.ne3,b.o⟩,(C.mono (fun i hi _=>.inr (.inl hi))).trans D.o (fun i hi _=>.inr (.inr hi))⟩
  ·have q:=J.frm D.o (fun e=>B.ne2 e)
   rw [Int.toNat_natCast,List.length_set];exact q
  ·rw [Int.toNat_natCast,c.o]
   exact (Z.frm D.o (fun e=>B.ne3 e)).cong (fun j=>(d.o j).symm)
  ·rw [Int.toNat_natCast,c.o]
   exact a.cong (fun j=>(f.o j).symm)
def subS (q:ByteArray) (k n:Int) (L:List Nat) (last:Nat):Int×Int×Int:=if mayQ q k n=false then (1,0,0) else match freeS L with | none=>(2,0,0) | some s=>(3,((last+1:Nat):Int),(s:Int))
def subL (q:ByteArray) (k n:Int) (L:List Nat) (last:Nat):List Nat×Nat:=if mayQ q k n=false then (L,last) else match freeS L with | none=>(L,last) | some s=>(L.set s (last+1),last+1)
def SubE (q:ByteArray) (k n:Int) (p gf ga:Nat) (L:List Nat) (last:Nat) (w:World) (e:Ending) (w':World):Prop:=e=.returned (.tuple #[.int .i64 (subS q k n L last).1,.int .i64 (subS q k n L last).2.1,.int .i64 (subS q k n L last).2.2])/\SlAt w' p gf ga (subL q k n L last).1 (subL q k n L last).2/\Frm (SlX p gf ga) w w'
theorem ZaS (q:ByteArray) (k n:Int) (p gf ga:Nat) (L:List Nat) (A:Nat) (w:World) (h:SlAt w p gf ga L A) (hq:q.size<=maxLen) (AD:A<=1000000):
  Calls prog 63 #[.pointer (some ⟨p,0,none⟩),.agg #[q,k,n]] w (SubE q k n p gf ga L A w):=by
 have Af:=Hy (fun V=>yaQ q k n V hq);clear hq;have HK:=Hy (show Blk (w.alloc (.cells #[q,k,n] 40)) w.heap.size 40 [q,k,n] from hn_ w _);have f:=Hy (h.below ((bf _ w).alloc (nl _) (.cells #[q,k,n] 40)));have d:=Hy ((Frm.refl (SlX p gf ga) w).alloc (.cells #[q,k,n] 40));have ⟨W,hW⟩:=gn (w.alloc (.cells #[q,k,n] 40));rw [hW] at HK f d;have AR:=fun V=>yR p 0 V;clear h;unfold SubE;obtain ⟨t0,t1,t2⟩:=c3 HK.o
 have ⟨sv,J⟩:=gn (subS q k n L A);have ⟨sl,I⟩:=gn (subL q k n L A);rw [J,I];unfold subS at J;unfold subL at I;go_in;go_wp2_with (rw [hW]);clear hW;refine (Af.o _).mono ?_;clear Af;rintro e g ⟨rfl,hb⟩;clear t0 t1 t2 HK;have N:=Hy (f.below hb);have T:=Hy (d.trans (Frm.below (S:=SlX p gf ga) hb) (fun i hi _=>hi));clear hb f d;cases hm:mayQ q k n
 case false=>
  rw [hm] at J I;rw [if_pos rfl] at J I;subst J I;clear hm;go_wp2_with fail;go_ret3;exact ⟨rfl,N.o,T.o⟩
 rw [hm] at J I;rw [if_neg (by decide)] at J I;clear hm;go_upto_region 5 with fail;have Aa:=Hy (show Ci g.drew p 0 (L.length:Nat) from N.blk.cell 0);have Ab:=Hy (show Cl g.drew p 2 (.map (some gf)) from N.blk.cell 2);have Ac:=Hy (show MapF rdI (Lit.int .i64) g.drew gf A (cntS L) (ofF L) from N.of.same rfl);refine wp_region_held_drew (S:=(fun w'=>Ci w' p 0 (L.length:Nat)/\Cl w' p 2 (.map (some gf))/\MapF rdI (Lit.int .i64) w' gf A (cntS L) (ofF L))) (by kernel_rfl) (by exact ⟨Aa.o,Ab.o,Ac.o⟩) (fun H=>?_)
 (iterate 4 refine tq 0 ?_);refine takeO 4 (some 20) (v:=?_) rfl rfl (by kernel_rfl) (by kernel_rfl) (by kernel_rfl) (fun _ _ _ h=>h) (Or.inl ⟨by rfl,?_⟩) (by assumption) ?_;rotate_left 1
 ·intro w A9;obtain ⟨AN,AO,Ak⟩:=A9;have AQ:=Ak.len underlying218;clear Ak;go_simp;all_goals with_reducible rfl
 (iterate 6 refine tq 5 ?_);refine dn ?_;clear Aa Ab Ac;have Am:=XaV L;cases M:freeS L
 case none=>
  rw [M] at J I;subst J I;have hc:=yV.1 M;have e5:((cntS L:Int) == (L.length:Int))=true:=by rw [hc];simp
  have P:=Hy M;clear M hc Am;generalize cntS L=cn at *;go_wp2_with fail;go_ret3;exact ⟨rfl,N.below (below_drewN (bf _ g) 1),T.drew⟩
 rename_i r;rw [M] at J I;subst J I;obtain ⟨h1,h2⟩:=qH M;have AE:cntS L≠L.length:=fun e=>by rw [yV.2 e] at M;cases M
 have e5:((cntS L:Int) == (L.length:Int))=false:=by rw [beq_eq_false_iff_ne];omega
 have I:r < L.length:=(lg h1).1;have AP:=N.ok.len;have P:=Hy h1;have u:=Hy h2;clear M h1 h2 AE Am;have G:=Hy (N.below (below_drewN (bf _ g) 1));have Ad:=Hy T.drew;clear N T;have ⟨c,l⟩:=gn g.drew;rw [show g.drewN 1=c from l] at G;rw [l] at Ad ⊢;clear l;have t3:c.cell? ⟨p,3,none⟩=some (.map (some ga)):=G.blk.cell 3;have Ae:=Hy (fun (j:Nat) (hj:j<=r)=>G.at_.look codI underlying218 0 (zy c) (k:=(j:Int)) (zo (by omega) (by omega)));go_wp2_with fail
 go_loop [7] (fun v=>∃ i:Nat,i<=r/\v=.int .i64 i) (fun v=>r - (intOf v).toNat)
 case atStart=>exact ⟨0,nz _,rfl⟩
 case round=>
  obtain ⟨i,hi,rfl⟩:=hrel;have m:=Ae.o i hi
  by_cases Ar:i < r
  ·obtain ⟨x,hx,Az⟩:=u.o i Ar
   have hv:(atF L (i:Int)).getD 0=(x:Int):=by unfold atF;rw [ip,Int.toNat_natCast,hx];simp only;rw [if_neg Az];rfl
   rw [hv] at m;have AS:(0:Int) < (x:Int):=by omega
   clear hv hx Az;go_wp2_with fail;go_round
   case rel=>exact ⟨i+1,by omega,by go_num⟩
   case measure=>simp [intOf];omega
  obtain rfl:i=r:=by omega
  have hv:(atF L (i:Int)).getD 0=0:=by unfold atF;rw [ip,Int.toNat_natCast,P.o];rfl
  rw [hv] at m;clear hv Ar hi Ae u;have t1:c.cell? ⟨p,1,none⟩=some (.int .i64 (A:Nat)):=G.blk.cell 1;have fz:∀ o,c.frozen? ⟨p,o,none⟩=false:=fun o=>zk (o:=o) G.blk;have t:=Hy (Blk.set G.blk 1 (.int .i64 ((A:Int)+1)));have U:=Hy ((Frm.refl (fun j=>j=p) c).setCell ⟨p,1,none⟩ (.int .i64 ((A:Int)+1)) (.inl rfl));go_upto_region 11 with fail;clear t3 t1 fz m;have ⟨V3,Al⟩:=gn (c.setCell ⟨p,1,none⟩ (.int .i64 ((A:Int)+1)));rw [Al] at t U ⊢;clear Al;have hn:A < maxLen:=by unfold maxLen;omega
  have A7:=Hy (show MapF rdI (Lit.int .i64) V3.drew gf A (cntS L) (ofF L) from (G.of.frm U.o (fun e=>G.ne1 e.symm)).same rfl);have A2:=Hy (show MapF rdI (Lit.int .i64) V3.drew ga A (cntS L) (atF L) from (G.at_.frm U.o (fun e=>G.ne2 e.symm)).same rfl);have Ap:Yk ((A:Int)+1):=zo (by omega) (by omega);have Aq:Yk (i:Int):=zo (by omega) (by omega);obtain ⟨AT,w1,Au,Y,An⟩:=A7.entry_new codI underlying218 hn Ap (by have q:=xa6 L G.ok;rw [Int.natCast_add] at q;exact q) (z:=.int .i64 0) zy;obtain ⟨w2,Av,As,Z⟩:=An w1 rfl (i:Int)
  have s:=A2.frm (Y.trans Z (fun j e _=>e)) (fun e=>G.ne3 e.symm);obtain ⟨AU,w3,Aw,a,Ao⟩:=s.entry_new codI underlying218 hn Aq (by unfold atF;rw [ip,Int.toNat_natCast,P.o];rfl) (z:=.int .i64 0) zy;obtain ⟨w4,Ax,At,b⟩:=Ao w3 rfl ((A:Int)+1);have C:=Hy (show Blk V3.drew p 220 [(L.length:Nat),.int .i64 ((A:Int)+1),.map (some gf),.map (some ga)] from t.o);have D:=Hy (C.frm Y (fun e=>G.ne1 e));have E:=Hy (D.frm Z (fun e=>G.ne1 e));have F:=Hy (E.frm a (fun e=>G.ne2 e))
  have B:=Hy (F.frm b (fun e=>G.ne2 e));have A5:=Hy (As.frm (a.trans b (fun j e _=>e)) (fun e=>G.ne3 e));have A6:=Hy At;have A3:=Hy (show Frm (SlX p gf ga) c w4 from (((((U.drew).mono (fun j e _=>.inl e)).trans Y (fun j e _=>.inr (.inl e))).trans Z (fun j e _=>.inr (.inl e))).trans a (fun j e _=>.inr (.inr e))).trans b (fun j e _=>.inr (.inr e)));have Ag:=Hy Au;have Ah:=Hy Av;have Ai:=Hy Aw;have Aj:=Hy Ax;clear Au Av Aw Ax As At Y Z a b An Ao s Ap Aq;refine wp_region_held_drew (S:=(fun w'=>Ci w' p 1 ((A:Int)+1)/\Cl w' p 2 (.map (some gf))/\Cl w' p 3 (.map (some ga)))) (by kernel_rfl) (by first | exact ⟨C.cell 1,C.cell 2,C.cell 3⟩ | exact ⟨D.cell 1,D.cell 2,D.cell 3⟩ | exact ⟨E.cell 1,E.cell 2,E.cell 3⟩ | exact ⟨F.cell 1,F.cell 2,F.cell 3⟩ | exact ⟨B.cell 1,B.cell 2,B.cell 3⟩) (fun H=>?_)
  (iterate 18 refine tq 0 ?_);refine rdy 18 fun K R=>?_;have Q:=Ag.o;go_simp;clear Q;refine R.out _ _ (by first | exact ⟨C.cell 1,C.cell 2,C.cell 3⟩ | exact ⟨D.cell 1,D.cell 2,D.cell 3⟩ | exact ⟨E.cell 1,E.cell 2,E.cell 3⟩ | exact ⟨F.cell 1,F.cell 2,F.cell 3⟩ | exact ⟨B.cell 1,B.cell 2,B.cell 3⟩) (fun H=>?_)
  clear R K;refine tk 19 ?_;refine rdy 20 fun K R=>?_;have Q:=Ah.o;go_simp;clear Q;refine R.out _ _ (by first | exact ⟨C.cell 1,C.cell 2,C.cell 3⟩ | exact ⟨D.cell 1,D.cell 2,D.cell 3⟩ | exact ⟨E.cell 1,E.cell 2,E.cell 3⟩ | exact ⟨F.cell 1,F.cell 2,F.cell 3⟩ | exact ⟨B.cell 1,B.cell 2,B.cell 3⟩) (fun H=>?_);clear R K;try go_frame
  refine rdy 21 fun K R=>?_;have Q:=Ai.o;go_simp;clear Q;refine R.out _ _ (by first | exact ⟨C.cell 1,C.cell 2,C.cell 3⟩ | exact ⟨D.cell 1,D.cell 2,D.cell 3⟩ | exact ⟨E.cell 1,E.cell 2,E.cell 3⟩ | exact ⟨F.cell 1,F.cell 2,F.cell 3⟩ | exact ⟨B.cell 1,B.cell 2,B.cell 3⟩) (fun H=>?_);clear R K;refine tk 22 ?_;refine rdy 23 fun K R=>?_;have Q:=Aj.o;go_simp;clear Q;refine R.out _ _ (by first | exact ⟨C.cell 1,C.cell 2,C.cell 3⟩ | exact ⟨D.cell 1,D.cell 2,D.cell 3⟩ | exact ⟨E.cell 1,E.cell 2,E.cell 3⟩ | exact ⟨F.cell 1,F.cell 2,F.cell 3⟩ | exact ⟨B.cell 1,B.cell 2,B.cell 3⟩) (fun H=>?_)
  clear R K;try go_frame
  refine dn ?_;have t1:Ci w4 p 1 ((A:Int)+1):=B.cell 1;clear Ag Ah Ai Aj;go_upto_region 12 with fail;clear t1;have HC:=Hy (show Ci w4.drew p 1 ((A:Int)+1) from B.cell 1);refine rg (fun w'=>Ci w' p 1 ((A:Int)+1)) fun H=>?_;(iterate 8 refine tq 0 ?_);refine dn ?_
  go_wp2_with fail;go_ret3;have AC:=yD (y:=A+1) P.o;rw [if_neg (by decide),ip] at AC;have AF:=G.ok.put P.o;refine ⟨by simp,⟨?_,?_,?_,G.ne1,G.ne2,G.ne3,AF⟩,Ad.trans A3.drew (fun j e _=>e)⟩
  ·have q:=B.o;rw [List.length_set,Int.natCast_add];exact q
  ·rw [show cntS (L.set i (A+1))=cntS L+1 from by omega];exact (A5.same rfl).cong (fun j=>by have e:=(QaZ G.ok P.o j).symm;rw [Int.natCast_add] at e;exact e)
  rw [show cntS (L.set i (A+1))=cntS L+1 from by omega];exact (A6.same rfl).cong (fun j=>by have e:=(Xas (y:=A+1) P.o j).symm;rw [io,Int.natCast_add] at e;exact e)
def badK (k:KeyL):Bool:=decide (k.1 < 1)||decide (12 < k.1)||decide (tLen k.2 < 0)||decide (12 < tLen k.2)
def risesK (l:List KeyL) (m:Nat):Bool:=(List.range m).all fun i=>kless (keyAt l i) (keyAt l (i+1))
def goodE (l:List KeyL):Int:=if 5 < l.length then 3 else if l.any badK=true then 2 else if risesK l (l.length - 1)=true then 0 else 7
theorem XJ (l:List KeyL) (m:Nat):risesK l (m+1)=(risesK l m&&kless (keyAt l m) (keyAt l (m+1))):=by
 unfold risesK;rw [List.range_succ,List.all_append];simp
theorem Q4 (l:List KeyL) (m n:Nat) (h:m<=n) (hm:risesK l m=false):risesK l n=false:=by
 cases A:risesK l n with
 | false=>rfl
 | true=>
  unfold risesK at A hm;rw [List.all_eq_true] at A;rw [List.all_eq_false] at hm;obtain ⟨x,C,B⟩:=hm;exact absurd (A x (by simp at C ⊢;omega)) B
theorem xM {α:Type} (p:α->Bool) (l:List α) (k:Nat) (x:α) (h:l[k]?=some x):(l.take (k+1)).any p=((l.take k).any p||p x):=by
 rw [List.take_add_one,h];simp
theorem Zai {α:Type} (p:α->Bool) (l:List α) (k:Nat) (x:α) (h:l[k]?=some x) (hp:p x=true):l.any p=true:=by
 rw [List.any_eq_true];exact ⟨x,List.mem_iff_getElem?.2 ⟨k,h⟩,hp⟩
theorem yau {l:List KeyL} (h:5 < l.length):goodE l=3:=by unfold goodE;rw [if_pos h]
theorem Yq {l:List KeyL} (h:l.length<=5) (k:l.any badK=true):goodE l=2:=by unfold goodE;rw [if_neg (by omega),if_pos k]
theorem xau {l:List KeyL} (h:l.length<=5) (k:l.any badK=false) (m:Nat) (hm:m<=l.length - 1) (r:risesK l m=false):goodE l=7:=by
 unfold goodE;rw [io,if_neg (by simp [k]),if_neg (by simp [Q4 l m _ hm r])]
theorem zau {l:List KeyL} (h:l.length<=5) (k:l.any badK=false) (r:risesK l (l.length - 1)=true):goodE l=0:=by
 unfold goodE;rw [io,if_neg (by simp [k]),if_pos r]
theorem yaM (a:Option Addr) (n cap:Nat) (l:List KeyL) (w:World) (hr:RdE KeyL.cells 2 w a n cap l) (hs:∀ x∈l,x.2.size<=maxLen):
  Calls prog 54 #[.slice a n cap] w fun e w'=>e=.returned (.int .i64 (goodE l))/\Below w.heap.size w w':=by
 have hn:=hr.1;subst hn;have Al:=hr.2.1;have Ai:=hr.2.2.1;unfold maxLen at Ai;have HR:=Hy hr;clear hr;have ⟨g,hg⟩:=gn (goodE l);rw [hg];have P:=Hy hg;clear hg
 by_cases h5:5 < l.length
 ·obtain rfl:g=3:=by rw [<- P.o];exact yau h5
  have d5:decide (5 < l.length)=true:=by simpa using h5
  go_in;go_wp2_with fail;go_ret;exact ⟨rfl,bf _ _⟩
 have d5:decide (5 < l.length)=false:=by simpa using h5
 have c:l.length<=5:=by omega
 go_in;go_wp2_with fail;go_loopw [4,5,12] (fun _ _ i wr=>∃ k:Nat,k<=l.length/\i=.int .i64 k/\Hid ((l.take k).any badK=false)/\Hid (Below w.heap.size w wr)) (fun _ _ i _=>l.length - (intOf i).toNat)
 case atStart=>exact ⟨0,by omega,rfl,by simp [Hid],bf _ w⟩
 case round=>
  obtain ⟨k,M,rfl,v,HB⟩:=hrel
  by_cases V:k < l.length
  ·obtain ⟨⟨B,tc⟩,f⟩:∃ x,l[k]?=some x:=⟨l[k],le_ V⟩
   obtain ⟨b,off,rfl,Ah,T⟩:=(HR.below HB.o rfl).2.2.2.2 k (B,tc) f;have c0:wr.cell? ⟨b,off+k * 2,none⟩=some (.int .i64 B):=T 0 (by decide);have c1:wr.cell? ⟨b,off+k * 2+1,none⟩=some (.string tc):=T 1 (by decide);clear T;have Y:=hs _ (List.mem_iff_getElem?.2 ⟨k,f⟩);have HN:=Hy (show Blk (wr.alloc (.cells #[B,tc] 107)) wr.heap.size 107 [B,tc] by unfold Blk;rw [heap_alloc_new]);have d1:(wr.alloc (.cells #[B,tc] 107)).cell? ⟨wr.heap.size,1,none⟩=some (.string tc):=HN.cell 1;have r:=Hy (HB.alloc HB.size (.cells #[B,tc] 107))
   have An:(wr.alloc (.cells #[B,tc] 107)).heap.size=wr.heap.size+1:=by simp
   have HL:=Hy (fun W=>xE tc W Y);have L:=xM badK l k (B,tc) f;have R:=Zai badK l k (B,tc) f;have A:badK (B,tc)=(decide (B < 1)||decide (12 < B)||decide (tLen tc < 0)||decide (12 < tLen tc)):=rfl;have ⟨z,hz⟩:=gn (tLen tc);rw [hz] at HL A;rw [v.o,Bool.false_or] at L;have ⟨t,N⟩:=gn (badK (B,tc));rw [N] at L R A;have Ad:=Hy L;have H:=Hy R;clear L R hz N;clear v;go_wp2_with fail;refine (HL.o _).mono ?_;rintro e w' ⟨rfl,d⟩;have Ae:=Hy (HN.below d (by omega));have e0:w'.cell? ⟨wr.heap.size,0,none⟩=some (.int .i64 B):=Ae.cell 0
   have C:=Hy (r.trans (d.mono r.size));clear d
   by_cases p1:B < 1
   ·have Z:decide (B < 1)=true:=by simpa using p1
    have I:Hid (t=true):=by rw [A,Z];rfl
    clear A;go_wp2_with fail;go_ret;obtain rfl:g=2:=by rw [<- P.o];exact Yq c (H.o I.o)
    exact ⟨rfl,C.o⟩
   have Z:decide (B < 1)=false:=by simpa using p1
   by_cases p2:12 < B
   ·have F:decide (12 < B)=true:=by simpa using p2
    have I:Hid (t=true):=by rw [A,Z,F];rfl
    clear A;go_wp2_with fail;go_ret;obtain rfl:g=2:=by rw [<- P.o];exact Yq c (H.o I.o)
    exact ⟨rfl,C.o⟩
   have F:decide (12 < B)=false:=by simpa using p2
   by_cases p3:z < 0
   ·have K:decide (z < 0)=true:=by simpa using p3
    have I:Hid (t=true):=by rw [A,Z,F,K];rfl
    clear A;go_wp2_with fail;go_ret;obtain rfl:g=2:=by rw [<- P.o];exact Yq c (H.o I.o)
    exact ⟨rfl,C.o⟩
   have K:decide (z < 0)=false:=by simpa using p3
   by_cases p4:12 < z
   ·have Q:decide (12 < z)=true:=by simpa using p4
    have I:Hid (t=true):=by rw [A,Z,F,K,Q];rfl
    clear A;go_wp2_with fail;go_ret;obtain rfl:g=2:=by rw [<- P.o];exact Yq c (H.o I.o)
    exact ⟨rfl,C.o⟩
   have Q:decide (12 < z)=false:=by simpa using p4
   have I:Hid (t=false):=by rw [A,Z,F,K,Q];rfl
   clear A;go_wp2_with fail;go_roundw
   case rel=>exact ⟨k+1,by omega,by go_num,by rw [Ad.o];exact I.o,C.o⟩
   case measure=>simp [intOf];omega
  obtain rfl:k=l.length:=by omega
  have q:Hid (l.any badK=false):=by
   have:=v.o;rw [List.take_length] at this;exact this
  clear v hs;have Y:=HB.size;go_wp2_with fail;obtain ⟨wo,rfl⟩:∃ wo:World,wo=wr:=⟨_,rfl⟩;go_loopw [6] (fun i wr=>∃ k:Nat,1<=k/\(k<=l.length∨k=1)/\i=.int .i64 k/\Hid (risesK l (k - 1)=true)/\Hid (Below w.heap.size w wr)) (fun i _=>l.length - (intOf i).toNat)
  case atStart=>exact ⟨1,by omega,.inr rfl,rfl,rfl,HB.o⟩
  case round=>
   clear HB Y M;obtain ⟨k,Ay,M,rfl,s,HB⟩:=hrel
   by_cases V:k < l.length
   ·have k1:=qd (l:=l) (i:=k - 1) (by omega)
    have k2:=qd (l:=l) (i:=k) V;have D:=XJ l (k - 1);rw [show k - 1+1=k from by omega] at D;revert D k1 k2;generalize f:keyAt l (k - 1)=x;generalize hy:keyAt l k=y;obtain ⟨h,m⟩:=x;obtain ⟨j,p⟩:=y;intro k1 k2 D;rw [s.o,Bool.true_and] at D;obtain ⟨b,off,rfl,Ah,T⟩:=(HR.below HB.o rfl).2.2.2.2 (k - 1) (h,m) k1;obtain ⟨b',Ap,he,u,U⟩:=(HR.below HB.o rfl).2.2.2.2 k (j,p) k2;simp only [Option.some.injEq,Addr.mk.injEq,and_true] at he;obtain ⟨rfl,rfl⟩:=he;have c0:wr.cell? ⟨b,off+(k - 1) * 2,none⟩=some (.int .i64 h):=T 0 (by decide);have c1:wr.cell? ⟨b,off+(k - 1) * 2+1,none⟩=some (.string m):=T 1 (by decide)
    have c2:Ci wr b (off+k * 2) j:=U 0 (by decide);have c3:wr.cell? ⟨b,off+k * 2+1,none⟩=some (.string p):=U 1 (by decide);clear T U u k1 k2 f hy;have J:=Hy D;clear D;have HL:=Hy (fun W=>QV h m j p W);go_wp2_with fail;have w1:IntKind.i64.wrap ((k:Int) - 1)=(k:Int) - 1:=IntWalk.i64_in _ (by omega);have w2:((k:Int) - 1).toNat=k - 1:=by omega
    have w3:(0:Int)<=(k:Int) - 1:=by omega
    have w4:(k:Int) - 1 < l.length:=by omega
    have w5:(1:Int)<=(k:Int):=by omega
    go_still_tail 9,(by kernel_rfl);clear w1 w2 w3 w4 w5;go_wp2_with fail;refine (HL.o _).mono ?_;rintro e w' ⟨rfl,d⟩;have C:=Hy (show Below w.heap.size w w' from (below_drewN HB.o 1).trans (d.mono (below_drewN HB.o 1).size));clear d;cases hd:decide (cmpK h m j p < 0) with
    | true=>
     have G:kless (h,m) (j,p)=true:=hd;have E:Hid (risesK l k=true):=by have:=J.o;rw [G] at this;exact this
     clear J G;go_wp2_with fail;go_roundw
     case rel=>exact ⟨k+1,by omega,by omega,by go_num,E.o,C.o⟩
     case measure=>simp [intOf];omega
    | false=>
     have G:kless (h,m) (j,p)=false:=hd;have E:Hid (risesK l k=false):=by have:=J.o;rw [G] at this;exact this
     clear J G;obtain rfl:g=7:=by rw [<- P.o];exact xau c q.o k (by omega) E.o
     go_wp2_with fail;go_ret;exact ⟨rfl,C.o⟩
   have E:Hid (risesK l (l.length - 1)=true):=by
    rcases M with M | rfl
    ·obtain rfl:k=l.length:=by omega
     exact s.o
    ·have:l.length - 1=0:=by omega
     rw [this];rfl
   obtain rfl:g=0:=by rw [<- P.o];exact zau c q.o E.o
   go_wp2_with fail;go_ret;exact ⟨rfl,HB.o⟩
structure CfgM where
 aw:Option Addr
 nw:Nat
 cw:Nat
 ac:Option Addr
 nc:Nat
 cc:Nat
 words:List ByteArray
 cuts:List KeyL
 wk:Int
 cp:Int
 sl:Int
 ba:Int
 le:Int
 he:Int
 fi:Int
 ca:Int
 ji:Int
 ne:Int
def CfgM.val (c:CfgM):Value:=.agg #[.slice c.aw c.nw c.cw,.slice c.ac c.nc c.cc,c.wk,c.cp,c.sl,c.ba,c.le,c.he,c.fi,c.ca,c.ji,c.ne]
structure CfgOK (w:World) (c:CfgM):Prop where
 rw:RdT w c.aw c.nw c.cw c.words
 rk:RdE KeyL.cells 2 w c.ac c.nc c.cc c.cuts
 hw:∀ x∈c.words,x.size<=maxLen
 hk:∀ x∈c.cuts,x.2.size<=maxLen
theorem CfgOK.below {c:CfgM} (h:CfgOK w c) (hb:Below B w w') (hB:B=w.heap.size):CfgOK w' c:=
 ⟨h.rw.below hb hB,h.rk.below hb hB,h.hw,h.hk⟩
def inB (x a b:Int):Bool:=decide (a<=x)&&decide (x<=b)
def nodesC (c:CfgM):Bool:=inB c.wk 1 5&&inB c.cp 1 (min 3 c.wk)
def sizesC (c:CfgM):Bool:=inB c.sl 1 4&&inB c.ba 1 5&&inB c.ne 8 64
def timesC (c:CfgM):Bool:=inB c.le 1 1000&&inB c.he 1 1000&&inB c.fi 1 10&&inB c.ca c.fi 50&&inB c.ji 0 10
def mayC (c:CfgM):Bool:=decide (goodT c.words=0)&&decide (goodE c.cuts=0)&&(nodesC c&&sizesC c&&timesC c)
def greatK (l:List KeyL):Bool:=decide (10 < l.length)||l.any fun k=>decide (100 < k.2.size)
theorem QZ {l:List KeyL} (h:greatK l=false):l.length<=10/\∀ x∈l,x.2.size<=100:=by
 unfold greatK at h;simp only [Bool.or_eq_false_iff,decide_eq_false_iff_not,List.any_eq_false,decide_eq_true_eq] at h;exact ⟨by omega,fun x A=>by have:=h.2 x A;omega⟩
theorem Yax {α:Type} (p:α->Bool) (l:List α) (k:Nat) (x:α) (h:l[k]?=some x):(l.take (k+1)).any p=((l.take k).any p||p x):=by
 rw [List.take_add_one,h];simp
def greatC (c:CfgM):Bool:=greatK c.cuts||greatT c.words
theorem qac {c:CfgM} (h:greatK c.cuts=true):greatC c=true:=by unfold greatC;rw [h];rfl
theorem yO (c:CfgM) (w:World) (hr:CfgOK w c):
  Calls prog 12 #[c.val] w fun e w'=>e=.returned (.bool (greatC c))/\Below w.heap.size w w':=by
 unfold CfgM.val;have q:=hr.rk.1;have H:=hr.rk.2.1;have P:=hr.rk.2.2.1;have s:=hr.hk;unfold maxLen at P s;have a:=Hy hr;clear hr;have ⟨g,m⟩:=gn (greatC c);rw [m];have y:=Hy m;clear m;have ⟨l,n⟩:=gn c.cuts;rw [n] at q s;have Z:=Hy n;clear n;have ⟨u,F⟩:=gn c.nc;have ⟨M,D⟩:=gn c.cc;have ⟨L,J⟩:=gn c.ac;rw [F] at q H;rw [D] at H P;rw [F,D,J];have d:=Hy (by rw [<- F,<- D,<- J,<- Z.o];exact a.rk:RdE KeyL.cells 2 w L u M l);clear F D J;subst q
 go_in;go_wp2_with fail;have Y:=Hy (show Blk (w.alloc (.cells #[.slice c.aw c.nw c.cw,.slice L l.length M,c.wk,c.cp,c.sl,c.ba,c.le,c.he,c.fi,c.ca,c.ji,c.ne] 25)) w.heap.size 25 [.slice c.aw c.nw c.cw,.slice L l.length M,c.wk,c.cp,c.sl,c.ba,c.le,c.he,c.fi,c.ca,c.ji,c.ne] from hn_ w _);have HB:=Hy ((bf _ w).alloc (nl _) (.cells #[.slice c.aw c.nw c.cw,.slice L l.length M,c.wk,c.cp,c.sl,c.ba,c.le,c.he,c.fi,c.ca,c.ji,c.ne] 25))
 generalize (w.alloc (.cells #[.slice c.aw c.nw c.cw,.slice L l.length M,c.wk,c.cp,c.sl,c.ba,c.le,c.he,c.fi,c.ca,c.ji,c.ne] 25))=W at *;have c0:W.cell? ⟨w.heap.size,0,none⟩=some (.slice c.aw c.nw c.cw):=Y.cell 0;have c1:W.cell? ⟨w.heap.size,1,none⟩=some (.slice L l.length M):=Y.cell 1;clear Y;have z:=Hy (zal c.aw c.nw c.cw c.words W (a.rw.below HB.o rfl) a.hw);go_loop [3] (fun i=>∃ k:Nat,i=.int .i64 k/\k<=l.length/\(0 < k->l.length<=10)/\Hid ((l.take k).any (fun k=>decide (100 < k.2.size))=false)) (fun i=>l.length - (intOf i).toNat)
 case atStart=>exact ⟨0,rfl,by omega,by omega,by simp [Hid]⟩
 case round=>
  obtain ⟨k,rfl,Af,j,v⟩:=hrel
  by_cases h:k < l.length/\l.length<=10
  ·obtain ⟨B,p⟩:=h
   have d1:decide (l.length<=10)=true:=by simpa using p
   obtain ⟨⟨t,tc⟩,R⟩:∃ x,l[k]?=some x:=⟨l[k],le_ B⟩;obtain ⟨b,off,rfl,Ae,hc⟩:=(d.below HB.o rfl).2.2.2.2 k (t,tc) R;have e1:W.cell? ⟨b,off+k * 2+1,none⟩=some (.string tc):=hc 1 (by decide);clear hc;have Ag:=s _ (List.mem_iff_getElem?.2 ⟨k,R⟩);have K:=Yax (fun k:KeyL=>decide (100 < k.2.size)) l k (t,tc) R;rw [v.o,Bool.false_or] at K;have N:=Zai (fun k:KeyL=>decide (100 < k.2.size)) l k (t,tc) R;have U:=Hy K;have T:=Hy N;clear K N
   by_cases G:100 < tc.size
   ·have f:decide (100 < tc.size)=true:=by simpa using G
    have V:=Hy f;go_wp2_with fail;go_ret;obtain rfl:g=true:=by rw [<- y.o];exact qac (by rw [Z.o];unfold greatK;rw [T.o V.o];simp)
    exact ⟨rfl,HB.o⟩
   have f:decide (100 < tc.size)=false:=by simpa using G
   have V:=Hy f;go_wp2_with fail;go_round
   case rel=>exact ⟨k+1,by go_num,by omega,by omega,by rw [U.o];exact V.o⟩
   case measure=>simp [intOf];omega
  have Q:g=(decide (10 < l.length)||greatT c.words):=by
   rw [<- y.o];unfold greatC;rw [Z.o];unfold greatK
   by_cases B:k < l.length
   ·have E:10 < l.length:=by omega
    rw [decide_eq_true E];rfl
   ·obtain rfl:k=l.length:=by omega
    have:=v.o;rw [List.take_length] at this;rw [this];simp
  have I:=Hy Q;clear Q
  have r:(k < l.length/\10 < l.length)∨k=l.length:=by
   by_cases B:k < l.length
   ·exact .inl ⟨B,by omega⟩
   ·exact .inr (by omega)
  clear h;have ⟨gt,E⟩:=gn (greatT c.words);have C:=Hy E;clear E;rcases r with ⟨B,A⟩ | rfl
  ·skip
   have d1:decide (l.length<=10)=false:=by simp;omega
   have d3:decide ((10:Int) < (l.length:Int))=true:=by simp;omega
   go_wp2_with fail;refine z.mono ?_;rintro e w' ⟨rfl,rfl⟩;rw [C.o];obtain rfl:g=true:=by rw [I.o,decide_eq_true A];rfl
   cases gt
   ·go_wp2_with fail
    go_ret;exact ⟨rfl,HB.o⟩
   go_wp2_with fail
   go_ret;exact ⟨rfl,HB.o⟩
  go_wp2_with fail
  refine z.mono ?_;rintro e w' ⟨rfl,rfl⟩;rw [C.o];cases gt
  ·by_cases A:10 < l.length
   ·exact absurd (j (by omega)) (by omega)
   have d3:decide ((10:Int) < (l.length:Int))=false:=by simp;omega
   obtain rfl:g=false:=by rw [I.o,decide_eq_false A,C.o];rfl
   go_wp2_with fail;go_ret;exact ⟨rfl,HB.o⟩
  obtain rfl:g=true:=by rw [I.o,C.o];simp
  go_wp2_with fail;go_ret;exact ⟨rfl,HB.o⟩
theorem qe (x a b:Int) (w:World):Calls prog 55 #[x,a,b] w fun e w'=>e=.returned (.bool (inB x a b))/\w=w':=by
 by_cases h:a<=x
 ·by_cases C:x<=b
  ·have A:inB x a b=true:=by unfold inB;simp;omega
   rw [A];have B:decide (a<=x)=true:=by simpa using h
   have D:decide (x<=b)=true:=by simpa using C
   go_in;go_wp2;go_ret;exact ⟨rfl,rfl⟩
  have A:inB x a b=false:=by unfold inB;simp;omega
  rw [A];have B:decide (a<=x)=true:=by simpa using h
  have D:decide (x<=b)=false:=by simpa using C
  go_in;go_wp2;go_ret;exact ⟨rfl,rfl⟩
 have A:inB x a b=false:=by unfold inB;simp;omega
 rw [A];have B:decide (a<=x)=false:=by simpa using h
 go_in;go_wp2;go_ret;exact ⟨rfl,rfl⟩
theorem Q1 (c:CfgM) (w:World) (hr:CfgOK w c):
  Calls prog 13 #[c.val] w fun e w'=>e=.returned (.bool (mayC c))/\Below w.heap.size w w':=by
 unfold CfgM.val;have J:=Hy hr;clear hr;have ⟨m,R⟩:=gn (mayC c);rw [R];have M:=Hy R;clear R;go_in;go_wp2_with fail;have L:=Hy (show Blk (w.alloc (.cells #[.slice c.aw c.nw c.cw,.slice c.ac c.nc c.cc,c.wk,c.cp,c.sl,c.ba,c.le,c.he,c.fi,c.ca,c.ji,c.ne] 25)) w.heap.size 25 [.slice c.aw c.nw c.cw,.slice c.ac c.nc c.cc,c.wk,c.cp,c.sl,c.ba,c.le,c.he,c.fi,c.ca,c.ji,c.ne] from hn_ w _)
 have HB:=Hy ((bf _ w).alloc (nl _) (.cells #[.slice c.aw c.nw c.cw,.slice c.ac c.nc c.cc,c.wk,c.cp,c.sl,c.ba,c.le,c.he,c.fi,c.ca,c.ji,c.ne] 25));generalize (w.alloc (.cells #[.slice c.aw c.nw c.cw,.slice c.ac c.nc c.cc,c.wk,c.cp,c.sl,c.ba,c.le,c.he,c.fi,c.ca,c.ji,c.ne] 25))=W at *;have a:W.cell? ⟨w.heap.size,0,none⟩=some (.slice c.aw c.nw c.cw):=L.cell 0;have V:=Hy (xaB c.aw c.nw c.cw c.words W (J.rw.below HB.o rfl) J.hw)
 refine V.mono ?_;rintro e Y ⟨rfl,F⟩;have D:=Hy (HB.trans (F.mono HB.size));have E:=Hy (L.below F L.lt);clear F HB L;have b:Y.cell? ⟨w.heap.size,1,none⟩=some (.slice c.ac c.nc c.cc):=E.cell 1;clear V;have U:=Hy (yaM c.ac c.nc c.cc c.cuts Y (J.rk.below D.o rfl) J.hk);clear J
 by_cases h1:goodT c.words=0
 rotate_left
 ·obtain rfl:m=false:=by rw [<- M.o];unfold mayC;rw [decide_eq_false h1];rfl
  go_wp2_with fail;go_ret;exact ⟨rfl,D.o⟩
 go_wp2_with fail;refine U.mono ?_;rintro e B ⟨rfl,F⟩;have G:=Hy (D.trans (F.mono D.size));have A:=Hy (E.below F E.lt);clear F D E;have d:B.cell? ⟨w.heap.size,2,none⟩=some (.int .i64 c.wk):=A.cell 2;have c3:B.cell? ⟨w.heap.size,3,none⟩=some (.int .i64 c.cp):=A.cell 3;have f:B.cell? ⟨w.heap.size,4,none⟩=some (.int .i64 c.sl):=A.cell 4;have g:B.cell? ⟨w.heap.size,5,none⟩=some (.int .i64 c.ba):=A.cell 5;have h:B.cell? ⟨w.heap.size,6,none⟩=some (.int .i64 c.le):=A.cell 6;have i:B.cell? ⟨w.heap.size,7,none⟩=some (.int .i64 c.he):=A.cell 7
 have c8:Ci B w.heap.size 8 c.fi:=A.cell 8;have j:B.cell? ⟨w.heap.size,9,none⟩=some (.int .i64 c.ca):=A.cell 9;have Z:B.cell? ⟨w.heap.size,10,none⟩=some (.int .i64 c.ji):=A.cell 10;have c11:B.cell? ⟨w.heap.size,11,none⟩=some (.int .i64 c.ne):=A.cell 11;clear A U
 by_cases N:goodE c.cuts=0
 rotate_left
 ·obtain rfl:m=false:=by rw [<- M.o];unfold mayC;rw [decide_eq_false N];simp
  go_wp2_with fail;go_ret;exact ⟨rfl,G.o⟩
 have H:=Hy (by rw [<- M.o];unfold mayC;rw [decide_eq_true h1,decide_eq_true N];simp:(nodesC c&&sizesC c&&timesC c)=m);rw [N];clear M h1 N;have ⟨P,T⟩:=gn (if c.wk < 3 then c.wk else 3);have Q:=Hy (by rw [<- T];split <;> omega:min 3 c.wk=P);go_upto_region 3 with fail;go_cut [3] from 16 to 26 (fun s K=>s=.bool (nodesC c)/\B=K)
 case first=>
  go_wp2_with fail;refine (qe (c.wk) (1) (5) B).mono ?_;rintro e w' ⟨rfl,rfl⟩;rcases Bool.eq_false_or_eq_true (inB (c.wk) (1) (5)) with hb0 | hb0;rotate_left
  ·rw [hb0]
   have C:=Hy (by unfold nodesC;simp [hb0]:nodesC c=false);clear hb0;go_wp2_with fail;go_meet;exact ⟨by rw [C.out],rfl⟩
  rw [hb0];go_wp2_with fail;refine (qe (c.cp) (1) (P) B).mono ?_;rintro e w' ⟨rfl,rfl⟩;have C:=Hy (by unfold nodesC;rw [Q.o];simp [hb0]:inB (c.cp) (1) (P)=nodesC c);clear hb0;generalize inB (c.cp) (1) (P)=q at *;go_wp2_with fail;go_meet;exact ⟨by rw [C.out],rfl⟩
 case rest=>
  obtain ⟨rfl,rfl⟩:=hcut;go_upto_region 4 with fail;go_cut [4] from 27 to 39 (fun s K=>s=.bool (sizesC c)/\B=K)
  case first=>
   go_wp2_with fail;refine (qe (c.sl) (1) (4) B).mono ?_;rintro e w' ⟨rfl,rfl⟩;rcases Bool.eq_false_or_eq_true (inB (c.sl) (1) (4)) with hb0 | hb0;rotate_left
   ·rw [hb0]
    have C:=Hy (by unfold sizesC;simp [hb0]:sizesC c=false);clear hb0;go_wp2_with fail;go_meet;exact ⟨by rw [C.out],rfl⟩
   rw [hb0];go_wp2_with fail;refine (qe (c.ba) (1) (5) B).mono ?_;rintro e w' ⟨rfl,rfl⟩;rcases Bool.eq_false_or_eq_true (inB (c.ba) (1) (5)) with hb1 | hb1;rotate_left
   ·rw [hb1]
    have C:=Hy (by unfold sizesC;simp [hb0,hb1]:sizesC c=false);clear hb0 hb1;go_wp2_with fail;go_meet;exact ⟨by rw [C.out],rfl⟩
   rw [hb1];go_wp2_with fail;refine (qe (c.ne) (8) (64) B).mono ?_;rintro e w' ⟨rfl,rfl⟩;have C:=Hy (by unfold sizesC;simp [hb0,hb1]:inB (c.ne) (8) (64)=sizesC c);clear hb0 hb1;generalize inB (c.ne) (8) (64)=q at *;go_wp2_with fail;go_meet;exact ⟨by rw [C.out],rfl⟩
  case rest=>
   obtain ⟨rfl,rfl⟩:=hcut;go_upto_region 5 with fail;go_cut [5] from 40 to 64 (fun s K=>s=.bool (timesC c)/\B=K)
   case first=>
    go_wp2_with fail;refine (qe (c.le) (1) (1000) B).mono ?_;rintro e w' ⟨rfl,rfl⟩;rcases Bool.eq_false_or_eq_true (inB (c.le) (1) (1000)) with hb0 | hb0;rotate_left
    ·rw [hb0]
     have C:=Hy (by unfold timesC;simp [hb0]:timesC c=false);clear hb0;go_wp2_with fail;go_meet;exact ⟨by rw [C.out],rfl⟩
    rw [hb0];go_wp2_with fail;refine (qe (c.he) (1) (1000) B).mono ?_;rintro e w' ⟨rfl,rfl⟩;rcases Bool.eq_false_or_eq_true (inB (c.he) (1) (1000)) with hb1 | hb1;rotate_left
    ·rw [hb1]
     have C:=Hy (by unfold timesC;simp [hb0,hb1]:timesC c=false);clear hb0 hb1;go_wp2_with fail;go_meet;exact ⟨by rw [C.out],rfl⟩
    rw [hb1];go_wp2_with fail;refine (qe (c.fi) (1) (10) B).mono ?_;rintro e w' ⟨rfl,rfl⟩;rcases Bool.eq_false_or_eq_true (inB (c.fi) (1) (10)) with hb2 | hb2;rotate_left
    ·rw [hb2]
     have C:=Hy (by unfold timesC;simp [hb0,hb1,hb2]:timesC c=false);clear hb0 hb1 hb2;go_wp2_with fail;go_meet;exact ⟨by rw [C.out],rfl⟩
    rw [hb2];go_wp2_with fail;refine (qe (c.ca) (c.fi) (50) B).mono ?_;rintro e w' ⟨rfl,rfl⟩;rcases Bool.eq_false_or_eq_true (inB (c.ca) (c.fi) (50)) with hb3 | hb3;rotate_left
    ·rw [hb3]
     have C:=Hy (by unfold timesC;simp [hb0,hb1,hb2,hb3]:timesC c=false);clear hb0 hb1 hb2 hb3;go_wp2_with fail;go_meet;exact ⟨by rw [C.out],rfl⟩
    rw [hb3];go_wp2_with fail;refine (qe (c.ji) (0) (10) B).mono ?_;rintro e w' ⟨rfl,rfl⟩;have C:=Hy (by unfold timesC;simp [hb0,hb1,hb2,hb3]:inB (c.ji) (0) (10)=timesC c);clear hb0 hb1 hb2 hb3;generalize inB (c.ji) (0) (10)=q at *;go_wp2_with fail;go_meet;exact ⟨by rw [C.out],rfl⟩
   case rest=>
    obtain ⟨rfl,rfl⟩:=hcut;generalize nodesC c=a1 at *;generalize sizesC c=a2 at *;generalize timesC c=a3 at *;have I:=H.o;clear H;cases a1 <;> cases a2 <;> cases a3 <;> (simp at I;subst I;go_wp2_with fail;go_ret;exact ⟨rfl,G.o⟩)
def ints (l:List Int):List Value:=l.map (Value.int .i64)
theorem yx (l:List Int):(ints l).length=l.length:=by simp [ints]
theorem Zac (l:List Int) (i:Nat) (h:i < l.length):(ints l)[i]?=some (.int .i64 l[i]):=by simp [ints,h]
theorem Xc:(Tryz.prog.info? 3).map (fun i=>(i.zero,i.size,i.bytes))=some (some (.int .i64 0),1,8):=by kernel_rfl
end Go.Proofs.YtinkbgeckjbnbaaGreat
