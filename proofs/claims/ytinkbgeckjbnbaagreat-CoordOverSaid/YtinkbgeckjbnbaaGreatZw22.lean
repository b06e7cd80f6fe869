/- Lemmas (part 22). -/
import Derived.Deep.MidRow
import Derived.Test.YtinkbgeckjbnbaaGreatZw21
namespace Go.Proofs.YtinkbgeckjbnbaaGreat
open Go.RowKit Go.Proofs.Tryz
set_option autoImplicit true
set_option relaxedAutoImplicit true
set_option linter.unusedVariables false
set_option linter.unusedSimpArgs false
set_option maxRecDepth 100000
set_option maxHeartbeats 32000000
section
open Go.RowKit Go.Deep
theorem xar {α:Type} {l:List α} {j:Nat} {x:α} (h:l[j]?=some x):l.take (j+1)=l.take j++[x]:=by
 rw [List.take_add_one,h];rfl
theorem Zan {m:MV}:Value.agg m.rcells.toArray=m.p5.1.msg m.p5.2:=by cases m <;> rfl
theorem ZP (m:MV):m.rcells.length=27:=by cases m <;> rfl
theorem Qx:(Tryz.prog.info? 101).map (·.size)=some 27:=by kernel_rfl
theorem zZ {m:MV} (h:m.flat=true):m.is_reply=false:=by cases m <;> first | rfl | cases h
theorem Yak {m:MV} (h:m.flat=true):∃ t v,m.val=.iface t v:=by cases m <;> first | exact ⟨_,_,rfl⟩ | cases h
def LbE (l:List LV) (w:World) (e:Ending) (w':World):Prop:=∃ ao c,e=.returned (.slice ao l.length c)/\w'.ownsRow w.heap.size 51 2 (.slice ao l.length c) l.length (l.flatMap LV.cells)/\Below w.heap.size w w'
def LbR (l:List LV) (w:World) (v3 v4:Value) (wr:World):Prop:=∃ (k:Nat) (ao:Option Addr) (c:Nat),k<=l.length/\v4=.int .i64 k/\v3=.slice ao k c/\Hid (wr.ownsRow w.heap.size 51 2 (.slice ao k c) k ((l.take k).flatMap LV.cells))/\Hid (Below w.heap.size w wr)
theorem Xi (a:Option Addr) (c:Nat) (l:List LV) (w:World) (hr:RdE RLV 28 w a l.length c l) (hl:∀ x∈l,x.2.flat=true) (hn:l.length<=1000):
  Calls prog 43 #[.slice a l.length c] w (LbE l w):=by
 obtain ⟨i0,hi,Au,Av,Aw⟩:=info_parts zx;clear hi Au Av Aw;have HR:=Hy hr;have HL:=Hy hl;have Aq:=hr.2.1;have F:=hr.2.2.1;unfold maxLen at F;clear hr hl;unfold LbE;have ⟨n,Z⟩:=gn l.length;have HN:=Hy Z;rw [Z] at hn Aq ⊢;clear Z;go_in;go_wp2_with fail;go_loopw [3,4] (fun v3 v4 wr=>LbR l w v3 v4 wr) (fun _ v _=>n - (intOf v).toNat)
 case atStart=>exact ⟨0,none,0,nz _,rfl,rfl,World.ownsRow_nil _ _ _ _,bf _ _⟩
 case round=>
  obtain ⟨k,t,u,H,rfl,rfl,HO,HB⟩:=hrel;rw [HN.o] at H
  by_cases z:k < n
  ·have e1:(k:Int) < (n:Int):=by omega
   have e2:(0:Int)<=(k:Int):=by omega
   obtain ⟨x,hx⟩:∃ x,l[k]?=some x:=⟨l[k]'(by rw [HN.o];exact z),le_ _⟩;obtain ⟨B,J,rfl,Ar,_⟩:=HR.2.2.2.2 k x hx;obtain ⟨AB,AF,Ap,y,W⟩:=(HR.below HB.o rfl).2.2.2.2 k x hx;cases Ap;have Aj:=Hy (show ∀ b,(Value.slice t k u).ownBlock=some b->b=B->False from fun b G e=>by have AC:=Xa HO.o b G;omega);have Am:=Hy (xar hx);have N:=HL.o x (lm hx);have A:=ZaJ x.2 N;rw [<- Zan] at A;have u0:wr.drew.cell? ⟨B,J+k * 28,none⟩=some (.int .i64 x.1):=W 0 (by decide);have u1:World.rangeAt wr.drew B (J+k * 28+1) x.2.rcells:=fun j v T=>by have q:=W (1+j) (by have h1:=(lg T).1;rw [ZP] at h1;omega);rw [show J+k * 28+1+j=J+k * 28+(1+j) by omega];exact q.trans (by show (Value.int .i64 x.1 :: x.2.rcells)[1+j]?=some v;rw [show 1+j=j+1 by omega,List.getElem?_cons_succ];exact T)
   have P:(Tryz.prog.info? 101).map (·.size)=some x.2.rcells.length:=by rw [ZP];exact Qx
   obtain ⟨f,x2⟩:=x;simp only at N A u0 u1 P;have ⟨rc,Aa⟩:=gn x2.rcells;rw [Aa] at A u1 P;have Q:=Hy A;have Ah:=Hy N;have Al:=Hy P;have r:=Hy (And.intro u0 u1);have Ai:=Hy y;clear hx W N A u0 u1 P Aa y Ar;have A1:k+1<=maxLen:=by unfold maxLen;omega
   have A2:(k+1) * 24<=140737488355328:=by omega
   have A3:w.heap.size<=wr.heap.size:=HB.o.size;go_upto_region 11 with fail;let M:World->Prop:=fun w'=>w'.cell? ⟨B,J+k * 28,none⟩=some (.int .i64 f)/\World.rangeAt w' B (J+k * 28+1) rc;refine rg M fun C=>?_;(iterate 10 refine tq 0 ?_);refine takeO 10 (some 21) (v:=(.agg rc.toArray)) rfl rfl (by kernel_rfl) (by kernel_rfl) (by kernel_rfl) (fun _ _ _ h=>h) (yieldsIf_load_mid rfl 101 (.tmp 20) rfl B (J+k * 28+1) (by rfl) rc _ (fun w hw=>hw.2) underlying101 rfl Al.o) (by assumption) ?_
   try go_frame
   refine rdy 11 fun K R=>?_;go_simp;refine (Q.o _).mono ?_;rintro e L ⟨rfl,G⟩;have g:=Hy ((HB.drew).trans (G.mono A3));have D:B < wr.drew.heap.size:=Ai.o;have At:w.heap.size<=L.heap.size:=nr A3 G.size;have U:=Hy (show (L.alloc (.cells #[f,x2.val] 51)).ownsRow w.heap.size 51 2 (.slice t k u) k ((l.take k).flatMap LV.cells) from (Qa (show wr.drew.ownsRow w.heap.size 51 2 (.slice t k u) k ((l.take k).flatMap LV.cells) from HO.o) G).alloc _);have s:=Hy (show M L from ⟨by rw [G.cell (p:=⟨B,J+k * 28,none⟩) D];exact r.1,fun j v T=>by rw [G.cell (p:=⟨B,J+k * 28+1+j,none⟩) D];exact r.2 j v T⟩);have F:Below L.heap.size L (L.alloc (.cells #[f,x2.val] 51)):=(bf _ L).alloc (nl _) _;have E:B < L.heap.size:=nt D G.size;have V:=Hy (show M (L.alloc (.cells #[f,x2.val] 51)) from ⟨by rw [F.cell (p:=⟨B,J+k * 28,none⟩) E];exact s.1,fun j v T=>by rw [F.cell (p:=⟨B,J+k * 28+1+j,none⟩) E];exact s.2 j v T⟩);have i:=Hy (g.trans (F.mono At));have m:=Hy E;clear G F D E;(obtain ⟨xt,xw,d⟩:=Yak Ah.o);rw [d] at U V i ⊢;have An:=Hy d;clear d Q HO HB g
   go_wp2_with fail;refine hk R fun C=>?_;clear R K;refine tk 12 ?_;refine rdy 13 fun K R=>?_;go_simp;go_wp2_with fail;refine hk R fun C=>?_;clear R K
   refine rdy 14 fun K R=>?_;refine sa zx underlying33 U.o (Src.two underlying33 L (.int .i64 f) (.iface xt xw) 51 rfl rfl) A1 A2 (by simp;omega) ?_;intro Ao c3 w5 I Y;have Ak:=Hy I;have Ag:=Hy (i.grown Y (by simp;omega) (fun b G=>(U.lt b G).1));have AA:=Hy (show M w5 from by (have As:(Value.slice t k u).ownBlock≠some B:=(fun e=>Aj.o B e rfl));have H:∀ p:Addr,p.block=B->w5.cell? p=(L.alloc (.cells #[f,.iface xt xw] 51)).cell? p:=(fun p hp=>by unfold World.cell?;rw [hp,Y.block B (by simp;have:=m.o;omega) (fun e=>As e.symm)]);exact ⟨by rw [H _ rfl];exact V.1,fun j v T=>by rw [H _ rfl];exact V.2 j v T⟩);clear I Y
   refine hk R fun C=>?_;clear R K;refine tk 15 ?_;refine dn ?_;go_wp2_with fail;go_roundw
   case rel=>exact ⟨k+1,Ao,c3,by rw [HN.o];omega,by go_num,rfl,(by unfold Hid;rw [Am.o,List.flatMap_append];have q:=Ak.o;rw [<- An.o] at q;exact q),Ag.o⟩
   case measure=>simp [intOf];omega
  obtain rfl:k=n:=by omega
  clear z H;go_wp2_with fail;go_ret;exact ⟨t,u,rfl,by have q:=HO.o;rw [List.take_of_length_le (by rw [HN.o];exact Nat.le_refl _)] at q;exact q,HB.o⟩
theorem yh (base c:Nat) (ao:Option Addr) (l:List LV) (w:World) (h:w.ownsRow base 51 2 (.slice ao l.length c) l.length (l.flatMap LV.cells)) (hl:∀ x∈l,x.2.flat=true) (hn:l.length<=1000):
  Calls prog 85 #[.slice ao l.length c] w fun e w'=>e=.returned (.tuple #[])/\Frm (fun i=>(Value.slice ao l.length c).ownBlock=some i) w w':=by
 have C:=Hy (zi h (nz _));have f:=Hy hl;have ⟨n,H⟩:=gn l.length;have k:=Hy H;rw [H] at hn C ⊢;clear H h hl;go_in;go_wp2_with fail;go_loopw [2] (fun v wr=>∃ (i:Nat) (F:List Value),i<=n/\v=.int .i64 i/\Hid (wr.ownsRow 0 51 2 (.slice ao n c) n F)/\Hid (∀ (j:Nat) (x:LV),i<=j->l[j]?=some x->F[j * 2+1]?=some x.2.val)/\Hid (Frm (fun i=>(Value.slice ao n c).ownBlock=some i) w wr)) (fun v _=>n - (intOf v).toNat)
 case atStart=>exact ⟨0,_,nz _,rfl,C.o,fun j x _ I=>yc LV.cells 2 LV.len l j 1 (by decide) |>.trans (by rw [I];rfl),Frm.refl _ _⟩
 case round=>
  clear C;obtain ⟨i,F,hi,rfl,C,W,T⟩:=hrel
  by_cases Q:i < n
  ·obtain ⟨g,cap,b,_,_⟩:=C.form (by omega)
   simp only [Value.slice.injEq,true_and] at b;obtain ⟨rfl,rfl⟩:=b;obtain ⟨sp,E,D⟩:=ze C.o;have A:F.length=n * 2:=C.1;obtain ⟨x,I⟩:∃ x,l[i]?=some x:=⟨l[i]'(by rw [k.o];exact Q),le_ _⟩;have G:=f.o x (lm I);have ta:=qA x.2 x.2.val wr (MV.flat_at G wr) (zZ G);have a:wr.cell? ⟨g,i * 2+1,none⟩=some x.2.val:=by rw [D.cell,List.getElem?_append_left (by omega)];exact W.o i x (nl _) I
   have ⟨y,R⟩:=gn x.2.val;rw [R] at ta a;clear R G I;have t:(0:Int)<=(i:Int):=by omega
   have u:(i:Int) < (n:Int):=by omega
   have q:=D.lt;have J:=Hy D;have L:=Hy A;have K:=Hy E;clear D A E;have D:=J.o;have A:=L.o;have E:=K.o;obtain ⟨d,p⟩:∃ d,wr.cell? ⟨g,i * 2,none⟩=some d:=⟨F[i * 2]'(by omega),by rw [D.cell,List.getElem?_append_left (by omega)];exact le_ _⟩;have r:=zk (o:=i * 2) D;have m:=zk (o:=i * 2+1) D
   have B:n<=c:=by
    rcases C.2 with ⟨h',_⟩ | ⟨g',cap',cur,h',_,_,B,_⟩
    ·simp at h'
    ·simp only [Value.slice.injEq] at h';omega
   have P:c<=maxLen:=by
    rcases C.2 with ⟨h',_⟩ | ⟨g',cap',cur,h',_,_,_,B,_⟩
    ·simp at h'
    ·simp only [Value.slice.injEq] at h';obtain ⟨_,_,rfl⟩:=h';exact B
   have M:(((wr.setCell ⟨g,i * 2,none⟩ (.int .i64 (-9))).setCell ⟨g,i * 2+1,none⟩ .nilIface).alloc (.cells #[(),(),(),(),(),(),.slice none 0 0,false] 65)).ownsRow 0 51 2 (.slice (some ⟨g,0,none⟩) n c) n ((F.set (i * 2) (.int .i64 (-9))).set (i * 2+1) .nilIface):=by
    have N:=(D.set (i * 2) (.int .i64 (-9))).set (i * 2+1) .nilIface;rw [List.set_append_left _ _ (by omega),List.set_append_left _ _ (by rw [List.length_set];omega)] at N;have Z:=Blk.alloc N (.cells #[(),(),(),(),(),(),.slice none 0 0,false] 65);refine ⟨by simp [A],.inr ⟨g,c,(((F.set (i * 2) (.int .i64 (-9))).set (i * 2+1) .nilIface)++sp).toArray,rfl,nz _,Z,B,P,?_,?_⟩⟩
    ·simp;omega
    ·simp [<- A]
   have V:=Hy M;have Y:=Hy (show ∀ (j:Nat) (x:LV),i+1<=j->l[j]?=some x->((F.set (i * 2) (.int .i64 (-9))).set (i * 2+1) .nilIface)[j * 2+1]?=some x.2.val from fun j x s I=>by rw [List.getElem?_set_ne (by omega),List.getElem?_set_ne (by omega)];exact W.o j x (by omega) I);have U:=Hy (((T.setCell ⟨g,i * 2,none⟩ (.int .i64 (-9)) (.inl rfl)).setCell ⟨g,i * 2+1,none⟩ .nilIface (.inl rfl)).alloc (.cells #[(),(),(),(),(),(),.slice none 0 0,false] 65));clear D M E B P A T C W J L K;go_wp2_with (rw [ta])
   go_roundw
   case rel=>exact ⟨i+1,_,by omega,by go_num,V.o,Y.o,U.o⟩
   case measure=>simp [intOf];omega
  obtain rfl:i=n:=by omega
  clear Q;go_wp2_with fail;go_end0;exact ⟨rfl,T.o⟩
end
theorem yaD (w0 l0:Int) (w:World):Calls prog 46 #[.iface 36 (.agg #[w0,l0])] w fun e w'=>e=.returned (P5.msg ⟨w0,l0,0,0,0,0,0,0,0,0,⟨#[]⟩,0,0,false,0,⟨#[]⟩,0,0,0,0,0,0,none,0,[],false,0,0⟩ 1)/\Below w.heap.size w w':=by
 have B:=Hy (Blk.alloc (show Blk (w.alloc (.cells #[(),(),(),(),(),(),(),(),(),(),(),.string ⟨#[]⟩,(),(),false,(),.string ⟨#[]⟩,(),(),(),(),(),(),.slice none 0 0,false,(),()] 101)) w.heap.size 101 [(),(),(),(),(),(),(),(),(),(),(),.string ⟨#[]⟩,(),(),false,(),.string ⟨#[]⟩,(),(),(),(),(),(),.slice none 0 0,false,(),()] from hn_ w _) (.cells #[w0,l0] 36))
 have HB:=Hy (show Below w.heap.size w ((w.alloc (.cells #[(),(),(),(),(),(),(),(),(),(),(),.string ⟨#[]⟩,(),(),false,(),.string ⟨#[]⟩,(),(),(),(),(),(),.slice none 0 0,false,(),()] 101)).alloc (.cells #[w0,l0] 36)) from (by repeat (first | exact bf _ _ | refine Below.alloc ?_ (by first | (simp;done) | (simp;omega)) _)));go_in;go_wp2_with (first | rw [xg] | rw [zg] | rw [Zj] | rw [Qg] | rw [Yh] | (refine wpList_store_row rfl 101 _ _ rfl w.heap.size #[.int .i64 1,w0,l0,(),(),(),(),(),(),(),(),.string ⟨#[]⟩,(),(),false,(),.string ⟨#[]⟩,(),(),(),(),(),(),.slice none 0 0,false,(),()] rfl rfl _ #[(),(),(),(),(),(),(),(),(),(),(),.string ⟨#[]⟩,(),(),false,(),.string ⟨#[]⟩,(),(),(),(),(),(),.slice none 0 0,false,(),()] B.o Qx rfl (by simp [Value.oneCell']) ?_))
 have C:=setRow_heap ((w.alloc (.cells #[(),(),(),(),(),(),(),(),(),(),(),.string ⟨#[]⟩,(),(),false,(),.string ⟨#[]⟩,(),(),(),(),(),(),.slice none 0 0,false,(),()] 101)).alloc (.cells #[w0,l0] 36)) w.heap.size #[(),(),(),(),(),(),(),(),(),(),(),.string ⟨#[]⟩,(),(),false,(),.string ⟨#[]⟩,(),(),(),(),(),(),.slice none 0 0,false,(),()] #[.int .i64 1,w0,l0,(),(),(),(),(),(),(),(),.string ⟨#[]⟩,(),(),false,(),.string ⟨#[]⟩,(),(),(),(),(),(),.slice none 0 0,false,(),()] 101 (0,0) B.o
 have A:=below_setRow HB.o (nl w.heap.size) #[.int .i64 1,w0,l0,(),(),(),(),(),(),(),(),.string ⟨#[]⟩,(),(),false,(),.string ⟨#[]⟩,(),(),(),(),(),(),.slice none 0 0,false,(),()];refine bodyPost_ret (results_cell_row rfl _ _ w.heap.size 101 #[.int .i64 1,w0,l0,(),(),(),(),(),(),(),(),.string ⟨#[]⟩,(),(),false,(),.string ⟨#[]⟩,(),(),(),(),(),(),.slice none 0 0,false,(),()] (0,0) _ rfl C underlying101 rfl Qx) rfl ?_
 exact ⟨rfl,A⟩
theorem yW (s q hh sq wk ep:Int) (l:List KeyL) (en:Bool) (a:Option Addr) (c:Nat) (w:World):Calls prog 46 #[.iface 65 (.agg #[s,q,hh,sq,wk,ep,.slice a l.length c,.bool en])] w fun e w'=>e=.returned (P5.msg ⟨0,0,0,0,0,0,0,0,0,0,⟨#[]⟩,0,0,false,0,⟨#[]⟩,s,q,hh,sq,wk,ep,a,c,l,en,0,0⟩ 4)/\Below w.heap.size w w':=by
 have B:=Hy (Blk.alloc (show Blk (w.alloc (.cells #[(),(),(),(),(),(),(),(),(),(),(),.string ⟨#[]⟩,(),(),false,(),.string ⟨#[]⟩,(),(),(),(),(),(),.slice none 0 0,false,(),()] 101)) w.heap.size 101 [(),(),(),(),(),(),(),(),(),(),(),.string ⟨#[]⟩,(),(),false,(),.string ⟨#[]⟩,(),(),(),(),(),(),.slice none 0 0,false,(),()] from hn_ w _) (.cells #[s,q,hh,sq,wk,ep,.slice a l.length c,.bool en] 65))
 have HB:=Hy (show Below w.heap.size w ((w.alloc (.cells #[(),(),(),(),(),(),(),(),(),(),(),.string ⟨#[]⟩,(),(),false,(),.string ⟨#[]⟩,(),(),(),(),(),(),.slice none 0 0,false,(),()] 101)).alloc (.cells #[s,q,hh,sq,wk,ep,.slice a l.length c,.bool en] 65)) from (by repeat (first | exact bf _ _ | refine Below.alloc ?_ (by first | (simp;done) | (simp;omega)) _)))
 go_in;go_wp2_with (first | rw [Ze] | rw [yg] | rw [Yj] | rw [Zg] | rw [Xh] | (refine wpList_store_row rfl 101 _ _ rfl w.heap.size #[.int .i64 4,(),(),(),(),(),(),(),(),(),(),.string ⟨#[]⟩,(),(),false,(),.string ⟨#[]⟩,s,q,hh,sq,wk,ep,.slice a l.length c,.bool en,(),()] rfl rfl _ #[(),(),(),(),(),(),(),(),(),(),(),.string ⟨#[]⟩,(),(),false,(),.string ⟨#[]⟩,(),(),(),(),(),(),.slice none 0 0,false,(),()] B.o Qx rfl (by simp [Value.oneCell']) ?_))
 have C:=setRow_heap ((w.alloc (.cells #[(),(),(),(),(),(),(),(),(),(),(),.string ⟨#[]⟩,(),(),false,(),.string ⟨#[]⟩,(),(),(),(),(),(),.slice none 0 0,false,(),()] 101)).alloc (.cells #[s,q,hh,sq,wk,ep,.slice a l.length c,.bool en] 65)) w.heap.size #[(),(),(),(),(),(),(),(),(),(),(),.string ⟨#[]⟩,(),(),false,(),.string ⟨#[]⟩,(),(),(),(),(),(),.slice none 0 0,false,(),()] #[.int .i64 4,(),(),(),(),(),(),(),(),(),(),.string ⟨#[]⟩,(),(),false,(),.string ⟨#[]⟩,s,q,hh,sq,wk,ep,.slice a l.length c,.bool en,(),()] 101 (0,0) B.o
 have A:=below_setRow HB.o (nl w.heap.size) #[.int .i64 4,(),(),(),(),(),(),(),(),(),(),.string ⟨#[]⟩,(),(),false,(),.string ⟨#[]⟩,s,q,hh,sq,wk,ep,.slice a l.length c,.bool en,(),()];refine bodyPost_ret (results_cell_row rfl _ _ w.heap.size 101 #[.int .i64 4,(),(),(),(),(),(),(),(),(),(),.string ⟨#[]⟩,(),(),false,(),.string ⟨#[]⟩,s,q,hh,sq,wk,ep,.slice a l.length c,.bool en,(),()] (0,0) _ rfl C underlying101 rfl Qx) rfl ?_
 exact ⟨rfl,A⟩
end Go.Proofs.YtinkbgeckjbnbaaGreat
