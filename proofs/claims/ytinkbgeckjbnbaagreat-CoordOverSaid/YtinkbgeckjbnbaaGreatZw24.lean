/- Lemmas (part 24). -/
import Derived.Test.YtinkbgeckjbnbaaGreatZw23
namespace Go.Proofs.YtinkbgeckjbnbaaGreat
open Go.RowKit Go.Proofs.Tryz
set_option autoImplicit true
set_option relaxedAutoImplicit true
set_option linter.unusedVariables false
set_option linter.unusedSimpArgs false
set_option maxRecDepth 100000
set_option maxHeartbeats 32000000
theorem ZD (O:Own) (A:CA) (p:Nat) (S:CS) (s q h sq wk ep:Int) (l:List KeyL) (en:Bool) (a:Option Addr) (c:Nat) (b:Int) (wn:Nat) (w:World) (N:CW w O A p S) (hr:RdE KeyL.cells 2 w a l.length c l) (P:l≠[]->∀ b o sp,a=some ⟨b,o,sp⟩->O b % 8≠1) (hz:∀ x∈l,x.2.size<=maxLen) (U:Yk s)
  (Q:S.OK A.cps.length b) (hb:b<=900000) (T:A.cps.length<=6) (Y:S.c.wk=(wn:Int)) (H:wn<=5) (E:1<=S.c.cp) (F:S.c.cp<=3):
  Calls prog 16 #[.pointer (some ⟨p,0,none⟩),.iface 65 (.agg #[s,q,h,sq,wk,ep,.slice a l.length c,.bool en])] w (ReE O A p (S.rep A.cps.length wn s q h sq wk ep l en) w):=by
 have ⟨W,Z⟩:=gn (w.alloc (.cells #[(),()] 36));have ⟨f,B⟩:=gn (W.alloc (.cells #[s,q,h,sq,wk,ep,.slice a l.length c,.bool en] 65));have L:W.heap.size=w.heap.size+1:=by rw [<- Z];simp
 have J:Below w.heap.size w W:=by rw [<- Z];exact (bf _ w).alloc (nl _) _
 have M:Below W.heap.size W f:=by rw [<- B];exact (bf _ W).alloc (nl _) _
 have D:=J.trans (M.mono J.size);have i:=Hy (by rw [<- B];exact hn_ W _:Blk f W.heap.size 65 [s,q,h,sq,wk,ep,.slice a l.length c,.bool en]);rw [L] at i;have ⟨d,I⟩:=gn (O.upd w.heap.size 0);have C:AgO w.heap.size O d:=by rw [<- I];exact AgO.upd _ _ _
 have G:l≠[]->∀ b o sp,a=some ⟨b,o,sp⟩->d b % 8≠1:=fun g b o sp e=>by
  by_cases r:b < w.heap.size
  ·rw [C b r];exact P g b o sp e
  ·rw [<- I,Own.upd_ge (by omega)];decide
 have K:=Hy (qab d A p S s q h sq wk ep l en a c b wn f (N.below D C) (hr.below D rfl) G hz U Q hb T Y H E F);have HB:=Hy D;have m:=Hy C;have t:=fun V=>yn p 0 V;have ⟨R,j⟩:=gn (S.rep A.cps.length wn s q h sq wk ep l en);rw [j] at K ⊢;obtain ⟨v,y,z,k3,k4,k5,k6,k7⟩:=c8 i.o;clear N hr P hz U Q hb T Y H E F J M D I C G j L;rw [<- Z] at B;clear Z;go_in;go_wp2_with (first | rw [Ze] | rw [Zg] | rw [B]);clear B v y z k3 k4 k5 k6 k7
 refine K.mono ?_;rintro e w2 k;have n:=Hy (ReE.shift HB.o m.o k);obtain ⟨u,O',A',rfl,-⟩:=k;go_wp2_with fail;go_ret;exact n.o
end Go.Proofs.YtinkbgeckjbnbaaGreat
