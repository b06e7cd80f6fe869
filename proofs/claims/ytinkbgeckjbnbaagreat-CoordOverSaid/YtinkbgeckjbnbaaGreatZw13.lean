/- Lemmas (part 13). -/
import Derived.Lib.DecodeN
import Derived.Test.YtinkbgeckjbnbaaGreatRows
import Derived.Test.YtinkbgeckjbnbaaGreatZw12
namespace Go.Proofs.YtinkbgeckjbnbaaGreat
open Go.RowKit Go.Proofs.Tryz
set_option autoImplicit true
set_option relaxedAutoImplicit true
set_option linter.unusedVariables false
set_option linter.unusedSimpArgs false
set_option maxRecDepth 100000
set_option maxHeartbeats 32000000
section
open Go.Lib
def goesOn (n k b:Nat):Prop:=k < n/\128<=b/\b<=191
instance (n k b:Nat):Decidable (goesOn n k b):=by unfold goesOn;infer_instance
def oneN (n b0 b1 b2 b3:Nat):Nat×Nat:=
 if b0 < 128 then (b0,1)
 else if 194<=b0/\b0<=223/\goesOn n 1 b1 then ((b0 - 192) * 64+(b1 - 128),2)
 else if 224<=b0/\b0<=239/\goesOn n 1 b1/\goesOn n 2 b2 then ((b0 - 224) * 4096+(b1 - 128) * 64+(b2 - 128),3)
 else if 240<=b0/\b0<=244/\goesOn n 1 b1/\goesOn n 2 b2/\goesOn n 3 b3 then ((b0 - 240) * 262144+(b1 - 128) * 4096+(b2 - 128) * 64+(b3 - 128),4)
 else (0,0)
def mayR (r:Nat):Prop:=r<=1114111/\(r < 55296∨57343 < r)/\r≠65533
instance (r:Nat):Decidable (mayR r):=by unfold mayR;infer_instance
def takenN (x:Nat×Nat):Prop:=x.2≠0/\mayR x.1/\¬ (x.2=3/\x.1 < 2048)/\¬ (x.2=4/\x.1 < 65536)
instance (x:Nat×Nat):Decidable (takenN x):=by unfold takenN;infer_instance
theorem Zam (n b0 b1 b2 b3:Nat) (h0:b0 < 256) (h1:b1 < 256) (F:b2 < 256) (G:b3 < 256):
  (takenN (oneN n b0 b1 b2 b3)->decodeN n b0 b1 b2 b3=oneN n b0 b1 b2 b3/\(decodeN n b0 b1 b2 b3).1≠65533)/\(¬ takenN (oneN n b0 b1 b2 b3)->(decodeN n b0 b1 b2 b3).1=65533):=by
 by_cases A:b0 < 128
 ·have B:oneN n b0 b1 b2 b3=(b0,1):=by unfold oneN;rw [if_pos A]
  have D:decodeN n b0 b1 b2 b3=(b0,1):=by unfold decodeN;rw [if_pos A]
  rw [B,D];refine ⟨fun _=>⟨rfl,?_⟩,fun h=>?_⟩
  ·simp only;omega
  exfalso;apply h;unfold takenN mayR;simp only;omega
 by_cases N:b0 < 194
 ·have B:oneN n b0 b1 b2 b3=(0,0):=by unfold oneN;rw [if_neg A,io,io,io]
  have D:(decodeN n b0 b1 b2 b3).1=65533:=by
   unfold decodeN;rw [if_neg A];split
   ·rw [io]
   ·rw [io,io]
  rw [B];exact ⟨fun h=>by unfold takenN at h;simp at h,fun _=>D⟩
 by_cases K:b0<=223
 ·by_cases C:goesOn n 1 b1
  ·have B:oneN n b0 b1 b2 b3=((b0 - 192) * 64+(b1 - 128),2):=by unfold oneN;rw [if_neg A,if_pos ⟨by omega,K,C⟩]
   unfold goesOn at C
   have D:decodeN n b0 b1 b2 b3=((b0 - 192) * 64+(b1 - 128),2):=by
    unfold decodeN;rw [if_neg A,ip,ip];apply Prod.ext <;> simp only;omega
   rw [B,D];refine ⟨fun _=>⟨rfl,?_⟩,fun h=>?_⟩
   ·simp only;omega
   exfalso;apply h;unfold takenN mayR;simp only;omega
  have B:oneN n b0 b1 b2 b3=(0,0):=by unfold oneN;rw [if_neg A,if_neg (fun h=>C h.2.2),io,io]
  unfold goesOn at C
  have D:(decodeN n b0 b1 b2 b3).1=65533:=by
   unfold decodeN;rw [if_neg A,io,io,io]
  rw [B];exact ⟨fun h=>by unfold takenN at h;simp at h,fun _=>D⟩
 by_cases c3:b0<=239
 ·by_cases C:goesOn n 1 b1/\goesOn n 2 b2
  ·have B:oneN n b0 b1 b2 b3=((b0 - 224) * 4096+(b1 - 128) * 64+(b2 - 128),3):=by unfold oneN;rw [if_neg A,io,if_pos ⟨by omega,c3,C.1,C.2⟩]
   unfold goesOn at C;rw [B];unfold decodeN;rw [if_neg A,io,ip];have J:b0 % 16 * 4096+b1 % 64 * 64+b2 % 64=(b0 - 224) * 4096+(b1 - 128) * 64+(b2 - 128):=by omega
   rw [J];generalize (b0 - 224) * 4096+(b1 - 128) * 64+(b2 - 128)=r;unfold takenN mayR
   by_cases E:r≥2048/\(r < 55296∨57344<=r/\r<=1114111)
   ·rw [if_pos E]
    exact ⟨fun h=>⟨rfl,h.2.1.2.2⟩,fun h=>by simp only at h ⊢;omega⟩
   rw [if_neg E]
   exact ⟨fun h=>by obtain ⟨_,⟨F,G,_⟩,H,_⟩:=h;have M:¬ r < 2048:=fun I=>H ⟨rfl,I⟩;simp only at F G;omega,fun h=>rfl⟩
  have B:oneN n b0 b1 b2 b3=(0,0):=by unfold oneN;rw [if_neg A,io,if_neg (fun h=>C h.2.2),io]
  unfold goesOn at C
  have D:(decodeN n b0 b1 b2 b3).1=65533:=by
   unfold decodeN;rw [if_neg A,io,io,io]
  rw [B];exact ⟨fun h=>by unfold takenN at h;simp at h,fun _=>D⟩
 by_cases L:b0<=244
 ·by_cases C:goesOn n 1 b1/\goesOn n 2 b2/\goesOn n 3 b3
  ·have B:oneN n b0 b1 b2 b3=((b0 - 240) * 262144+(b1 - 128) * 4096+(b2 - 128) * 64+(b3 - 128),4):=by unfold oneN;rw [if_neg A,io,io,if_pos ⟨by omega,L,C.1,C.2.1,C.2.2⟩]
   unfold goesOn at C;rw [B];unfold decodeN;rw [if_neg A,io,io,ip];have J:b0 % 8 * 262144+b1 % 64 * 4096+b2 % 64 * 64+b3 % 64=(b0 - 240) * 262144+(b1 - 128) * 4096+(b2 - 128) * 64+(b3 - 128):=by omega
   rw [J];generalize (b0 - 240) * 262144+(b1 - 128) * 4096+(b2 - 128) * 64+(b3 - 128)=r;unfold takenN mayR
   by_cases E:r≥65536/\(r < 55296∨57344<=r/\r<=1114111)
   ·rw [if_pos E]
    exact ⟨fun h=>⟨rfl,h.2.1.2.2⟩,fun h=>by simp only at h ⊢;omega⟩
   rw [if_neg E]
   exact ⟨fun h=>by obtain ⟨_,⟨F,G,_⟩,_,H⟩:=h;have M:¬ r < 65536:=fun I=>H ⟨rfl,I⟩;simp only at F G;omega,fun h=>rfl⟩
  have B:oneN n b0 b1 b2 b3=(0,0):=by unfold oneN;rw [if_neg A,io,io,if_neg (fun h=>C h.2.2)]
  unfold goesOn at C
  have D:(decodeN n b0 b1 b2 b3).1=65533:=by
   unfold decodeN;rw [if_neg A,io,io,io]
  rw [B];exact ⟨fun h=>by unfold takenN at h;simp at h,fun _=>D⟩
 have B:oneN n b0 b1 b2 b3=(0,0):=by unfold oneN;rw [if_neg A,io,io,io]
 have D:(decodeN n b0 b1 b2 b3).1=65533:=by
  unfold decodeN;rw [if_neg A,io,io];split
  ·rw [io]
  ·rfl
 rw [B];exact ⟨fun h=>by unfold takenN at h;simp at h,fun _=>D⟩
end
def moreB (s:ByteArray) (i:Nat):Bool:=decide (i < s.size/\128<=byteN s i/\byteN s i<=191)
def moreR (s:ByteArray) (i:Nat):Int:=if moreB s i=true then (byteN s i:Int) - 128 else 0
theorem yP (s:ByteArray) (i:Nat) (w:World) (hs:s.size<=1000000) (hi:i<=2000000):
  Calls prog 209 #[s,i] w fun e w'=>e=.returned (.tuple #[.int .i32 (moreR s i),.bool (moreB s i)])/\w=w':=by
 by_cases h:i < s.size
 ·have F:∀ w,(Instr.index 9 (.string s) (.int .i64 i)).run prog w=.ok (.int .u8 (byteN s i)) w:=fun w=>by
   rw [run_index_string w _ _ _ _ underlying9];simp [h,Zs s i h]
  have H:=Qh s i;unfold moreR moreB;generalize byteN s i=x at *;have C:decide ((s.size:Int)<=i)=false:=by simp;omega
  by_cases h1:x < 128
  ·have A:decide (i < s.size/\128<=x/\x<=191)=false:=by simp;omega
   rw [A];have B:decide ((x:Int) < 128)=true:=by simp;omega
   go_in;go_wp2_with fail;go_ret2;exact ⟨by simp,rfl⟩
  by_cases G:191 < x
  ·have A:decide (i < s.size/\128<=x/\x<=191)=false:=by simp;omega
   rw [A];have B:decide ((x:Int) < 128)=false:=by simp;omega
   have D:decide (191 < (x:Int))=true:=by simp;omega
   go_in;go_wp2_with fail;go_ret2;exact ⟨by simp,rfl⟩
  have A:decide (i < s.size/\128<=x/\x<=191)=true:=by simp;omega
  rw [A];have B:decide ((x:Int) < 128)=false:=by simp;omega
  have D:decide (191 < (x:Int))=false:=by simp;omega
  go_in;go_wp2_with fail;go_ret2;exact ⟨by simp,rfl⟩
 have A:moreB s i=false:=by unfold moreB;simp;omega
 have E:moreR s i=0:=by unfold moreR;rw [A];rfl
 rw [A,E];have C:decide ((s.size:Int)<=i)=true:=by simp;omega
 go_in;go_wp2_with fail;go_ret2;exact ⟨rfl,rfl⟩
def oneP (s:ByteArray) (i:Nat):Nat×Nat:=oneN (s.size - i) (byteN s i) (byteN s (i+1)) (byteN s (i+2)) (byteN s (i+3))
theorem yB (s:ByteArray) (i k:Nat):moreB s (i+k)=decide (goesOn (s.size - i) k (byteN s (i+k))):=by
 unfold moreB goesOn;exact decide_eq_decide.2 (by omega)
theorem xad (s:ByteArray) (i:Nat):(takenN (oneP s i)->Utf8.decode s i=oneP s i/\(Utf8.decode s i).1≠65533)/\(¬ takenN (oneP s i)->(Utf8.decode s i).1=65533):=by
 rw [Lib.decode_at];exact Zam _ _ _ _ _ (Qh s i) (Qh s (i+1)) (Qh s (i+2)) (Qh s (i+3))
theorem YaZ (s:ByteArray) (i:Nat) (w:World) (hs:s.size<=1000000) (hi:i < s.size):
  Calls prog 202 #[s,i] w fun e w'=>e=.returned (.tuple #[.int .i32 ((oneP s i).1:Int),((oneP s i).2:Int)])/\w=w':=by
 have Ac:∀ w,(Instr.index 9 (.string s) (.int .i64 i)).run prog w=.ok (.int .u8 (byteN s i)) w:=fun w=>by
  rw [run_index_string w _ _ _ _ underlying9];simp [hi,Zs s i hi]
 have U:=Hy (fun W=>yP s (i+1) W hs (by omega));have V:=Hy (fun W=>yP s (i+2) W hs (by omega));have Y:=Hy (fun W=>yP s (i+3) W hs (by omega));have L:=yB s i 1;have N:=yB s i 2;have T:=yB s i 3;have hc:=Qh s i;have z:=Qh s (i+1);have Aa:=Qh s (i+2);have Ab:=Qh s (i+3);have P:moreR s (i+1)=if moreB s (i+1)=true then (byteN s (i+1):Int) - 128 else 0:=rfl;have R:moreR s (i+2)=if moreB s (i+2)=true then (byteN s (i+2):Int) - 128 else 0:=rfl;have Z:moreR s (i+3)=if moreB s (i+3)=true then (byteN s (i+3):Int) - 128 else 0:=rfl
 unfold oneP;generalize byteN s i=c at *;generalize byteN s (i+1)=b1 at *;generalize byteN s (i+2)=b2 at *;generalize byteN s (i+3)=b3 at *;generalize moreR s (i+1)=r1 at *;generalize moreR s (i+2)=r2 at *;generalize moreR s (i+3)=r3 at *;generalize moreB s (i+1)=x1 at *;generalize moreB s (i+2)=x2 at *;generalize moreB s (i+3)=x3 at *;rw [show ((i+1:Nat):Int)=(i:Int)+1 from by omega] at U;rw [show ((i+2:Nat):Int)=(i:Int)+2 from by omega] at V;rw [show ((i+3:Nat):Int)=(i:Int)+3 from by omega] at Y;have ⟨o,r⟩:=gn (oneN (s.size - i) c b1 b2 b3);have H:=Hy r;rw [r];clear r
 obtain ⟨B,d⟩:=o
 by_cases b:c < 128
 ·
  have K:=True.intro;have D:oneN (s.size - i) c b1 b2 b3=(c,1):=by unfold oneN;rw [if_pos b]
  have A:=H.symm.trans D;simp only [Prod.mk.injEq] at A;obtain ⟨I,J⟩:=A;obtain rfl:d=1:=J;have E:(B:Int)=(c:Int):=by omega
  simp only [show ((B:Nat):Int)=(c:Int) from E];clear I E D H K;have f:decide ((c:Int) < 128)=true:=by simp;omega
  have g:decide (194<=(c:Int))=false:=by simp;omega
  have j:decide ((c:Int)<=223)=true:=by simp;omega
  have k:decide (224<=(c:Int))=false:=by simp;omega
  have l:decide ((c:Int)<=239)=true:=by simp;omega
  have m:decide (240<=(c:Int))=false:=by simp;omega
  have n:decide ((c:Int)<=244)=true:=by simp;omega
  try clear P
  try clear R
  try clear Z
  clear L N T;try clear C M
  try clear C
  try clear F Q
  try clear F
  try clear G a
  try clear G
  go_in;go_wp2_with fail;refine (U.o _).mono ?_;rintro e w' ⟨rfl,rfl⟩;go_wp2_with fail;refine (V.o _).mono ?_;rintro e w' ⟨rfl,rfl⟩;go_wp2_with fail;refine (Y.o _).mono ?_;rintro e w' ⟨rfl,rfl⟩;go_wp2_with fail;go_ret2;exact ⟨rfl,rfl⟩
 
 by_cases c1:c < 194
 ·
  have K:=True.intro;have D:oneN (s.size - i) c b1 b2 b3=(0,0):=by unfold oneN;rw [if_neg b,io,io,io]
  have A:=H.symm.trans D;simp only [Prod.mk.injEq] at A;obtain ⟨I,J⟩:=A;obtain rfl:d=0:=J;have E:(B:Int)=0:=by omega
  simp only [show ((B:Nat):Int)=0 from E];clear I E D H K;have f:decide ((c:Int) < 128)=false:=by simp;omega
  have g:decide (194<=(c:Int))=false:=by simp;omega
  have j:decide ((c:Int)<=223)=true:=by simp;omega
  have k:decide (224<=(c:Int))=false:=by simp;omega
  have l:decide ((c:Int)<=239)=true:=by simp;omega
  have m:decide (240<=(c:Int))=false:=by simp;omega
  have n:decide ((c:Int)<=244)=true:=by simp;omega
  try clear P
  try clear R
  try clear Z
  clear L N T;try clear C M
  try clear C
  try clear F Q
  try clear F
  try clear G a
  try clear G
  go_in;go_wp2_with fail;refine (U.o _).mono ?_;rintro e w' ⟨rfl,rfl⟩;go_wp2_with fail;refine (V.o _).mono ?_;rintro e w' ⟨rfl,rfl⟩;go_wp2_with fail;refine (Y.o _).mono ?_;rintro e w' ⟨rfl,rfl⟩;go_wp2_with fail;go_ret2;exact ⟨rfl,rfl⟩
 
 by_cases v:c<=223
 ·
  cases x1
  case false=>
   have C:¬ goesOn (s.size - i) 1 b1:=of_decide_eq_false L.symm;have K:=True.intro;have D:oneN (s.size - i) c b1 b2 b3=(0,0):=by unfold oneN;rw [if_neg b,if_neg (fun h=>C h.2.2),io,io]
   have A:=H.symm.trans D;simp only [Prod.mk.injEq] at A;obtain ⟨I,J⟩:=A;obtain rfl:d=0:=J;have E:(B:Int)=0:=by omega
   simp only [show ((B:Nat):Int)=0 from E];clear I E D H K;have f:decide ((c:Int) < 128)=false:=by simp;omega
   have g:decide (194<=(c:Int))=true:=by simp;omega
   have j:decide ((c:Int)<=223)=true:=by simp;omega
   have k:decide (224<=(c:Int))=false:=by simp;omega
   have l:decide ((c:Int)<=239)=true:=by simp;omega
   have m:decide (240<=(c:Int))=false:=by simp;omega
   have n:decide ((c:Int)<=244)=true:=by simp;omega
   try clear P
   try clear R
   try clear Z
   clear L N T;try clear C M
   try clear C
   try clear F Q
   try clear F
   try clear G a
   try clear G
   go_in;go_wp2_with fail;refine (U.o _).mono ?_;rintro e w' ⟨rfl,rfl⟩;go_wp2_with fail;refine (V.o _).mono ?_;rintro e w' ⟨rfl,rfl⟩;go_wp2_with fail;refine (Y.o _).mono ?_;rintro e w' ⟨rfl,rfl⟩;go_wp2_with fail;go_ret2;exact ⟨rfl,rfl⟩
  case true=>
   have C:goesOn (s.size - i) 1 b1:=of_decide_eq_true L.symm;rw [if_pos rfl] at P;have M:=C;unfold goesOn at M;have q1:0<=r1/\r1<=63:=by omega
   obtain ⟨p,q⟩:=q1;have K:=True.intro;have D:oneN (s.size - i) c b1 b2 b3=((c - 192) * 64+(b1 - 128),2):=by unfold oneN;rw [if_neg b,if_pos ⟨by omega,v,C⟩]
   have A:=H.symm.trans D;simp only [Prod.mk.injEq] at A;obtain ⟨I,J⟩:=A;obtain rfl:d=2:=J;have E:(B:Int)=((c:Int) - 192) * 64+r1:=by omega
   simp only [show ((B:Nat):Int)=((c:Int) - 192) * 64+r1 from E];clear I E D H K;have f:decide ((c:Int) < 128)=false:=by simp;omega
   have g:decide (194<=(c:Int))=true:=by simp;omega
   have j:decide ((c:Int)<=223)=true:=by simp;omega
   have k:decide (224<=(c:Int))=false:=by simp;omega
   have l:decide ((c:Int)<=239)=true:=by simp;omega
   have m:decide (240<=(c:Int))=false:=by simp;omega
   have n:decide ((c:Int)<=244)=true:=by simp;omega
   try clear P
   try clear R
   try clear Z
   clear L N T;try clear C M
   try clear C
   try clear F Q
   try clear F
   try clear G a
   try clear G
   go_in;go_wp2_with fail;refine (U.o _).mono ?_;rintro e w' ⟨rfl,rfl⟩;go_wp2_with fail;refine (V.o _).mono ?_;rintro e w' ⟨rfl,rfl⟩;go_wp2_with fail;refine (Y.o _).mono ?_;rintro e w' ⟨rfl,rfl⟩;go_wp2_with fail;go_ret2;exact ⟨rfl,rfl⟩
 
 by_cases c3:c<=239
 ·
  cases x1
  case false=>
   have C:¬ goesOn (s.size - i) 1 b1:=of_decide_eq_false L.symm;have K:=True.intro;have D:oneN (s.size - i) c b1 b2 b3=(0,0):=by unfold oneN;rw [if_neg b,io,if_neg (fun h=>C h.2.2.1),io]
   have A:=H.symm.trans D;simp only [Prod.mk.injEq] at A;obtain ⟨I,J⟩:=A;obtain rfl:d=0:=J;have E:(B:Int)=0:=by omega
   simp only [show ((B:Nat):Int)=0 from E];clear I E D H K;have f:decide ((c:Int) < 128)=false:=by simp;omega
   have g:decide (194<=(c:Int))=true:=by simp;omega
   have j:decide ((c:Int)<=223)=false:=by simp;omega
   have k:decide (224<=(c:Int))=true:=by simp;omega
   have l:decide ((c:Int)<=239)=true:=by simp;omega
   have m:decide (240<=(c:Int))=false:=by simp;omega
   have n:decide ((c:Int)<=244)=true:=by simp;omega
   try clear P
   try clear R
   try clear Z
   clear L N T;try clear C M
   try clear C
   try clear F Q
   try clear F
   try clear G a
   try clear G
   go_in;go_wp2_with fail;refine (U.o _).mono ?_;rintro e w' ⟨rfl,rfl⟩;go_wp2_with fail;refine (V.o _).mono ?_;rintro e w' ⟨rfl,rfl⟩;go_wp2_with fail;refine (Y.o _).mono ?_;rintro e w' ⟨rfl,rfl⟩;go_wp2_with fail;go_ret2;exact ⟨rfl,rfl⟩
  case true=>
   have C:goesOn (s.size - i) 1 b1:=of_decide_eq_true L.symm;rw [if_pos rfl] at P;have M:=C;unfold goesOn at M;have q1:0<=r1/\r1<=63:=by omega
   obtain ⟨p,q⟩:=q1;cases x2
   case false=>
    have F:¬ goesOn (s.size - i) 2 b2:=of_decide_eq_false N.symm;have K:=True.intro;have D:oneN (s.size - i) c b1 b2 b3=(0,0):=by unfold oneN;rw [if_neg b,io,if_neg (fun h=>F h.2.2.2),io]
    have A:=H.symm.trans D;simp only [Prod.mk.injEq] at A;obtain ⟨I,J⟩:=A;obtain rfl:d=0:=J;have E:(B:Int)=0:=by omega
    simp only [show ((B:Nat):Int)=0 from E];clear I E D H K;have f:decide ((c:Int) < 128)=false:=by simp;omega
    have g:decide (194<=(c:Int))=true:=by simp;omega
    have j:decide ((c:Int)<=223)=false:=by simp;omega
    have k:decide (224<=(c:Int))=true:=by simp;omega
    have l:decide ((c:Int)<=239)=true:=by simp;omega
    have m:decide (240<=(c:Int))=false:=by simp;omega
    have n:decide ((c:Int)<=244)=true:=by simp;omega
    try clear P
    try clear R
    try clear Z
    clear L N T;try clear C M
    try clear C
    try clear F Q
    try clear F
    try clear G a
    try clear G
    go_in;go_wp2_with fail;refine (U.o _).mono ?_;rintro e w' ⟨rfl,rfl⟩;go_wp2_with fail;refine (V.o _).mono ?_;rintro e w' ⟨rfl,rfl⟩;go_wp2_with fail;refine (Y.o _).mono ?_;rintro e w' ⟨rfl,rfl⟩;go_wp2_with fail;go_ret2;exact ⟨rfl,rfl⟩
   case true=>
    have F:goesOn (s.size - i) 2 b2:=of_decide_eq_true N.symm;rw [if_pos rfl] at R;have Q:=F;unfold goesOn at Q;have q2:0<=r2/\r2<=63:=by omega
    obtain ⟨t,u⟩:=q2;have K:=True.intro;have D:oneN (s.size - i) c b1 b2 b3=((c - 224) * 4096+(b1 - 128) * 64+(b2 - 128),3):=by unfold oneN;rw [if_neg b,io,if_pos ⟨by omega,c3,C,F⟩]
    have A:=H.symm.trans D;simp only [Prod.mk.injEq] at A;obtain ⟨I,J⟩:=A;obtain rfl:d=3:=J;have E:(B:Int)=((c:Int) - 224) * 4096+r1 * 64+r2:=by omega
    simp only [show ((B:Nat):Int)=((c:Int) - 224) * 4096+r1 * 64+r2 from E];clear I E D H K;have f:decide ((c:Int) < 128)=false:=by simp;omega
    have g:decide (194<=(c:Int))=true:=by simp;omega
    have j:decide ((c:Int)<=223)=false:=by simp;omega
    have k:decide (224<=(c:Int))=true:=by simp;omega
    have l:decide ((c:Int)<=239)=true:=by simp;omega
    have m:decide (240<=(c:Int))=false:=by simp;omega
    have n:decide ((c:Int)<=244)=true:=by simp;omega
    try clear P
    try clear R
    try clear Z
    clear L N T;try clear C M
    try clear C
    try clear F Q
    try clear F
    try clear G a
    try clear G
    go_in;go_wp2_with fail;refine (U.o _).mono ?_;rintro e w' ⟨rfl,rfl⟩;go_wp2_with fail;refine (V.o _).mono ?_;rintro e w' ⟨rfl,rfl⟩;go_wp2_with fail;refine (Y.o _).mono ?_;rintro e w' ⟨rfl,rfl⟩;go_wp2_with fail;go_ret2;exact ⟨rfl,rfl⟩
 
 by_cases y:c<=244
 ·
  cases x1
  case false=>
   have C:¬ goesOn (s.size - i) 1 b1:=of_decide_eq_false L.symm;have K:=True.intro;have D:oneN (s.size - i) c b1 b2 b3=(0,0):=by unfold oneN;rw [if_neg b,io,io,if_neg (fun h=>C h.2.2.1)]
   have A:=H.symm.trans D;simp only [Prod.mk.injEq] at A;obtain ⟨I,J⟩:=A;obtain rfl:d=0:=J;have E:(B:Int)=0:=by omega
   simp only [show ((B:Nat):Int)=0 from E];clear I E D H K;have f:decide ((c:Int) < 128)=false:=by simp;omega
   have g:decide (194<=(c:Int))=true:=by simp;omega
   have j:decide ((c:Int)<=223)=false:=by simp;omega
   have k:decide (224<=(c:Int))=true:=by simp;omega
   have l:decide ((c:Int)<=239)=false:=by simp;omega
   have m:decide (240<=(c:Int))=true:=by simp;omega
   have n:decide ((c:Int)<=244)=true:=by simp;omega
   try clear P
   try clear R
   try clear Z
   clear L N T;try clear C M
   try clear C
   try clear F Q
   try clear F
   try clear G a
   try clear G
   go_in;go_wp2_with fail;refine (U.o _).mono ?_;rintro e w' ⟨rfl,rfl⟩;go_wp2_with fail;refine (V.o _).mono ?_;rintro e w' ⟨rfl,rfl⟩;go_wp2_with fail;refine (Y.o _).mono ?_;rintro e w' ⟨rfl,rfl⟩;go_wp2_with fail;go_ret2;exact ⟨rfl,rfl⟩
  case true=>
   have C:goesOn (s.size - i) 1 b1:=of_decide_eq_true L.symm;rw [if_pos rfl] at P;have M:=C;unfold goesOn at M;have q1:0<=r1/\r1<=63:=by omega
   obtain ⟨p,q⟩:=q1;cases x2
   case false=>
    have F:¬ goesOn (s.size - i) 2 b2:=of_decide_eq_false N.symm;have K:=True.intro;have D:oneN (s.size - i) c b1 b2 b3=(0,0):=by unfold oneN;rw [if_neg b,io,io,if_neg (fun h=>F h.2.2.2.1)]
    have A:=H.symm.trans D;simp only [Prod.mk.injEq] at A;obtain ⟨I,J⟩:=A;obtain rfl:d=0:=J;have E:(B:Int)=0:=by omega
    simp only [show ((B:Nat):Int)=0 from E];clear I E D H K;have f:decide ((c:Int) < 128)=false:=by simp;omega
    have g:decide (194<=(c:Int))=true:=by simp;omega
    have j:decide ((c:Int)<=223)=false:=by simp;omega
    have k:decide (224<=(c:Int))=true:=by simp;omega
    have l:decide ((c:Int)<=239)=false:=by simp;omega
    have m:decide (240<=(c:Int))=true:=by simp;omega
    have n:decide ((c:Int)<=244)=true:=by simp;omega
    try clear P
    try clear R
    try clear Z
    clear L N T;try clear C M
    try clear C
    try clear F Q
    try clear F
    try clear G a
    try clear G
    go_in;go_wp2_with fail;refine (U.o _).mono ?_;rintro e w' ⟨rfl,rfl⟩;go_wp2_with fail;refine (V.o _).mono ?_;rintro e w' ⟨rfl,rfl⟩;go_wp2_with fail;refine (Y.o _).mono ?_;rintro e w' ⟨rfl,rfl⟩;go_wp2_with fail;go_ret2;exact ⟨rfl,rfl⟩
   case true=>
    have F:goesOn (s.size - i) 2 b2:=of_decide_eq_true N.symm;rw [if_pos rfl] at R;have Q:=F;unfold goesOn at Q;have q2:0<=r2/\r2<=63:=by omega
    obtain ⟨t,u⟩:=q2;cases x3
    case false=>
     have G:¬ goesOn (s.size - i) 3 b3:=of_decide_eq_false T.symm;have K:=True.intro;have D:oneN (s.size - i) c b1 b2 b3=(0,0):=by unfold oneN;rw [if_neg b,io,io,if_neg (fun h=>G h.2.2.2.2)]
     have A:=H.symm.trans D;simp only [Prod.mk.injEq] at A;obtain ⟨I,J⟩:=A;obtain rfl:d=0:=J;have E:(B:Int)=0:=by omega
     simp only [show ((B:Nat):Int)=0 from E];clear I E D H K;have f:decide ((c:Int) < 128)=false:=by simp;omega
     have g:decide (194<=(c:Int))=true:=by simp;omega
     have j:decide ((c:Int)<=223)=false:=by simp;omega
     have k:decide (224<=(c:Int))=true:=by simp;omega
     have l:decide ((c:Int)<=239)=false:=by simp;omega
     have m:decide (240<=(c:Int))=true:=by simp;omega
     have n:decide ((c:Int)<=244)=true:=by simp;omega
     try clear P
     try clear R
     try clear Z
     clear L N T;try clear C M
     try clear C
     try clear F Q
     try clear F
     try clear G a
     try clear G
     go_in;go_wp2_with fail;refine (U.o _).mono ?_;rintro e w' ⟨rfl,rfl⟩;go_wp2_with fail;refine (V.o _).mono ?_;rintro e w' ⟨rfl,rfl⟩;go_wp2_with fail;refine (Y.o _).mono ?_;rintro e w' ⟨rfl,rfl⟩;go_wp2_with fail;go_ret2;exact ⟨rfl,rfl⟩
    case true=>
     have G:goesOn (s.size - i) 3 b3:=of_decide_eq_true T.symm;rw [if_pos rfl] at Z;have a:=G;unfold goesOn at a;have q3:0<=r3/\r3<=63:=by omega
     obtain ⟨Ae,Af⟩:=q3;have K:=True.intro;have D:oneN (s.size - i) c b1 b2 b3=((c - 240) * 262144+(b1 - 128) * 4096+(b2 - 128) * 64+(b3 - 128),4):=by unfold oneN;rw [if_neg b,io,io,if_pos ⟨by omega,y,C,F,G⟩]
     have A:=H.symm.trans D;simp only [Prod.mk.injEq] at A;obtain ⟨I,J⟩:=A;obtain rfl:d=4:=J;have E:(B:Int)=((c:Int) - 240) * 262144+r1 * 4096+r2 * 64+r3:=by omega
     simp only [show ((B:Nat):Int)=((c:Int) - 240) * 262144+r1 * 4096+r2 * 64+r3 from E];clear I E D H K;have f:decide ((c:Int) < 128)=false:=by simp;omega
     have g:decide (194<=(c:Int))=true:=by simp;omega
     have j:decide ((c:Int)<=223)=false:=by simp;omega
     have k:decide (224<=(c:Int))=true:=by simp;omega
     have l:decide ((c:Int)<=239)=false:=by simp;omega
     have m:decide (240<=(c:Int))=true:=by simp;omega
     have n:decide ((c:Int)<=244)=true:=by simp;omega
     try clear P
     try clear R
     try clear Z
     clear L N T;try clear C M
     try clear C
     try clear F Q
     try clear F
     try clear G a
     try clear G
     go_in;go_wp2_with fail;refine (U.o _).mono ?_;rintro e w' ⟨rfl,rfl⟩;go_wp2_with fail;refine (V.o _).mono ?_;rintro e w' ⟨rfl,rfl⟩;go_wp2_with fail;refine (Y.o _).mono ?_;rintro e w' ⟨rfl,rfl⟩;go_wp2_with fail;go_ret2;exact ⟨rfl,rfl⟩
 
 have K:=True.intro;have D:oneN (s.size - i) c b1 b2 b3=(0,0):=by unfold oneN;rw [if_neg b,io,io,io]
 have A:=H.symm.trans D;simp only [Prod.mk.injEq] at A;obtain ⟨I,J⟩:=A;obtain rfl:d=0:=J;have E:(B:Int)=0:=by omega
 simp only [show ((B:Nat):Int)=0 from E];clear I E D H K;have f:decide ((c:Int) < 128)=false:=by simp;omega
 have g:decide (194<=(c:Int))=true:=by simp;omega
 have j:decide ((c:Int)<=223)=false:=by simp;omega
 have k:decide (224<=(c:Int))=true:=by simp;omega
 have l:decide ((c:Int)<=239)=false:=by simp;omega
 have m:decide (240<=(c:Int))=true:=by simp;omega
 have n:decide ((c:Int)<=244)=false:=by simp;omega
 try clear P
 try clear R
 try clear Z
 clear L N T;try clear C M
 try clear C
 try clear F Q
 try clear F
 try clear G a
 try clear G
 go_in;go_wp2_with fail;refine (U.o _).mono ?_;rintro e w' ⟨rfl,rfl⟩;go_wp2_with fail;refine (V.o _).mono ?_;rintro e w' ⟨rfl,rfl⟩;go_wp2_with fail;refine (Y.o _).mono ?_;rintro e w' ⟨rfl,rfl⟩;go_wp2_with fail;go_ret2;exact ⟨rfl,rfl⟩
theorem yaE (r:Nat) (w:World) (h:r<=2147483647):
  Calls prog 203 #[.int .i32 r] w fun e w'=>e=.returned (.bool (decide (mayR r)))/\w=w':=by
 have G:decide (0<=(r:Int))=true:=by simp
 have ⟨g,B⟩:=gn (decide (mayR r));rw [B];have A:=Hy B;clear B
 by_cases h1:r<=1114111
 ·have D:decide ((r:Int)<=1114111)=true:=by simp;omega
  by_cases H:r < 55296
  ·obtain rfl:g=true:=by rw [<- A.o,decide_eq_true_eq];unfold mayR;omega
   have E:decide ((r:Int) < 55296)=true:=by simp;omega
   have C:((r:Int) != 65533)=true:=by simp;omega
   go_in;go_wp2_with fail;go_ret;exact ⟨rfl,rfl⟩
  have E:decide ((r:Int) < 55296)=false:=by simp;omega
  by_cases I:57343 < r
  ·have C:decide (57343 < (r:Int))=true:=by simp;omega
   by_cases J:r=65533
   ·obtain rfl:g=false:=by rw [<- A.o,decide_eq_false_iff_not];unfold mayR;omega
    have F:((r:Int) != 65533)=false:=by simp;omega
    go_in;go_wp2_with fail;go_ret;exact ⟨rfl,rfl⟩
   obtain rfl:g=true:=by rw [<- A.o,decide_eq_true_eq];unfold mayR;omega
   have F:((r:Int) != 65533)=true:=by simp;omega
   go_in;go_wp2_with fail;go_ret;exact ⟨rfl,rfl⟩
  obtain rfl:g=false:=by rw [<- A.o,decide_eq_false_iff_not];unfold mayR;omega
  have C:decide (57343 < (r:Int))=false:=by simp;omega
  go_in;go_wp2_with fail;go_ret;exact ⟨rfl,rfl⟩
 obtain rfl:g=false:=by rw [<- A.o,decide_eq_false_iff_not];unfold mayR;omega
 have D:decide ((r:Int)<=1114111)=false:=by simp;omega
 go_in;go_wp2_with fail;go_ret;exact ⟨rfl,rfl⟩
theorem ZaZ (s:ByteArray) (i:Nat):(oneP s i).1<=2097151/\(oneP s i).2<=4:=by
 unfold oneP oneN goesOn;have:=Qh s i;split
 ·simp only;omega
 split
 ·simp only;omega
 split
 ·simp only;omega
 split <;> simp only <;> omega
def QRel (w:World) (s:ByteArray) (v4 v5:Value) (wr:World):Prop:=∃ (pos b:Nat) (acc:List Int) (ao:Option Addr) (q c:Nat),v4=.slice ao q c/\v5=.int .i64 pos/\Hid (acc.length=q)/\q<=pos/\q<=s.size/\pos<=s.size+4/\s.size<=pos+b/\Hid (rFrom s b pos acc=runesO s)/\Hid (wr.ownsRow w.heap.size 21 1 (.slice ao q c) q (r32 acc))/\Hid (Below w.heap.size w wr)
theorem yap (s:ByteArray) (w:World) (hs:s.size<=1000000):
  Calls prog 181 #[s] w (GotR w (runesO s)):=by
 obtain ⟨i0,hi,Ab,Ac,Ad⟩:=info_parts infoR;clear hi Ab Ac Ad;go_in;go_wp2_with fail;go_loopw [4,5] (fun v4 v5 wr=>QRel w s v4 v5 wr) (fun _ v5 _=>s.size - (intOf v5).toNat)
 case atStart=>exact ⟨0,s.size,[],none,0,0,rfl,rfl,rfl,by omega,by omega,by omega,by omega,rfl,World.ownsRow_nil _ _ _ _,bf _ w⟩
 case round=>
  obtain ⟨B,b,I,ao,q,c,rfl,rfl,l,Al,Am,Aj,hb,V,R,N⟩:=hrel;have U:=N.size
  by_cases u:B < s.size
  ·have j:=Hy (fun W=>YaZ s B W hs u)
   have Z:=xad s B;have z:=ZaZ s B
   have J:(Utf8.decode s B).1=65533->runesO s=none:=by
    intro K;rw [<- V.o];cases b with
    | zero=>omega
    | succ b=>simp [rFrom,u,K]
   have L:(Utf8.decode s B).1≠65533->Utf8.decode s B=oneP s B->rFrom s (b - 1) (B+(oneP s B).2) (I++[((oneP s B).1:Int)])=runesO s:=by
    intro K he;rw [<- V.o,<- he];cases b with
    | zero=>omega
    | succ b=>simp [rFrom,u,K]
   have M:=Hy Z;have Q:=Hy J;have m:=Hy L;clear Z J L;generalize oneP s B=o at *;obtain ⟨r,n⟩:=o;obtain ⟨b1,b2⟩:=z;simp only at b1 b2;have D:=Hy (fun W=>yaE r W (by omega));go_wp2_with fail;refine (j.o _).mono ?_;rintro e w' ⟨rfl,rfl⟩
   by_cases p:n=0
   ·subst p
    have d:Hid (runesO s=none):=Q.o (M.2 (by unfold takenN;simp));clear M Q m V j;go_wp2_with fail;go_ret2;rw [d.o];exact ⟨rfl,N.o⟩
   have t:((n:Int) == 0)=false:=by rw [beq_eq_false_iff_ne];omega
   by_cases a:mayR r
   ·have g:decide (mayR r)=true:=by simpa using a
    rw [g] at D
    by_cases T:n=3/\r < 2048
    ·have d:Hid (runesO s=none):=Q.o (M.2 (fun h=>h.2.2.1 T))
     obtain ⟨rfl,T⟩:=T;have y:decide ((r:Int) < 2048)=true:=by simp;omega
     clear M Q m V j a g;go_wp2_with fail;refine (D.o _).mono ?_;rintro e w' ⟨rfl,rfl⟩;go_wp2_with fail;go_ret2;rw [d.o];exact ⟨rfl,N.o⟩
    by_cases Y:n=4/\r < 65536
    ·have d:Hid (runesO s=none):=Q.o (M.2 (fun h=>h.2.2.2 Y))
     obtain ⟨rfl,Y⟩:=Y;have y:decide ((r:Int) < 65536)=true:=by simp;omega
     clear M Q m V j a g T;go_wp2_with fail;refine (D.o _).mono ?_;rintro e w' ⟨rfl,rfl⟩;go_wp2_with fail;go_ret2;rw [d.o];exact ⟨rfl,N.o⟩
    have ht:=M.1 ⟨p,a,T,Y⟩
    have P:=Hy (m.o ht.2 ht.1);clear M Q m V j a g ht;rcases (by omega:n=1∨n=2∨n=3∨n=4) with rfl | rfl | rfl | rfl
    ·skip
     clear T Y p t;go_wp2_with fail;refine (D.o _).mono ?_;rintro e w' ⟨rfl,rfl⟩;go_wp2_with (at_builtin;refine wa infoR underlying270 (R.alloc _) (Src.one' underlying270 wr _ 21 rfl) (by unfold maxLen;omega) (by omega) (by simp;omega) ?_;intro G f w3 A C;have E:=Hy A;have F:=Hy ((N.alloc U _).grown C (by simp;omega) (fun k H=>by have:=(R.lt k H).1;omega));clear A C);go_roundw
     case rel=>exact ⟨B+1,b - 1,I++[(r:Int)],G,q+1,f,rfl,by go_num,(by unfold Hid;rw [List.length_append,l.o];rfl),by omega,by omega,by omega,by omega,P.o,(by unfold r32;rw [List.map_append];exact E.o),F.o⟩
     case measure=>simp [intOf];omega
    ·skip
     clear T Y p t;go_wp2_with fail;refine (D.o _).mono ?_;rintro e w' ⟨rfl,rfl⟩;go_wp2_with (at_builtin;refine wa infoR underlying270 (R.alloc _) (Src.one' underlying270 wr _ 21 rfl) (by unfold maxLen;omega) (by omega) (by simp;omega) ?_;intro G f w3 A C;have E:=Hy A;have F:=Hy ((N.alloc U _).grown C (by simp;omega) (fun k H=>by have:=(R.lt k H).1;omega));clear A C);go_roundw
     case rel=>exact ⟨B+2,b - 1,I++[(r:Int)],G,q+1,f,rfl,by go_num,(by unfold Hid;rw [List.length_append,l.o];rfl),by omega,by omega,by omega,by omega,P.o,(by unfold r32;rw [List.map_append];exact E.o),F.o⟩
     case measure=>simp [intOf];omega
    ·have y:decide ((r:Int) < 2048)=false:=by simp;omega
     clear T Y p t;go_wp2_with fail;refine (D.o _).mono ?_;rintro e w' ⟨rfl,rfl⟩;go_wp2_with (at_builtin;refine wa infoR underlying270 (R.alloc _) (Src.one' underlying270 wr _ 21 rfl) (by unfold maxLen;omega) (by omega) (by simp;omega) ?_;intro G f w3 A C;have E:=Hy A;have F:=Hy ((N.alloc U _).grown C (by simp;omega) (fun k H=>by have:=(R.lt k H).1;omega));clear A C);go_roundw
     case rel=>exact ⟨B+3,b - 1,I++[(r:Int)],G,q+1,f,rfl,by go_num,(by unfold Hid;rw [List.length_append,l.o];rfl),by omega,by omega,by omega,by omega,P.o,(by unfold r32;rw [List.map_append];exact E.o),F.o⟩
     case measure=>simp [intOf];omega
    have y:decide ((r:Int) < 65536)=false:=by simp;omega
    clear T Y p t;go_wp2_with fail;refine (D.o _).mono ?_;rintro e w' ⟨rfl,rfl⟩;go_wp2_with (at_builtin;refine wa infoR underlying270 (R.alloc _) (Src.one' underlying270 wr _ 21 rfl) (by unfold maxLen;omega) (by omega) (by simp;omega) ?_;intro G f w3 A C;have E:=Hy A;have F:=Hy ((N.alloc U _).grown C (by simp;omega) (fun k H=>by have:=(R.lt k H).1;omega));clear A C);go_roundw
    case rel=>exact ⟨B+4,b - 1,I++[(r:Int)],G,q+1,f,rfl,by go_num,(by unfold Hid;rw [List.length_append,l.o];rfl),by omega,by omega,by omega,by omega,P.o,(by unfold r32;rw [List.map_append];exact E.o),F.o⟩
    case measure=>simp [intOf];omega
   have g:decide (mayR r)=false:=by simpa using a
   rw [g] at D;have d:Hid (runesO s=none):=Q.o (M.2 (fun h=>a h.2.1));clear M Q m V j a g;go_wp2_with fail;refine (D.o _).mono ?_;rintro e w' ⟨rfl,rfl⟩;go_wp2_with fail;go_ret2;rw [d.o];exact ⟨rfl,N.o⟩
  have i:=V.o
  rw [xW s b B I u] at i;have v:=Hy i;have hq:=l.o;subst hq;clear i l;have dp:decide ((B:Int) < s.size)=false:=by simp;omega
  go_wp2_with fail;go_ret2;rw [<- v.o];exact ⟨⟨ao,c,rfl,Yc R.o⟩,N.o⟩
theorem Xt (s:ByteArray) (w:World) (hs:s.size<=1000000):
  Calls prog 132 #[s] w fun e w'=>e=.returned (.int .i64 (tLen s))/\Below w.heap.size w w':=by
 have H:=Hy (fun W=>yap s W hs);have A:=Xap s;have ⟨z,D⟩:=gn (tLen s);rw [D] at A ⊢;clear D;cases B:runesO s with
 | none=>
  rw [B] at A H;simp only at A;subst A;clear B;go_in;go_wp2_with fail;refine (H.o _).mono ?_;rintro e w' ⟨rfl,C⟩;go_wp2_with fail;go_ret;exact ⟨rfl,C⟩
 | some l=>
  rw [B] at A H;simp only at A;subst A;clear B;go_in;go_wp2_with fail;refine (H.o _).mono ?_;rintro e w' ⟨⟨E,c,rfl,B⟩,C⟩;go_wp2_with fail;go_ret;exact ⟨rfl,C⟩
theorem Qan (s:ByteArray) (w:World) (hs:s.size<=1000000):
  Calls prog 201 #[s] w fun e w'=>e=.returned (.bool (askedB s))/\Below w.heap.size w w':=by
 unfold askedB;have H:=Hy (fun W=>Xt s W hs);generalize tLen s=z at *
 by_cases h1:0<=z
 ·have C:decide (0<=z)=true:=by simp;omega
  rw [C];go_in;go_wp2_with fail;refine (H.o _).mono ?_;rintro e D ⟨rfl,A⟩;have HB:=Hy A;clear A;go_wp2_with fail;refine (H.o _).mono ?_;rintro e E ⟨rfl,A⟩;have B:=Hy (HB.trans (A.mono HB.size));clear A HB;go_wp2_with fail;go_ret;exact ⟨by simp,B.o⟩
 have C:decide (0<=z)=false:=by simp;omega
 rw [C];go_in;go_wp2_with fail;refine (H.o _).mono ?_;rintro e w' ⟨rfl,A⟩;go_wp2_with fail;go_ret;exact ⟨by simp,A⟩
theorem zaF (q:ByteArray) (k n:Int) (w:World) (hs:q.size<=1000000):
  Calls prog 179 #[.agg #[q,k,n]] w fun e w'=>e=.returned (.bool (mayQ q k n))/\Below w.heap.size w w':=by
 have ⟨R,F⟩:=gn (mayQ q k n);rw [F];have C:=Hy F;clear F;have L:=Hy (fun W=>Qan q W hs);have B:=Hy (show mayQ q k n=(askedB q&&decide (0<=k)&&decide (k<=4)&&decide (1<=n)&&decide (n<=10)) from rfl);generalize askedB q=x at *;have HB:=Hy ((bf _ w).alloc (nl _) (.cells #[q,k,n] 40));have E:=Hy (show Blk (w.alloc (.cells #[q,k,n] 40)) w.heap.size 40 [q,k,n] from hn_ w _);go_in;go_wp2_with fail;refine (L.o _).mono ?_
 rintro e Q ⟨rfl,G⟩;have A:=Hy (HB.trans (G.mono HB.size));have D:=Hy (E.below G (Blk.lt E.o));obtain ⟨M,N,P⟩:=c3 D.o;clear G HB E D;cases x
 ·obtain rfl:R=false:=by rw [<- C.o,B.o];rfl
  go_wp2_with fail;go_ret;exact ⟨rfl,A.o⟩
 by_cases H:0<=k
 ·by_cases I:k<=4
  ·by_cases J:1<=n
   ·by_cases K:n<=10
    ·obtain rfl:R=true:=by rw [<- C.o,B.o];simp [H,I,J,K]
     go_wp2_with fail;go_ret;exact ⟨rfl,A.o⟩
    have d:decide (n<=10)=false:=by simpa using K
    obtain rfl:R=false:=by rw [<- C.o,B.o,d];simp
    go_wp2_with fail;go_ret;exact ⟨rfl,A.o⟩
   have d:decide (1<=n)=false:=by simpa using J
   obtain rfl:R=false:=by rw [<- C.o,B.o,d];simp
   go_wp2_with fail;go_ret;exact ⟨rfl,A.o⟩
  have d:decide (k<=4)=false:=by simpa using I
  obtain rfl:R=false:=by rw [<- C.o,B.o,d];simp
  go_wp2_with fail;go_ret;exact ⟨rfl,A.o⟩
 have d:decide (0<=k)=false:=by simpa using H
 obtain rfl:R=false:=by rw [<- C.o,B.o,d];simp
 go_wp2_with fail;go_ret;exact ⟨rfl,A.o⟩
theorem zK (la:Int) (ta:ByteArray) (lb:Int) (tb:ByteArray) (w:World) (h1:ta.size<=1000000) (h2:tb.size<=1000000):
  Calls prog 194 #[.agg #[la,ta],.agg #[lb,tb]] w fun e w'=>e=.returned (.bool (decide (cmpK la ta lb tb < 0)))/\Below w.heap.size w w':=by
 have ⟨g,A⟩:=gn (decide (cmpK la ta lb tb < 0));rw [A];have B:Hid (g=decide (la < lb∨la=lb/\cmpT ta tb < 0)):=by rw [<- A];exact decide_eq_decide.2 (zD la ta lb tb)
 clear A;have H:=Hy (fun W=>YP ta tb W h1 h2);have C:Hid (Below w.heap.size w ((w.alloc (.cells #[la,ta] 46)).alloc (.cells #[lb,tb] 46))):=((bf _ w).alloc (nl _) _).alloc (by simp) _;generalize cmpT ta tb=z at *
 by_cases D:la < lb
 ·obtain rfl:g=true:=by rw [B.o];simp [D]
  have I:decide (la < lb)=true:=by simpa using D
  go_in;go_wp2_with fail;go_ret;exact ⟨rfl,C.o⟩
 have I:decide (la < lb)=false:=by simpa using D
 by_cases F:la=lb
 ·subst F
  have A:g=decide (z < 0):=by rw [B.o];exact decide_eq_decide.2 (by omega)
  have J:(la == la)=true:=by simp
  clear B;cases E:decide (z < 0) with
  | true=>
   have G:decide (z < 0)=true:=E;obtain rfl:g=true:=by rw [A,G]
   clear A E;go_in;go_wp2_with fail;refine (H.o _).mono ?_;rintro e w' ⟨rfl,hd⟩;have HB:=Hy (C.trans (hd.below _));clear hd;go_wp2_with fail;go_ret;exact ⟨rfl,HB.o⟩
  | false=>
   have G:decide (z < 0)=false:=E;obtain rfl:g=false:=by rw [A,G]
   clear A E;go_in;go_wp2_with fail;refine (H.o _).mono ?_;rintro e w' ⟨rfl,hd⟩;have HB:=Hy (C.trans (hd.below _));clear hd;go_wp2_with fail;go_ret;exact ⟨rfl,HB.o⟩
 obtain rfl:g=false:=by rw [B.o];simp [D,F]
 have J:(la == lb)=false:=by simpa using F
 go_in;go_wp2_with fail;go_ret;exact ⟨rfl,C.o⟩
theorem Z0 (x n:Int) (w:World) (h1:1<=n) (h2:n<=9223372036854775807):
  Calls prog 25 #[x,n] w fun e w'=>e=.returned (.int .i64 (lowI x n))/\w=w':=by
 go_in;go_wp2;go_ret;exact ⟨X3 (Xal x n h1 h2),rfl⟩
theorem qX (s:ByteArray) (w:World) (hs:s.size<=1000000):
  Calls prog 176 #[s] w fun e w'=>e=.returned (.bool (isWord s))/\Below w.heap.size w w':=by
 unfold isWord;have H:=Hy (fun W=>Xt s W hs);generalize tLen s=z at *
 by_cases h1:1<=z
 ·have C:decide (1<=z)=true:=by simp;omega
  rw [C];go_in;go_wp2_with fail;refine (H.o _).mono ?_;rintro e D ⟨rfl,A⟩;have HB:=Hy A;clear A;go_wp2_with fail;refine (H.o _).mono ?_;rintro e E ⟨rfl,A⟩;have B:=Hy (HB.trans (A.mono HB.size));clear A HB;go_wp2_with fail;go_ret;exact ⟨by simp,B.o⟩
 have C:decide (1<=z)=false:=by simp;omega
 rw [C];go_in;go_wp2_with fail;refine (H.o _).mono ?_;rintro e w' ⟨rfl,A⟩;go_wp2_with fail;go_ret;exact ⟨by simp,A⟩
theorem QL (n lo hi:Int) (w:World):Calls prog 192 #[n,lo,hi] w fun e w'=>e=.returned (.bool (inB n lo hi))/\w=w':=by
 unfold inB;go_in
 by_cases h1:lo<=n
 ·have A:decide (lo<=n)=true:=by simpa using h1
  rw [A];go_wp2_with fail;go_ret;exact ⟨by simp,rfl⟩
 have A:decide (lo<=n)=false:=by simpa using h1
 rw [A];go_wp2_with fail;go_ret;exact ⟨by simp,rfl⟩
theorem Yae (x:KeyL) (w:World) (hs:x.2.size<=1000000):Calls prog 193 #[.agg #[x.1,x.2]] w fun e w'=>e=.returned (.bool (itemB x))/\Below w.heap.size w w':=by
 unfold itemB;have H:=Hy (fun W=>qX x.2 W hs);have HI:=Hy (fun W=>QL x.1 0 4 W);generalize isWord x.2=wb at *;have HB:=Hy ((bf w.heap.size w).alloc (nl _) (.cells #[x.1,x.2] 46));have A:inB x.1 0 4=(decide (0<=x.1)&&decide (x.1<=4)):=rfl;cases B:inB x.1 0 4
 ·rw [B] at HI A
  rw [<- A];clear B A;go_in;go_wp2_with fail;refine (HI.o _).mono ?_;rintro e w' ⟨rfl,rfl⟩;go_wp2_with fail;go_ret;exact ⟨by simp,HB.o⟩
 rw [B] at HI A
 rw [<- A];clear B A;go_in;go_wp2_with fail;refine (HI.o _).mono ?_;rintro e w' ⟨rfl,rfl⟩;go_wp2_with fail;refine (H.o _).mono ?_;rintro e w' ⟨rfl,D⟩;have C:=Hy (HB.trans (D.mono HB.size));clear D;go_wp2_with fail;go_ret;exact ⟨by simp,C.o⟩
theorem qaf (a:Option Addr) (n c:Nat) (l:List Int) (w:World) (h:Rd w a n c (ints l)):
  Calls prog 191 #[.slice a n c] w fun e w'=>e=.returned (.bool (withinL l))/\Below w.heap.size w w':=by
 have W:l.length=n:=by rw [<- h.1,yx]
 subst W;have M:=h.2.1;have H:=h.2.2.1;unfold maxLen at H;have N:=Hy h;have ⟨R,F⟩:=gn (withinL l);rw [F];have C:=Hy F;clear h F;go_in;go_wp2_with fail;go_loopw [3] (fun v wr=>∃ k:Nat,k<=l.length/\v=.int .i64 k/\Hid ((l.take k).all inR=true)/\Hid (Below w.heap.size w wr)) (fun v _=>l.length - (intOf v).toNat)
 case atStart=>exact ⟨0,by omega,rfl,rfl,bf _ _⟩
 case round=>
  obtain ⟨k,V,rfl,J,HB⟩:=hrel
  by_cases B:k < l.length
  ·obtain ⟨x,I⟩:∃ x,l[k]?=some x:=⟨_,le_ B⟩
   obtain ⟨P,Y,G,U,L⟩:=(N.below HB.o rfl).2.2.2.2 k B;have Z:wr.cell? ⟨P,Y+k,none⟩=some (.int .i64 x):=by rw [L];simp [ints,I]
   have b:(0:Int)<=(k:Int):=by omega
   have d:(k:Int) < (l.length:Int):=by omega
   have E:=Hy I;clear I L;subst G;have A:=Hy (show inR x=(decide (0<=x)&&decide (x<=2147483647)) from rfl)
   by_cases h1:x < 0
   ·obtain rfl:R=false:=by rw [<- C.o];exact Qai E.o (by rw [A.o,decide_eq_false (by omega)];rfl)
    have Q:decide (x < 0)=true:=by simpa using h1
    go_wp2_with fail;go_ret;exact ⟨rfl,HB.o⟩
   have Q:decide (x < 0)=false:=by simpa using h1
   by_cases K:2147483647 < x
   ·obtain rfl:R=false:=by rw [<- C.o];exact Qai E.o (by rw [A.o,decide_eq_false (show ¬ x<=2147483647 by omega)];simp)
    have T:decide (2147483647 < x)=true:=by simpa using K
    go_wp2_with fail;go_ret;exact ⟨rfl,HB.o⟩
   have T:decide (2147483647 < x)=false:=by simpa using K
   have D:=Hy (by rw [Y9 E.o,J.o,A.o,decide_eq_true (by omega),decide_eq_true (by omega)];rfl:(l.take (k+1)).all inR=true);go_wp2_with fail;go_roundw
   case rel=>exact ⟨k+1,by omega,by go_num,D.o,HB.o⟩
   case measure=>simp [intOf];omega
  obtain rfl:k=l.length:=by omega
  obtain rfl:R=true:=by rw [<- C.o];have q:=J.o;rw [List.take_length] at q;exact q
  go_wp2_with fail;go_ret;exact ⟨rfl,HB.o⟩
def slV (L:List Nat):List Value:=L.map (fun x:Nat=>.int .i64 (x:Int))
def RSA (w:World) (p g:Nat) (L:List Nat) (last:Nat):Prop:=Blk w p 183 [.slice (some ⟨g,0,none⟩) L.length L.length,(last:Nat)]/\Blk w g 3 (slV L)
theorem ZF {L:List Nat} {i x:Nat} (h:L[i]?=some x):(slV L)[i]?=some (.int .i64 (x:Int)):=by unfold slV;rw [List.getElem?_map,h];rfl
theorem Xaw (L:List Nat) (i x:Nat):(slV L).set i (.int .i64 (x:Int))=slV (L.set i x):=by unfold slV;rw [List.map_set]
theorem RSA.below {L:List Nat} {last:Nat} (h:RSA w p g L last) (hb:Below w.heap.size w w'):RSA w' p g L last:=⟨h.1.below hb h.1.lt,h.2.below hb h.2.lt⟩
theorem XaL {L:List Nat} {i:Nat} (h:L[i]?=some 0) (hj:∀ j,j < i->∃ x,L[j]?=some x/\x≠0):freeS L=some i:=by
 obtain ⟨D,C⟩:=lg h;unfold freeS;rw [List.findIdx?_eq_some_iff_getElem];refine ⟨D,by rw [C];rfl,fun j B=>?_⟩;obtain ⟨x,F,h0⟩:=hj j B;obtain ⟨E,A⟩:=lg F;rw [A];simpa using h0
theorem qaM {L:List Nat} (hj:∀ j,j < L.length->∃ x,L[j]?=some x/\x≠0):freeS L=none:=by
 unfold freeS;rw [List.findIdx?_eq_none_iff];intro x E;obtain ⟨j,C,B⟩:=List.mem_iff_getElem.1 E;obtain ⟨y,F,h0⟩:=hj j C;obtain ⟨D,A⟩:=lg F;rw [<- B,A];simpa using h0
theorem zaZ {L:List Nat} {i x:Nat} {id:Int} (B:0 < id) (h:L[i]?=some x) (D:(x:Int)=id) (hj:∀ j,j < i->∃ x,L[j]?=some x/\(x:Int)≠id):ofF L id=some (i:Int):=by
 obtain ⟨F,E⟩:=lg h;unfold ofF;rw [if_pos B]
 have e:L.findIdx? (fun x:Nat=>decide ((x:Int)=id))=some i:=by
  rw [List.findIdx?_eq_some_iff_getElem];refine ⟨F,by rw [E];simpa using D,fun j C=>?_⟩;obtain ⟨x,D,h0⟩:=hj j C;obtain ⟨G,A⟩:=lg D;rw [A];simpa using h0
 rw [e];rfl
theorem xaZ {L:List Nat} {id:Int} (hj:∀ j,j < L.length->∃ x,L[j]?=some x/\(x:Int)≠id):ofF L id=none:=by
 unfold ofF;split
 ·have e:L.findIdx? (fun x:Nat=>decide ((x:Int)=id))=none:=by
   rw [List.findIdx?_eq_none_iff];intro x E;obtain ⟨j,C,B⟩:=List.mem_iff_getElem.1 E;obtain ⟨y,F,h0⟩:=hj j C;obtain ⟨D,A⟩:=lg F;rw [<- B,A];simpa using h0
  rw [e];rfl
 rfl
theorem yaZ {L:List Nat} {id:Int} (h:¬ 0 < id):ofF L id=none:=by unfold ofF;rw [if_neg h]
def RsN (most:Int) (w:World) (e:Ending) (w':World):Prop:=∃ p g,e=.returned (.tuple #[.pointer (some ⟨p,0,none⟩),()])/\RSA w' p g (List.replicate most.toNat 0) 0/\w.heap.size<=p/\w.heap.size<=g/\Below w.heap.size w w'
theorem RslR.next {L:List Nat} {P:Nat->Prop} {i x:Nat} (h:∀ j,j < i->∃ x,L[j]?=some x/\P x) (hx:L[i]?=some x) (hp:P x):∀ j,j < i+1->∃ x,L[j]?=some x/\P x:=fun j A=>by
 rcases (by omega:j < i∨j=i) with h1 | h1
 ·exact h j h1
 ·subst h1;exact ⟨x,hx,hp⟩
theorem Za8 (A:Int) (w:World) (h1:1<=A) (h2:A<=4):
  Calls prog 80 #[A] w (RsN A w):=by
 obtain ⟨Q,hi,H,I,J⟩:=info_parts Xc;have HI:=Hy hi;have L:=Hy H;have M:=Hy I;have N:=Hy J;clear hi H I J;obtain ⟨m,rfl⟩:=Int.eq_ofNat_of_zero_le (show 0<=A by omega);have q1:¬ ((m:Int) < 1):=by omega
 have q2:¬ (4 < (m:Int)):=by omega
 go_in;go_wp2_with (at_make;refine wpList_make_full w rfl _ _ 26 rfl w.heap.size 3 Q (.int .i64 0) 1 underlying26 HI.o L.o M.o .i64 .i64 _ _ m rfl rfl (by omega) (by omega) (by rw [N.o];omega) (by unfold maxLen;omega) (nl _) ?_;intro K B G;have F:=Hy (zaa B);have C:=Hy ((bf w.heap.size w).grown G (nl _) (fun k P=>by cases P));clear B G)
 have E:Hid (Blk K w.heap.size 3 (slV (List.replicate m 0))):=by
  have:=F.o;rw [show (Value.int .i64 0).cells=#[.int .i64 0] from rfl,Nat.mul_one,toList_madeCells_one] at this;unfold slV;rw [List.map_replicate];exact this
 clear F;have D:=Hy ((bf K.heap.size K).alloc (nl _) (.cells #[.slice (some ⟨w.heap.size,0,none⟩) m m,()] 183));go_ret2;exact ⟨K.heap.size,w.heap.size,rfl,by rw [Int.toNat_natCast];exact ⟨by rw [List.length_replicate];exact hn_ K _,E.below D.o E.lt⟩,C.size,nl _,C.trans (D.mono C.size)⟩
theorem Xa4 (p g:Nat) (L:List Nat) (D:Nat) (id:Int) (w:World) (h:RSA w p g L D) (hl:L.length<=4):
  Calls prog 135 #[.pointer (some ⟨p,0,none⟩),id] w fun e w'=>e=.returned (.tuple #[.int .i64 ((ofF L id).getD 0),.bool (ofF L id).isSome])/\w=w':=by
 have U:Cl w p 0 (.slice (some ⟨g,0,none⟩) L.length L.length):=h.1.cell 0;have K:=Hy (fun (i x:Nat) (C:L[i]?=some x)=>show w.cell? ⟨g,i,none⟩=some (.int .i64 (x:Int)) from by rw [h.2.cell,ZF C]);clear h;have ⟨R,G⟩:=gn (ofF L id);rw [G];have F:=Hy G;clear G
 by_cases h0:0 < id
 rotate_left 1
 ·obtain rfl:R=none:=by rw [<- F.o];exact yaZ h0
  have W:decide (0 < id)=false:=by simpa using h0
  have ⟨n,T⟩:=gn L.length;rw [T] at U hl;have Y:decide ((0:Int) < (n:Int))=true∨decide ((0:Int) < (n:Int))=false:=by cases decide ((0:Int) < (n:Int)) <;> simp
  go_in;go_wp2_with fail;go_loop [6] (fun v=>v=.int .i64 0) (fun v=>0)
  case atStart=>rfl
  case round=>
   subst hrel
   by_cases b:(0:Int) < (n:Int)
   ·go_wp2_with fail
    go_ret2;exact ⟨rfl,rfl⟩
   go_wp2_with fail
   go_ret2;exact ⟨rfl,rfl⟩
 go_in;have M:=Hy (show L.length=L.length from rfl);go_wp2_with fail;go_loop [6] (fun v=>∃ i:Nat,i<=L.length/\v=.int .i64 i/\Hid (∀ j,j < i->∃ x,L[j]?=some x/\(x:Int)≠id)) (fun v=>L.length - (intOf v).toNat)
 case atStart=>exact ⟨0,nz _,rfl,fun j Q=>by omega⟩
 case round=>
  obtain ⟨i,hi,rfl,A⟩:=hrel
  by_cases I:i < L.length
  ·obtain ⟨x,C⟩:∃ x,L[i]?=some x:=⟨L[i]'I,le_ _⟩
   have V:=K.o i x C;have J:=Hy C;have Z:(i:Int) < (L.length:Int):=by omega
   have a:(0:Int)<=(i:Int):=by omega
   clear C
   by_cases B:(x:Int)=id
   ·obtain rfl:R=some (i:Int):=by rw [<- F.o];exact zaZ h0 J.o B A.o
    have N:((x:Int) == id)=true:=by simpa using B
    clear A B;go_wp2_with fail;go_ret2;exact ⟨rfl,rfl⟩
   have N:((x:Int) == id)=false:=by simpa using B
   have E:=Hy (RslR.next (P:=fun x=>(x:Int)≠id) A.o J.o B);clear A B;go_wp2_with fail;go_round
   case rel=>exact ⟨i+1,by omega,by go_num,E.o⟩
   case measure=>simp [intOf];omega
  obtain rfl:R=none:=by rw [<- F.o];exact xaZ (fun j Q=>A.o j (by omega))
  have H:i=L.length:=by omega
  subst H;clear A;go_wp2_with fail;go_ret2;exact ⟨rfl,rfl⟩
theorem xa2 (p g:Nat) (L:List Nat) (A:Nat) (id:Int) (w:World) (h:RSA w p g L A) (hl:L.length<=4):
  Calls prog 183 #[.pointer (some ⟨p,0,none⟩),id] w fun e w'=>e=.returned (.bool (ofF L id).isSome)/\RSA w' p g (freeL L id) A/\Frm (fun i=>i=g) w w':=by
 have N:=Hy (Xa4 p g L A id w h hl);have G:=Hy h;have d:w.cell? ⟨p,0,none⟩=some (.slice (some ⟨g,0,none⟩) L.length L.length):=h.1.cell 0;have K:p≠g:=fun e=>by subst e;have h1:=h.1;have E:=h.2;unfold Blk at h1 E;rw [h1] at E;exact absurd E (by simp)
 have ⟨R,J⟩:=gn (ofF L id);have ⟨W,B⟩:=gn (freeL L id);rw [B];unfold freeL at B;rw [J] at N B ⊢;have D:=Hy B;have H:=Hy J;clear J B h;go_in;go_wp2_with fail;refine N.mono ?_;rintro e w' ⟨rfl,rfl⟩;cases R with
 | none=>
  have C:=D.o;simp only at C;subst C;clear D;go_wp2_with fail;go_ret;exact ⟨rfl,G.o,Frm.refl _ _⟩
 | some s=>
  have T:=(List.findIdx?_eq_some_iff_getElem).1 (show L.findIdx? (fun x:Nat=>decide ((x:Int)=id))=some s.toNat from by have:=H.o;unfold ofF at this;split at this;(obtain ⟨a,h1,E⟩:=Option.map_eq_some_iff.1 this;rw [h1,<- E,Int.toNat_natCast]);cases this);obtain ⟨a,rfl⟩:∃ a:Nat,s=(a:Int):=by have:=H.o;unfold ofF at this;split at this;(obtain ⟨a,h1,E⟩:=Option.map_eq_some_iff.1 this;exact ⟨a,E.symm⟩);cases this
  have C:=D.o;simp only [Int.toNat_natCast] at C;subst C;clear D;rw [Int.toNat_natCast] at T;obtain ⟨Q,-,-⟩:=T;have Z:(a:Int) < (L.length:Int):=by omega
  have b:(0:Int)<=(a:Int):=by omega
  obtain ⟨V,I⟩:∃ x,L[a]?=some x:=⟨L[a]'Q,le_ _⟩;have Y:w.cell? ⟨g,a,none⟩=some (.int .i64 (V:Int)):=by rw [G.2.cell,ZF I]
  clear I;have c:w.frozen? ⟨g,a,none⟩=false:=G.2.frozen a;have ⟨P,F⟩:=gn (w.setCell ⟨g,a,none⟩ (.int .i64 0));have M:=Hy (by rw [<- F];exact (Frm.refl (fun i=>i=g) w).setCell _ _ (.inl rfl):Frm (fun i=>i=g) w P);have U:=Hy (show RSA P p g (L.set a 0) A from ⟨by rw [List.length_set];exact G.1.frm M.o K,by rw [<- F,<- Xaw];exact G.2.set a _⟩);clear Q;go_wp2_with (rw [F]);go_ret;exact ⟨rfl,U.o,M.o⟩
theorem yaF (q:ByteArray) (k n:Int) (p g:Nat) (L:List Nat) (A:Nat) (w:World) (h:RSA w p g L A) (hl:L.length<=4) (hq:q.size<=1000000) (Ai:A<=1000000):
  Calls prog 129 #[.pointer (some ⟨p,0,none⟩),.agg #[q,k,n]] w fun e w'=>e=.returned (.tuple #[.int .i64 (subS q k n L A).1,.int .i64 (subS q k n L A).2.1,.int .i64 (subS q k n L A).2.2])/\RSA w' p g (subL q k n L A).1 (subL q k n L A).2/\Frm (fun i=>i=p∨i=g) w w':=by
 have z:p≠g:=fun e=>by subst e;have h1:=h.1;have h2:=h.2;unfold Blk at h1 h2;rw [h1] at h2;exact absurd h2 (by simp)
 have D:=Hy ((bf w.heap.size w).alloc (nl _) (.cells #[q,k,n] 40));have J:Blk (w.alloc (.cells #[q,k,n] 40)) w.heap.size 40 [q,k,n]:=hn_ w _;have ⟨W,hW⟩:=gn (w.alloc (.cells #[q,k,n] 40));rw [hW] at D J;have HA:=Hy (h.below D.o);have y0:W.cell? ⟨w.heap.size,0,none⟩=some (.string q):=J.cell 0;have y1:W.cell? ⟨w.heap.size,1,none⟩=some (.int .i64 k):=J.cell 1;have y2:W.cell? ⟨w.heap.size,2,none⟩=some (.int .i64 n):=J.cell 2
 have Y:=Hy (zaF q k n W hq);have ⟨SS,H⟩:=gn (subS q k n L A);have ⟨SL,G⟩:=gn (subL q k n L A);rw [H,G];have ⟨m,hm⟩:=gn (mayQ q k n);rw [hm] at Y;unfold subS at H;unfold subL at G;rw [hm] at H G;have R:=Hy H;have Q:=Hy G;clear h J hq hm H G;go_in;go_wp2_with (rw [hW]);clear y0 y1 y2 hW;refine Y.mono ?_;clear Y;rintro e r ⟨rfl,hb⟩;have C:=Hy (HA.below hb);have U:=Hy (D.trans (hb.mono D.size));clear hb HA D;cases m with
 | false=>
  have b:=R.o;have c:=Q.o;rw [if_pos rfl] at b c;subst b;subst c;clear R Q;go_wp2_with fail;go_ret3;exact ⟨rfl,C.o,Frm.below U.o⟩
 | true=>
  have b:=R.o;have c:=Q.o;rw [if_neg (by decide)] at b c;have M:=Hy b;have N:=Hy c;clear b c R Q;have x0:r.cell? ⟨p,0,none⟩=some (.slice (some ⟨g,0,none⟩) L.length L.length):=C.1.cell 0;have x1:r.cell? ⟨p,1,none⟩=some (.int .i64 (A:Nat)):=C.1.cell 1;go_wp2_with fail;go_loop [7] (fun v=>∃ i:Nat,i<=L.length/\v=.int .i64 i/\Hid (∀ j,j < i->∃ x,L[j]?=some x/\x≠0)) (fun v=>L.length - (intOf v).toNat)
  case atStart=>exact ⟨0,nz _,rfl,fun j l=>by omega⟩
  case round=>
   obtain ⟨i,hi,rfl,a⟩:=hrel
   by_cases Aj:i < L.length
   ·obtain ⟨x,hx⟩:∃ x,L[i]?=some x:=⟨L[i]'Aj,le_ _⟩
    have cx:r.cell? ⟨g,i,none⟩=some (.int .i64 (x:Int)):=by rw [C.2.cell,ZF hx]
    have HX:=Hy hx;have b:(i:Int) < (L.length:Int):=by omega
    have c:(0:Int)<=(i:Int):=by omega
    clear hx
    by_cases he:x=0
    ·subst he
     have I:=XaL HX.o a.o;have u:=M.o;have y:=N.o;rw [I] at u y;subst u;subst y;have fp:r.frozen? ⟨p,1,none⟩=false:=C.1.frozen 1;have ⟨F,d⟩:=gn (r.setCell ⟨p,1,none⟩ (.int .i64 ((A:Int)+1)));have s:=Hy (by rw [<- d];exact (Frm.refl (fun j=>j=p) r).setCell _ _ (.inl rfl):Frm (fun j=>j=p) r F);have E:=Hy (by rw [<- d];exact C.1.set 1 _:Blk F p 183 [.slice (some ⟨g,0,none⟩) L.length L.length,.int .i64 ((A:Int)+1)]);have V:=Hy (C.2.frm s.o (fun e=>z e.symm));have el:IntKind.i64.wrap ((A:Int)+1)=(A:Int)+1:=IntWalk.i64_in _ (by omega)
     have At:=Hy a;clear M N I a;go_upto_region 35 with (rw [d]);clear cx;have a0:F.drew.cell? ⟨p,0,none⟩=some (.slice (some ⟨g,0,none⟩) L.length L.length):=E.cell 0;have a1:F.drew.cell? ⟨p,1,none⟩=some (.int .i64 ((A:Int)+1)):=E.cell 1;have a2:F.drew.cell? ⟨g,i,none⟩=some (.int .i64 (0:Int)):=by show F.cell? _=_;rw [V.cell,ZF HX.o];rfl
     have a3:F.drew.frozen? ⟨g,i,none⟩=false:=V.frozen i;have ⟨T,f⟩:=gn (F.drew.setCell ⟨g,i,none⟩ (.int .i64 ((A:Int)+1)));have t:=Hy (by rw [<- f];exact (Frm.below (S:=fun j=>j=g) (below_drewN (bf _ F) 1)).setCell _ _ (.inl rfl):Frm (fun j=>j=g) F T);have Z:=Hy (show RSA T p g (L.set i (A+1)) (A+1) from ⟨by rw [List.length_set];exact E.frm t.o z,by rw [<- f,<- Xaw];exact (show Blk F.drew g 3 (slV L) from V.o).set i _⟩);have b0:T.cell? ⟨p,0,none⟩=some (.slice (some ⟨g,0,none⟩) L.length L.length):=by have:=Z.1.cell 0;rw [List.length_set] at this;exact this
     have b1:Ci T p 1 ((A:Int)+1):=Z.1.cell 1;have As:=Hy (And.intro a0 a1);have Aa:=Hy (And.intro b0 b1);clear a0 a1 b0 b1;refine rg (fun w'=>Cl w' p 0 (.slice (some ⟨g,0,none⟩) L.length L.length)/\Ci w' p 1 ((A:Int)+1)) fun B=>?_;(iterate 10 refine tq 0 ?_);refine rdy 10 fun K hK=>?_
     go_simp;go_wp2_with (rw [f]);refine hk hK fun B=>?_;clear hK K
     refine dn ?_;clear B;go_upto_region 45 with fail;refine wp_region_held_drew (S:=(fun w'=>Ci w' p 1 ((A:Int)+1))) (by kernel_rfl) (by exact Aa.2) (fun B=>?_);(iterate 8 refine tq 0 ?_);refine dn ?_;clear B;go_wp2_with fail;go_ret3;have Ab:Frm (fun j=>j=p∨j=g) T T.drew:=Frm.below (below_drewN (bf _ T) 1);exact ⟨rfl,Z.below (below_drewN (bf _ T) 1),(((Frm.below (S:=fun j=>j=p∨j=g) U.o).trans s.o (fun j l _=>.inl l)).trans t.o (fun j l _=>.inr l)).trans Ab (fun j l _=>l)⟩
    have d1:((x:Int) == 0)=false:=by rw [beq_eq_false_iff_ne];omega
    have E:=Hy (RslR.next (P:=fun x=>x≠0) a.o HX.o he);clear a he;go_wp2_with fail;go_round
    case rel=>exact ⟨i+1,by omega,by go_num,E.o⟩
    case measure=>simp [intOf];omega
   have I:=qaM (fun j l=>a.o j (by omega));have u:=M.o;have y:=N.o;rw [I] at u y;subst u;subst y;clear M N a I;have Ah:i=L.length:=by omega
   subst Ah;go_wp2_with fail;go_ret3;exact ⟨rfl,C.o,Frm.below U.o⟩
structure RSh (W:World) (m:MS) (s:PS):Prop where
 least:m.least=s.least
 seq:m.seq=s.seq
 ended:m.ended=s.ended
 heard:m.heard=s.heard
 last:m.last=s.last
 waits:RdE KeyL.cells 2 W m.wa m.wn m.wc s.waits
 lt:∀ b o sp,m.wa=some ⟨b,o,sp⟩->b < W.heap.size
 small:s.waits.length<=5
theorem RSh.wlen {m:MS} {s:PS} (h:RSh W m s):m.wn=s.waits.length:=h.waits.1.symm
def RSz (S:List PS):Prop:=∀ s∈S,s.last.2.size<=1000000/\∀ x∈s.waits,x.2.size<=1000000
structure RMx (W:World) (q:Nat) (n:Int) (S:List PS) (T:List KeyL) (qs c:Nat) (R:List MS) (sp:List Value) (ta:Option Addr) (tc:Nat):Prop where
 P:Blk W q 175 [.slice (some ⟨qs,0,none⟩) S.length c,n,.slice ta T.length tc]
 G:Blk W qs 172 (R.flatMap MS.cells++sp)
 hc:S.length<=c
 hm:c<=maxLen
 told:RdE KeyL.cells 2 W ta T.length tc T
 tlt:∀ b o s,ta=some ⟨b,o,s⟩->b < W.heap.size
 len:R.length=S.length
 sh:∀ (i:Nat) (m:MS) (s:PS),R[i]?=some m->S[i]?=some s->RSh W m s
 bd:S.length<=6/\T.length<=10/\1<=n/\n<=10
 sz:RSz S
def Xb (ta:Option Addr) (R:List MS) (k:Nat):Prop:=(∃ o s,ta=some ⟨k,o,s⟩)∨∃ (i:Nat) (m:MS) (o:Nat) (s:Option Nat),R[i]?=some m/\m.wa=some ⟨k,o,s⟩
theorem RSh.frm {m:MS} {s:PS} (h:RSh W m s) (hf:Frm X W W') (hs:∀ b o sp,m.wa=some ⟨b,o,sp⟩->¬ X b):RSh W' m s:=
 ⟨h.least,h.seq,h.ended,h.heard,h.last,h.waits.frm hf hs,fun b o sp e=>nt (h.lt b o sp e) hf.size,h.small⟩
theorem RMx.keep {q:Nat} {n:Int} {S:List PS} {T:List KeyL} {c:Nat} {ta:Option Addr} {tc:Nat} (h:RMx W q n S T qs c R sp ta tc) (hf:Frm X W W') (hx:∀ k,X k->k≠q/\k≠qs/\¬ Xb ta R k):RMx W' q n S T qs c R sp ta tc:=
 ⟨h.P.frm hf (fun e=>(hx q e).1 rfl),h.G.frm hf (fun e=>(hx qs e).2.1 rfl),h.hc,h.hm,h.told.frm hf (fun b o s e A=>(hx b A).2.2 (Or.inl ⟨o,s,e⟩)),fun b o s e=>nt (h.tlt b o s e) hf.size,h.len,fun i m s h1 B=>(h.sh i m s h1 B).frm hf (fun b o sp e A=>(hx b A).2.2 (Or.inr ⟨i,m,o,sp,h1,e⟩)),h.bd,h.sz⟩
theorem RMx.below {q:Nat} {n:Int} {S:List PS} {T:List KeyL} {c:Nat} {ta:Option Addr} {tc:Nat} (h:RMx W q n S T qs c R sp ta tc) (hb:Below W.heap.size W W'):RMx W' q n S T qs c R sp ta tc:=
 h.keep (Frm.below (S:=fun _=>False) hb) (fun _ h=>h.elim)
theorem ShAt.of_row2 {W:World} {g:Nat} {M:List MS} {sp:List Value} {t:TypeId} (h:Blk W g t (M.flatMap MS.cells++sp)) {i:Nat} {m:MS} (hi:M[i]?=some m):ShAt W g (i * 7) m:=by
 intro j v A;have B:j < 7:=(lg A).1;rw [h.cell,qx MS.cells 7 MS.clen M sp i m j hi B,A]
theorem RMx.c3 {q:Nat} {n:Int} {S:List PS} {T:List KeyL} {c:Nat} {ta:Option Addr} {tc:Nat} (h:RMx W q n S T qs c R sp ta tc):W.cell? ⟨q,0,none⟩=some (.slice (some ⟨qs,0,none⟩) S.length c)/\W.cell? ⟨q,1,none⟩=some (.int .i64 n)/\W.cell? ⟨q,2,none⟩=some (.slice ta T.length tc):=
 ⟨(h.P.cell 0).trans rfl,(h.P.cell 1).trans rfl,(h.P.cell 2).trans rfl⟩
theorem RMx.at {q:Nat} {n:Int} {S:List PS} {T:List KeyL} {c:Nat} {ta:Option Addr} {tc:Nat} (h:RMx W q n S T qs c R sp ta tc) {i:Nat} (hi:i < S.length):∃ m s,R[i]?=some m/\S[i]?=some s/\RSh W m s/\ShAt W qs (i * 7) m:=by
 have h1:R[i]?=some (R[i]'(by rw [h.len];exact hi)):=le_ _;exact ⟨_,_,h1,le_ hi,h.sh i _ _ h1 (le_ hi),ShAt.of_row2 h.G h1⟩
theorem xa5 {n:Int} {S:List PS} {T:List KeyL} (h:n<=T.length) (hT:(T.length:Int)<=n):doneP n S T=true:=by unfold doneP;simp;left;omega
theorem Qa5 {n:Int} {S:List PS} {T:List KeyL} (h:¬ n<=T.length) (ho:S.any PS.open_=false):doneP n S T=true:=by unfold doneP;rw [ho];simp
theorem qaL {n:Int} {S:List PS} {T:List KeyL} (h:¬ n<=T.length) {i:Nat} {s:PS} (hs:S[i]?=some s) (ho:s.open_=true):doneP n S T=false:=by
 unfold doneP;rw [Bool.or_eq_false_iff];refine ⟨by simp;omega,?_⟩;rw [List.any_eq_true.2 ⟨s,List.mem_of_getElem? hs,ho⟩];rfl
theorem zI (q:Nat) (n:Int) (S:List PS) (T:List KeyL) (w:World) (qs c:Nat) (R:List MS) (sp:List Value) (ta:Option Addr) (tc:Nat) (hX:RMx w q n S T qs c R sp ta tc) (hT:(T.length:Int)<=n):
  Calls prog 144 #[.pointer (some ⟨q,0,none⟩)] w fun e w'=>e=.returned (.bool (doneP n S T))/\Drew w w':=by
 obtain ⟨r,c1,t⟩:=hX.c3;have Y:=hX.bd;have p:=Hy hX;have l:=Hy hT;have ⟨D,W⟩:=gn (doneP n S T);rw [W];have A:=Hy W;have ⟨k,E⟩:=gn T.length;have M:=Hy E;rw [E] at t;have ⟨L,C⟩:=gn S.length;have I:=Hy C;rw [C] at r Y;clear hX W E C hT
 by_cases f:n<=(k:Int)
 ·obtain rfl:D=true:=by rw [<- A.o];exact xa5 (by rw [M.o];omega) l.o
  have u:decide (n<=(k:Int))=true:=by simpa using f
  clear A;go_in;go_wp2_with fail;go_quiet (fail);go_wp2_with fail;go_ret;exact ⟨rfl,Drew.one _ _⟩
 have u:decide (n<=(k:Int))=false:=by simpa using f
 go_in;go_wp2_with fail;go_quiet (fail);go_wp2_with fail;go_loopw [3] (fun v wr=>∃ i:Nat,i<=L/\v=.int .i64 i/\Hid (∀ j s,j < i->S[j]?=some s->s.open_=false)/\Drew w wr) (fun v _=>L - (intOf v).toNat)
 case atStart=>exact ⟨0,nz _,rfl,fun j s N _=>by omega,Drew.one _ _⟩
 case round=>
  obtain ⟨i,hi,rfl,H,Aa,rfl⟩:=hrel
  by_cases K:i < L
  ·obtain ⟨m,s,z,P,G,J⟩:=p.at (show i < S.length by rw [I.o];exact K)
   obtain ⟨_,_,g,_,_,_,y6⟩:=J.c2;have k1:(0:Int)<=(i:Int):=by omega
   have k3:(i:Int) < (L:Int):=by omega
   have b:=Hy G.ended;have d:=Hy G.wlen;have U:=Hy P;clear z P G J;cases B:m.ended with
   | false=>
    obtain rfl:D=false:=by rw [<- A.o];exact qaL (by rw [M.o];omega) U.o (by unfold PS.open_;rw [<- b.o,B];rfl)
    rw [B] at g;clear A B H;go_wp2_with fail;go_ret;exact ⟨rfl,⟨_,rfl⟩⟩
   | true=>
    rw [B] at g
    by_cases a:0 < m.wn
    ·obtain rfl:D=false:=by rw [<- A.o];exact qaL (by rw [M.o];omega) U.o (by unfold PS.open_;rw [<- d.o];simp [a])
     have y:decide (0 < m.wn)=true:=by simpa using a
     have V:decide ((0:Int) < (m.wn:Int))=true:=by simp;omega
     clear A B H;go_wp2_with fail;go_ret;exact ⟨rfl,⟨_,rfl⟩⟩
    ·have y:decide (0 < m.wn)=false:=by simpa using a
     have V:decide ((0:Int) < (m.wn:Int))=false:=by simp;omega
     have Q:Hid (∀ j s,j < i+1->S[j]?=some s->s.open_=false):=by
      intro j s' N F;rcases (by omega:j < i∨j=i) with h | h
      ·exact H.o j s' h F
      ·subst h
       rw [U.o] at F;cases F;unfold PS.open_;rw [<- b.o,B,<- d.o];simp;omega
     clear B H;go_wp2_with fail;go_roundw
     case rel=>exact ⟨i+1,by omega,by go_num,Q.o,⟨_,rfl⟩⟩
     case measure=>simp [intOf];omega
  have Z:i=L:=by omega
  subst Z
  obtain rfl:D=true:=by
   rw [<- A.o];refine Qa5 (by rw [M.o];omega) ?_;rw [List.any_eq_false];intro s P;obtain ⟨j,N,e⟩:=List.mem_iff_getElem.1 P;rw [H.o j s (by rw [<- I.o];exact N) (by rw [<- e];exact List.getElem?_eq_getElem N)];simp
  clear A H K;go_wp2_with fail;go_ret;exact ⟨rfl,⟨_,rfl⟩⟩
theorem World.alloc_size_le (w:World) (o:Obj):w.heap.size<=(w.alloc o).heap.size:=by simp
theorem XQ (q:Nat) (n:Int) (S:List PS) (T:List KeyL) (w:World) (qs c:Nat) (R:List MS) (sp:List Value) (ta:Option Addr) (tc:Nat) (hX:RMx w q n S T qs c R sp ta tc) (hT:(T.length:Int)<=n):
  Calls prog 96 #[.pointer (some ⟨q,0,none⟩)] w fun e w'=>∃ ao c',e=.returned (.slice ao (wantsP n S T).length c')/\w'.ownsRow w.heap.size 3 1 (.slice ao (wantsP n S T).length c') (wantsP n S T).length ((wantsP n S T).map (Value.int .i64))/\Below w.heap.size w w':=by
 obtain ⟨i0,hi,Al,L,Am⟩:=info_parts Xc;clear hi Al L Am;have J:=hX.bd;have HX:=Hy hX;have l:=Hy (fun (W:World) (V:Below w.heap.size w W)=>zI q n S T W qs c R sp ta tc (hX.below V) hT);have Ai:=hX.P.lt;have a:=hX.c3.1;unfold wantsP;cases hd:doneP n S T with
 | true=>
  rw [hd] at l;rw [if_pos rfl];have ⟨m,Y⟩:=gn S.length;rw [Y] at a J;clear hX hd HX Y;go_in;go_wp2_with fail;go_loopw [3,4] (fun v3 v4 wr=>v3=.slice none 0 0/\v4=.int .i64 0/\wr=w) (fun _ v _=>0)
  case atStart=>exact ⟨rfl,rfl,rfl⟩
  case round=>
   obtain ⟨rfl,rfl,rfl⟩:=hrel
   by_cases Ay:0 < m
   ·have k1:(0:Int) < (m:Int):=by omega
    go_wp2_with fail;refine (l.o _ (bf _ _)).mono ?_;rintro e w1 ⟨rfl,V⟩;have HB:=Hy (V.below wr.heap.size);clear V;go_wp2_with fail;go_ret;exact ⟨none,0,rfl,World.ownsRow_nil _ _ _ _,HB.o⟩
   ·have h0:m=0:=by omega
    subst h0;go_wp2_with fail;go_ret;exact ⟨none,0,rfl,World.ownsRow_nil _ _ _ _,bf _ _⟩
 | false=>
  rw [hd] at l;rw [if_neg (by exact Bool.false_ne_true)];clear hX hd;have ⟨Q,hQ⟩:=gn (wantK S S.length);rw [hQ];have HR:=Hy hQ;clear hQ;have ⟨m,Y⟩:=gn S.length;have U:=Hy Y;rw [Y] at a J;clear Y;have z:=Hy a;have Az:=J.1;clear J a;go_in;go_wp2_with fail;go_loopw [3,4] (fun v3 v4 wr=>WaR w S v3 v4 wr) (fun _ v _=>m - (intOf v).toNat)
  case atStart=>exact ⟨0,0,0,none,nz _,rfl,rfl,rfl,World.ownsRow_nil _ _ _ _,bf _ _⟩
  case round=>
   obtain ⟨i,k,t,I,hi,rfl,rfl,M,r,B⟩:=hrel;rw [U.o] at hi;have a:=(B.cell (p:=⟨q,0,none⟩) Ai).trans z.o;have k1:(0:Int)<=(i:Int):=by omega
   by_cases g:i < m
   ·obtain ⟨Z,s,Ah,hs,K,d⟩:=(HX.below B.o).at (show i < S.length by rw [U.o];exact g)
    obtain ⟨_,_,y2,_,_,_,y6⟩:=d.c2;have A0:=(HX.below B.o).G.lt;have Aw:k<=i:=by have:=Xz S i;have:=M.o;omega
    have HS:=Hy hs;have hz:=B.size;have A:=Hy (xS hs);have hE:=K.ended;have hW:=K.wlen;have Ak:Z.wn<=5:=by rw [hW];exact K.small
    have D:Hid (s.wanted=(!Z.ended&&decide (Z.wn=0))):=by unfold Hid PS.wanted;rw [hE,hW]
    have k2:(i:Int) < (m:Int):=by omega
    clear K d hs Ah hE hW;go_wp2_with fail;refine (l.o _ B.o).mono ?_;rintro e w1 ⟨rfl,j,rfl⟩;have E:=Hy (below_drewN B.o j);have H:Hid ((wr.drewN j).ownsRow w.heap.size 3 1 (.slice I k t) k ((wantK S i).map (Value.int .i64))):=r.o;have L:w.heap.size<=(wr.drewN j).heap.size:=hz;clear B r hz;cases N:Z.ended with
    | true=>
     have C:s.wanted=false:=by rw [D.o,N];rfl
     rw [C,if_neg (by exact Bool.false_ne_true),List.append_nil] at A;rw [N] at y2;clear C D N;go_wp2_with fail;go_roundw
     case rel=>exact ⟨i+1,k,t,I,by rw [U.o];omega,by go_num,rfl,by unfold Hid;rw [A.o];exact M.o,by unfold Hid;rw [A.o];exact H.o,E.o⟩
     case measure=>simp [intOf];omega
    | false=>
     rw [N] at y2
     by_cases u:Z.wn=0
     ·have C:s.wanted=true:=by rw [D.o,N];simp [u]
      rw [C,if_pos rfl] at A;rw [u] at y6;clear C D N u Ak;have A1:k+1<=maxLen:=by unfold maxLen;omega
      have A2:(k+1) * 8<=140737488355328:=by omega
      have A3:w.heap.size<=((wr.drewN j).alloc (.cells #[(i:Int)] 3)).heap.size:=nr L (World.alloc_size_le _ _);go_wp2_with (at_builtin;refine wa Xc underlying26 (H.alloc _) (Src.one' underlying26 (wr.drewN j) _ 3 rfl) A1 A2 A3 ?_;intro Ac c3 w5 F f;have Aa:=Hy F;have y:=Hy ((E.alloc L _).grown f A3 (fun b V=>(H.lt b V).1));clear F f);go_roundw
      case rel=>exact ⟨i+1,k+1,c3,Ac,by rw [U.o];omega,by go_num,rfl,by unfold Hid;rw [A.o,List.length_append,M.o];rfl,by unfold Hid;rw [A.o,List.map_append];exact Aa.o,y.o⟩
      case measure=>simp [intOf];omega
     ·have C:s.wanted=false:=by rw [D.o,N];simp [u]
      rw [C,if_neg (by exact Bool.false_ne_true),List.append_nil] at A;have d1:((Z.wn:Int) == 0)=false:=by rw [beq_eq_false_iff_ne];omega
      clear C D N;go_wp2_with fail;go_roundw
      case rel=>exact ⟨i+1,k,t,I,by rw [U.o];omega,by go_num,rfl,by unfold Hid;rw [A.o];exact M.o,by unfold Hid;rw [A.o];exact H.o,E.o⟩
      case measure=>simp [intOf];omega
   ·have Af:i=m:=by omega
    subst Af;clear g;have h:wantK S i=Q:=by rw [<- HR.o,U.o]
    have hl:=M.o;rw [h] at M r;have Ag:Q.length=k:=M.o;subst Ag;clear M hl h;go_wp2_with fail;go_ret;exact ⟨I,t,rfl,r.o,B.o⟩
theorem ritless (a b:KeyL) (w:World) (h1:a.2.size<=1000000) (h2:b.2.size<=1000000):Calls prog 194 #[.agg #[a.1,a.2],.agg #[b.1,b.2]] w fun e w'=>e=.returned (.bool (kless a b))/\Below w.heap.size w w':=zK a.1 a.2 b.1 b.2 w h1 h2
theorem yaY {s:PS} {x:KeyL} (h:s.ended=true):s.might x=false:=by unfold PS.might PS.wanted;rw [h];rfl
theorem xaY {s:PS} {x:KeyL} (h:0 < s.waits.length):s.might x=false:=by unfold PS.might PS.wanted;rw [decide_eq_false (by omega),Bool.and_false];rfl
theorem QaY {s:PS} {x:KeyL} (h1:s.ended=false) (h2:s.waits.length=0) (h3:s.heard=true):s.might x=kless s.last x:=by
 unfold PS.might PS.wanted;rw [h1,decide_eq_true h2,if_neg (by simp),if_pos h3]
theorem ZaY {s:PS} {x:KeyL} (h1:s.ended=false) (h2:s.waits.length=0) (h3:s.heard=false):s.might x=decide (s.least<=x.1):=by
 unfold PS.might PS.wanted;rw [h1,decide_eq_true h2,if_neg (by simp),if_neg (by rw [h3];simp)]
def SuR (w0:World) (S:List PS) (x:KeyL) (v:Value) (wr:World):Prop:=∃ i:Nat,i<=S.length/\v=.int .i64 i/\Hid (∀ j s,j < i->S[j]?=some s->s.might x=false)/\Hid (Below w0.heap.size w0 wr)
theorem SuR.next {S:List PS} {x:KeyL} {i:Nat} {s:PS} (h:∀ j s,j < i->S[j]?=some s->s.might x=false) (hs:S[i]?=some s) (hm:s.might x=false):Hid (∀ j s,j < i+1->S[j]?=some s->s.might x=false):=by
 intro j s' B A;rcases (by omega:j < i∨j=i) with h1 | h1
 ·exact h j s' h1 A
 subst h1
 rw [hs] at A;cases A;exact hm
theorem ZaF (q:Nat) (n:Int) (S:List PS) (T:List KeyL) (x:KeyL) (w:World) (qs c:Nat) (R:List MS) (sp:List Value) (ta:Option Addr) (tc:Nat) (hX:RMx w q n S T qs c R sp ta tc) (hx:x.2.size<=1000000):
  Calls prog 204 #[.pointer (some ⟨q,0,none⟩),.agg #[x.1,x.2]] w fun e w'=>e=.returned (.bool (!S.any fun s=>s.might x))/\Below w.heap.size w w':=by
 have V:Below w.heap.size w (w.alloc (.cells #[x.1,x.2] 46)):=(bf _ _).alloc (nl _) _;have Y:Blk (w.alloc (.cells #[x.1,x.2] 46)) w.heap.size 46 [x.1,x.2]:=hn_ w _;have I:=hX.below V;have F:=Hy V;have U:=Hy Y;have a:=Y.lt;have HX:=Hy I;have As:=I.P.lt;have A0:=I.G.lt;have Ah:=Hy hx;have ⟨D,hD⟩:=gn (!S.any fun s=>s.might x);rw [hD];have b:=Hy hD;have ⟨k2,N⟩:=gn S.length;have B:=Hy N;have Ap:=I.bd.1;rw [N] at Ap;have c0:=I.c3.1
 rw [N] at c0;have Af:=Hy c0;clear hX I V Y hx hD N c0;go_in;go_wp2_with fail;generalize w.alloc (.cells #[x.1,x.2] 46)=w0 at *;have ⟨xb,Z⟩:=gn w.heap.size;rw [Z] at U a ⊢;have Ax:=Hy Z;clear Z;go_loopw [5] (fun v wr=>SuR w0 S x v wr) (fun v _=>k2 - (intOf v).toNat)
 case atStart=>exact ⟨0,nz _,rfl,fun j s hj _=>by omega,bf _ _⟩
 case round=>
  obtain ⟨i,hi,rfl,K,H⟩:=hrel;rw [B.o] at hi;have c0:=(H.cell (p:=⟨q,0,none⟩) As).trans Af.o;have k1:(0:Int)<=(i:Int):=by omega
  by_cases t:i < k2
  ·obtain ⟨m,s,hm,y,J,k⟩:=(HX.below H.o).at (show i < S.length by rw [B.o];exact t)
   obtain ⟨y0,y1,y2,y3,y4,y5,y6⟩:=k.c2;have k3:(i:Int) < (k2:Int):=by omega
   have ⟨h,l⟩:=gn m.ended;have ⟨hd,r⟩:=gn m.heard;have ⟨wn,Aa⟩:=gn m.wn;have hE:=J.ended;have hW:=J.wlen;have hH:=J.heard;rw [J.last] at y4 y5;rw [l] at y2 hE;rw [r] at y3 hH;rw [Aa] at y6 hW;have HE:=Hy hE;have HW:=Hy hW;have HH:=Hy hH;have g:=Hy J.least;have d:=Hy y;have z:=((HX.sz s (lm y)).1);have Ai:=Hy z;have E:Blk (wr.alloc (.cells #[m.least,m.seq,.bool h,.bool hd,s.last.1,s.last.2,.slice m.wa wn m.wc] 172)) wr.heap.size 172 [m.least,m.seq,.bool h,.bool hd,s.last.1,s.last.2,.slice m.wa wn m.wc]:=hn_ wr _
   have z0:=(E.cell 0).trans (show _=some (.int .i64 m.least) from rfl);have z2:=(E.cell 2).trans (show _=some (.bool h) from rfl);have z3:=(E.cell 3).trans (show _=some (.bool hd) from rfl);have z4:=(E.cell 4).trans (show _=some (.int .i64 s.last.1) from rfl);have z5:=(E.cell 5).trans (show _=some (.string s.last.2) from rfl);have z6:=(E.cell 6).trans (show _=some (.slice m.wa wn m.wc) from rfl);have M:=H.alloc H.size (.cells #[m.least,m.seq,.bool h,.bool hd,s.last.1,s.last.2,.slice m.wa wn m.wc] 172);have x0:=((U.below M a).cell 0).trans (show _=some (.int .i64 x.1) from rfl)
   have x1:=((U.below M a).cell 1).trans (show _=some (.string x.2) from rfl);have A:=Hy M;clear J k hm y z E M H l r Aa hE hW hH;cases h with
   | true=>
    have C:=Hy (SuR.next K.o d.o (yaY HE.symm));clear K;go_wp2_with fail;go_roundw
    case rel=>exact ⟨i+1,by rw [B.o];omega,by go_num,C.o.out,A.o⟩
    case measure=>simp [intOf];omega
   | false=>
    by_cases hw:0 < wn
    ·have d1:decide (0 < wn)=true:=by simpa using hw
     have Ay:decide ((0:Int) < (wn:Int))=true:=by simp;omega
     have C:=Hy (SuR.next K.o d.o (xaY (by rw [<- HW.o];exact hw)));clear K;go_wp2_with fail;go_roundw
     case rel=>exact ⟨i+1,by rw [B.o];omega,by go_num,C.o.out,A.o⟩
     case measure=>simp [intOf];omega
    ·have Au:wn=0:=by omega
     subst Au;clear hw;cases hd with
     | true=>
      have L:=Hy (QaY (x:=x) HE.symm HW.symm HH.symm);have HL:=Hy (fun W=>ritless s.last x W Ai.o Ah.o);cases Q:kless s.last x with
      | true=>
       rw [Q] at HL L;obtain rfl:D=false:=by rw [<- b.o,List.any_eq_true.2 ⟨s,List.mem_of_getElem? d.o,L.o⟩];rfl
       clear b K L Q;go_wp2_with fail;refine (HL.o _).mono ?_;rintro e u ⟨rfl,f⟩;have HB:=Hy (A.trans (f.mono A.size));clear f A;go_wp2_with fail;go_ret;exact ⟨rfl,F.trans (HB.mono F.size)⟩
      | false=>
       rw [Q] at HL L;have C:=Hy (SuR.next K.o d.o L.o);clear K L Q;go_wp2_with fail;refine (HL.o _).mono ?_;rintro e u ⟨rfl,f⟩;have HB:=Hy (A.trans (f.mono A.size));have A6:=(f.cell (p:=⟨wr.heap.size,3,none⟩) (cell?_lt z3)).trans z3;clear f A;go_wp2_with fail;go_roundw
       case rel=>exact ⟨i+1,by rw [B.o];omega,by go_num,C.o.out,HB.o⟩
       case measure=>simp [intOf];omega
     | false=>
      have L:=Hy (ZaY (x:=x) HE.symm HW.symm HH.symm)
      by_cases hl:m.least<=x.1
      ·have d2:decide (m.least<=x.1)=true:=by simpa using hl
       obtain rfl:D=false:=by rw [<- b.o,List.any_eq_true.2 ⟨s,List.mem_of_getElem? d.o,by rw [L.o,<- g.o];exact d2⟩];rfl
       clear b K L hl;go_wp2_with fail;go_ret;exact ⟨rfl,F.trans (A.mono F.size)⟩
      ·have d2:decide (m.least<=x.1)=false:=by simpa using hl
       have C:=Hy (SuR.next K.o d.o (by rw [L.o,<- g.o];exact d2));clear K L hl;go_wp2_with fail;go_roundw
       case rel=>exact ⟨i+1,by rw [B.o];omega,by go_num,C.o.out,A.o⟩
       case measure=>simp [intOf];omega
  have Aq:i=k2:=by omega
  subst Aq
  obtain rfl:D=true:=by
   rw [<- b.o,List.any_eq_false.2 (fun s y=>by
    obtain ⟨j,hj,e⟩:=List.mem_iff_getElem.1 y;rw [K.o j s (by rw [<- B.o];exact hj) (by rw [<- e];exact List.getElem?_eq_getElem hj)];simp)]
   rfl
  clear b K t;go_wp2_with fail;go_ret;exact ⟨rfl,F.trans (H.mono F.size)⟩
theorem YaB {S:List PS} {k:Nat} {i:Int}:i∈wantK S k↔∃ j:Nat,j < k/\i=j/\∃ s,S[j]?=some s/\s.wanted=true:=by
 unfold wantK;rw [List.mem_map];constructor
 ·rintro ⟨j,C,rfl⟩
  rw [List.mem_filter,List.mem_range] at C;obtain ⟨h1,B⟩:=C;cases A:S[j]? with
  | none=>rw [A] at B;simp at B
  | some s=>rw [A] at B;exact ⟨j,h1,rfl,s,A,B⟩
 rintro ⟨j,h1,rfl,s,A,D⟩
 exact ⟨j,by rw [List.mem_filter,List.mem_range];exact ⟨h1,by rw [A];exact D⟩,rfl⟩
theorem qW {n:Int} {S:List PS} {T:List KeyL} {i:Int}:i∈wantsP n S T↔doneP n S T=false/\∃ s,atS S i=some s/\s.wanted=true:=by
 unfold wantsP;cases hd:doneP n S T with
 | true=>simp
 | false=>
  rw [if_neg (by simp),YaB];constructor
  ·rintro ⟨j,_,rfl,s,B,C⟩
   exact ⟨rfl,s,by rw [YK];exact B,C⟩
  ·rintro ⟨_,s,B,C⟩
   obtain ⟨k,rfl,A⟩:=YM B;exact ⟨k,(lg A).1,rfl,s,A,C⟩
theorem Y5 {n i seq:Int} {S:List PS} {T l:List KeyL} {e:Bool} (h:atS S i=none∨∃ s,atS S i=some s/\(doneP n S T=true∨s.wanted=false∨s.seq≠seq∨5 < l.length∨(l.length=0/\e=false)∨okI s.least s.heard s.last l=false)):putP n S T i seq l e=(false,S):=by
 unfold putP putOK;rcases h with h | ⟨s,h,h2⟩
 ·rw [h]
 rw [h]
 simp only [if_pos h2]
theorem xa8 {n i seq:Int} {S:List PS} {T l:List KeyL} {e:Bool} {s:PS} (h:atS S i=some s) (h2:¬ (doneP n S T=true∨s.wanted=false∨s.seq≠seq∨5 < l.length∨(l.length=0/\e=false)∨okI s.least s.heard s.last l=false)):putP n S T i seq l e=(true,S.set i.toNat (s.put l e)):=by
 unfold putP putOK;rw [h];simp only [if_neg h2]
theorem yaf {n i seq:Int} {S:List PS} {T l:List KeyL} {e:Bool} (h:¬ i∈wantsP n S T):putP n S T i seq l e=(false,S):=by
 rw [qW] at h;cases A:atS S i with
 | none=>exact Y5 (.inl A)
 | some s=>
  refine Y5 (.inr ⟨s,A,?_⟩);cases hd:doneP n S T with
  | true=>exact .inl rfl
  | false=>
   cases B:s.wanted with
   | false=>exact .inr (.inl rfl)
   | true=>exact absurd ⟨hd,s,A,B⟩ h
theorem qaQ (hx:RMx w q n S T qs c R sp ta tc) (F:∀ o s,ta≠some ⟨qs,o,s⟩) (D:∀ (i:Nat) (m:MS) (o:Nat) (s:Option Nat),R[i]?=some m->m.wa≠some ⟨qs,o,s⟩) {k:Nat} {m':MS} 
  (hf:Frm (fun i=>i=qs) w w') (hg:Blk w' qs 172 ((R.set k m').flatMap MS.cells++sp)) (C:k < S.length->RSh w' m' s') (E:s'.last.2.size<=1000000/\∀ x∈s'.waits,x.2.size<=1000000):
  RMx w' q n (S.set k s') T qs c (R.set k m') sp ta tc:=by
 have K:q≠qs:=Qe hx.P hx.G (by decide);refine ⟨by rw [List.length_set];exact hx.P.frm hf K,hg,by rw [List.length_set];exact hx.hc,hx.hm,hx.told.frm hf (fun b o s e h=>F o s (by rw [<- h];exact e)),fun b o s e=>nt (hx.tlt b o s e) hf.size,by rw [List.length_set,List.length_set];exact hx.len,fun i m s h1 B=>?_,by rw [List.length_set];exact hx.bd,fun s L=>?_⟩
 ·by_cases I:k=i
  ·subst I
   have A:k < S.length:=by
    have:=(lg B).1;rwa [List.length_set] at this
   rw [List.getElem?_set_self (by rw [hx.len];exact A)] at h1;rw [List.getElem?_set_self A] at B;cases h1;cases B;exact C A
  rw [List.getElem?_set_ne I] at h1 B
  have J:=hx.sh i m s h1 B;exact J.frm hf (fun b o H e h=>D i m o H h1 (by rw [<- h];exact e))
 rcases List.mem_or_eq_of_mem_set L with h | h
 ·exact hx.sz s h
 subst h;exact E
theorem yai (n:Int) (S:List PS) (T:List KeyL):(wantsP n S T).length<=S.length:=by
 unfold wantsP;split
 ·exact nz _
 exact Xz _ _
theorem za2 {M:List MS} {sp:List Value} {k:Nat} {m m':MS} (hm:M[k]?=some m):
  (((((((M.flatMap MS.cells++sp).set (k * 7) (.int .i64 m'.least)).set (k * 7+1) (.int .i64 m'.seq)).set (k * 7+2) (.bool m'.ended)).set (k * 7+3) (.bool m'.heard)).set (k * 7+4) (.int .i64 m'.last.1)).set (k * 7+5) (.string m'.last.2)).set (k * 7+6) (.slice m'.wa m'.wn m'.wc)=(M.set k m').flatMap MS.cells++sp:=by
 obtain ⟨d,I,J,B,⟨G,F⟩,C,E,D⟩:=m;obtain ⟨A,sq,e,hd,⟨H,K⟩,a,n,c⟩:=m';have h0:=Ye (sp:=sp) (m':=⟨A,I,J,B,(G,F),C,E,D⟩) (v:=.int .i64 A) hm (j:=0) (by decide) rfl;have h1:=Ye (sp:=sp) (m':=⟨A,sq,J,B,(G,F),C,E,D⟩) (v:=.int .i64 sq) (yi hm ⟨A,I,J,B,(G,F),C,E,D⟩) (j:=1) (by decide) rfl;have L:=Ye (sp:=sp) (m':=⟨A,sq,e,B,(G,F),C,E,D⟩) (v:=.bool e) (yi hm ⟨A,sq,J,B,(G,F),C,E,D⟩) (j:=2) (by decide) rfl;have N:=Ye (sp:=sp) (m':=⟨A,sq,e,hd,(G,F),C,E,D⟩) (v:=.bool hd) (yi hm ⟨A,sq,e,B,(G,F),C,E,D⟩) (j:=3) (by decide) rfl
 have P:=Ye (sp:=sp) (m':=⟨A,sq,e,hd,(H,F),C,E,D⟩) (v:=.int .i64 H) (yi hm ⟨A,sq,e,hd,(G,F),C,E,D⟩) (j:=4) (by decide) rfl;have Q:=Ye (sp:=sp) (m':=⟨A,sq,e,hd,(H,K),C,E,D⟩) (v:=.string K) (yi hm ⟨A,sq,e,hd,(H,F),C,E,D⟩) (j:=5) (by decide) rfl;have R:=Ye (sp:=sp) (m':=⟨A,sq,e,hd,(H,K),a,n,c⟩) (v:=.slice a n c) (yi hm ⟨A,sq,e,hd,(H,K),C,E,D⟩) (j:=6) (by decide) rfl;rw [Zba] at h1 L N P Q R;rw [Nat.add_zero] at h0;dsimp only;rw [h0,h1,L,N,P,Q,R]
theorem RMx.itlt {q:Nat} {n:Int} {S:List PS} {T:List KeyL} {c:Nat} {ta:Option Addr} {tc:Nat} (hx:RMx W q n S T qs c R sp ta tc):∀ j,Xb ta R j->j < W.heap.size:=by
 rintro j (⟨o,s',A⟩ | ⟨i,m,o,s',h,A⟩)
 ·exact hx.tlt _ _ _ A
 have hi:=(lg h).1
 exact (hx.sh i m _ h (le_ (show i < S.length by rw [<- hx.len];exact hi))).lt _ _ _ A
theorem Xa1 (hx:RMx w q n S T qs c R sp ta tc) (F:∀ k,Xb ta R k->k≠q) {x:KeyL} {ao:Option Addr} {c' base:Nat} (hT:T.length+1<=10)
  (hf:Frm (fun _=>False) w w2) (ho:w2.ownsRow base 46 2 (.slice ao (T.length+1) c') (T.length+1) (T.flatMap KeyL.cells++x.cells)):
  RMx (w2.setCell ⟨q,2,none⟩ (.slice ao (T.length+1) c')) q n S (T++[x]) qs c R sp ao c':=by
 have B:=hx.keep hf (fun _ h=>h.elim);have H:Frm (fun k=>k=q) w2 (w2.setCell ⟨q,2,none⟩ (.slice ao (T.length+1) c')):=(Frm.refl (fun k=>k=q) w2).setCell _ _ (.inl rfl);have E:q≠qs:=Qe hx.P hx.G (by decide);have A:(T++[x]).length=T.length+1:=by simp
 have C:=za ho H (fun k D e=>Qb ho B.P (by decide) k D e);refine ⟨by rw [A];exact Blk.set B.P 2 _,B.G.frm H (fun e=>E e.symm),B.hc,B.hm,?_,fun b o s e=>?_,B.len,fun i m s h1 J=>(B.sh i m s h1 J).frm H (fun b o I e h=>F b (Or.inr ⟨i,m,o,I,h1,e⟩) h),by rw [A];exact ⟨B.bd.1,hT,B.bd.2.2⟩,B.sz⟩
 ·have:=Za (enc:=KeyL.cells) (l:=T++[x]) (n:=T.length+1) (fun _=>rfl) (by simp) (by rw [List.flatMap_append,List.flatMap_singleton];exact C)
  rw [A];exact this
 subst e
 exact (ql C).2.choose_spec.lt
def MS.wait (m:MS) (a:Option Addr) (n c:Nat):MS:=⟨m.least,m.seq,m.ended,m.heard,m.last,a,n,c⟩
theorem yaR {M:List MS} {sp:List Value} {k:Nat} {m:MS} (hm:M[k]?=some m) (a:Option Addr) (n c:Nat):
  (M.flatMap MS.cells++sp).set (k * 7+6) (.slice a n c)=(M.set k (m.wait a n c)).flatMap MS.cells++sp:=
 Ye (m':=m.wait a n c) hm (by decide) rfl
theorem RSh.head {m:MS} {s:PS} (h:RSh W m s) (h0:0 < s.waits.length):∃ wb wo,m.wa=some ⟨wb,wo,none⟩/\W.cell? ⟨wb,wo,none⟩=some (.int .i64 (headP s).1)/\W.cell? ⟨wb,wo+1,none⟩=some (.string (headP s).2):=by
 obtain ⟨b,o,e,h1,A,_⟩:=h.waits.atI (qE h0);rw [Nat.zero_mul,Nat.add_zero] at h1 A;exact ⟨b,o,e,h1,A⟩
theorem qa2 (hx:RMx w q n S T qs c R sp ta tc) (D:∀ k,Xb ta R k->k≠qs) {k:Nat} {m:MS} {s:PS} (hm:R[k]?=some m) (hs:S[k]?=some s) {ao:Option Addr} {mm c' base:Nat}
  (hf:Frm (fun _=>False) w w2) (ho:w2.ownsRow base 46 2 (.slice ao mm c') mm ((s.waits.drop 1).flatMap KeyL.cells)) (H:mm=s.waits.length - 1):
  RMx (w2.setCell ⟨qs,k * 7+6,none⟩ (.slice ao mm c')) q n (S.set k s.less) T qs c (R.set k (m.wait ao mm c')) sp ta tc/\(∀ j,Xb ta (R.set k (m.wait ao mm c')) j->Xb ta R j∨base<=j):=by
 have E:=hx.keep hf (fun _ h=>h.elim);have B:Frm (fun i=>i=qs) w2 (w2.setCell ⟨qs,k * 7+6,none⟩ (.slice ao mm c')):=(Frm.refl (fun i=>i=qs) w2).setCell _ _ (.inl rfl);have C:=za ho B (fun j F e=>Qb ho E.G (by decide) j F e);have h0:=E.sh k m s hm hs;refine ⟨qaQ E (fun o s' A=>D qs (Or.inl ⟨o,s',A⟩) rfl) (fun i m o s' h A=>D qs (Or.inr ⟨i,m,o,s',h,A⟩) rfl) B (by rw [<- yaR hm];exact Blk.set E.G _ _) (fun _=>?_) ?_,fun j F=>?_⟩
 ·refine ⟨h0.least,h0.seq,h0.ended,h0.heard,h0.last,Za (enc:=KeyL.cells) (fun _=>rfl) (by show (s.waits.drop 1).length=mm;rw [List.length_drop];exact H.symm) C,fun b o J e=>?_,by rw [show s.less.waits=s.waits.drop 1 from rfl,List.length_drop];have:=h0.small;omega⟩
  have L:ao=some ⟨b,o,J⟩:=e;subst L;exact (ql C).2.choose_spec.lt
 ·have:=hx.sz s (lm hs)
  exact ⟨this.1,fun x I=>this.2 x (List.mem_of_mem_drop I)⟩
 rcases F with ⟨o,s',A⟩ | ⟨i,m2,o,s',h,A⟩
 ·exact .inl (Or.inl ⟨o,s',A⟩)
 by_cases K:k=i
 ·subst K
  rw [yi hm] at h;cases h;rw [show ao=some ⟨j,o,s'⟩ from A] at ho;exact .inr (ql ho).1
 rw [List.getElem?_set_ne K] at h
 exact .inl (Or.inr ⟨i,m2,o,s',h,A⟩)
def bestI:Option Nat->Int
 | none=> -1
 | some b=>b
end Go.Proofs.YtinkbgeckjbnbaaGreat
