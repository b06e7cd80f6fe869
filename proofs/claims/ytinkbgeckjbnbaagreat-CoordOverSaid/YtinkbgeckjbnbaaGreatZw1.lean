/- Lemmas (part 1). -/
import Derived.WalkKit
import Derived.WalkSpells
import Derived.WalkLawsBesides
import Derived.BigQuiet
import Derived.Deep.QuietTactic
import Derived.Deep.DeepFit
import Derived.Deep.DeepMust
import Derived.Deep.LoopGhost
import Derived.Outline
import Derived.Lib.Hide
import Derived.Lib.SlBytesConst
import Derived.OpenShut
import Derived.Laws.AppendOwnNone
import Derived.Deep.AppendSrc
import Derived.Deep.Upon
import Derived.Laws.IdiomStrings
import Derived.Laws.BytesArg
import Derived.Lib.ConvBytes
import Derived.RegionTactic
import Derived.ChangeAlike
import Derived.BigRegion
import Derived.Deep.RegionWith
import Derived.Lib.Strings
import Derived.Deep.Slices
import Derived.Deep.Fields
import Derived.ChangeSame
import Derived.ProofKit
import Derived.Lib.SmallJoins
import Derived.Laws.RangeAny
import Derived.Laws.RangeString
import Derived.Lib.RuneCount
import Derived.Test.YtinkbgeckjbnbaaGreatRows
import Derived.Lib.Bytealg
import Derived.StillTailTactics
import Derived.Deep.AppendLies
import Derived.Deep.RegionLaw
import Derived.Deep.RegionHeld3
import Derived.Maps.OwnSet
import Derived.Maps.Views
namespace Go.Proofs.YtinkbgeckjbnbaaGreat
open Go.RowKit Go.Proofs.Tryz
set_option autoImplicit true
set_option relaxedAutoImplicit true
set_option linter.unusedVariables false
set_option linter.unusedSimpArgs false
set_option maxRecDepth 100000
set_option maxHeartbeats 32000000
theorem _root_.Go.RowKit.Hid.o {p:Prop} (h:Hid p):p:=h
instance z1:Coe Int Value:=⟨fun x=>.int .i64 x⟩
instance z2:Coe Nat Value:=⟨fun x=>.int .i64 (x:Int)⟩
instance z3:Coe Bool Value:=⟨fun x=>.bool x⟩
instance z4:Coe ByteArray Value:=⟨fun x=>.string x⟩
instance z5:Coe Unit Value:=⟨fun _=>.int .i64 0⟩
theorem gn {α:Sort _} (a:α):∃ x,a=x:=⟨a,rfl⟩
theorem io {α:Sort _} {c:Prop} {h:Decidable c} {a b:α} (k:¬c:=by omega):ite c a b=b:=if_neg k
theorem ip {α:Sort _} {c:Prop} {h:Decidable c} {a b:α} (k:c:=by omega):ite c a b=a:=if_pos k
theorem nl (n:Nat):n<=n:=Nat.le_refl n
theorem nz (n:Nat):0<=n:=Nat.zero_le n
theorem nt {a b c:Nat} (h:a < b) (k:b<=c):a < c:=Nat.lt_of_lt_of_le h k
theorem nr {a b c:Nat} (h:a<=b) (k:b<=c):a<=c:=Nat.le_trans h k
theorem lm {α:Type _} {l:List α} {i:Nat} {a:α} (h:l[i]?=some a):a∈l:=List.mem_of_getElem? h
theorem lg {α:Type _} {l:List α} {i:Nat} {a:α} (h:l[i]?=some a):∃ h:i < l.length,l[i]=a:=List.getElem?_eq_some_iff.1 h
theorem le_ {α:Type _} {l:List α} {i:Nat} (h:i < l.length):l[i]?=some l[i]:=List.getElem?_eq_getElem h
theorem bf (n:Nat) (w:World):Below n w w:=Below.refl n w
theorem hn_ (w:World) (b:Obj):(w.alloc b).heap[w.heap.size]?=some b:=heap_alloc_new w b
theorem Hy {p:Prop} (h:p):Hid p:=Lib.hid h
abbrev Cl (w:World) (b o:Nat) (v:Value):Prop:=w.cell? ⟨b,o,none⟩=some v
abbrev Ci (w:World) (b o:Nat) (x:Int):Prop:=w.cell? ⟨b,o,none⟩=some (.int .i64 x)
abbrev Cp (w:World) (b o p:Nat):Prop:=w.cell? ⟨b,o,none⟩=some (.pointer (some ⟨p,0,none⟩))
abbrev Ct (w:World) (b o:Nat) (s:ByteArray):Prop:=w.cell? ⟨b,o,none⟩=some (.string s)
theorem takeO {ops:Array Oper} {Q:Exit->Act->World->Prop} (i:Nat) (d:Option Tmp) {oi:Oper} {v:Value} {fuel:Nat} {a:Act} {w:World} (hi:ops[i]?=some oi)
  (hd:oi.dst=d) (hs:Region.noSelect ops=true) (hf:Region.free md ops listed i=true) (hr:(Region.ready md ops listed).contains i=true)
  (hQ:∀ c a w,Q (.panic c) (a.put d v) w->Q (.panic c) a w) (hy:YieldsIf P ops S oi v a) (hS:S w)
  (h:wpAnyH P md ops Q S fuel (listed.setIfInBounds i true) (a.put d v) w):wpAnyH P md ops Q S (fuel+1) listed a w:=by
 subst hd
 exact wpAnyH_take hi hs hf hr hQ hy hS h
theorem tk {P:Program} {ops:Array Oper} {Q:Exit->Act->World->Prop} {md:Region.Mode} {S:World->Prop} (i:Nat) {d:Tmp} {oi:Oper} {v:Value} {fuel:Nat} {listed':Array Bool} {a a':Act} {w:World}
  (h:wpAnyH P md ops Q S fuel listed' a' w) (hi:ops[i]?=some oi:=by rfl) (hd:oi.dst=some d:=by rfl) (hs:Region.noSelect ops=true:=by kernel_rfl) (hf:Region.free md ops listed i=true:=by kernel_rfl) (hr:(Region.ready md ops listed).contains i=true:=by kernel_rfl)
  (hQ:∀ c a w,Q (.panic c) (a.put (some d) v) w->Q (.panic c) a w:=by exact fun _ _ _ h=>h)
  (hy:YieldsIf P ops S oi v a:=by (refine Or.inl ⟨by rfl,?_⟩;intro w hSw;(try dsimp +zetaDelta only [Cl,Ci,Cp,Ct] at hSw);go_simp;all_goals with_reducible rfl))
  (hS:S w:=by assumption) (hl:listed.setIfInBounds i true=listed':=by first | (simp only [List.setIfInBounds_toArray,List.set_cons_zero,List.set_cons_succ];rfl) | rfl) (ha:a.put (some d) v=a':=by first | (go_frame;rfl) | rfl):wpAnyH P md ops Q S (fuel+1) listed a w:=by
 subst hl ha
 exact takeO i (some d) hi hd hs hf hr hQ hy hS h
theorem tk0 {P:Program} {ops:Array Oper} {Q:Exit->Act->World->Prop} {md:Region.Mode} {S:World->Prop} (i:Nat) {oi:Oper} {v:Value} {fuel:Nat} {listed':Array Bool} {a a':Act} {w:World}
  (h:wpAnyH P md ops Q S fuel listed' a' w) (hi:ops[i]?=some oi:=by rfl) (hd:oi.dst=none:=by rfl) (hs:Region.noSelect ops=true:=by kernel_rfl) (hf:Region.free md ops listed i=true:=by kernel_rfl) (hr:(Region.ready md ops listed).contains i=true:=by kernel_rfl)
  (hQ:∀ c a w,Q (.panic c) (a.put none v) w->Q (.panic c) a w:=by exact fun _ _ _ h=>h)
  (hy:YieldsIf P ops S oi v a:=by (refine Or.inl ⟨by rfl,?_⟩;intro w hSw;(try dsimp +zetaDelta only [Cl,Ci,Cp,Ct] at hSw);go_simp;all_goals with_reducible rfl))
  (hS:S w:=by assumption) (hl:listed.setIfInBounds i true=listed':=by first | (simp only [List.setIfInBounds_toArray,List.set_cons_zero,List.set_cons_succ];rfl) | rfl) (ha:a.put none v=a':=by first | (go_frame;rfl) | rfl):wpAnyH P md ops Q S (fuel+1) listed a w:=by
 subst hl ha
 exact takeO i none hi hd hs hf hr hQ hy hS h
theorem tn {P:Program} {ops:Array Oper} {Q:Exit->Act->World->Prop} {md:Region.Mode} {S:World->Prop} (i:Nat) {d:Tmp} {oi:Oper} {fuel:Nat} {listed':Array Bool} {a a':Act} {w:World}
  (h:wpAnyH P md ops Q S fuel listed' a' w) (hi:ops[i]?=some oi:=by rfl) (hd:oi.dst=some d:=by rfl) (hs:Region.noSelect ops=true:=by kernel_rfl) (hf:Region.free md ops listed i=true:=by kernel_rfl) (hr:(Region.ready md ops listed).contains i=true:=by kernel_rfl)
  (hQ:∀ c a w,Q (.panic c) (a.put (some d) undef) w->Q (.panic c) a w:=by exact fun _ _ _ h=>h)
  (hy:YieldsIf P ops S oi undef a:=by exact Or.inr ⟨by rfl,by rfl⟩)
  (hS:S w:=by assumption) (hl:listed.setIfInBounds i true=listed':=by first | (simp only [List.setIfInBounds_toArray,List.set_cons_zero,List.set_cons_succ];rfl) | rfl) (ha:a.put (some d) undef=a':=by first | (go_frame;rfl) | rfl):wpAnyH P md ops Q S (fuel+1) listed a w:=by
 subst hl ha
 exact takeO i (some d) hi hd hs hf hr hQ hy hS h
theorem tn0 {P:Program} {ops:Array Oper} {Q:Exit->Act->World->Prop} {md:Region.Mode} {S:World->Prop} (i:Nat) {oi:Oper} {fuel:Nat} {listed':Array Bool} {a a':Act} {w:World}
  (h:wpAnyH P md ops Q S fuel listed' a' w) (hi:ops[i]?=some oi:=by rfl) (hd:oi.dst=none:=by rfl) (hs:Region.noSelect ops=true:=by kernel_rfl) (hf:Region.free md ops listed i=true:=by kernel_rfl) (hr:(Region.ready md ops listed).contains i=true:=by kernel_rfl)
  (hQ:∀ c a w,Q (.panic c) (a.put none undef) w->Q (.panic c) a w:=by exact fun _ _ _ h=>h)
  (hy:YieldsIf P ops S oi undef a:=by exact Or.inr ⟨by rfl,by rfl⟩)
  (hS:S w:=by assumption) (hl:listed.setIfInBounds i true=listed':=by first | (simp only [List.setIfInBounds_toArray,List.set_cons_zero,List.set_cons_succ];rfl) | rfl) (ha:a.put none undef=a':=by first | (go_frame;rfl) | rfl):wpAnyH P md ops Q S (fuel+1) listed a w:=by
 subst hl ha
 exact takeO i none hi hd hs hf hr hQ hy hS h
def nx (s:Nat) (l:Array Bool):Nat:=s+(l.toList.drop s).idxOf false
theorem tq {P:Program} {ops:Array Oper} {Q:Exit->Act->World->Prop} {md:Region.Mode} {S:World->Prop} (s:Nat) {i:Nat} {d:Tmp} {oi:Oper} {v:Value} {fuel:Nat} {listed listed':Array Bool} {a a':Act} {w:World}
  (h:wpAnyH P md ops Q S fuel listed' a' w) (hn:nx s listed=i:=by first | exact (by kernel_rfl:_=0) | exact (by kernel_rfl:_=1) | exact (by kernel_rfl:_=2) | exact (by kernel_rfl:_=3) | exact (by kernel_rfl:_=4) | exact (by kernel_rfl:_=5) | exact (by kernel_rfl:_=6) | exact (by kernel_rfl:_=7) | exact (by kernel_rfl:_=8) | exact (by kernel_rfl:_=9) | exact (by kernel_rfl:_=10) | exact (by kernel_rfl:_=11) | exact (by kernel_rfl:_=12) | exact (by kernel_rfl:_=13) | exact (by kernel_rfl:_=14) | exact (by kernel_rfl:_=15) | exact (by kernel_rfl:_=16) | exact (by kernel_rfl:_=17) | exact (by kernel_rfl:_=18) | exact (by kernel_rfl:_=19) | exact (by kernel_rfl:_=20) | exact (by kernel_rfl:_=21) | exact (by kernel_rfl:_=22) | exact (by kernel_rfl:_=23) | exact (by kernel_rfl:_=24) | exact (by kernel_rfl:_=25) | exact (by kernel_rfl:_=26) | exact (by kernel_rfl:_=27) | exact (by kernel_rfl:_=28) | exact (by kernel_rfl:_=29) | exact (by kernel_rfl:_=30) | exact (by kernel_rfl:_=31) | exact (by kernel_rfl:_=32) | exact (by kernel_rfl:_=33) | exact (by kernel_rfl:_=34) | exact (by kernel_rfl:_=35) | exact (by kernel_rfl:_=36) | exact (by kernel_rfl:_=37) | exact (by kernel_rfl:_=38) | exact (by kernel_rfl:_=39) | exact (by kernel_rfl:_=40) | exact (by kernel_rfl:_=41) | exact (by kernel_rfl:_=42) | exact (by kernel_rfl:_=43) | exact (by kernel_rfl:_=44) | exact (by kernel_rfl:_=45) | exact (by kernel_rfl:_=46) | exact (by kernel_rfl:_=47) | exact (by kernel_rfl:_=48) | exact (by kernel_rfl:_=49) | exact (by kernel_rfl:_=50) | exact (by kernel_rfl:_=51) | exact (by kernel_rfl:_=52) | exact (by kernel_rfl:_=53) | exact (by kernel_rfl:_=54) | exact (by kernel_rfl:_=55) | exact (by kernel_rfl:_=56) | exact (by kernel_rfl:_=57) | exact (by kernel_rfl:_=58) | exact (by kernel_rfl:_=59) | exact (by kernel_rfl:_=60) | exact (by kernel_rfl:_=61) | exact (by kernel_rfl:_=62) | exact (by kernel_rfl:_=63) | exact (by kernel_rfl:_=64) | exact (by kernel_rfl:_=65) | exact (by kernel_rfl:_=66) | exact (by kernel_rfl:_=67) | exact (by kernel_rfl:_=68) | exact (by kernel_rfl:_=69)) (hi:ops[i]?=some oi:=by rfl) (hd:oi.dst=some d:=by rfl) (hs:Region.noSelect ops=true:=by kernel_rfl) (hf:Region.free md ops listed i=true:=by kernel_rfl) (hr:(Region.ready md ops listed).contains i=true:=by kernel_rfl)
  (hQ:∀ c a w,Q (.panic c) (a.put (some d) v) w->Q (.panic c) a w:=by exact fun _ _ _ h=>h)
  (hy:YieldsIf P ops S oi v a:=by (refine Or.inl ⟨by rfl,?_⟩;intro w hSw;(try dsimp +zetaDelta only [Cl,Ci,Cp,Ct] at hSw);go_simp;all_goals with_reducible rfl))
  (hS:S w:=by assumption) (hl:listed.setIfInBounds i true=listed':=by first | (simp only [List.setIfInBounds_toArray,List.set_cons_zero,List.set_cons_succ];rfl) | rfl) (ha:a.put (some d) v=a':=by first | (go_frame;rfl) | rfl):wpAnyH P md ops Q S (fuel+1) listed a w:=by
 subst hl ha
 exact takeO i (some d) hi hd hs hf hr hQ hy hS h
theorem tr {P:Program} {ops:Array Oper} {Q:Exit->Act->World->Prop} {md:Region.Mode} {S:World->Prop} (s:Nat) {i:Nat} {d:Tmp} {oi:Oper} {fuel:Nat} {listed listed':Array Bool} {a a':Act} {w:World}
  (h:wpAnyH P md ops Q S fuel listed' a' w) (hn:nx s listed=i:=by first | exact (by kernel_rfl:_=0) | exact (by kernel_rfl:_=1) | exact (by kernel_rfl:_=2) | exact (by kernel_rfl:_=3) | exact (by kernel_rfl:_=4) | exact (by kernel_rfl:_=5) | exact (by kernel_rfl:_=6) | exact (by kernel_rfl:_=7) | exact (by kernel_rfl:_=8) | exact (by kernel_rfl:_=9) | exact (by kernel_rfl:_=10) | exact (by kernel_rfl:_=11) | exact (by kernel_rfl:_=12) | exact (by kernel_rfl:_=13) | exact (by kernel_rfl:_=14) | exact (by kernel_rfl:_=15) | exact (by kernel_rfl:_=16) | exact (by kernel_rfl:_=17) | exact (by kernel_rfl:_=18) | exact (by kernel_rfl:_=19) | exact (by kernel_rfl:_=20) | exact (by kernel_rfl:_=21) | exact (by kernel_rfl:_=22) | exact (by kernel_rfl:_=23) | exact (by kernel_rfl:_=24) | exact (by kernel_rfl:_=25) | exact (by kernel_rfl:_=26) | exact (by kernel_rfl:_=27) | exact (by kernel_rfl:_=28) | exact (by kernel_rfl:_=29) | exact (by kernel_rfl:_=30) | exact (by kernel_rfl:_=31) | exact (by kernel_rfl:_=32) | exact (by kernel_rfl:_=33) | exact (by kernel_rfl:_=34) | exact (by kernel_rfl:_=35) | exact (by kernel_rfl:_=36) | exact (by kernel_rfl:_=37) | exact (by kernel_rfl:_=38) | exact (by kernel_rfl:_=39) | exact (by kernel_rfl:_=40) | exact (by kernel_rfl:_=41) | exact (by kernel_rfl:_=42) | exact (by kernel_rfl:_=43) | exact (by kernel_rfl:_=44) | exact (by kernel_rfl:_=45) | exact (by kernel_rfl:_=46) | exact (by kernel_rfl:_=47) | exact (by kernel_rfl:_=48) | exact (by kernel_rfl:_=49) | exact (by kernel_rfl:_=50) | exact (by kernel_rfl:_=51) | exact (by kernel_rfl:_=52) | exact (by kernel_rfl:_=53) | exact (by kernel_rfl:_=54) | exact (by kernel_rfl:_=55) | exact (by kernel_rfl:_=56) | exact (by kernel_rfl:_=57) | exact (by kernel_rfl:_=58) | exact (by kernel_rfl:_=59) | exact (by kernel_rfl:_=60) | exact (by kernel_rfl:_=61) | exact (by kernel_rfl:_=62) | exact (by kernel_rfl:_=63) | exact (by kernel_rfl:_=64) | exact (by kernel_rfl:_=65) | exact (by kernel_rfl:_=66) | exact (by kernel_rfl:_=67) | exact (by kernel_rfl:_=68) | exact (by kernel_rfl:_=69)) (hi:ops[i]?=some oi:=by rfl) (hd:oi.dst=some d:=by rfl) (hs:Region.noSelect ops=true:=by kernel_rfl) (hf:Region.free md ops listed i=true:=by kernel_rfl) (hr:(Region.ready md ops listed).contains i=true:=by kernel_rfl)
  (hQ:∀ c a w,Q (.panic c) (a.put (some d) undef) w->Q (.panic c) a w:=by exact fun _ _ _ h=>h)
  (hy:YieldsIf P ops S oi undef a:=by exact Or.inr ⟨by rfl,by rfl⟩)
  (hS:S w:=by assumption) (hl:listed.setIfInBounds i true=listed':=by first | (simp only [List.setIfInBounds_toArray,List.set_cons_zero,List.set_cons_succ];rfl) | rfl) (ha:a.put (some d) undef=a':=by first | (go_frame;rfl) | rfl):wpAnyH P md ops Q S (fuel+1) listed a w:=by
 subst hl ha
 exact takeO i (some d) hi hd hs hf hr hQ hy hS h
theorem rdy {P:Program} {md:Region.Mode} {ops:Array Oper} {Q:Exit->Act->World->Prop} {S:World->Prop} {fuel:Nat} {listed:Array Bool} {a:Act} {w:World} (i:Nat) {o:Oper}
  (h:∀ K':Act->World->Prop,Shut (∀ a w,S w->(S w->wpAnyH P md ops Q S fuel (listed.setIfInBounds i true) a w)->K' a w)->if Region.wanted o (yielded ops a.tmps)=true then Oper.wp P o a w K' Q else K' (a.put o.dst undef) w)
  (hr:Region.ready md ops listed=[i]:=by kernel_rfl) (ho:ops[i]?=some o:=by rfl):wpAnyH P md ops Q S (fuel+1) listed a w:=
 wpAnyH_ready hr (by simp) (AllReadyH.cons ho h AllReadyH.nil)
theorem dn {P:Program} {Q:Exit->Act->World->Prop} {S:World->Prop} {fuel:Nat} {a:Act} {w:World}
  (h:Q .normal a w) (hr:Region.ready md ops listed=[]:=by kernel_rfl):wpAnyH P md ops Q S fuel listed a w:=wpAnyH_done hr h fuel
theorem rg {P:Program} {ops:Array Oper} {Q:Exit->Act->World->Prop} {id:Nat} {a:Act} {w:World} (S:World->Prop)
  (h:S w.drew->wpAnyH P .any ops Q S ops.size (Array.replicate ops.size false) a w.drew) (hm:P.follows .mixedOrders=true:=by kernel_rfl) (hS:Hid (S w.drew):=by first | with_reducible assumption | assumption):(Code.region id ops true).wp P Q a w:=
 wp_region_held_drew hm hS h
theorem hk {P:Program} {md:Region.Mode} {ops:Array Oper} {Q:Exit->Act->World->Prop} {S:World->Prop} {fuel:Nat} {l l':Array Bool} {a a':Act} {w:World} {K:Act->World->Prop}
  (hK:Shut (∀ a w,S w->(S w->wpAnyH P md ops Q S fuel l a w)->K a w)) (h:S w->wpAnyH P md ops Q S fuel l' a' w) (hS:Hid (S w):=by first | with_reducible assumption | assumption)
  (hl:l=l':=by first | (simp only [List.setIfInBounds_toArray,List.set_cons_zero,List.set_cons_succ];rfl) | rfl) (ha:a=a':=by first | (go_frame;rfl) | rfl):K a w:=by
 subst hl ha
 exact hK.out _ _ hS h
def Rd (w:World) (a:Option Addr) (n c:Nat) (xs:List Value):Prop:=
 xs.length=n/\n<=c/\c<=maxLen/\(a=none->c=0)/\∀ i,i < n->∃ b off,a=some ⟨b,off,none⟩/\b < w.heap.size/\w.cell? ⟨b,off+i,none⟩=xs[i]?
theorem X3 {k:IntKind} {a b:Int} (h:a=b):Ending.returned (.int k a)=.returned (.int k b):=by rw [h]
theorem cell?_lt {w:World} {a:Addr} {v:Value} (h:w.cell? a=some v):a.block < w.heap.size:=by
 apply Classical.byContradiction;intro A;have:w.heap[a.block]?=none:=by simp;omega
 simp [World.cell?,this] at h
theorem Rd.below {a:Option Addr} {n c:Nat} (h:Rd w a n c xs) (hb:Below B w w') (hB:B=w.heap.size):Rd w' a n c xs:=by
 obtain ⟨h1,C,D,E,F⟩:=h;subst hB;refine ⟨h1,C,D,E,fun i hi=>?_⟩;obtain ⟨b,off,e,A,G⟩:=F i hi;exact ⟨b,off,e,nt A hb.size,by rw [hb.cell (p:=⟨b,off+i,none⟩) A];exact G⟩
def Drew (w w':World):Prop:=∃ n,w'=w.drewN n
theorem Drew.one (w:World) (n:Nat):Drew w (w.drewN n):=⟨n,rfl⟩
theorem Drew.two (w:World) (n m:Nat):Drew w ((w.drewN n).drewN m):=⟨n+m,by rw [World.drewN_drewN]⟩
theorem Drew.below (h:Drew w w') (B:Nat):Below B w w':=by obtain ⟨n,rfl⟩:=h;exact below_drewN (bf _ _) n
def Blk (w:World) (g:Nat) (e:TypeId) (cs:List Value):Prop:=w.heap[g]?=some (.cells cs.toArray e (0,0))
theorem Blk.cell {w:World} {g:Nat} {e:TypeId} {cs:List Value} (h:Blk w g e cs) (j:Nat):w.cell? ⟨g,j,none⟩=cs[j]?:=by
 rw [cell_of_row w g j _ e (0,0) h];simp
theorem c3 {w:World} {g:Nat} {e:TypeId} {v0 v1 v2:Value} (h:Blk w g e [v0,v1,v2]):w.cell? ⟨g,0,none⟩=some v0/\w.cell? ⟨g,1,none⟩=some v1/\w.cell? ⟨g,2,none⟩=some v2:=
 ⟨h.cell 0,h.cell 1,h.cell 2⟩
theorem c8 {w:World} {g:Nat} {e:TypeId} {v0 v1 v2 v3 v4 v5 v6 v7:Value} (h:Blk w g e [v0,v1,v2,v3,v4,v5,v6,v7]):w.cell? ⟨g,0,none⟩=some v0/\w.cell? ⟨g,1,none⟩=some v1/\w.cell? ⟨g,2,none⟩=some v2/\w.cell? ⟨g,3,none⟩=some v3/\w.cell? ⟨g,4,none⟩=some v4/\w.cell? ⟨g,5,none⟩=some v5/\w.cell? ⟨g,6,none⟩=some v6/\w.cell? ⟨g,7,none⟩=some v7:=
 ⟨h.cell 0,h.cell 1,h.cell 2,h.cell 3,h.cell 4,h.cell 5,h.cell 6,h.cell 7⟩
theorem c11 {w:World} {g:Nat} {e:TypeId} {v0 v1 v2 v3 v4 v5 v6 v7 v8 v9 v10:Value} (h:Blk w g e [v0,v1,v2,v3,v4,v5,v6,v7,v8,v9,v10]):w.cell? ⟨g,0,none⟩=some v0/\w.cell? ⟨g,1,none⟩=some v1/\w.cell? ⟨g,2,none⟩=some v2/\w.cell? ⟨g,3,none⟩=some v3/\w.cell? ⟨g,4,none⟩=some v4/\w.cell? ⟨g,5,none⟩=some v5/\w.cell? ⟨g,6,none⟩=some v6/\w.cell? ⟨g,7,none⟩=some v7/\w.cell? ⟨g,8,none⟩=some v8/\w.cell? ⟨g,9,none⟩=some v9/\w.cell? ⟨g,10,none⟩=some v10:=
 ⟨h.cell 0,h.cell 1,h.cell 2,h.cell 3,h.cell 4,h.cell 5,h.cell 6,h.cell 7,h.cell 8,h.cell 9,h.cell 10⟩
theorem c12 {w:World} {g:Nat} {e:TypeId} {v0 v1 v2 v3 v4 v5 v6 v7 v8 v9 v10 v11:Value} (h:Blk w g e [v0,v1,v2,v3,v4,v5,v6,v7,v8,v9,v10,v11]):w.cell? ⟨g,0,none⟩=some v0/\w.cell? ⟨g,1,none⟩=some v1/\w.cell? ⟨g,2,none⟩=some v2/\w.cell? ⟨g,3,none⟩=some v3/\w.cell? ⟨g,4,none⟩=some v4/\w.cell? ⟨g,5,none⟩=some v5/\w.cell? ⟨g,6,none⟩=some v6/\w.cell? ⟨g,7,none⟩=some v7/\w.cell? ⟨g,8,none⟩=some v8/\w.cell? ⟨g,9,none⟩=some v9/\w.cell? ⟨g,10,none⟩=some v10/\w.cell? ⟨g,11,none⟩=some v11:=
 ⟨h.cell 0,h.cell 1,h.cell 2,h.cell 3,h.cell 4,h.cell 5,h.cell 6,h.cell 7,h.cell 8,h.cell 9,h.cell 10,h.cell 11⟩
theorem c27 {w:World} {g:Nat} {e:TypeId} {v0 v1 v2 v3 v4 v5 v6 v7 v8 v9 v10 v11 v12 v13 v14 v15 v16 v17 v18 v19 v20 v21 v22 v23 v24 v25 v26:Value} (h:Blk w g e [v0,v1,v2,v3,v4,v5,v6,v7,v8,v9,v10,v11,v12,v13,v14,v15,v16,v17,v18,v19,v20,v21,v22,v23,v24,v25,v26]):w.cell? ⟨g,0,none⟩=some v0/\w.cell? ⟨g,1,none⟩=some v1/\w.cell? ⟨g,2,none⟩=some v2/\w.cell? ⟨g,3,none⟩=some v3/\w.cell? ⟨g,4,none⟩=some v4/\w.cell? ⟨g,5,none⟩=some v5/\w.cell? ⟨g,6,none⟩=some v6/\w.cell? ⟨g,7,none⟩=some v7/\w.cell? ⟨g,8,none⟩=some v8/\w.cell? ⟨g,9,none⟩=some v9/\w.cell? ⟨g,10,none⟩=some v10/\w.cell? ⟨g,11,none⟩=some v11/\w.cell? ⟨g,12,none⟩=some v12/\w.cell? ⟨g,13,none⟩=some v13/\w.cell? ⟨g,14,none⟩=some v14/\w.cell? ⟨g,15,none⟩=some v15/\w.cell? ⟨g,16,none⟩=some v16/\w.cell? ⟨g,17,none⟩=some v17/\w.cell? ⟨g,18,none⟩=some v18/\w.cell? ⟨g,19,none⟩=some v19/\w.cell? ⟨g,20,none⟩=some v20/\w.cell? ⟨g,21,none⟩=some v21/\w.cell? ⟨g,22,none⟩=some v22/\w.cell? ⟨g,23,none⟩=some v23/\w.cell? ⟨g,24,none⟩=some v24/\w.cell? ⟨g,25,none⟩=some v25/\w.cell? ⟨g,26,none⟩=some v26:=
 ⟨h.cell 0,h.cell 1,h.cell 2,h.cell 3,h.cell 4,h.cell 5,h.cell 6,h.cell 7,h.cell 8,h.cell 9,h.cell 10,h.cell 11,h.cell 12,h.cell 13,h.cell 14,h.cell 15,h.cell 16,h.cell 17,h.cell 18,h.cell 19,h.cell 20,h.cell 21,h.cell 22,h.cell 23,h.cell 24,h.cell 25,h.cell 26⟩
theorem Blk.frozen {w:World} {g:Nat} {e:TypeId} {cs:List Value} (h:Blk w g e cs) (j:Nat):w.frozen? ⟨g,j,none⟩=false:=frozen_of_row w g j _ e h
theorem Blk.lt {w:World} {g:Nat} {e:TypeId} {cs:List Value} (h:Blk w g e cs):g < w.heap.size:=(Array.getElem?_eq_some_iff.1 h).1
theorem Blk.set {w:World} {g:Nat} {e:TypeId} {cs:List Value} (h:Blk w g e cs) (j:Nat) (u:Value):Blk (w.setCell ⟨g,j,none⟩ u) g e (cs.set j u):=by
 unfold Blk at *;rw [heap_setCell_same w g j _ e u h];simp
theorem Blk.below {w w':World} {g:Nat} {e:TypeId} {cs:List Value} (h:Blk w g e cs) {B:Nat} (hb:Below B w w') (hg:g < B):Blk w' g e cs:=by
 unfold Blk at *;rw [hb.block g hg];exact h
theorem Blk.drewN {w:World} {g:Nat} {e:TypeId} {cs:List Value} (h:Blk w g e cs) (n:Nat):Blk (w.drewN n) g e cs:=h
theorem Blk.alloc {w:World} {g:Nat} {e:TypeId} {cs:List Value} (h:Blk w g e cs) (o:Obj):Blk (w.alloc o) g e cs:=by
 unfold Blk at *;rw [Below.heap_alloc w o g (Blk.lt h)];exact h
theorem Blk.rd {w:World} {g:Nat} {e:TypeId} {cs:List Value} (h:Blk w g e cs) (n c:Nat) (xs:List Value) (hx:xs.length=n) (hn:n<=c) (hc:c<=maxLen) (hp:∀ i,i < n->cs[i]?=xs[i]?):Rd w (some ⟨g,0,none⟩) n c xs:=
 ⟨hx,hn,hc,by simp,fun i hi=>⟨g,0,rfl,h.lt,by rw [h.cell,<- hp i hi];simp⟩⟩
theorem ze {w:World} {base e g n cap size:Nat} {xs:List Value} (h:w.ownsRow base e size (.slice (some ⟨g,0,none⟩) n cap) n xs):
  ∃ spare:List Value,spare.length+n * size=cap * size/\Blk w g e (xs++spare):=by
 rcases h.2 with ⟨h',_⟩ | ⟨g',cap',cur,h',hb,hg,hn,_,hs,htake⟩
 ·simp at h'
 simp only [Value.slice.injEq,Option.some.injEq,Addr.mk.injEq,and_true,true_and] at h'
 obtain ⟨rfl,rfl⟩:=h';refine ⟨cur.toList.drop (n * size),?_,?_⟩
 ·have:=Nat.mul_le_mul_right size hn
  simp [hs];omega
 unfold Blk
 rw [<- htake,List.take_append_drop];simpa using hg
theorem zl {w:World} {base:Nat} {e:TypeId} {size:Nat} {v:Value} {n:Nat} {xs:List Value} (h:w.ownsRow base e size v n xs):∃ ao cap,v=.slice ao n cap:=by
 rcases h.2 with ⟨rfl,rfl⟩ | ⟨g,cap,cur,rfl,_⟩
 ·exact ⟨none,0,rfl⟩
 exact ⟨_,_,rfl⟩
theorem Yc {w:World} {base:Nat} {e:TypeId} {ao:Option Addr} {n cap:Nat} {xs:List Value} (h:w.ownsRow base e 1 (.slice ao n cap) n xs):Rd w ao n cap xs:=by
 have A:xs.length=n:=by simpa using h.1
 rcases h.2 with ⟨h',rfl⟩ | ⟨g,cap',cur,h',_,hg,hn,hm,hs,htake⟩
 ·simp at h';obtain ⟨rfl,rfl⟩:=h'
  exact ⟨A,nl _,by unfold maxLen;omega,fun _=>rfl,fun i hi=>by omega⟩
 simp only [Value.slice.injEq] at h'
 obtain ⟨rfl,_,rfl⟩:=h';refine ⟨A,hn,hm,by simp,fun i hi=>⟨g,0,rfl,(Array.getElem?_eq_some_iff.1 hg).1,?_⟩⟩;rw [cell_of_row w g _ cur e _ hg,<- htake,List.getElem?_take,ip];simp
theorem Qa {w w':World} {base:Nat} {e:TypeId} {size:Nat} {v:Value} {n:Nat} {xs:List Value} (h:w.ownsRow base e size v n xs) (hb:Below w.heap.size w w'):w'.ownsRow base e size v n xs:=
 h.kept (row:=none) ⟨hb.os,hb.tape,hb.output,hb.size,fun k A _=>hb.block k A⟩ (by cases h1:v.ownBlock <;> simp)
theorem Blk.setCells {g:Nat} {e:TypeId}:∀ (A:List Value) {w:World} {cs:List Value} (h:Blk w g e cs) (o:Nat) (B:o+A.length<=cs.length),
  Blk (w.setCells g o A) g e (cs.take o++(A++cs.drop (o+A.length))):=by
 intro A;induction A with
 | nil=>intro w cs h o B;simpa [World.setCells] using h
 | cons u r D=>
  intro w cs h o B;simp only [List.length_cons] at B;have h1:=D (h.set o u) (o+1) (by simp;omega);rw [World.setCells]
  have C:(cs.set o u).take (o+1)++(r++(cs.set o u).drop (o+1+r.length))=cs.take o++(u :: r++cs.drop (o+(u :: r).length)):=by
   rw [List.take_succ_eq_append_getElem (by simp;omega),List.take_set_of_le (by omega),List.drop_set_of_lt (by omega)];simp [show o+1+r.length=o+(r.length+1) by omega]
  rw [C] at h1;exact h1
theorem Zd (g:Nat):∀ (A:List Value) (o:Nat) (w:World),(w.setCells g o A).os=w.os/\(w.setCells g o A).tape=w.tape/\(w.setCells g o A).output=w.output/\(w.setCells g o A).heap.size=w.heap.size:=by
 intro A;induction A with
 | nil=>intro o w;exact ⟨rfl,rfl,rfl,rfl⟩
 | cons u r E=>
  intro o w;obtain ⟨h1,B,C,D⟩:=E (o+1) (w.setCell ⟨g,o,none⟩ u);rw [World.setCells];refine ⟨h1,B,C,D.trans ?_⟩;simp [World.setCell]
theorem Src.one' {P:Program} {tx e':TypeId} (B:P.underlying tx=some (.slice e')) (w:World) (u:Value) (e:TypeId) (h1:u.oneCell'=true):Src P 1 tx (.slice (some ⟨w.heap.size,0,none⟩) 1 1) 1 [u] (w.alloc (.cells #[u] e)):=by
 refine Src.ofSlice _ B _ 1 1 [u] rfl ?_ (by intro x C;simp at C;subst C;exact h1);intro j x A;match j,A with
 | 0,A=>simp at A;subst A;rw [Addr.add_lit,cell_of_row _ _ _ _ e (0,0) (heap_alloc_new w _)];simp
theorem zp {P:Program} (w:World) (base:Nat) (t tx ty e:TypeId) (i:TypeInfo) (z:Value) (size H:Nat) (ht:P.underlying t=some (.slice e)) (hi:P.info? e=some i) (hz:i.zero=some z)
  (Q:i.size=size) (Y:i.bytes=H) (c:z.cells.size=size) (h:0 < size)
  (v:Value) (n:Nat) (xs:List Value) (C:w.ownsRow base e size v n xs)
  (x:Value) (m:Nat) (A:List Value) (hs:Src P size tx x m A w)
  (T:n+m<=maxLen) (F:(n+m) * H<=140737488355328) (L:base<=w.heap.size):
  ∃ v' w',(Builtin.append_ #[t,tx] ty #[v,x]).run P w=.ok v' w'/\w'.ownsRow base e size v' (n+m) (xs++A)/\w.grownBy w' v.ownBlock:=by
 subst Q;subst Y;have b:=hs.newsLen;have V:n+m<=9223372036854775807:=by simp only [maxLen] at T;omega
 have B:(xs++A).length=(n+m) * i.size:=by rw [List.length_append,C.1,b,Nat.add_mul]
 have I:∀ (D:Nat),D < n+m->∀ (row:Option Nat),
   (w.drew.alloc (.cells ((xs++A).toArray++Builtin.zeroCells z.cells (grownCap w (n+m) D e - (n+m))) e)).ownsRow base e i.size
    (.slice (some ⟨w.heap.size,0,none⟩) (n+m) (grownCap w (n+m) D e)) (n+m) (xs++A)∧
   w.grownBy (w.drew.alloc (.cells ((xs++A).toArray++Builtin.zeroCells z.cells (grownCap w (n+m) D e - (n+m))) e)) row:=by
  intro D o row;have Z:=grownCap_ge w (n+m) D e;have M:grownCap w (n+m) D e<=maxLen:=grownCap_le_maxLen w (n+m) D e T;refine ⟨⟨B,.inr ⟨w.heap.size,_,_,rfl,L,hn_ w.drew _,Z,M,?_,?_⟩⟩,⟨rfl,rfl,rfl,by simp,fun k G _=>heap_alloc_old w.drew _ G⟩⟩
  ·rw [Array.size_append,List.size_toArray,size_zeroCells,c,B,<- Nat.add_mul]
   congr 1;omega
  ·rw [Array.toList_append,<- B]
   exact List.take_left
 rcases C.2 with ⟨rfl,rfl⟩ | ⟨g,cap,cur,rfl,hbg,hg,hnc,M,hcs,htake⟩
 ·obtain rfl:xs=[]:=List.eq_nil_of_length_eq_zero (by simpa using C.1)
  by_cases f:m=0
  ·subst f
   obtain rfl:A=[]:=List.eq_nil_of_length_eq_zero (by simpa using b);refine ⟨.slice none 0 0,w,?_,World.ownsRow_nil w base e i.size,World.grownBy.refl _ _⟩;have d:=hs.cells;rcases hs.kind with ⟨e',G⟩ | G <;> simp [Builtin.append_,run_underlying ht,run_underlying G,sizeOf,typeInfo,hi,hs.len,d]
  have R:=run_append_grow_src (P:=P) w t tx ty e i z ht hi hz none 0 0 [] (run_firstCells_none w.drew i.size 0 0 0) x m A hs (by omega) (by omega) (growslice_fits (by omega) F)
  have K:=I 0 (by omega) (Value.ownBlock (.slice none 0 0));exact ⟨_,_,R,K.1,K.2⟩
 by_cases E:n+m<=cap
 ·have U:n * i.size+A.length<=cur.size:=by rw [b,hcs,<- Nat.add_mul];exact Nat.mul_le_mul_right _ E
  have J:Blk w g e cur.toList:=by unfold Blk;simpa using hg
  have R:=run_append_room_src (P:=P) w t tx ty e i ht hi g 0 n cap x m A hs E (by
    intro j l;rw [J.cell];simp;omega) (by intro j _;exact J.frozen _)
  rw [Nat.zero_add] at R;have W:=J.setCells A (n * i.size) (by simpa using U);refine ⟨_,_,R,⟨B,.inr ⟨g,cap,_,rfl,hbg,W,E,M,?_,?_⟩⟩,⟨(Zd g A _ w).1,(Zd g A _ w).2.1,(Zd g A _ w).2.2.1,Nat.le_of_eq (Zd g A _ w).2.2.2.symm,fun k a G=>World.heap_setCells_other w g _ A a (fun e=>G (by simp [Value.ownBlock,e]))⟩⟩
  ·simp only [List.size_toArray,List.length_append,List.length_take,List.length_drop,Array.length_toList]
   omega
  rw [htake,<- B,List.toList_toArray,<- List.append_assoc]
  exact List.take_left
 have N:∀ j u,xs[j]?=some u->w.cell? ((⟨g,0,none⟩:Addr).add j)=some u:=C.cells (g:=g) rfl
 have R:=run_append_grow_src (P:=P) w t tx ty e i z ht hi hz (some ⟨g,0,none⟩) n cap xs (run_firstCells_some w.drew i.size n ⟨g,0,none⟩ n cap xs C.1 (by simpa using N)) x m A hs (by omega) (by omega) (growslice_fits (by omega) F);have K:=I cap (by omega) (Value.ownBlock (.slice (some ⟨g,0,none⟩) n cap));exact ⟨_,_,R,K.1,K.2⟩
theorem xa9 {P:Program} {w:World} {ops:Array Oper} {rest:List Oper} {o:Oper} {a:Act} {Q:Exit->Act->World->Prop} (M:o.guard=none) (s x:Operand) (t tx:TypeId)
  (ho:o.op=.call {callee:=.builtin .append,args:=#[s,x],argTypes:=#[t,tx]})
  (base:Nat) (e:TypeId) (i:TypeInfo) (z:Value) (size A:Nat) (ht:P.underlying t=some (.slice e)) (hi:P.info? e=some i) (hz:i.zero=some z)
  (G:i.size=size) (L:i.bytes=A) (R:z.cells.size=size) (N:0 < size)
  (so:Option Addr) (n sc:Nat) (xs:List Value) (hs:a.eval s=.slice so n sc) (H:w.ownsRow base e size (.slice so n sc) n xs)
  (xv:Value) (m:Nat) (C:List Value) (hx:a.eval x=xv) (I:Src P size tx xv m C w)
  (J:n+m<=maxLen) (E:(n+m) * A<=140737488355328) (F:base<=w.heap.size)
  (h:∀ D B w',w'.ownsRow base e size (.slice D (n+m) B) (n+m) (xs++C)->w.grownBy w' (Value.ownBlock (.slice so n sc))->wpList P ops Q rest (a.put o.dst (.slice D (n+m) B)) w'):wpList P ops Q (o :: rest) a w:=by
 refine wpList_plain M fun K V=>?_;obtain ⟨Y,w',W,T,U⟩:=zp (P:=P) w base t tx o.type e i z size A ht hi hz G L R N _ n xs H xv m C I J E F;obtain ⟨D,B,rfl⟩:=zl T;unfold Oper.wp execOp;simp only [ho,resolve,invoke,builtin,Sem.run_bind,Sem.run_pure,Result.andThen_ok,List.map_toArray,List.map_cons,List.map_nil,hs,hx,W];exact V _ _ (h D B w' T U)
theorem Xa7 (w:World) (xs:List Value) (h:xs=[]):Rd w none 0 0 xs:=by
 subst h;exact ⟨rfl,nl _,by unfold maxLen;omega,fun _=>rfl,fun i hi=>by omega⟩
theorem Qc {w:World} {base:Nat} {e:TypeId} {size:Nat} {ao:Option Addr} {n cap:Nat} {xs:List Value} (h:w.ownsRow base e size (.slice ao n cap) n xs) (hn:0 < n):∃ g,ao=some ⟨g,0,none⟩/\base<=g:=by
 rcases h.2 with ⟨h',rfl⟩ | ⟨g,cap',cur,h',hb,_⟩
 ·omega
 simp at h';obtain ⟨rfl,_⟩:=h';exact ⟨g,rfl,hb⟩
theorem zb {a b c:World} {row:Option Nat} (h:a.grownBy b row) (k:b.grownBy c row):a.grownBy c row:=
 ⟨k.os.trans h.os,k.tape.trans h.tape,k.output.trans h.output,nr h.size k.size,fun i hi A=>(k.block i (nt hi h.size) A).trans (h.block i hi A)⟩
theorem xO (w:World) (o:Obj) (row:Option Nat):w.grownBy (w.alloc o) row:=World.grownBy_alloc w o row
def lowI (x:Int) (n:Int):Int:=IntKind.u64.wrap x % n
theorem XaU (n:Int):IntKind.u64.wrap n=n % 18446744073709551616:=by simp [IntKind.wrap,IntKind.bits,IntKind.signed]
theorem zh (x n:Int) (h1:1<=n):0<=lowI x n/\lowI x n < n:=⟨Int.emod_nonneg _ (by omega),Int.emod_lt_of_pos _ (by omega)⟩
theorem Xal (x n:Int) (h1:1<=n) (h2:n<=9223372036854775807):wrap64 ((IntKind.u64.wrap x).tmod n)=lowI x n:=by
 have h0:0<=IntKind.u64.wrap x:=by rw [XaU];omega
 have A:=zh x n h1;rw [Int.tmod_eq_emod_of_nonneg h0];show wrap64 (lowI x n)=lowI x n;exact IntWalk.wrap64_in _ ⟨by omega,by omega⟩
theorem yc {α β:Type} (f:α->List β) (n:Nat) (hf:∀ x,(f x).length=n):∀ (l:List α) (i j:Nat),j < n->(l.flatMap f)[i * n+j]?=(l[i]?).bind fun x=>(f x)[j]?:=by
 intro l;induction l with
 | nil=>intro i j _;simp
 | cons a r B=>
  intro i j A;rw [List.flatMap_cons];cases i with
  | zero=>rw [Nat.zero_mul,Nat.zero_add,List.getElem?_append_left (by rw [hf];exact A)];simp
  | succ i=>
   rw [List.getElem?_append_right (by rw [hf,Nat.add_mul];omega),hf,show (i+1) * n+j - n=i * n+j by rw [Nat.add_mul];omega,B i j A];simp
theorem Qq {α β:Type} (f:α->List β) (n:Nat) (hf:∀ x,(f x).length=n):∀ (l:List α) (i j:Nat) (v:β) (x A:α),l[i]?=some x->j < n->f A=(f x).set j v->(l.flatMap f).set (i * n+j) v=(l.set i A).flatMap f:=by
 intro l;induction l with
 | nil=>intro i j v x A h;simp at h
 | cons a r D=>
  intro i j v x A h C B;cases i with
  | zero=>
   simp at h;subst h;rw [List.flatMap_cons,Nat.zero_mul,Nat.zero_add,List.set_append_left _ _ (by rw [hf];exact C),<- B];simp
  | succ i=>
   rw [List.flatMap_cons,List.set_append_right _ _ (by rw [hf,Nat.add_mul];omega),hf,show (i+1) * n+j - n=i * n+j by rw [Nat.add_mul];omega,D i j v x A (by simpa using h) C B];simp
theorem zc {α β:Type} (f:α->List β) (n:Nat) (hf:∀ x,(f x).length=n) (l:List α):(l.flatMap f).length=l.length * n:=by
 induction l with
 | nil=>simp
 | cons a r A=>rw [List.flatMap_cons,List.length_append,hf,A,List.length_cons,Nat.add_mul];omega
section
open Go.RowKit Go.ChangeShapes Go.WideShapes Go.Deep
def RdE {α:Type} (enc:α->List Value) (size:Nat) (w:World) (a:Option Addr) (n c:Nat) (l:List α):Prop:=
 l.length=n/\n<=c/\c<=maxLen/\(a=none->c=0)/\∀ i x,l[i]?=some x->∃ b off,a=some ⟨b,off,none⟩/\b < w.heap.size/\∀ j,j < size->w.cell? ⟨b,off+i * size+j,none⟩=(enc x)[j]?
theorem RdE.below {α:Type} {enc:α->List Value} {size:Nat} {w w':World} {a:Option Addr} {n c B:Nat} {l:List α} (h:RdE enc size w a n c l) (hb:Below B w w') (hB:B=w.heap.size):RdE enc size w' a n c l:=by
 obtain ⟨h1,C,D,E,F⟩:=h;subst hB;refine ⟨h1,C,D,E,fun i x hi=>?_⟩;obtain ⟨b,off,e,A,G⟩:=F i x hi;exact ⟨b,off,e,nt A hb.size,fun j H=>by rw [hb.cell (p:=⟨b,off+i * size+j,none⟩) A];exact G j H⟩
theorem RdE.nil0 {α:Type} {enc:α->List Value} {size:Nat} {w:World} {a:Option Addr} {n c:Nat} {l:List α} (h:RdE enc size w a n c l):a=none->n=0/\c=0:=fun e=>by
 have:=h.2.2.2.1 e;have:=h.2.1;omega
section
variable {H:Type} {enc:TypeId×Value->H} {P:Program} {w:World} {base:Nat} {spare:Nat->Bool} {held:Bool}
theorem QE {t e:TypeId} {fs:Array Field} {fuel:Nat} {cs:List Value} {x:DataW H×List MemPlace} (ht:P.underlying t=some (.slice e)) (he:P.underlying e=some (.struct fs))
  (F:oneCellFields P fs=true) (hC:P.cellsOf e=fs.size) (h:DataW.trod enc P w base spare held fuel t cs=some x):
  (cs=[.slice none 0 0]/\x=(.nil,[]))∨
  ∃ (a:Addr) (len cap m:Nat) (D:Nat->DataW H) (Pl:Nat->List MemPlace),cs=[.slice (some a) len cap]/\base<=a.block/\len<=cap/\cap<=maxLen/\m=(if spare a.block then cap else len)∧
  x=(.slice ((List.range len).map D) ((List.range (m - len)).map fun j=>D (len+j)),MemPlace.row a (m * fs.size)++(List.range m).flatMap Pl)∧
  ∀ i,i < m->∃ (B:List (DataW H×List MemPlace)) (n:Nat),D i=.agg (B.map (·.1))/\Pl i=B.flatMap (·.2)/\B.length=fs.size∧
  ∀ (j:Nat) (f:Field),fs[j]?=some f->∃ (v:Value) (y:DataW H×List MemPlace),w.cell? (a.add (i * fs.size+j))=some v/\B[j]?=some y/\DataW.trod enc P w base spare held n f.type [v]=some y:=by
 rcases open_slice ht h with h0 | ⟨a,len,cap,m,n,D,Pl,hcs,hb,hl,hm,hmm,hx,hi⟩
 ·exact .inl h0
 refine .inr ⟨a,len,cap,m,D,Pl,hcs,hb,hl,hm,hmm,by rw [hC] at hx;exact hx,fun i J=>?_⟩
 obtain ⟨A,T,N⟩:=hi i J;rw [hC] at T;obtain ⟨B,c,Y,Q,U,R,W⟩:=DataW.trod_struct he N;obtain ⟨_,V,I⟩:=World.cells?_some T;simp only [Prod.mk.injEq] at Q;refine ⟨B,c,Q.1,Q.2,R,fun j f K=>?_⟩;obtain ⟨Z,M⟩:=hone_of F j f K;have L:j < fs.size:=(Array.getElem?_eq_some_iff.1 K).1;have C:=I j L;have b:A[j]?=some (A[j]'(by omega)):=le_ (by omega);have h1:=W j f K;rw [Z,M] at h1
 have E:(A.drop j).take 1=[A[j]'(by omega)]:=by
  rw [List.drop_eq_getElem_cons (by omega)];rfl
 rw [E] at h1;have G:B[j]?=some (B[j]'(by omega)):=le_ (by omega);refine ⟨_,_,?_,G,h1.trans G⟩;rw [<- Go.Deep.add_add,C,b]
theorem Qad {α:Type} (en:α->List Value) (N:Nonempty α) {t e:TypeId} {fs:Array Field} {d:DataW H} {p:List MemPlace} (ht:P.underlying t=some (.slice e)) (he:P.underlying e=some (.struct fs))
  (R:oneCellFields P fs=true) (hC:P.cellsOf e=fs.size) {a:Option Addr} {len cap:Nat} (A:α->Prop)
  (W:∀ (V:Nat->Value),(∀ j f,fs[j]?=some f->∃ (n:Nat) (y:DataW H×List MemPlace),DataW.trod enc P w base spare held n f.type [V j]=some y)->∃ x:α,A x/\∀ j,j < fs.size->(en x)[j]?=some (V j))
  (h:DataW.Trod enc P w base spare held t (.slice a len cap) d p) (Aa:fs.size≠0):∃ l:List α,RdE en fs.size w a len cap l/\∀ x∈l,A x:=by
 obtain ⟨q,u⟩:=h;rcases QE ht he R hC u with ⟨hcs,_⟩ | ⟨ad,len',cap',m,D,Pl,hcs,_,hl,hm,hmm,_,hi⟩
 ·simp [Value.cells] at hcs
  obtain ⟨rfl,rfl,rfl⟩:=hcs;exact ⟨[],⟨rfl,nl _,by unfold maxLen;omega,fun _=>rfl,fun i x C=>by simp at C⟩,by simp⟩
 simp [Value.cells] at hcs
 obtain ⟨rfl,rfl,rfl⟩:=hcs;have z:len<=m:=by rw [hmm];split <;> omega
 have Z:∀ i,i < len->∃ x:α,A x/\∀ j,j < fs.size->w.cell? (ad.add (i * fs.size+j))=(en x)[j]?:=by
  intro i B;obtain ⟨ys,n,_,_,_,G⟩:=hi i (by omega)
  have hv:∀ j,∃ v,(∀ f,fs[j]?=some f->w.cell? (ad.add (i * fs.size+j))=some v/\∃ (n':Nat) (y:DataW H×List MemPlace),DataW.trod enc P w base spare held n' f.type [v]=some y):=by
   intro j
   by_cases J:j < fs.size
   ·obtain ⟨v,y,h1,_,r⟩:=G j fs[j] (Array.getElem?_eq_getElem J)
    refine ⟨v,fun f F=>?_⟩;rw [Array.getElem?_eq_getElem J] at F;obtain rfl:=Option.some.inj F;exact ⟨h1,n,y,r⟩
   ·refine ⟨undef,fun f F=>?_⟩
    rw [Array.getElem?_eq_none (by omega)] at F;simp at F
  obtain ⟨V,U⟩:=Classical.axiomOfChoice hv;obtain ⟨x,M,C⟩:=W V (fun j f k=>(U j f k).2);exact ⟨x,M,fun j J=>by rw [C j J];exact (U j fs[j] (Array.getElem?_eq_getElem J)).1⟩
 have E:∃ g:Nat->α,∀ i,i < len->A (g i)/\∀ j,j < fs.size->w.cell? (ad.add (i * fs.size+j))=(en (g i))[j]?:=by
  have L:∀ i,∃ x:α,i < len->A x/\∀ j,j < fs.size->w.cell? (ad.add (i * fs.size+j))=(en x)[j]?:=by
   intro i
   by_cases B:i < len
   ·obtain ⟨x,C⟩:=Z i B;exact ⟨x,fun _=>C⟩
   ·obtain ⟨x⟩:=N;exact ⟨x,fun h=>absurd h B⟩
  exact Classical.axiomOfChoice L
 obtain ⟨g,M⟩:=E;refine ⟨(List.range len).map g,⟨by simp,hl,hm,by simp,fun i x C=>?_⟩,fun x C=>?_⟩
 ·have B:i < len:=by
   have:=(lg C).1;simpa using this
  have o:x=g i:=by simp [B] at C;exact C.symm
  subst o;obtain ⟨b,off,spot⟩:=ad;have I:=(M i B).2;have Y:=(M 0 (by omega)).2 0 (by omega);rw [Nat.zero_mul] at Y
  obtain ⟨s,T⟩:∃ s,w.cell? (({block:=b,off:=off,spot:=spot}:Addr).add (0+0))=some s:=by
   obtain ⟨ys,n,_,_,_,G⟩:=hi 0 (by omega);obtain ⟨v,y,h1,_,r⟩:=G 0 (fs[0]'(by omega)) (Array.getElem?_eq_getElem (by omega));rw [Nat.zero_mul] at h1;exact ⟨v,h1⟩
  have K:spot=none:=by simpa [Addr.add] using World.cell?_spot T
  subst K;have Q:=cell?_lt T;rw [Addr.add_lit] at Q;refine ⟨b,off,rfl,Q,fun j J=>?_⟩;have:=I j J;rw [Addr.add_lit] at this;rw [<- this,Nat.add_assoc]
 simp only [List.mem_map,List.mem_range] at C
 obtain ⟨i,c,rfl⟩:=C;exact (M i c).1
end
end
section
open Go.RowKit Go.ChangeShapes Go.WideShapes Go.Deep
section
variable {H:Type} {enc:TypeId×Value->H} {P:Program} {w:World} {base:Nat} {spare:Nat->Bool} {held:Bool}
theorem xaP {α:Type} (en:α->Value) (A:α->Prop) (J:Nonempty α) {t e:TypeId} {d:DataW H} {p:List MemPlace} (ht:P.underlying t=some (.slice e)) (hc:P.cellsOf e=1) {a:Option Addr} {len cap:Nat}
  (M:∀ v (n:Nat) (y:DataW H×List MemPlace),DataW.trod enc P w base spare held n e [v]=some y->∃ x:α,A x/\v=en x)
  (h:DataW.Trod enc P w base spare held t (.slice a len cap) d p):∃ l:List α,Rd w a len cap (l.map en)/\∀ x∈l,A x:=by
 obtain ⟨Q,T⟩:=h;rcases open_slice1 ht hc T with ⟨hcs,_⟩ | ⟨ad,len',cap',m,n,V,D,Pl,hcs,_,hl,hm,hmm,_,hi⟩
 ·simp [Value.cells] at hcs
  obtain ⟨rfl,rfl,rfl⟩:=hcs;exact ⟨[],Xa7 _ _ rfl,by simp⟩
 simp [Value.cells] at hcs
 obtain ⟨rfl,rfl,rfl⟩:=hcs;have U:len<=m:=by rw [hmm];split <;> omega
 have G:∀ i,∃ x:α,i < len->A x/\w.cell? (ad.add i)=some (en x):=by
  intro i
  by_cases C:i < len
  ·obtain ⟨h1,R⟩:=hi i (by omega)
   obtain ⟨x,I,L⟩:=M _ _ _ R;exact ⟨x,fun _=>⟨I,by rw [h1,L]⟩⟩
  ·obtain ⟨x⟩:=J;exact ⟨x,fun h=>absurd h C⟩
 obtain ⟨g,I⟩:=Classical.axiomOfChoice G;refine ⟨(List.range len).map g,⟨by simp,hl,hm,by simp,fun i C=>?_⟩,fun x L=>?_⟩
 ·obtain ⟨b,off,spot⟩:=ad
  have B:=(I i C).2;have F:=(I 0 (by omega)).2;have E:spot=none:=by simpa [Addr.add] using World.cell?_spot F
  subst E;have K:=cell?_lt F;rw [Addr.add_lit] at K;refine ⟨b,off,rfl,K,?_⟩;rw [Addr.add_lit] at B;rw [B];simp [C]
 simp only [List.mem_map,List.mem_range] at L
 obtain ⟨i,N,rfl⟩:=L;exact (I i N).1
theorem Xam {t e:TypeId} {d:DataW H} {p:List MemPlace} (ht:P.underlying t=some (.slice e)) (he:P.underlying e=some .string) (hc:P.cellsOf e=1) {a:Option Addr} {len cap:Nat}
  (h:DataW.Trod enc P w base spare held t (.slice a len cap) d p):∃ l:List ByteArray,Rd w a len cap (l.map Value.string)/\∀ s∈l,s.size<=maxLen:=
 xaP Value.string _ ⟨ByteArray.empty⟩ ht hc (fun v n y h=>by
  obtain ⟨b,A,_,g⟩:=DataW.trod_string he h
  simp at A
  exact ⟨b,g,A⟩) h
end
end
section
open Go.RowKit Go.ChangeShapes Go.WideShapes Go.Deep Go.Joins
section
variable {H:Type} {enc:TypeId×Value->H} {P:Program} {w:World} {base:Nat} {spare:Nat->Bool} {held:Bool}
theorem xaD {b0:Nat} {r:Reach} {t:TypeId} {fs:Array Field} {v:Value} {d:DataW H} {p:List MemPlace} (hs:P.underlying t=some (.struct fs)) (D:oneCellFields P fs=true) (hC:P.cellsOf t=fs.size)
  (hv:Value.okWide P w r b0 t v) (h:DataW.Trod enc P w base spare held t v d p):
  ∃ cs:Array Value,v=.agg cs/\cs.size=fs.size/\∀ (j:Nat) (f:Field),fs[j]?=some f->∃ (u:Value) (n:Nat) (y:DataW H×List MemPlace),cs[j]?=some u/\DataW.trod enc P w base spare held n f.type [u]=some y:=by
 obtain ⟨cs,rfl,E⟩:=okWide_struct hs hv;obtain ⟨I,K⟩:=h;obtain ⟨J,n,_,_,Q,C,F⟩:=DataW.trod_struct hs K;refine ⟨cs,rfl,E.trans hC,fun j f G=>?_⟩;have B:j < fs.size:=(Array.getElem?_eq_some_iff.1 G).1;have A:j < cs.size:=by rw [E.trans hC];exact B
 obtain ⟨N,M⟩:=hone_of D j f G;have h1:=F j f G;obtain ⟨y,L⟩:∃ y,J[j]?=some y:=⟨_,le_ (show j < J.length by rw [C];simpa using B)⟩
 have e:((Value.agg cs).cells.toList.drop f.offset).take (P.cellsOf f.type)=[cs[j]]:=by
  rw [N,M];simp only [Value.cells];rw [List.drop_eq_getElem_cons (by simpa using A)];simp
 rw [e] at h1;exact ⟨cs[j],n,y,Array.getElem?_eq_getElem A,h1.trans L⟩
theorem Za9 {α:Type} {cs:Array α} (h:cs.size=12):∃ c0 c1 c2 c3 c4 c5 c6 c7 c8 c9 c10 c11,cs=#[c0,c1,c2,c3,c4,c5,c6,c7,c8,c9,c10,c11]:=by
 obtain ⟨l⟩:=cs;match l,h with
 | [c0,c1,c2,c3,c4,c5,c6,c7,c8,c9,c10,c11],_=>exact ⟨c0,c1,c2,c3,c4,c5,c6,c7,c8,c9,c10,c11,rfl⟩
end
end
def tLenFrom (s:ByteArray):Nat->Nat->Int->Int
 | 0,_,acc=>acc
 | b+1,pos,acc=>if pos < s.size then (if (Utf8.decode s pos).1=65533 then -1 else tLenFrom s b (pos+(Utf8.decode s pos).2) (acc+1)) else acc
def tLen (s:ByteArray):Int:=tLenFrom s s.size 0 0
theorem Q7 (s:ByteArray) (b B:Nat) (A:Int) (h:¬ B < s.size):tLenFrom s b B A=A:=by
 cases b with
 | zero=>rfl
 | succ b=>simp [tLenFrom,h]
theorem xE (s:ByteArray) (w:World) (hs:s.size<=maxLen):
  Calls prog 28 #[s] w fun e w'=>e=.returned (.int .i64 (tLen s))/\Below w.heap.size w w':=by
 unfold maxLen at hs;have G:∀ A,Below w.heap.size w (w.iter s A):=fun A=>(bf _ w).alloc (nl _) _;go_in;go_wp2_with fail;go_loopw [2,3] (fun r n w'=>∃ (A b:Nat) (B:Int),w'=w.iter s A/\r=.int .i64 0/\n=.int .i64 B/\tLenFrom s b A B=tLen s/\s.size<=A+b/\0<=B/\B<=A/\B<=s.size) (fun _ _ w'=>s.size - w'.iterPos w.heap.size)
 case atStart=>exact ⟨0,s.size,0,rfl,rfl,rfl,rfl,by omega,by omega,by omega,by omega⟩
 case round=>
  obtain ⟨A,b,B,rfl,rfl,rfl,H,R,K,Q,M⟩:=hrel
  by_cases F:A < s.size
  ·have D:∀ E,(Instr.next (.pointer (some ⟨w.heap.size,0,none⟩)) true E).run prog (w.iter s A)=_:=fun E=>run_next_any w s A E F
   have J:=Lib.decode_width_pos s A F
   by_cases C:(Utf8.decode s A).1=65533
   ·rw [C] at D
    go_wp2_with fail;go_ret
    have:tLen s= -1:=by
     rw [<- H];cases b with
     | zero=>omega
     | succ b=>simp [tLenFrom,F,C]
    rw [this];exact ⟨rfl,G _⟩
   obtain ⟨r,N⟩:∃ r:Int,((Utf8.decode s A).1:Int)=r:=⟨_,rfl⟩
   have ⟨P,I⟩:=gn ((Utf8.decode s A).2);rw [N,I] at D;rw [I] at J;have L:(r == 65533)=false:=by simp;omega
   go_wp2_with fail;go_roundw
   case rel=>
    cases b with
    | zero=>omega
    | succ b=>
     refine ⟨A+P,b,B+1,rfl,rfl,by go_num,?_,by omega,by omega,by omega,?_⟩
     ·rw [<- H]
      simp [tLenFrom,F,C,I]
     ·omega
   case measure=>
    simp;omega
  have D:∀ E,(Instr.next (.pointer (some ⟨w.heap.size,0,none⟩)) true E).run prog (w.iter s A)=_:=fun E=>run_next_end w s A E F
  go_wp2_with fail;go_ret;rw [Q7 s b A B F] at H;subst H;exact ⟨rfl,G _⟩
def cmpT (a b:ByteArray):Int:=Lib.compareBytes a.data.toList b.data.toList
theorem xaa (a b:ByteArray) (w:World):
  Calls prog 195 #[a,b] w fun e w'=>e=.returned (.int .i64 (cmpT a b))/\w=w':=by
 go_in;go_wp2;rw [run_callFunc_extern func208 (by kernel_rfl) (by kernel_rfl) (by kernel_rfl) (e:=Extern.BytealgCompare.compare) (by kernel_rfl),Lib.run_compareString];simp only [Result.andThen];rw [Oper.upon_value];go_wp2;go_ret;exact ⟨rfl,rfl⟩
theorem qar (a b:ByteArray) (w:World):
  Calls prog 157 #[a,b] w fun e w'=>e=.returned (.int .i64 (cmpT a b))/\w=w':=by
 go_in;go_wp2_with fail;refine (xaa _ _ _).mono ?_;rintro e w' ⟨rfl,rfl⟩;go_wp2_with fail;go_ret;exact ⟨rfl,rfl⟩
theorem XR (a b:ByteArray) (w:World):
  Calls prog 103 #[a,b] w fun e w'=>e=.returned (.int .i64 (cmpT a b))/\w=w':=by
 go_in;go_wp2_with fail;refine (qar _ _ _).mono ?_;rintro e w' ⟨rfl,rfl⟩;go_wp2_with fail;go_ret;exact ⟨rfl,rfl⟩
theorem Xy (a:Int) (w:World):
  Calls prog 207 #[a] w fun e w'=>e=.returned (.bool false)/\w=w':=by
 go_in;go_wp2;go_ret;exact ⟨by simp,rfl⟩
def cmpI (a b:Int):Int:=if a < b then -1 else if b < a then 1 else 0
theorem zE (a b:Int) (w:World):
  Calls prog 189 #[a,b] w fun e w'=>e=.returned (.int .i64 (cmpI a b))/\w=w':=by
 unfold cmpI
 by_cases h1:a < b
 focus
  have B:decide (a < b)=true:=by simp;omega
  rw [if_pos h1]
 rotate_left
 focus
  have B:decide (a < b)=false:=by simp;omega
  rw [if_neg h1]
  by_cases A:b < a
  focus
   have C:decide (b < a)=true:=by simp;omega
   rw [if_pos A]
  rotate_left
  focus
   have C:decide (b < a)=false:=by simp;omega
   rw [if_neg A]
 all_goals
  go_in;go_wp2_with fail;refine (Xy _ _).mono ?_;rintro e w' ⟨rfl,rfl⟩;go_wp2_with fail;refine (Xy _ _).mono ?_;rintro e w' ⟨rfl,rfl⟩;go_wp2_with fail;go_ret;exact ⟨rfl,rfl⟩
def isWord (s:ByteArray):Bool:=decide (1<=tLen s)&&decide (tLen s<=12)
theorem ZS (s:ByteArray) (w:World) (hs:s.size<=maxLen):
  Calls prog 102 #[s] w fun e w'=>e=.returned (.bool (isWord s))/\Below w.heap.size w w':=by
 unfold isWord;have H:=Hy (xE s w hs);generalize tLen s=z at *
 by_cases h1:1<=z
 ·have A:decide (1<=z)=true:=by simp;omega
  rw [A];go_in;go_wp2_with fail;refine (H.o).mono ?_;rintro e w' ⟨rfl,B⟩;go_wp2_with fail;go_ret;exact ⟨by simp,B⟩
 have A:decide (1<=z)=false:=by simp;omega
 rw [A];go_in;go_wp2_with fail;refine (H.o).mono ?_;rintro e w' ⟨rfl,B⟩;go_wp2_with fail;go_ret;exact ⟨by simp,B⟩
theorem Zaa:∀ (a b c:List UInt8),Lib.compareBytes a b < 0->Lib.compareBytes b c < 0->Lib.compareBytes a c < 0
 | [],[],_,h,_=>by simp [Lib.compareBytes] at h
 | _ :: _,[],_,h,_=>by simp [Lib.compareBytes] at h
 | _,_ :: _,[],_,h=>by simp [Lib.compareBytes] at h
 | [],_ :: _,_ :: _,_,_=>by simp [Lib.compareBytes]
 | x :: a,y :: b,z :: c,h,k=>by
  have ih:=Zaa a b c
  unfold Lib.compareBytes at h k ⊢
  by_cases h1:x < y
  ·by_cases A:y < z
   ·rw [if_pos (UInt8.lt_trans h1 A)];decide
   ·rw [if_neg A] at k
    by_cases B:z < y
    ·rw [if_pos B] at k;simp at k
    ·have:y=z:=UInt8.le_antisymm (UInt8.not_lt.1 B) (UInt8.not_lt.1 A)
     subst this
     rw [if_pos h1];decide
  ·rw [if_neg h1] at h
   by_cases C:y < x
   ·rw [if_pos C] at h;simp at h
   ·have:x=y:=UInt8.le_antisymm (UInt8.not_lt.1 C) (UInt8.not_lt.1 h1)
    subst this
    rw [if_neg C] at h
    by_cases A:x < z
    ·rw [if_pos A];decide
    ·rw [if_neg A] at k ⊢
     by_cases B:z < x
     ·rw [if_pos B] at k;simp at k
     ·rw [if_neg B] at k ⊢
      exact ih h k
def orI (x y:Int):Int:=if x=0 then y else x
theorem qan (w:World) (g:Nat) (ty:TypeId) (x y:Int) (h:Blk w g ty [x,y]):
  Calls prog 188 #[.slice (some ⟨g,0,none⟩) 2 2] w fun e w'=>e=.returned (.int .i64 (orI x y))/\w=w':=by
 have E:Ci w g 0 x:=h.cell 0;have F:w.cell? ⟨g,1,none⟩=some (.int .i64 y):=h.cell 1;clear h;go_in;go_wp2_with fail;go_loopw [2,8] (fun r i wr=>∃ k:Nat,k<=2/\i=.int .i64 k/\r=.int .i64 0/\wr=w/\(1<=k->x=0)/\(2<=k->y=0)) (fun _ i _=>2 - (intOf i).toNat)
 case atStart=>exact ⟨0,by omega,rfl,rfl,rfl,by omega,by omega⟩
 case round=>
  obtain ⟨k,C,rfl,rfl,rfl,B,D⟩:=hrel;rcases (by omega:k=0∨k=1∨k=2) with rfl | rfl | rfl
  ·by_cases h0:x=0
   ·subst h0
    go_wp2_with fail;go_roundw
    case rel=>exact ⟨1,by simp⟩
    case measure=>simp [intOf]
   have A:(x == 0)=false:=by simp;omega
   go_wp2_with fail;go_ret;unfold orI;rw [if_neg h0];exact ⟨rfl,rfl⟩
  ·obtain rfl:=B (by omega)
   by_cases h0:y=0
   ·subst h0
    go_wp2_with fail;go_roundw
    case rel=>exact ⟨2,by simp⟩
    case measure=>simp [intOf]
   have A:(y == 0)=false:=by simp;omega
   go_wp2_with fail;go_ret;unfold orI;rw [if_pos rfl];exact ⟨rfl,rfl⟩
  obtain rfl:=B (by omega)
  obtain rfl:=D (by omega);go_wp2_with fail;go_ret;exact ⟨rfl,rfl⟩
def cmpK (la:Int) (ta:ByteArray) (lb:Int) (tb:ByteArray):Int:=orI (cmpI la lb) (cmpT ta tb)
theorem zD (la:Int) (ta:ByteArray) (lb:Int) (tb:ByteArray):cmpK la ta lb tb < 0↔la < lb∨la=lb/\cmpT ta tb < 0:=by
 unfold cmpK orI cmpI
 by_cases h1:la < lb
 ·simp [h1]
 by_cases A:lb < la
 ·simp [h1,A];omega
 simp [h1,A];omega
theorem xN {la:Int} {ta:ByteArray} {lb:Int} {tb:ByteArray} {lc:Int} {tc:ByteArray} (h:cmpK la ta lb tb < 0) (k:cmpK lb tb lc tc < 0):cmpK la ta lc tc < 0:=by
 rw [zD] at h k ⊢;rcases h with h | ⟨rfl,h⟩
 ·rcases k with k | ⟨rfl,k⟩
  ·left;omega
  exact .inl h
 rcases k with k | ⟨rfl,k⟩
 ·exact .inl k
 exact .inr ⟨rfl,Zaa _ _ _ h k⟩
abbrev KeyL:=Int×ByteArray
def KeyL.cells (k:KeyL):List Value:=[.int .i64 k.1,.string k.2]
def kless (a b:KeyL):Bool:=decide (cmpK a.1 a.2 b.1 b.2 < 0)
section
open Go.RowKit Go.ChangeShapes Go.WideShapes Go.Deep Go.Joins
section
variable {H:Type} {enc:TypeId×Value->H} {w:World} {base:Nat} {spare:Nat->Bool} {held:Bool}
theorem Yam {a:Option Addr} {len cap:Nat}
  (h:DataW.Trod enc prog w base spare held 56 (.slice a len cap) d p):∃ l:List KeyL,RdE KeyL.cells 2 w a len cap l/\∀ x∈l,x.2.size<=maxLen:=by
 refine Qad KeyL.cells ⟨(0,⟨#[]⟩)⟩ underlying56 underlying46 (by kernel_rfl) (by kernel_rfl) (fun x=>x.2.size<=maxLen) ?_ h (by decide);intro L D;obtain ⟨J,M,h0⟩:=D 0 _ rfl;obtain ⟨K,N,h1⟩:=D 1 _ rfl;obtain ⟨E,B,_,I⟩:=DataW.trod_int underlying3 h0;obtain ⟨F,C,_,G⟩:=DataW.trod_string underlying9 h1;simp at B C;refine ⟨(E,F),G,fun j H=>?_⟩;have A:j < 2:=H;match j,A with
 | 0,_=>simp [KeyL.cells,B]
 | 1,_=>simp [KeyL.cells,C]
end
end
section
open Go.RowKit Go.ChangeShapes Go.WideShapes Go.Deep Go.Joins
section
variable {H:Type} {enc:TypeId×Value->H} {w:World} {base:Nat} {spare:Nat->Bool} {held:Bool}
theorem Zbd {α:Type} {cs:Array α} (h:cs.size=15):∃ c0 c1 c2 c3 c4 c5 c6 c7 c8 c9 c10 c11 c12 c13 c14,cs=#[c0,c1,c2,c3,c4,c5,c6,c7,c8,c9,c10,c11,c12,c13,c14]:=by
 obtain ⟨l⟩:=cs;match l,h with
 | [c0,c1,c2,c3,c4,c5,c6,c7,c8,c9,c10,c11,c12,c13,c14],_=>exact ⟨c0,c1,c2,c3,c4,c5,c6,c7,c8,c9,c10,c11,c12,c13,c14,rfl⟩
theorem X6 {t e:TypeId} {fuel:Nat} {v:Value} {x:DataW H×List MemPlace} (ht:Tryz.prog.underlying t=some (.slice e)) (h:DataW.trod enc prog w base spare held fuel t [v]=some x):∃ (a:Option Addr) (len cap:Nat),v=.slice a len cap:=by
 rcases DataW.trod_slice ht h with ⟨e1,_⟩ | ⟨a,len,cap,_,_,_,_,e1,_⟩
 ·simp at e1;exact ⟨none,0,0,e1⟩
 simp at e1;exact ⟨some a,len,cap,e1⟩
theorem open_act24 {v:Value} (hv:Value.okWide prog w r b0 67 v) (h:DataW.Trod enc prog w base spare held 67 v dd p):
  ∃ (d i j x:Int) (b:ByteArray) (k n:Int) (s q h sq wk ep:Int) (a:Option Addr) (c:Nat) (l:List KeyL) (en:Bool),v=.agg #[d,i,j,x,b,k,n,s,q,h,sq,wk,ep,.slice a l.length c,.bool en]/\(Lit.int .i64 i).wf=true/\(Lit.int .i64 j).wf=true/\(Lit.int .i64 s).wf=true/\b.size<=maxLen/\RdE KeyL.cells 2 w a l.length c l/\∀ x∈l,x.2.size<=maxLen:=by
 obtain ⟨cs,rfl,H⟩:=okWide_struct underlying67 hv;rw [show Tryz.prog.cellsOf 67=15 by kernel_rfl] at H;obtain ⟨c0,c1,c2,c3,c4,c5,c6,c7,c8,c9,Ar,c11,c12,As,At,rfl⟩:=Zbd H;obtain ⟨An,hf⟩:=h;have z3:Tryz.prog.cellsOf 3=1:=by kernel_rfl
 have z4:Tryz.prog.cellsOf 4=1:=by kernel_rfl
 have z9:Tryz.prog.cellsOf 9=1:=by kernel_rfl
 have u:Tryz.prog.cellsOf 56=1:=by kernel_rfl
 have t:Tryz.prog.cellsOf 40=3:=by kernel_rfl
 have y:Tryz.prog.cellsOf 65=8:=by kernel_rfl
 obtain ⟨xs,n0,_,_,f,E,B⟩:=DataW.trod_struct underlying67 hf;have D:xs.length=6:=E;match xs,D with
 | [x0,x1,x2,x3,x4,x5],_=>
  have h0:=B 0 _ rfl;have h1:=B 1 _ rfl;have M:=B 2 _ rfl;have N:=B 3 _ rfl;have P:=B 4 _ rfl;have Q:=B 5 _ rfl;simp only [List.getElem_toArray,List.getElem_cons_zero,List.getElem_cons_succ,List.getElem?_cons_zero,List.getElem?_cons_succ] at h0 h1 M N P Q;rw [z3] at h0 h1 M N;rw [t] at P;rw [y] at Q;simp [Value.cells] at h0 h1 M N P Q;obtain ⟨d,z,_,_⟩:=DataW.trod_int underlying3 h0;obtain ⟨i,e1,_,wi⟩:=DataW.trod_int underlying3 h1;obtain ⟨j,e2,_,wj⟩:=DataW.trod_int underlying3 M;obtain ⟨x,e3,_,_⟩:=DataW.trod_int underlying3 N;obtain ⟨ys,n1,_,_,_,g,C⟩:=DataW.trod_struct underlying40 P
  obtain ⟨zs,n2,_,_,_,m,A⟩:=DataW.trod_struct underlying65 Q;have F:ys.length=3:=g;have G:zs.length=8:=m;match ys,F,zs,G with
  | [y0,y1,y2],_,[u0,u1,u2,u3,u4,u5,u6,u7],_=>
   have J:=C 0 _ rfl;have K:=C 1 _ rfl;have L:=C 2 _ rfl;simp only [List.getElem_toArray,List.getElem_cons_zero,List.getElem_cons_succ,List.getElem?_cons_zero,List.getElem?_cons_succ] at J K L;rw [z9] at J;rw [z3] at K L;simp at J K L;obtain ⟨b,e4,_,o⟩:=DataW.trod_string underlying9 J;obtain ⟨k,e5,_,_⟩:=DataW.trod_int underlying3 K;obtain ⟨n,e6,_,_⟩:=DataW.trod_int underlying3 L;have R:=A 0 _ rfl;have T:=A 1 _ rfl;have U:=A 2 _ rfl;have V:=A 3 _ rfl;have W:=A 4 _ rfl;have Y:=A 5 _ rfl;have I:=A 6 _ rfl;have Z:=A 7 _ rfl;simp only [List.getElem_toArray,List.getElem_cons_zero,List.getElem_cons_succ,List.getElem?_cons_zero,List.getElem?_cons_succ] at R T U V W Y I Z
   rw [z3] at R T U V W Y;rw [u] at I;rw [z4] at Z;simp at R T U V W Y I Z;obtain ⟨s,f0,_,ws⟩:=DataW.trod_int underlying3 R;obtain ⟨q,f1,_,_⟩:=DataW.trod_int underlying3 T;obtain ⟨hh,f2,_,_⟩:=DataW.trod_int underlying3 U;obtain ⟨sq,f3,_,_⟩:=DataW.trod_int underlying3 V;obtain ⟨wk,f4,_,_⟩:=DataW.trod_int underlying3 W;obtain ⟨ep,f5,_,_⟩:=DataW.trod_int underlying3 Y;obtain ⟨a,Ay,cap,f6⟩:=X6 underlying56 I;obtain ⟨en,f7,_⟩:=DataW.trod_bool underlying4 Z;simp at z e1 e2 e3 e4 e5 e6 f0 f1 f2 f3 f4 f5 f7;subst z e1 e2 e3 e4 e5 e6 f0 f1 f2 f3 f4 f5 f6 f7
   obtain ⟨l,f,hz⟩:=Yam (d:=u6.1) (p:=u6.2) ⟨n2,by simpa [Value.cells] using I⟩;obtain rfl:=f.1;exact ⟨d,i,j,x,b,k,n,s,q,hh,sq,wk,ep,a,cap,l,en,rfl,wi,wj,ws,o,f,hz⟩
end
end
section
open Go.RowKit Go.ChangeShapes Go.WideShapes Go.Deep Go.Joins
structure AV where
 d:Int
 i:Int
 j:Int
 x:Int
 tx:ByteArray
 k:Int
 n:Int
 s:Int
 q:Int
 h:Int
 sq:Int
 wk:Int
 ep:Int
 a:Option Addr
 c:Nat
 l:List KeyL
 en:Bool
def AV.cells (v:AV):List Value:=[.int .i64 v.d,.int .i64 v.i,.int .i64 v.j,.int .i64 v.x,.string v.tx,.int .i64 v.k,.int .i64 v.n,.int .i64 v.s,.int .i64 v.q,.int .i64 v.h,.int .i64 v.sq,.int .i64 v.wk,.int .i64 v.ep,.slice v.a v.l.length v.c,.bool v.en]
def AV.good (v:AV) (w:World):Prop:=(Lit.int .i64 v.i).wf=true/\(Lit.int .i64 v.j).wf=true/\(Lit.int .i64 v.s).wf=true/\v.tx.size<=maxLen/\RdE KeyL.cells 2 w v.a v.l.length v.c v.l/\∀ x∈v.l,x.2.size<=maxLen
section
variable {H:Type} {enc:TypeId×Value->H} {P:Program} {w:World} {base:Nat} {spare:Nat->Bool} {held:Bool}
theorem QaP {α:Type} (en:α->List Value) (L:Nonempty α) {t e:TypeId} {d:DataW H} {p:List MemPlace} (ht:P.underlying t=some (.slice e)) (size:Nat) (hC:P.cellsOf e=size) {a:Option Addr} {len cap:Nat} (A:α->Prop)
  (R:∀ (cs:List Value) (n:Nat) (y:DataW H×List MemPlace),cs.length=size->DataW.trod enc P w base spare held n e cs=some y->∃ x:α,A x/\en x=cs)
  (h:DataW.Trod enc P w base spare held t (.slice a len cap) d p) (r:size≠0):∃ l:List α,RdE en size w a len cap l/\∀ x∈l,A x:=by
 obtain ⟨f,o⟩:=h;rcases open_slice ht o with ⟨hcs,_⟩ | ⟨ad,len',cap',m,n,D,Pl,hcs,_,hl,hm,hmm,_,hi⟩
 ·simp [Value.cells] at hcs
  obtain ⟨rfl,rfl,rfl⟩:=hcs;exact ⟨[],⟨rfl,nl _,by unfold maxLen;omega,fun _=>rfl,fun i x C=>by simp at C⟩,by simp⟩
 simp [Value.cells] at hcs
 obtain ⟨rfl,rfl,rfl⟩:=hcs;have q:len<=m:=by rw [hmm];split <;> omega
 have V:∀ i,i < len->∃ x:α,A x/\(en x).length=size/\∀ j,j < size->w.cell? (ad.add (i * size+j))=(en x)[j]?:=by
  intro i B;obtain ⟨Q,k,Z⟩:=hi i (by omega);rw [hC] at k;obtain ⟨_,J,T⟩:=World.cells?_some k;obtain ⟨x,I,C⟩:=R Q _ _ J Z;refine ⟨x,I,by rw [C];exact J,fun j Y=>?_⟩;rw [C,<- Go.Deep.add_add];exact T j Y
 have E:∃ g:Nat->α,∀ i,i < len->A (g i)/\(en (g i)).length=size/\∀ j,j < size->w.cell? (ad.add (i * size+j))=(en (g i))[j]?:=by
  have K:∀ i,∃ x:α,i < len->A x/\(en x).length=size/\∀ j,j < size->w.cell? (ad.add (i * size+j))=(en x)[j]?:=by
   intro i
   by_cases B:i < len
   ·obtain ⟨x,C⟩:=V i B;exact ⟨x,fun _=>C⟩
   ·obtain ⟨x⟩:=L;exact ⟨x,fun h=>absurd h B⟩
  exact Classical.axiomOfChoice K
 obtain ⟨g,I⟩:=E;refine ⟨(List.range len).map g,⟨by simp,hl,hm,by simp,fun i x C=>?_⟩,fun x C=>?_⟩
 ·have B:i < len:=by
   have:=(lg C).1;simpa using this
  have c:x=g i:=by simp [B] at C;exact C.symm
  subst c;obtain ⟨b,off,spot⟩:=ad;have F:=(I i B).2.2;have U:=(I 0 (by omega)).2.2 0 (by omega);have N:w.cell? (({block:=b,off:=off,spot:=spot}:Addr).add (0 * size+0))=some ((en (g 0))[0]'(by rw [(I 0 (by omega)).2.1];omega)):=by rw [U];exact le_ _
  have G:spot=none:=by simpa [Addr.add] using World.cell?_spot N
  subst G;have M:=cell?_lt N;rw [Addr.add_lit] at M;refine ⟨b,off,rfl,M,fun j Y=>?_⟩;have:=F j Y;rw [Addr.add_lit] at this;rw [<- this];congr 2;omega
 obtain ⟨i,W,rfl⟩:=List.mem_map.1 C
 exact (I i (List.mem_range.1 W)).1
theorem qba {α:Type} {cs:List α} (h:cs.length=15):∃ c0 c1 c2 c3 c4 c5 c6 c7 c8 c9 c10 c11 c12 c13 c14,cs=[c0,c1,c2,c3,c4,c5,c6,c7,c8,c9,c10,c11,c12,c13,c14]:=by
 match cs,h with
 | [c0,c1,c2,c3,c4,c5,c6,c7,c8,c9,c10,c11,c12,c13,c14],_=>exact ⟨c0,c1,c2,c3,c4,c5,c6,c7,c8,c9,c10,c11,c12,c13,c14,rfl⟩
end
section
variable {H:Type} {enc:TypeId×Value->H} {w:World} {base:Nat} {spare:Nat->Bool} {held:Bool}
theorem xai (cs:List Value) (E:Nat) (yy:DataW H×List MemPlace) (h:cs.length=15) (hf:DataW.trod enc prog w base spare held E 67 cs=some yy):∃ v:AV,v.good w/\v.cells=cs:=by
 obtain ⟨c0,c1,c2,c3,c4,c5,c6,c7,c8,c9,Ao,c11,c12,Ap,Aq,rfl⟩:=qba h;have z3:Tryz.prog.cellsOf 3=1:=by kernel_rfl
 have z4:Tryz.prog.cellsOf 4=1:=by kernel_rfl
 have z9:Tryz.prog.cellsOf 9=1:=by kernel_rfl
 have r:Tryz.prog.cellsOf 56=1:=by kernel_rfl
 have o:Tryz.prog.cellsOf 40=3:=by kernel_rfl
 have t:Tryz.prog.cellsOf 65=8:=by kernel_rfl
 obtain ⟨xs,n0,_,_,c,F,B⟩:=DataW.trod_struct underlying67 hf;have D:xs.length=6:=F;match xs,D with
 | [x0,x1,x2,x3,x4,x5],_=>
  have h0:=B 0 _ rfl;have h1:=B 1 _ rfl;have N:=B 2 _ rfl;have P:=B 3 _ rfl;have Q:=B 4 _ rfl;have R:=B 5 _ rfl;simp only [List.getElem_toArray,List.getElem_cons_zero,List.getElem_cons_succ,List.getElem?_cons_zero,List.getElem?_cons_succ] at h0 h1 N P Q R;rw [z3] at h0 h1 N P;rw [o] at Q;rw [t] at R;simp [Value.cells] at h0 h1 N P Q R;obtain ⟨d,u,_,_⟩:=DataW.trod_int underlying3 h0;obtain ⟨i,y,_,wi⟩:=DataW.trod_int underlying3 h1;obtain ⟨j,z,_,wj⟩:=DataW.trod_int underlying3 N;obtain ⟨x,e3,_,_⟩:=DataW.trod_int underlying3 P;obtain ⟨ys,n1,_,_,_,f,C⟩:=DataW.trod_struct underlying40 Q
  obtain ⟨zs,n2,_,_,_,g,A⟩:=DataW.trod_struct underlying65 R;have G:ys.length=3:=f;have I:zs.length=8:=g;match ys,G,zs,I with
  | [y0,y1,y2],_,[u0,u1,u2,u3,u4,u5,u6,u7],_=>
   have K:=C 0 _ rfl;have L:=C 1 _ rfl;have M:=C 2 _ rfl;simp only [List.getElem_toArray,List.getElem_cons_zero,List.getElem_cons_succ,List.getElem?_cons_zero,List.getElem?_cons_succ] at K L M;rw [z9] at K;rw [z3] at L M;simp at K L M;obtain ⟨tx,e4,_,m⟩:=DataW.trod_string underlying9 K;obtain ⟨k,e5,_,_⟩:=DataW.trod_int underlying3 L;obtain ⟨n,e6,_,_⟩:=DataW.trod_int underlying3 M;have T:=A 0 _ rfl;have U:=A 1 _ rfl;have V:=A 2 _ rfl;have W:=A 3 _ rfl;have Y:=A 4 _ rfl;have Z:=A 5 _ rfl;have J:=A 6 _ rfl;have b:=A 7 _ rfl;simp only [List.getElem_toArray,List.getElem_cons_zero,List.getElem_cons_succ,List.getElem?_cons_zero,List.getElem?_cons_succ] at T U V W Y Z J b
   rw [z3] at T U V W Y Z;rw [r] at J;rw [z4] at b;simp at T U V W Y Z J b;obtain ⟨s,f0,_,ws⟩:=DataW.trod_int underlying3 T;obtain ⟨q,f1,_,_⟩:=DataW.trod_int underlying3 U;obtain ⟨hh,f2,_,_⟩:=DataW.trod_int underlying3 V;obtain ⟨sq,f3,_,_⟩:=DataW.trod_int underlying3 W;obtain ⟨wk,f4,_,_⟩:=DataW.trod_int underlying3 Y;obtain ⟨ep,f5,_,_⟩:=DataW.trod_int underlying3 Z;obtain ⟨a,Au,cap,f6⟩:=X6 underlying56 J;obtain ⟨en,f7,_⟩:=DataW.trod_bool underlying4 b;simp at u y z e3 e4 e5 e6 f0 f1 f2 f3 f4 f5 f7;subst u y z e3 e4 e5 e6 f0 f1 f2 f3 f4 f5 f6 f7
   obtain ⟨l,c,hz⟩:=Yam (d:=u6.1) (p:=u6.2) ⟨n2,by simpa [Value.cells] using J⟩;obtain rfl:=c.1;exact ⟨⟨d,i,j,x,tx,k,n,s,q,hh,sq,wk,ep,a,cap,l,en⟩,⟨wi,wj,ws,m,c,hz⟩,rfl⟩
theorem open_acts24 {a:Option Addr} {len cap:Nat} (h:DataW.Trod enc prog w base spare held 76 (.slice a len cap) d p):∃ l:List AV,RdE AV.cells 15 w a len cap l/\∀ x∈l,x.good w:=
 QaP AV.cells ⟨⟨0,0,0,0,⟨#[]⟩,0,0,0,0,0,0,0,0,none,0,[],false⟩⟩ underlying76 15 (by kernel_rfl) (fun x=>x.good w) (fun cs n y h1 A=>xai cs n y h1 A) h (by decide)
end
end
section
open Go.RowKit Go.Deep
theorem RdE.take {α:Type} {enc:α->List Value} {size:Nat} {w:World} {a:Option Addr} {n c:Nat} {l:List α} (h:RdE enc size w a n c l) (k:Nat) (E:k<=n):RdE enc size w a k c (l.take k):=by
 obtain ⟨h1,F,B,C,D⟩:=h;refine ⟨by rw [List.length_take];omega,by omega,B,C,fun i x A=>?_⟩;rw [List.getElem?_take] at A;split at A
 ·exact D i x A
 simp at A
theorem RdE.drop {α:Type} {enc:α->List Value} {size:Nat} {w:World} {b off n c:Nat} {l:List α} (h:RdE enc size w (some ⟨b,off,none⟩) n c l) (i:Nat) (hi:i<=n) (o':Nat) (ho:i < n->o'=off+i * size):RdE enc size w (some ⟨b,o',none⟩) (n - i) (c - i) (l.drop i):=by
 obtain ⟨h1,H,I,J,C⟩:=h;refine ⟨by rw [List.length_drop];omega,by omega,by omega,by simp,fun k x A=>?_⟩;rw [List.getElem?_drop] at A;have G:=(lg A).1;obtain ⟨b',B,e,F,D⟩:=C (i+k) x A;simp only [Option.some.injEq,Addr.mk.injEq,and_true] at e;obtain ⟨rfl,rfl⟩:=e;refine ⟨b,o',rfl,F,fun j E=>?_⟩;rw [ho (by omega),<- D j E];congr 2;rw [Nat.add_mul];omega
theorem RdE.cells {α:Type} {enc:α->List Value} {size:Nat} (A:∀ x,(enc x).length=size) {w:World} {ad:Addr} {n c:Nat} {l:List α} (h:RdE enc size w (some ad) n c l):∀ j u,(l.flatMap enc)[j]?=some u->w.cell? (ad.add j)=some u:=by
 intro j u D;have H:=zc enc size A l;have C:j < l.length * size:=by rw [<- H];exact (lg D).1
 have I:0 < size:=by
  rcases Nat.eq_zero_or_pos size with h0 | h0
  ·rw [h0] at C;simp at C
  ·exact h0
 have F:j % size < size:=Nat.mod_lt _ I;have E:j / size < l.length:=Nat.div_lt_of_lt_mul (by rw [Nat.mul_comm];exact C);have B:j / size * size+j % size=j:=by rw [Nat.mul_comm];exact Nat.div_add_mod j size
 rw [<- B,yc enc size A l _ _ F,List.getElem?_eq_getElem E] at D;obtain ⟨b,off,e,J,G⟩:=h.2.2.2.2 (j / size) _ (le_ E);obtain rfl:=Option.some.inj e;rw [Addr.add_lit,<- B,<- Nat.add_assoc,G _ F];exact D
theorem Src.ofRdE {P:Program} {tx e':TypeId} (B:P.underlying tx=some (.slice e')) {α:Type} {enc:α->List Value} {size:Nat} (A:∀ x,(enc x).length=size) (h1:∀ x,∀ u∈enc x,u.oneCell'=true) {w:World} {a:Option Addr} {n c:Nat} {l:List α} (h:RdE enc size w a n c l):Src P size tx (.slice a n c) n (l.flatMap enc) w:=by
 cases a with
 | some D=>
  refine Src.ofSlice w B D n c _ (by rw [zc enc size A,h.1]) (h.cells A) ?_;intro u C;simp only [List.mem_flatMap] at C;obtain ⟨x,_,E⟩:=C;exact h1 x u E
 | none=>
  obtain ⟨rfl,rfl⟩:=h.nil0 rfl;obtain rfl:l=[]:=List.eq_nil_of_length_eq_zero h.1;exact Src.ofNil w B 0
theorem Za {α:Type} {enc:α->List Value} {size:Nat} (A:∀ x,(enc x).length=size) {w:World} {base:Nat} {e:TypeId} {ao:Option Addr} {n cap:Nat} {l:List α} (hn:l.length=n) (h:w.ownsRow base e size (.slice ao n cap) n (l.flatMap enc)):RdE enc size w ao n cap l:=by
 rcases h.2 with ⟨h',h0⟩ | ⟨g,cap',cur,h',_,hg,hnc,hm,hs,htake⟩
 ·simp at h';obtain ⟨rfl,rfl,rfl⟩:=h'
  obtain rfl:l=[]:=List.eq_nil_of_length_eq_zero hn;exact ⟨rfl,nl _,by unfold maxLen;omega,fun _=>rfl,fun i x B=>by simp at B⟩
 simp only [Value.slice.injEq] at h'
 obtain ⟨rfl,_,rfl⟩:=h';refine ⟨hn,hnc,hm,by simp,fun i x B=>⟨g,0,rfl,(Array.getElem?_eq_some_iff.1 hg).1,fun j D=>?_⟩⟩;have E:=(lg B).1
 have C:i * size+j < n * size:=by
  have:(i+1) * size<=n * size:=Nat.mul_le_mul_right _ (by omega);rw [Nat.add_mul] at this;omega
 rw [cell_of_row w g _ cur e _ hg,Nat.zero_add,<- Array.getElem?_toList];have:=yc enc size A l i j D;rw [B,<- htake,List.getElem?_take,if_pos C] at this;exact this
theorem Yba {P:Program} {w:World} {ops:Array Oper} {o:Oper} {a:Act} {K:Act->World->Prop} {Q:Exit->Act->World->Prop} {E:Prop} (N:o.guard=none) (s x:Operand) (t tx:TypeId)
  (ho:o.op=.call {callee:=.builtin .append,args:=#[s,x],argTypes:=#[t,tx]})
  (base:Nat) (e:TypeId) (i:TypeInfo) (z:Value) (size A:Nat) (ht:P.underlying t=some (.slice e)) (hi:P.info? e=some i) (hz:i.zero=some z)
  (H:i.size=size) (M:i.bytes=A) (T:z.cells.size=size) (R:0 < size)
  (so:Option Addr) (n sc:Nat) (xs:List Value) (hs:a.eval s=.slice so n sc) (I:w.ownsRow base e size (.slice so n sc) n xs)
  (xv:Value) (m:Nat) (C:List Value) (hx:a.eval x=xv) (J:Src P size tx xv m C w)
  (L:n+m<=maxLen) (F:(n+m) * A<=140737488355328) (G:base<=w.heap.size)
  (h:∀ D B w',w'.ownsRow base e size (.slice D (n+m) B) (n+m) (xs++C)->w.grownBy w' (Value.ownBlock (.slice so n sc))->K (a.put o.dst (.slice D (n+m) B)) w'):
  if Region.wanted o (yielded ops a.tmps)=true then Oper.wp P o a w K Q else E:=by
 have Y:Region.wanted o (yielded ops a.tmps)=true:=by simp [Region.wanted,N]
 rw [if_pos Y];obtain ⟨Z,w',W,U,V⟩:=zp (P:=P) w base t tx o.type e i z size A ht hi hz H M T R _ n xs I xv m C J L F G;obtain ⟨D,B,rfl⟩:=zl U;unfold Oper.wp execOp;simp only [ho,resolve,invoke,builtin,Sem.run_bind,Sem.run_pure,Result.andThen_ok,List.map_toArray,List.map_cons,List.map_nil,hs,hx,W];exact h D B w' U V
theorem wa {P:Program} {w:World} {ops:Array Oper} {rest:List Oper} {o:Oper} {a:Act} {Q:Exit->Act->World->Prop} {s x:Operand} {t tx:TypeId} {base:Nat} {e:TypeId} {z:Value} {size bytes:Nat} {so:Option Addr} {n sc:Nat} {xs:List Value} {xv:Value} {m:Nat} {news:List Value}
  (hf:(P.info? e).map (fun i=>(i.zero,i.size,i.bytes))=some (some z,size,bytes)) (ht:P.underlying t=some (.slice e)) (C:w.ownsRow base e size (.slice so n sc) n xs) (D:Src P size tx xv m news w)
  (E:n+m<=maxLen) (A:(n+m) * bytes<=140737488355328) (B:base<=w.heap.size)
  (h:∀ ao' cap' w',w'.ownsRow base e size (.slice ao' (n+m) cap') (n+m) (xs++news)->w.grownBy w' (Value.ownBlock (.slice so n sc))->wpList P ops Q rest (a.put o.dst (.slice ao' (n+m) cap')) w')
  (F:o.guard=none:=by rfl) (ho:o.op=.call {callee:=.builtin .append,args:=#[s,x],argTypes:=#[t,tx]}:=by rfl) (hs:a.eval s=.slice so n sc:=by first | rfl | kernel_rfl) (hx:a.eval x=xv:=by first | rfl | kernel_rfl) (H:z.cells.size=size:=by rfl) (G:0 < size:=by decide):wpList P ops Q (o :: rest) a w:=by
 obtain ⟨i,hi,h1,I,J⟩:=info_parts hf
 exact xa9 F s x t tx ho base e i z size bytes ht hi h1 I J H G so n sc xs hs C xv m news hx D E A B h
theorem sa {P:Program} {w:World} {ops:Array Oper} {o:Oper} {a:Act} {K:Act->World->Prop} {Q:Exit->Act->World->Prop} {E:Prop} {s x:Operand} {t tx:TypeId} {base:Nat} {e:TypeId} {z:Value} {size bytes:Nat} {so:Option Addr} {n sc:Nat} {xs:List Value} {xv:Value} {m:Nat} {news:List Value}
  (hf:(P.info? e).map (fun i=>(i.zero,i.size,i.bytes))=some (some z,size,bytes)) (ht:P.underlying t=some (.slice e)) (C:w.ownsRow base e size (.slice so n sc) n xs) (D:Src P size tx xv m news w)
  (F:n+m<=maxLen) (A:(n+m) * bytes<=140737488355328) (B:base<=w.heap.size)
  (h:∀ ao' cap' w',w'.ownsRow base e size (.slice ao' (n+m) cap') (n+m) (xs++news)->w.grownBy w' (Value.ownBlock (.slice so n sc))->K (a.put o.dst (.slice ao' (n+m) cap')) w')
  (G:o.guard=none:=by rfl) (ho:o.op=.call {callee:=.builtin .append,args:=#[s,x],argTypes:=#[t,tx]}:=by rfl) (hs:a.eval s=.slice so n sc:=by first | rfl | kernel_rfl) (hx:a.eval x=xv:=by first | rfl | kernel_rfl) (I:z.cells.size=size:=by rfl) (H:0 < size:=by decide):if Region.wanted o (yielded ops a.tmps)=true then Oper.wp P o a w K Q else E:=by
 obtain ⟨i,hi,h1,J,L⟩:=info_parts hf
 exact Yba G s x t tx ho base e i z size bytes ht hi h1 J L I H so n sc xs hs C xv m news hx D F A B h
theorem qx {α:Type} (enc:α->List Value) (size:Nat) (A:∀ x,(enc x).length=size):∀ (l:List α) (sp:List Value) (i:Nat) (x:α) (j:Nat),l[i]?=some x->j < size->(l.flatMap enc++sp)[i * size+j]?=(enc x)[j]?
 | [],_,i,x,j,h,_=>by simp at h
 | y :: l,sp,0,x,j,h,hj=>by
  simp at h;subst h
  rw [List.flatMap_cons,List.append_assoc,List.getElem?_append_left (by rw [A];omega)];simp
 | y :: l,sp,i+1,x,j,h,hj=>by
  rw [List.flatMap_cons,List.append_assoc,List.getElem?_append_right (by rw [A,Nat.add_mul];omega),A]
  have:=qx enc size A l sp i x j (by simpa using h) hj
  rw [<- this];congr 1;rw [Nat.add_mul];omega
theorem Blk.rdE {α:Type} {enc:α->List Value} {size:Nat} {w:World} {g:Nat} {e:TypeId} {l:List α} {sp:List Value} (A:∀ x,(enc x).length=size) (h:Blk w g e (l.flatMap enc++sp)) (c:Nat) (h1:l.length<=c) (h2:c<=maxLen):RdE enc size w (some ⟨g,0,none⟩) l.length c l:=
 ⟨rfl,h1,h2,by simp,fun i x C=>⟨g,0,rfl,h.lt,fun j B=>by rw [Nat.zero_add,h.cell,qx enc size A l sp i x j C B]⟩⟩
end
def RdT (w:World) (a:Option Addr) (n c:Nat) (l:List ByteArray):Prop:=Rd w a n c (l.map Value.string)
theorem RdT.below {a:Option Addr} {n c:Nat} {l:List ByteArray} (h:RdT w a n c l) (hb:Below B w w') (hB:B=w.heap.size):RdT w' a n c l:=Rd.below h hb hB
theorem RdT.len {a:Option Addr} {n c:Nat} {l:List ByteArray} (h:RdT w a n c l):l.length=n:=by have:=h.1;simpa using this
theorem RdT.at {a:Option Addr} {n c:Nat} {l:List ByteArray} (h:RdT w a n c l) {k:Nat} {x:ByteArray} (hx:l[k]?=some x):∃ b off,a=some ⟨b,off,none⟩/\b < w.heap.size/\w.cell? ⟨b,off+k,none⟩=some (.string x):=by
 have A:=(lg hx).1;obtain ⟨b,off,e,C,B⟩:=h.2.2.2.2 k (by rw [<- h.len];exact A);refine ⟨b,off,e,C,?_⟩;rw [B,List.getElem?_map,hx];rfl
theorem QG {α:Type} (p:α->Bool) (l:List α) (k:Nat) (x:α) (h:l[k]?=some x):(l.take (k+1)).any p=((l.take k).any p||p x):=by
 rw [List.take_add_one,h];simp
theorem QY {α:Type} (p:α->Bool) (l:List α) (k:Nat) (x:α) (h:l[k]?=some x) (hp:p x=true):l.any p=true:=by
 rw [List.any_eq_true];exact ⟨x,List.mem_iff_getElem?.2 ⟨k,h⟩,hp⟩
def greatT (l:List ByteArray):Bool:=decide (80 < l.length)||l.any fun s=>decide (100 < s.size)
theorem XD {l:List ByteArray} (h:greatT l=false):l.length<=80/\∀ x∈l,x.size<=100:=by
 unfold greatT at h;simp only [Bool.or_eq_false_iff,decide_eq_false_iff_not,List.any_eq_false,decide_eq_true_eq] at h;exact ⟨by omega,fun x A=>by have:=h.2 x A;omega⟩
theorem zal (a:Option Addr) (n cap:Nat) (l:List ByteArray) (w:World) (hr:RdT w a n cap l) (hs:∀ x∈l,x.size<=maxLen):
  Calls prog 52 #[.slice a n cap] w fun e w'=>e=.returned (.bool (greatT l))/\w=w':=by
 have d:=hr.len;subst d;have F:=hr.2.1;have G:=hr.2.2.1;unfold maxLen at G hs;have W:=Hy hr;clear hr;have ⟨g,R⟩:=gn (greatT l);rw [R];have M:=Hy R;clear R;go_in;go_wp2_with fail;go_loop [3] (fun i=>∃ k:Nat,i=.int .i64 k/\k<=l.length/\(0 < k->l.length<=80)/\Hid ((l.take k).any (fun s=>decide (100 < s.size))=false)) (fun i=>l.length - (intOf i).toNat)
 case atStart=>exact ⟨0,rfl,by omega,by omega,by simp [Hid]⟩
 case round=>
  obtain ⟨k,rfl,c,P,V⟩:=hrel
  by_cases h:k < l.length/\l.length<=80
  ·obtain ⟨I,U⟩:=h
   have Y:decide (l.length<=80)=true:=by simpa using U
   obtain ⟨tc,J⟩:∃ x,l[k]?=some x:=⟨l[k],le_ I⟩;obtain ⟨b,off,rfl,Q,m⟩:=W.at J;have j:=hs _ (List.mem_iff_getElem?.2 ⟨k,J⟩);have B:=QG (fun s:ByteArray=>decide (100 < s.size)) l k tc J;rw [V.o,Bool.false_or] at B;have E:=QY (fun s:ByteArray=>decide (100 < s.size)) l k tc J;have L:=Hy B;have K:=Hy E;clear B E Q J
   by_cases A:100 < tc.size
   ·have N:decide (100 < tc.size)=true:=by simpa using A
    have C:=Hy N;go_wp2_with fail;go_ret;obtain rfl:g=true:=by rw [<- M.o];unfold greatT;rw [K.o C.o];simp
    exact ⟨rfl,rfl⟩
   have N:decide (100 < tc.size)=false:=by simpa using A
   have C:=Hy N;go_wp2_with fail;go_round
   case rel=>exact ⟨k+1,by go_num,by omega,by omega,by rw [L.o];exact C.o⟩
   case measure=>simp [intOf];omega
  by_cases I:k < l.length
  ·have T:80 < l.length:=by omega
   have Y:decide (l.length<=80)=false:=by simp;omega
   have Z:decide (80 < l.length)=true:=by simpa using T
   have C:=Hy Z;go_wp2_with fail;go_ret;obtain rfl:g=true:=by rw [<- M.o];unfold greatT;rw [C.o];rfl
   exact ⟨rfl,rfl⟩
  obtain rfl:k=l.length:=by omega
  have H:g=decide (80 < l.length):=by
   rw [<- M.o];unfold greatT;have:=V.o;rw [List.take_length] at this;rw [this];simp
  have D:=Hy H;clear H;have ⟨q,f⟩:=gn (decide ((80:Int) < (l.length:Int)));obtain rfl:g=q:=by rw [D.o,<- f];exact decide_eq_decide.2 (by omega)
  clear h P D G F;cases g
  ·go_wp2_with fail
   go_ret;exact ⟨rfl,rfl⟩
  go_wp2_with fail
  go_ret;exact ⟨rfl,rfl⟩
def tAt (l:List ByteArray) (i:Nat):ByteArray:=l.getD i ⟨#[]⟩
theorem XF {l:List ByteArray} {i:Nat} (h:i < l.length):l[i]?=some (tAt l i):=by unfold tAt;simp [h]
def tless (a b:ByteArray):Bool:=decide (cmpT a b < 0)
def risesT (l:List ByteArray) (m:Nat):Bool:=(List.range m).all fun i=>tless (tAt l i) (tAt l (i+1))
def goodT (l:List ByteArray):Int:=if 60 < l.length then 3 else if (l.any fun s=>!isWord s)=true then 6 else if risesT l (l.length - 1)=true then 0 else 7
theorem qK (l:List ByteArray) (m:Nat):risesT l (m+1)=(risesT l m&&tless (tAt l m) (tAt l (m+1))):=by
 unfold risesT;rw [List.range_succ,List.all_append];simp
theorem Z4 (l:List ByteArray) (m n:Nat) (h:m<=n) (hm:risesT l m=false):risesT l n=false:=by
 cases A:risesT l n with
 | false=>rfl
 | true=>
  unfold risesT at A hm;rw [List.all_eq_true] at A;rw [List.all_eq_false] at hm;obtain ⟨x,C,B⟩:=hm;exact absurd (A x (by simp at C ⊢;omega)) B
theorem Zau {l:List ByteArray} (h:60 < l.length):goodT l=3:=by unfold goodT;rw [if_pos h]
theorem Yau {l:List ByteArray} (h:l.length<=60) (k:(l.any fun s=>!isWord s)=true):goodT l=6:=by unfold goodT;rw [if_neg (by omega),if_pos k]
theorem Xau {l:List ByteArray} (h:l.length<=60) (k:(l.any fun s=>!isWord s)=false) (m:Nat) (hm:m<=l.length - 1) (r:risesT l m=false):goodT l=7:=by
 unfold goodT;rw [io,if_neg (by rw [k];simp),if_neg (by rw [Z4 l m _ hm r];simp)]
theorem Qau {l:List ByteArray} (h:l.length<=60) (k:(l.any fun s=>!isWord s)=false) (r:risesT l (l.length - 1)=true):goodT l=0:=by
 unfold goodT;rw [io,if_neg (by rw [k];simp),if_pos r]
theorem xaB (a:Option Addr) (n cap:Nat) (l:List ByteArray) (w:World) (hr:RdT w a n cap l) (hs:∀ x∈l,x.size<=maxLen):
  Calls prog 53 #[.slice a n cap] w fun e w'=>e=.returned (.int .i64 (goodT l))/\Below w.heap.size w w':=by
 have hn:=hr.len;subst hn;have t:=hr.2.1;have p:=hr.2.2.1;unfold maxLen at p;have f:=Hy hr;clear hr;have ⟨g,q⟩:=gn (goodT l);rw [q];have V:=Hy q;clear q
 by_cases j:60 < l.length
 ·obtain rfl:g=3:=by rw [<- V.o];exact Zau j
  have d5:decide (60 < l.length)=true:=by simpa using j
  go_in;go_wp2_with fail;go_ret;exact ⟨rfl,bf _ _⟩
 have d5:decide (60 < l.length)=false:=by simpa using j
 have m:l.length<=60:=by omega
 go_in;go_wp2_with fail;go_loopw [4,11] (fun _ i wr=>∃ k:Nat,k<=l.length/\i=.int .i64 k/\Hid (((l.take k).any fun s=>!isWord s)=false)/\Hid (Below w.heap.size w wr)) (fun _ i _=>l.length - (intOf i).toNat)
 case atStart=>exact ⟨0,by omega,rfl,by simp [Hid],bf _ w⟩
 case round=>
  obtain ⟨k,F,rfl,U,HB⟩:=hrel
  by_cases J:k < l.length
  ·obtain ⟨tc,K⟩:∃ x,l[k]?=some x:=⟨l[k],le_ J⟩
   obtain ⟨b,off,rfl,Q,c0⟩:=(f.below HB.o rfl).at K;have G:=hs _ (List.mem_iff_getElem?.2 ⟨k,K⟩);have M:=Hy (fun W=>ZS tc W G);have E:=QG (fun s=>!isWord s) l k tc K;have I:=QY (fun s=>!isWord s) l k tc K;rw [U.o,Bool.false_or] at E;clear G Q K;have ⟨bk,P⟩:=gn (isWord tc);rw [P] at E I M;have d:=Hy E;have c:=Hy I;clear E I P U;go_wp2_with fail;refine (M.o _).mono ?_;rintro e w' ⟨rfl,r⟩;have H:=Hy (HB.trans (r.mono HB.size));clear r;cases bk with
   | true=>
    go_wp2_with fail;go_roundw
    case rel=>exact ⟨k+1,by omega,by go_num,by rw [d.o];rfl,H.o⟩
    case measure=>simp [intOf];omega
   | false=>
    go_wp2_with fail;go_ret;obtain rfl:g=6:=by rw [<- V.o];exact Yau m (c.o rfl)
    exact ⟨rfl,H.o⟩
  obtain rfl:k=l.length:=by omega
  have L:Hid ((l.any fun s=>!isWord s)=false):=by
   have:=U.o;rw [List.take_length] at this;exact this
  clear U hs;have G:=HB.size;go_wp2_with fail;obtain ⟨wo,rfl⟩:∃ wo:World,wo=wr:=⟨_,rfl⟩;go_loopw [5] (fun i wr=>∃ k:Nat,1<=k/\(k<=l.length∨k=1)/\i=.int .i64 k/\Hid (risesT l (k - 1)=true)/\Hid (Below w.heap.size w wr)) (fun i _=>l.length - (intOf i).toNat)
  case atStart=>exact ⟨1,by omega,.inr rfl,rfl,rfl,HB.o⟩
  case round=>
   clear HB G F;obtain ⟨k,Af,F,rfl,N,HB⟩:=hrel
   by_cases J:k < l.length
   ·have Y:=XF (l:=l) (i:=k - 1) (by omega)
    have Z:=XF (l:=l) (i:=k) J;have A:=qK l (k - 1);rw [show k - 1+1=k from by omega] at A;revert A Y Z;generalize K:tAt l (k - 1)=tx;generalize hy:tAt l k=ty;intro Y Z A;rw [N.o,Bool.true_and] at A;obtain ⟨b,off,rfl,Q,c0⟩:=(f.below HB.o rfl).at Y;obtain ⟨b',y,u,R,c1⟩:=(f.below HB.o rfl).at Z;simp only [Option.some.injEq,Addr.mk.injEq,and_true] at u;obtain ⟨rfl,rfl⟩:=u;clear R Y Z K hy;have D:=Hy A;clear A;have M:Hid (∀ W,Calls prog 103 #[tx,ty] W fun e w'=>e=.returned (.int .i64 (cmpT tx ty))/\w'=W):=fun W=>(XR tx ty W).mono fun e w' h=>⟨h.1,h.2.symm⟩
    have T:tless tx ty=decide (cmpT tx ty < 0):=rfl;have C:=Hy T;clear T;generalize cmpT tx ty=z at C M;go_wp2_with fail;have w1:IntKind.i64.wrap ((k:Int) - 1)=(k:Int) - 1:=IntWalk.i64_in _ (by omega);have w2:((k:Int) - 1).toNat=k - 1:=by omega
    have w3:(0:Int)<=(k:Int) - 1:=by omega
    have w4:(k:Int) - 1 < l.length:=by omega
    have w5:(1:Int)<=(k:Int):=by omega
    have v:=below_drewN HB.o 1;have H:=Hy v;clear v;go_quiet ((go_at_call 103;exact Calls.quiet_of_same (M.o _)));clear w1 w2 w3 w4 w5
    by_cases hz:z < 0
    ·have d1:decide (0<=z)=false:=by simp;omega
     have B:Hid (risesT l k=true):=by
      have:=D.o;rw [C.o] at this;exact this.trans (by simp;omega)
     clear D C;go_wp2_with fail;go_roundw
     case rel=>exact ⟨k+1,by omega,by omega,by go_num,B.o,below_drewN HB.o _⟩
     case measure=>simp [intOf];omega
    have d1:decide (0<=z)=true:=by simp;omega
    have B:Hid (risesT l k=false):=by
     have:=D.o;rw [C.o] at this;exact this.trans (by simp;omega)
    clear D C;obtain rfl:g=7:=by rw [<- V.o];exact Xau m L.o k (by omega) B.o
    go_wp2_with fail;go_ret;exact ⟨rfl,below_drewN HB.o _⟩
   have B:Hid (risesT l (l.length - 1)=true):=by
    rcases F with F | rfl
    ·obtain rfl:k=l.length:=by omega
     exact N.o
    ·have:l.length - 1=0:=by omega
     rw [this];rfl
   obtain rfl:g=0:=by rw [<- V.o];exact Qau m L.o B.o
   go_wp2_with fail;go_ret;exact ⟨rfl,HB.o⟩
theorem yaN (la:Int) (ta:ByteArray) (lb:Int) (tb:ByteArray) (w:World):
  Calls prog 158 #[.agg #[la,ta],.agg #[lb,tb]] w fun e w'=>e=.returned (.int .i64 (cmpK la ta lb tb))/\Below w.heap.size w w':=by
 unfold cmpK;have E:Hid (∀ W,Calls prog 189 #[la,lb] W fun e w'=>e=.returned (.int .i64 (cmpI la lb))/\w'=W):=fun W=>(zE la lb W).mono fun e w' h=>⟨h.1,h.2.symm⟩;have F:Hid (∀ W,Calls prog 103 #[ta,tb] W fun e w'=>e=.returned (.int .i64 (cmpT ta tb))/\w'=W):=fun W=>(XR ta tb W).mono fun e w' h=>⟨h.1,h.2.symm⟩;generalize cmpI la lb=x at *;generalize cmpT ta tb=y at *
 have HB:Hid (∀ W:World,W.heap=(((w.alloc (.cells #[la,ta] 107)).alloc (.cells #[lb,tb] 107)).alloc (.cells #[x,y] 3)).heap->Blk W (w.heap.size+1+1) 3 [x,y]):=by
  intro W G;have h:=hn_ ((w.alloc (.cells #[la,ta] 107)).alloc (.cells #[lb,tb] 107)) (.cells #[x,y] 3);unfold Blk;rw [G];simpa using h
 have B:Hid (Below w.heap.size w (((w.alloc (.cells #[la,ta] 107)).alloc (.cells #[lb,tb] 107)).alloc (.cells #[x,y] 3))):=by
  exact (((bf _ w).alloc (nl _) _).alloc (by simp) _).alloc (by simp;omega) _
 go_in;go_wp2_with fail;have ⟨W0,A⟩:=gn ((w.alloc (.cells #[la,ta] 107)).alloc (.cells #[lb,tb] 107))
 have C:Blk W0 w.heap.size 107 [la,ta]:=by
  subst A;exact Blk.alloc (show Blk (w.alloc _) _ _ _ by unfold Blk;rw [heap_alloc_new]) _
 have D:Blk W0 (w.heap.size+1) 107 [lb,tb]:=by
  subst A;have h:=hn_ (w.alloc (.cells #[la,ta] 107)) (.cells #[lb,tb] 107);unfold Blk;simpa using h
 have H:Ci W0 w.heap.size 0 la:=C.cell 0;have I:W0.cell? ⟨w.heap.size,1,none⟩=some (.string ta):=C.cell 1;have J:W0.cell? ⟨w.heap.size+1,0,none⟩=some (.int .i64 lb):=D.cell 0;have K:W0.cell? ⟨w.heap.size+1,1,none⟩=some (.string tb):=D.cell 1;rw [A];go_still_tail 10,(by kernel_rfl);still_call (E.o _);repeat still_step
 still_call (F.o _);repeat still_step
 refine wpStill_nil ?_;go_wp2_with fail;refine (qan _ _ 3 x y ?_).mono ?_
 ·have h:=hn_ W0 (.cells #[x,y] 3)
  exact h
 rintro e w' ⟨rfl,rfl⟩;go_wp2_with fail;go_ret;subst A;exact ⟨rfl,B.os,B.tape,B.output,B.size,B.block⟩
theorem QV (la:Int) (ta:ByteArray) (lb:Int) (tb:ByteArray) (w:World):
  Calls prog 104 #[.agg #[la,ta],.agg #[lb,tb]] w fun e w'=>e=.returned (.bool (decide (cmpK la ta lb tb < 0)))/\Below w.heap.size w w':=by
 have B:Hid (∀ W,Calls prog 158 #[.agg #[la,ta],.agg #[lb,tb]] W fun e w'=>e=.returned (.int .i64 (cmpK la ta lb tb))/\Below W.heap.size W w'):=fun W=>yaN la ta lb tb W;generalize cmpK la ta lb tb=x at *
 have C:Hid (Below w.heap.size w ((w.alloc (.cells #[la,ta] 107)).alloc (.cells #[lb,tb] 107))):=by
  exact ((bf _ w).alloc (nl _) _).alloc (by simp) _
 go_in;go_wp2_with fail;refine (B.o _).mono ?_;rintro e w' ⟨rfl,A⟩;have HB:=Hy (C.trans (A.mono (by simp;omega)));clear A;go_wp2_with fail;go_ret;exact ⟨rfl,HB.o⟩
def belowN (l:List KeyL) (k:KeyL):Nat:=(l.filter fun c=>!kless k c).length
theorem qaa (l:List KeyL) (k:KeyL) (j:Nat) (c:KeyL) (h:l[j]?=some c):belowN (l.take (j+1)) k=belowN (l.take j) k+(if kless k c then 0 else 1):=by
 unfold belowN;rw [List.take_add_one,h,List.filter_append,List.length_append];cases A:kless k c <;> simp [A]
theorem yay (l:List KeyL) (k:KeyL):belowN l k<=l.length:=List.length_filter_le _ _
theorem xay (a:Option Addr) (n cap:Nat) (l:List KeyL) (lk:Int) (tk:ByteArray) (w:World) (hr:RdE KeyL.cells 2 w a n cap l) (hl:l.length<=100):
  Calls prog 206 #[.slice a n cap,.agg #[lk,tk],.func (.func 104) #[] #[]] w fun e w'=>e=.returned (.int .i64 (belowN l (lk,tk)))/\Below w.heap.size w w':=by
 have d:=hr.1;subst d;have P:=hr.2.1;have U:=Hy hr;clear hr;go_in;go_wp2_with fail;go_loopw [7,9,12] (fun g c i wr=>∃ k:Nat,k<=l.length/\i=.int .i64 k/\g=.int .i64 (belowN (l.take k) (lk,tk))/\Hid (Blk wr w.heap.size 107 [lk,tk])/\Hid (Below w.heap.size w wr)) (fun _ _ i _=>l.length - (intOf i).toNat)
 case atStart=>exact ⟨0,by omega,rfl,rfl,(show Blk (w.alloc (.cells #[lk,tk] 107)) _ _ _ by unfold Blk;rw [heap_alloc_new]),(bf _ w).alloc (nl _) _⟩
 case round=>
  obtain ⟨k,Z,rfl,rfl,G,HB⟩:=hrel
  by_cases L:k < l.length
  ·obtain ⟨⟨A,tc⟩,R⟩:∃ x,l[k]?=some x:=⟨l[k],le_ L⟩
   obtain ⟨b,off,rfl,Y,K⟩:=(U.below HB.o rfl).2.2.2.2 k (A,tc) R;have h:wr.cell? ⟨b,off+k * 2,none⟩=some (.int .i64 A):=K 0 (by decide);have j:wr.cell? ⟨b,off+k * 2+1,none⟩=some (.string tc):=K 1 (by decide);clear K;have q:(wr.alloc (.cells #[A,tc] 107)).cell? ⟨w.heap.size,0,none⟩=some (.int .i64 lk):=(G.alloc _).cell 0;have r:(wr.alloc (.cells #[A,tc] 107)).cell? ⟨w.heap.size,1,none⟩=some (.string tk):=(G.alloc _).cell 1;have M:=Hy (show Blk (wr.alloc (.cells #[A,tc] 107)) wr.heap.size 107 [A,tc] by unfold Blk;rw [heap_alloc_new])
   have m:Ci (wr.alloc (.cells #[A,tc] 107)) wr.heap.size 0 A:=M.cell 0;have p:(wr.alloc (.cells #[A,tc] 107)).cell? ⟨wr.heap.size,1,none⟩=some (.string tc):=M.cell 1;have I:=Hy (G.alloc (.cells #[A,tc] 107));have H:=Hy (HB.alloc HB.size (.cells #[A,tc] 107));have Q:=G.lt;have f:(wr.alloc (.cells #[A,tc] 107)).heap.size=wr.heap.size+1:=by simp
   have T:=Hy (fun W=>QV lk tk A tc W);have B:=qaa l (lk,tk) k (A,tc) R;have C:=yay (l.take k) (lk,tk);rw [List.length_take] at C;have ⟨N,V⟩:=gn (belowN (l.take k) (lk,tk));rw [V] at B C ⊢;go_wp2_with fail;refine (T.o _).mono ?_;rintro e w' ⟨rfl,J⟩;have F:=Hy (I.below J (by omega));have E:=Hy (H.trans (J.mono (by omega)));clear J;cases hd:decide (cmpK lk tk A tc < 0) with
   | true=>
    have D:kless (lk,tk) (A,tc)=true:=hd;rw [D,if_pos rfl] at B;go_wp2_with fail;go_roundw
    case rel=>exact ⟨k+1,by omega,by go_num,by rw [B];rfl,F.o,E.o⟩
    case measure=>simp [intOf];omega
   | false=>
    have D:kless (lk,tk) (A,tc)=false:=hd;rw [D,if_neg (by simp)] at B;go_wp2_with fail;go_roundw
    case rel=>exact ⟨k+1,by omega,by go_num,by rw [B];go_num,F.o,E.o⟩
    case measure=>simp [intOf];omega
  obtain rfl:k=l.length:=by omega
  rw [List.take_length];go_wp2_with fail;go_ret;exact ⟨rfl,HB.o⟩
def keyAt (l:List KeyL) (i:Nat):KeyL:=l.getD i (0,⟨#[]⟩)
theorem qd {l:List KeyL} {i:Nat} (h:i < l.length):l[i]?=some (keyAt l i):=by
 unfold keyAt;simp [h]
def ofN (l:List KeyL) (s:ByteArray):Int:=if isWord s=true then (belowN l (tLen s,s):Int) else -1
theorem Qa6 (a:Option Addr) (n cap:Nat) (l:List KeyL) (s:ByteArray) (w:World) (hr:RdE KeyL.cells 2 w a n cap l) (hl:l.length<=100) (hs:s.size<=maxLen):
  Calls prog 187 #[.slice a n cap,s] w fun e w'=>e=.returned (.int .i64 (ofN l s))/\Below w.heap.size w w':=by
 have G:=Hy hr;clear hr;unfold ofN;have C:=Hy (fun W=>ZS s W hs);have F:=Hy (fun W=>xE s W hs);cases E:isWord s with
 | true=>
  rw [E] at C;rw [if_pos rfl];go_in;go_wp2_with fail;refine (C.o _).mono ?_;rintro e H ⟨rfl,A⟩;have HB:=Hy A;clear A;go_wp2_with fail;refine (F.o _).mono ?_;rintro e I ⟨rfl,A⟩;have B:=Hy (HB.trans (A.mono HB.size));clear A HB;go_wp2_with fail;refine (xay a n cap l (tLen s) s _ (G.below B.o rfl) hl).mono ?_;rintro e J ⟨rfl,A⟩;have D:=Hy (B.trans (A.mono B.size));clear A;go_wp2_with fail;go_ret;exact ⟨rfl,D.o⟩
 | false=>
  rw [E] at C;rw [if_neg (by simp)];go_in;go_wp2_with fail;refine (C.o _).mono ?_;rintro e H ⟨rfl,A⟩;have HB:=Hy A;clear A;go_wp2_with fail;go_ret;exact ⟨rfl,HB.o⟩
def lenLo (l:List KeyL) (k:Int):Int:=if k < 0∨l.length < k then 1 else if 0 < k then (keyAt l (k.toNat - 1)).1 else 1
def lenHi (l:List KeyL) (k:Int):Int:=if k < 0∨l.length < k then 0 else if k < l.length then (if (keyAt l k.toNat).2.toList=[] then (keyAt l k.toNat).1 - 1 else (keyAt l k.toNat).1) else 12
theorem xaN (a:Option Addr) (n cap:Nat) (l:List KeyL) (k:Int) (w:World) (hr:RdE KeyL.cells 2 w a n cap l) (hl:l.length<=100) (F:∀ x∈l,-1000<=x.1/\x.1<=1000):
  Calls prog 73 #[.slice a n cap,k] w fun e w'=>e=.returned (.tuple #[.int .i64 (lenLo l k),.int .i64 (lenHi l k)])/\w=w':=by
 have i:=hr.1;subst i;have M:=Hy hr;clear hr;unfold lenLo lenHi
 by_cases h1:k < 0∨l.length < k
 ·rw [if_pos h1,if_pos h1]
  have D:=M.2.1
  by_cases s:k < 0
  ·clear h1
   go_in;go_wp2_with fail;go_ret2;exact ⟨rfl,rfl⟩
  have c:l.length < k:=by omega
  clear h1;have r:decide ((l.length:Int) < k)=true:=by simpa using c
  go_in;go_wp2_with fail;go_ret2;exact ⟨rfl,rfl⟩
 rw [if_neg h1,if_neg h1]
 obtain ⟨k,rfl⟩:∃ m:Nat,k=(m:Int):=⟨k.toNat,by omega⟩;have g:k<=l.length:=by omega
 clear h1;have D:=M.2.1;have Z:decide ((l.length:Int) < k)=false:=by simp;omega
 have R:∃ lo:Int,-1000<=lo/\lo<=1000/\(if (0:Int) < k then (keyAt l ((k:Int).toNat - 1)).1 else 1)=lo/\(0 < k->∃ b off,a=some ⟨b,off,none⟩/\w.cell? ⟨b,off+(k - 1) * 2,none⟩=some (.int .i64 lo))/\(k=0->lo=1):=by
  by_cases T:0 < k
  ·obtain ⟨b,off,J,P,N⟩:=M.2.2.2.2 (k - 1) _ (qd (by omega))
   have C:=F (keyAt l (k - 1)) (List.mem_iff_getElem?.2 ⟨_,qd (by omega)⟩);refine ⟨_,C.1,C.2,?_,fun _=>⟨b,off,J,N 0 (by decide)⟩,fun h=>by omega⟩;rw [ip,Int.toNat_natCast]
  ·exact ⟨1,by omega,by omega,by rw [io],fun h=>absurd h T,fun _=>rfl⟩
 have Q:∃ (hi:Int) (H:ByteArray),-1000<=hi/\hi<=1000/\(if (k:Int) < l.length then (if (keyAt l (k:Int).toNat).2.toList=[] then (keyAt l (k:Int).toNat).1 - 1 else (keyAt l (k:Int).toNat).1) else 12)=(if k < l.length then (if H.toList=[] then hi - 1 else hi) else 12)∧
   (k < l.length->∃ b off,a=some ⟨b,off,none⟩/\w.cell? ⟨b,off+k * 2,none⟩=some (.int .i64 hi)/\w.cell? ⟨b,off+k * 2+1,none⟩=some (.string H)):=by
  by_cases A:k < l.length
  ·obtain ⟨b,off,J,P,N⟩:=M.2.2.2.2 k _ (qd A)
   have C:=F (keyAt l k) (List.mem_iff_getElem?.2 ⟨_,qd A⟩);refine ⟨(keyAt l k).1,(keyAt l k).2,C.1,C.2,?_,fun _=>⟨b,off,J,N 0 (by decide),N 1 (by decide)⟩⟩;rw [ip,if_pos A,Int.toNat_natCast]
  ·exact ⟨0,⟨#[]⟩,by omega,by omega,by rw [io,if_neg A],fun h=>absurd h A⟩
 obtain ⟨lo,j,o,L,E,I⟩:=R;obtain ⟨hi,H,d,f,K,B⟩:=Q;rw [L,K];clear L K F
 by_cases T:0 < k
 ·obtain ⟨b,off,rfl,p⟩:=E T
  have q:decide ((0:Int) < k)=true:=by simp;omega
  clear I E
  by_cases A:k < l.length
  ·obtain ⟨b',Y,J,V,c3⟩:=B A
   simp only [Option.some.injEq,Addr.mk.injEq,and_true] at J;obtain ⟨rfl,rfl⟩:=J;clear B;rw [if_pos A]
   by_cases G:H.toList=[]
   ·rw [if_pos G]
    go_in;go_wp2_with fail;go_ret2;exact ⟨rfl,rfl⟩
   rw [if_neg G]
   have U:H.toList.isEmpty=false:=by simpa using G
   go_in;go_wp2_with fail;go_ret2;exact ⟨rfl,rfl⟩
  obtain rfl:k=l.length:=by omega
  rw [if_neg A];clear B;go_in;go_wp2_with fail;go_ret2;exact ⟨rfl,rfl⟩
 obtain rfl:k=0:=by omega
 obtain rfl:=I rfl;clear I E Z
 by_cases A:0 < l.length
 ·obtain ⟨b,off,rfl,V,c3⟩:=B A
  clear B;rw [if_pos A];have W:off+0 * 2=off:=by omega
  rw [W] at V c3;clear W
  by_cases G:H.toList=[]
  ·rw [if_pos G]
   go_in;go_wp2_with fail;go_ret2;exact ⟨rfl,rfl⟩
  rw [if_neg G]
  have U:H.toList.isEmpty=false:=by simpa using G
  go_in;go_wp2_with fail;go_ret2;exact ⟨rfl,rfl⟩
 have h0:l.length=0:=by omega
 rw [if_neg A];clear B;rw [h0] at D ⊢;go_in;go_wp2_with fail;go_ret2;exact ⟨rfl,rfl⟩
def leastN (l:List KeyL) (k n:Int):Int:=if lenHi l k < lenLo l k then -1 else if n < lenLo l k then lenLo l k - n else if lenHi l k < n then n - lenHi l k else 0
theorem Q0 (l:List KeyL) (k:Int) (B:∀ x∈l,-1000<=x.1/\x.1<=1000):(-1000<=lenLo l k/\lenLo l k<=1000)/\ -1001<=lenHi l k/\lenHi l k<=1000:=by
 have A:∀ i,-1000<=(keyAt l i).1/\(keyAt l i).1<=1000:=by
  intro i
  by_cases h:i < l.length
  ·exact B _ (List.mem_iff_getElem?.2 ⟨i,qd h⟩)
  ·unfold keyAt;rw [List.getD_eq_getElem?_getD,List.getElem?_eq_none (by omega)];decide
 constructor
 ·unfold lenLo
  have:=A (k.toNat - 1);split
  ·omega
  split <;> omega
 unfold lenHi
 have:=A k.toNat;split
 ·omega
 split
 ·split <;> omega
 omega
theorem qaB (a:Option Addr) (n cap:Nat) (l:List KeyL) (k m:Int) (w:World) (hr:RdE KeyL.cells 2 w a n cap l) (hl:l.length<=100) (A:∀ x∈l,-1000<=x.1/\x.1<=1000) (hm: -1000<=m/\m<=1000):
  Calls prog 27 #[.slice a n cap,k,m] w fun e w'=>e=.returned (.int .i64 (leastN l k m))/\w=w':=by
 have B:=Hy (xaN a n cap l k w hr hl A);obtain ⟨⟨I,b2⟩,J,K⟩:=Q0 l k A;obtain ⟨L,M⟩:=hm;unfold leastN;generalize lenLo l k=lo at *;generalize lenHi l k=hi at *;clear hr A
 by_cases h1:hi < lo
 ·rw [if_pos h1]
  have F:decide (hi < lo)=true:=by simpa using h1
  go_in;go_wp2_with fail;refine (B.o).mono ?_;rintro e E ⟨rfl,rfl⟩;go_wp2_with fail;go_ret;exact ⟨rfl,rfl⟩
 rw [if_neg h1]
 have F:decide (hi < lo)=false:=by simpa using h1
 by_cases C:m < lo
 ·rw [if_pos C]
  have G:decide (m < lo)=true:=by simpa using C
  go_in;go_wp2_with fail;refine (B.o).mono ?_;rintro e E ⟨rfl,rfl⟩;go_wp2_with fail;go_ret;exact ⟨rfl,rfl⟩
 rw [if_neg C]
 have G:decide (m < lo)=false:=by simpa using C
 by_cases D:hi < m
 ·rw [if_pos D]
  have H:decide (hi < m)=true:=by simpa using D
  go_in;go_wp2_with fail;refine (B.o).mono ?_;rintro e E ⟨rfl,rfl⟩;go_wp2_with fail;go_ret;exact ⟨rfl,rfl⟩
 rw [if_neg D]
 have H:decide (hi < m)=false:=by simpa using D
 go_in;go_wp2_with fail;refine (B.o).mono ?_;rintro e E ⟨rfl,rfl⟩;go_wp2_with fail;go_ret;exact ⟨rfl,rfl⟩
section
open Go.RowKit Go.Deep
theorem infoS:(Tryz.prog.info? 9).map (fun i=>(i.zero,i.size,i.bytes))=some (some (.string ⟨#[]⟩),1,16):=by kernel_rfl
def GotT (w:World) (r:List ByteArray) (e:Ending) (w':World):Prop:=∃ ao c,e=.returned (.slice ao r.length c)/\w'.ownsRow w.heap.size 9 1 (.slice ao r.length c) r.length (r.map Value.string)/\Below w.heap.size w w'
def sliceP (ks:List KeyL) (s:Int) (x:ByteArray):Bool:=decide (0<=ofN ks x)&&decide (ofN ks x=s)
def sliceL (ks:List KeyL) (l:List ByteArray) (s:Int):List ByteArray:=l.filter (sliceP ks s)
theorem Zab {α:Type} (p:α->Bool) (l:List α) (k:Nat) (x:α) (h:l[k]?=some x):(l.take (k+1)).filter p=(l.take k).filter p++(if p x then [x] else []):=by
 rw [List.take_add_one,h,List.filter_append];cases A:p x <;> simp [A]
theorem XaG (a:Option Addr) (n cap:Nat) (ks:List KeyL) (b:Option Addr) (m bc:Nat) (l:List ByteArray) (s:Int) (w:World) (hr:RdE KeyL.cells 2 w a n cap ks) (hl:ks.length<=100) (ht:RdT w b m bc l) (hm:l.length<=1000) (hs:∀ x∈l,x.size<=maxLen):
  Calls prog 141 #[.slice a n cap,.slice b m bc,s] w (GotT w (sliceL ks l s)):=by
 have hn:=ht.len;subst hn;have t:=ht.2.1;have u:=Hy hr;have v:=Hy ht;clear hr ht;obtain ⟨i0,hi,h,j,G⟩:=info_parts infoS;clear hi h j G;go_in;go_wp2_with fail;go_loopw [7,9,10,13] (fun o _ _ i wr=>∃ k:Nat,k<=l.length/\i=.int .i64 k/\∃ I c q,o=.slice I q c/\Hid ((sliceL ks (l.take k) s).length=q)/\q<=k/\Hid (wr.ownsRow w.heap.size 9 1 (.slice I q c) q ((sliceL ks (l.take k) s).map Value.string))/\Hid (Below w.heap.size w wr)) (fun _ _ _ i _=>l.length - (intOf i).toNat)
 case atStart=>exact ⟨0,by omega,rfl,none,0,0,rfl,rfl,by omega,World.ownsRow_nil _ _ _ _,bf _ w⟩
 case round=>
  obtain ⟨k,L,rfl,I,c,q,rfl,H,Ad,Q,HB⟩:=hrel
  by_cases f:k < l.length
  ·obtain ⟨tc,R⟩:∃ x,l[k]?=some x:=⟨l[k],le_ f⟩
   obtain ⟨g,off,rfl,Z,c0⟩:=(v.below HB.o rfl).at R;have P:=hs _ (List.mem_iff_getElem?.2 ⟨k,R⟩);have p:=Hy (fun W hW=>Qa6 a n cap ks tc W hW hl P);have J:=Zab (sliceP ks s) l k tc R;have N:sliceP ks s tc=(decide (0<=ofN ks tc)&&decide (ofN ks tc=s)):=rfl;have C:=Hy J;have B:=Hy N;clear J N P Z R;generalize ofN ks tc=z at p B;go_wp2_with fail;refine (p.o _ (u.below HB.o rfl)).mono ?_;rintro e w1 ⟨rfl,Y⟩;have E:=Hy (HB.trans (Y.mono HB.size));have F:=Hy (Qa Q.o Y);have G:=E.size
   clear Y HB Q
   by_cases h0:0<=z
   ·by_cases h1:z=s
    ·subst h1
     have A:Hid (sliceL ks (l.take (k+1)) z=sliceL ks (l.take k) z++[tc]):=by
      have M:sliceP ks z tc=true:=by rw [B.o];simp [h0]
      have:=C.o;rw [M,if_pos rfl] at this;exact this
     have r:decide (0<=z)=true:=by simpa using h0
     clear B C;go_wp2_with (at_builtin;refine wa infoS underlying22 (F.alloc _) (Src.one' underlying22 w1 _ 9 rfl) (by unfold maxLen;omega) (by omega) (by simp;omega) ?_;intro V y w2 D K;have U:=Hy D;have T:=Hy ((E.alloc G _).grown K (by simp;omega) (fun k L=>(F.lt k L).1));clear D K);have d:Hid ((sliceL ks (l.take (k+1)) z).length=q+1):=by unfold Hid;rw [A.out,List.length_append,H.o];rfl
     go_roundw
     case rel=>exact ⟨k+1,by omega,by go_num,V,y,q+1,rfl,d,by omega,(by rw [A.out,List.map_append];exact U.o),T.o⟩
     case measure=>simp [intOf];omega
    have A:Hid (sliceL ks (l.take (k+1)) s=sliceL ks (l.take k) s):=by
     have M:sliceP ks s tc=false:=by rw [B.o];simp [h1]
     have:=C.o;rw [M,if_neg (by simp),List.append_nil] at this;exact this
    have r:decide (0<=z)=true:=by simpa using h0
    have d1:(z == s)=false:=by simpa using h1
    clear B C;go_wp2_with fail;go_roundw
    case rel=>exact ⟨k+1,by omega,by go_num,I,c,q,rfl,(by rw [A.out];exact H.o),by omega,(by rw [A.out];exact F.o),E.o⟩
    case measure=>simp [intOf];omega
   have A:Hid (sliceL ks (l.take (k+1)) s=sliceL ks (l.take k) s):=by
    have M:sliceP ks s tc=false:=by rw [B.o];simp [h0]
    have:=C.o;rw [M,if_neg (by simp),List.append_nil] at this;exact this
   have r:decide (0<=z)=false:=by simpa using h0
   clear B C;go_wp2_with fail;go_roundw
   case rel=>exact ⟨k+1,by omega,by go_num,I,c,q,rfl,(by rw [A.out];exact H.o),by omega,(by rw [A.out];exact F.o),E.o⟩
   case measure=>simp [intOf];omega
  obtain rfl:k=l.length:=by omega
  rw [List.take_length] at H Q;have hq:=H.o;subst hq;clear H;go_wp2_with fail;go_ret;exact ⟨I,c,rfl,Q.o,HB.o⟩
end
structure Frm (S:Nat->Prop) (w w':World):Prop where
 os:w'.os=w.os
 tape:w'.tape=w.tape
 output:w'.output=w.output
 size:w.heap.size<=w'.heap.size
 block:∀ k,k < w.heap.size->¬ S k->w'.heap[k]?=w.heap[k]?
theorem Frm.refl (S:Nat->Prop) (w:World):Frm S w w:=⟨rfl,rfl,rfl,nl _,fun _ _ _=>rfl⟩
theorem Frm.trans {S:Nat->Prop} {a c:World} (h:Frm S a b) (k:Frm S' b c) (hs:∀ i,S' i->i < a.heap.size->S i):Frm S a c:=
 ⟨k.os.trans h.os,k.tape.trans h.tape,k.output.trans h.output,nr h.size k.size,fun i hi A=>(k.block i (nt hi h.size) (fun e=>A (hs i e hi))).trans (h.block i hi A)⟩
theorem Frm.mono {S S':Nat->Prop} {a:World} (h:Frm S a b) (hs:∀ i,S i->i < a.heap.size->S' i):Frm S' a b:=
 ⟨h.os,h.tape,h.output,h.size,fun i hi A=>h.block i hi (fun e=>A (hs i e hi))⟩
theorem Frm.grown {S:Nat->Prop} {a b:World} {row:Option Nat} (h:a.grownBy b row) (hs:∀ g,row=some g->S g):Frm S a b:=
 ⟨h.os,h.tape,h.output,h.size,fun i hi A=>h.block i hi (fun e=>A (hs i e.symm))⟩
theorem Frm.below {S:Nat->Prop} {a:World} (h:Below a.heap.size a b):Frm S a b:=⟨h.os,h.tape,h.output,h.size,fun i hi _=>h.block i hi⟩
theorem Frm.drew {S:Nat->Prop} {a:World} (h:Frm S a b):Frm S a b.drew:=⟨h.os,h.tape,h.output,h.size,h.block⟩
theorem Frm.drewN {S:Nat->Prop} {a:World} (h:Frm S a b) (n:Nat):Frm S a (b.drewN n):=⟨h.os,h.tape,h.output,h.size,h.block⟩
theorem Frm.alloc {S:Nat->Prop} {a:World} (h:Frm S a b) (o:Obj):Frm S a (b.alloc o):=
 ⟨h.os,h.tape,h.output,nr h.size (by simp),fun i hi A=>(Below.heap_alloc b o i (nt hi h.size)).trans (h.block i hi A)⟩
theorem Frm.setCell {S:Nat->Prop} {a:World} (h:Frm S a b) (p:Addr) (u:Value) (hp:S p.block∨a.heap.size<=p.block):Frm S a (b.setCell p u):=
 ⟨h.os,h.tape,h.output,by simpa [World.setCell] using h.size,fun i hi A=>(Below.heap_setCell b p u i (by
  rintro rfl
  rcases hp with hp | hp
  ·exact A hp
  ·omega)).trans (h.block i hi A)⟩
theorem Frm.toBelow {S:Nat->Prop} {a:World} {B:Nat} (h:Frm S a b) (hB:B<=a.heap.size) (hs:∀ i,i < B->¬ S i):Below B a b:=
 ⟨h.os,h.tape,h.output,h.size,fun i hi=>h.block i (by omega) (hs i hi)⟩
theorem Blk.frm {S:Nat->Prop} {w w':World} {g:Nat} {e:TypeId} {cs:List Value} (h:Blk w g e cs) (hf:Frm S w w') (hg:¬ S g):Blk w' g e cs:=by
 unfold Blk at *;rw [hf.block g (Blk.lt h) hg];exact h
theorem Blk.far {w:World} {g:Nat} {e:TypeId} {cs:List Value} (h:Blk w g e cs) (p:Addr) (u:Value) (hp:g≠p.block):Blk (w.setCell p u) g e cs:=(Below.heap_setCell w p u g hp).trans h
theorem zk {w:World} {p o:Nat} {T:TypeId} {cs:List Value} (h:Blk w p T cs):w.frozen? ⟨p,o,none⟩=false:=h.frozen o
theorem za {w:World} {base e size n:Nat} {v:Value} {xs:List Value} (h:w.ownsRow base e size v n xs) (hf:Frm S w w') (A:∀ k,v.ownBlock=some k->¬ S k):w'.ownsRow base e size v n xs:=by
 refine ⟨h.1,?_⟩;rcases h.2 with h2 | ⟨g,cap,cur,hv,hb,hg,h3⟩
 ·exact .inl h2
 refine .inr ⟨g,cap,cur,hv,hb,?_,h3⟩
 rw [hf.block g (Array.getElem?_eq_some_iff.1 hg).1 (A g (by rw [hv];rfl))];exact hg
theorem Qb {w:World} {base e size n p:Nat} {v:Value} {xs:List Value} {T:TypeId} {cs:List Value} (h:w.ownsRow base e size v n xs) (hp:Blk w p T cs) (hT:T≠e):∀ k,v.ownBlock=some k->k≠p:=by
 intro k A B;subst B;rcases h.2 with h2 | ⟨g,cap,cur,hv,hb,hg,h3⟩
 ·rw [h2.1] at A;simp [Value.ownBlock] at A
 rw [hv] at A
 simp only [Value.ownBlock,Option.some.injEq] at A;subst A;unfold Blk at hp;rw [hp] at hg;simp at hg;exact hT hg.2
theorem Yad {w:World} {base e size n base' e' size' n':Nat} {v v':Value} {xs xs':List Value} (h:w.ownsRow base e size v n xs) (h':w.ownsRow base' e' size' v' n' xs') (hT:e≠e'):∀ k,v.ownBlock=some k->v'.ownBlock≠some k:=by
 intro k A B;rcases h.2 with h2 | ⟨g,cap,cur,hv,hb,hg,h3⟩
 ·rw [h2.1] at A;simp [Value.ownBlock] at A
 rcases h'.2 with h2' | ⟨g',cap',cur',hv',hb',hg',h3'⟩
 ·rw [h2'.1] at B;simp [Value.ownBlock] at B
 rw [hv] at A
 rw [hv'] at B;simp only [Value.ownBlock,Option.some.injEq] at A B;subst A;subst B;rw [hg] at hg';simp at hg';exact hT hg'.2
theorem zi {w:World} {base:Nat} {e:TypeId} {size n c:Nat} {ao:Option Addr} {xs:List Value} (h:w.ownsRow base e size (.slice ao n c) n xs) {B:Nat} (hB:B<=base):w.ownsRow B e size (.slice ao n c) n xs:=
 ⟨h.1,h.2.imp id (fun ⟨g,cap,A,h1,D,C⟩=>⟨g,cap,A,h1,by omega,C⟩)⟩
theorem Xa {w:World} {base:Nat} {e:TypeId} {size n:Nat} {v:Value} {xs:List Value} (h:w.ownsRow base e size v n xs):∀ k,v.ownBlock=some k->base<=k:=fun k A=>(h.lt k A).1
theorem Qe {w:World} {g g':Nat} {T T':TypeId} {cs cs':List Value} (h:Blk w g T cs) (h':Blk w g' T' cs') (hT:T≠T'):g≠g':=by
 intro e;subst e;unfold Blk at h h';rw [h] at h';simp at h';exact hT h'.2
theorem set_same {cs:List Value} {k:Nat} {v:Value} (h:cs[k]?=some v):cs.set k v=cs:=by
 apply List.ext_getElem?;intro q;rw [List.getElem?_set];split
 ·rename_i e
  subst e;have:=(lg h).1;rw [if_pos this,h]
 rfl
theorem Src.two {P:Program} {tx e':TypeId} (A:P.underlying tx=some (.slice e')) (w:World) (u v:Value) (e:TypeId) (h1:u.oneCell'=true) (h2:v.oneCell'=true):Src P 2 tx (.slice (some ⟨w.heap.size,0,none⟩) 1 1) 1 [u,v] (w.alloc (.cells #[u,v] e)):=
 Src.ofSlice _ A ⟨w.heap.size,0,none⟩ 1 1 [u,v] rfl (World.news_of_block (hn_ w _)) (by
  intro x B
  simp only [List.mem_cons,List.not_mem_nil,or_false] at B
  rcases B with rfl | rfl
  ·exact h1
  ·exact h2)
abbrev Own:=Nat->Nat
def Own.upd (O:Own) (n t:Nat):Own:=fun b=>if b < n then O b else t
theorem Own.upd_lt {O:Own} {n t b:Nat} (h:b < n):O.upd n t b=O b:=by unfold Own.upd;rw [if_pos h]
theorem Own.upd_ge {O:Own} {n t b:Nat} (h:n<=b):O.upd n t b=t:=by unfold Own.upd;rw [if_neg (by omega)]
def OFrm (O:Own) (t:Nat) (w w':World):Prop:=Frm (fun b=>O b=t) w w'
theorem OFrm.of {O:Own} {t:Nat} {S:Nat->Prop} (h:Frm S w w') (hs:∀ b,S b->b < w.heap.size->O b=t):OFrm O t w w':=h.mono (fun b A B=>hs b A B)
section
def Yk (k:Int):Prop:=(Lit.int .i64 k).wf=true
theorem zo {k:Int} (h1: -9223372036854775808<=k) (h2:k<=9223372036854775807):Yk k:=by
 unfold Yk Lit.wf;simp only [IntKind.min,IntKind.max,IntKind.bits,IntKind.signed];simp;omega
structure Cod {V:Type} (R:Value->Option (DataW Unit×List MemPlace)) (enc:V->Value) (lt:V->Lit):Prop where
 toV:∀ v,R (enc v)=some (.lit (lt v),[])
 inv:∀ u v ps,R u=some (.lit (lt v),ps)->u=enc v
def rdI (v:Value):Option (DataW Unit×List MemPlace):=match v with
 | .int .i64 x=>some (.lit (.int .i64 x),[])
 | _=>none
theorem codI:Cod rdI (Value.int .i64) (Lit.int .i64):=⟨fun v=>rfl,fun u v A h=>by
 unfold rdI at h
 split at h
 ·simp at h;rw [h.1]
 ·cases h⟩
def encP:Option Nat->Value
 | none=>.pointer none
 | some b=>.pointer (some ⟨b,0,none⟩)
def ltP:Option Nat->Lit
 | none=>.int .i64 (-1)
 | some b=>.int .i64 (b:Nat)
def rdP (v:Value):Option (DataW Unit×List MemPlace):=match v with
 | .pointer none=>some (.lit (.int .i64 (-1)),[])
 | .pointer (some ⟨b,0,none⟩)=>some (.lit (.int .i64 (b:Nat)),[])
 | _=>none
theorem codP:Cod rdP encP ltP:=⟨fun v=>by cases v <;> rfl,fun u v A h=>by
 unfold rdP at h
 split at h
 ·cases v with
  | none=>rfl
  | some b=>simp [ltP] at h
 ·cases v with
  | none=>simp [ltP] at h
  | some b=>simp [ltP] at h;have e:=Int.ofNat.inj h.1;subst e;rfl
 ·cases h⟩
section
variable {V:Type} {R:Value->Option (DataW Unit×List MemPlace)} {enc:V->Value} {lt:V->Lit}
def MapF (R:Value->Option (DataW Unit×List MemPlace)) (lt:V->Lit) (w:World) (b n c:Nat) (f:Int->Option V):Prop:=
 ∃ D:DataW Unit,w.ownsMap prog 3 R b n D/\Maps.size D=c/\∀ k,Yk k->(f k=none->Maps.has D (.int .i64 k)=false)/\∀ v,f k=some v->Maps.has D (.int .i64 k)=true/\∀ z,D.atKey (.int .i64 k) z=.lit (lt v)
theorem MapF.lt' {n c:Nat} (h:MapF R lt w b n c f):b < w.heap.size:=by obtain ⟨D,h,_⟩:=h;exact h.lt
theorem MapF.frm {S:Nat->Prop} {n c:Nat} (h:MapF R lt w b n c f) (hf:Frm S w w') (hb:¬ S b):MapF R lt w' b n c f:=by
 have F:=h.lt';obtain ⟨D,⟨B,A,h1,C⟩,E⟩:=h;exact ⟨D,⟨B,A,(hf.block b F hb).trans h1,C⟩,E⟩
theorem MapF.made (w:World):MapF R lt (w.alloc (.map #[] 0)) w.heap.size 0 0 (fun _=>(none:Option V)):=
 ⟨_,w.ownsMap_made _ _ _,rfl,fun k _=>⟨fun _=>rfl,fun v h=>by cases h⟩⟩
theorem MapF.look_ok {w:World} {b n c:Nat} {f:Int->Option V} (h:MapF R lt w b n c f) (hc:Cod R enc lt) {t e:TypeId} (ht:Tryz.prog.underlying t=some (.map 3 e)) (z:V) (hz:(zeroValue e).run prog w=.ok (enc z) w) {k:Int} (A:Yk k):
  (Instr.lookup t (.map (some b)) (.int .i64 k) true).run prog w=.ok (.tuple #[enc ((f k).getD z),.bool (f k).isSome]) w:=by
 obtain ⟨D,h,H,E⟩:=h;obtain ⟨v,I,B,C⟩:=h.look_ok (Maps.int_keyed underlying3) ht hz (hc.toV z) (Maps.keyOf_int_mk underlying3 A);rw [B];cases F:f k with
 | none=>
  have h1:=(E k A).1 F;rw [Maps.atKey_of_not_has h1] at C;rw [h1,hc.inv _ _ _ C];rfl
 | some x=>
  obtain ⟨h1,G⟩:=(E k A).2 x F;rw [G] at C;rw [h1,hc.inv _ _ _ C];rfl
theorem MapF.look {w:World} {b n c:Nat} {f:Int->Option V} (h:MapF R lt w b n c f) (hc:Cod R enc lt) {t e:TypeId} (ht:Tryz.prog.underlying t=some (.map 3 e)) (z:V) (hz:(zeroValue e).run prog w=.ok (enc z) w) {k:Int} (A:Yk k):
  (Instr.lookup t (.map (some b)) (.int .i64 k) false).run prog w=.ok (enc ((f k).getD z)) w:=by
 obtain ⟨D,h,H,E⟩:=h;obtain ⟨v,I,B,C⟩:=h.lookup (Maps.int_keyed underlying3) ht hz (hc.toV z) (Maps.keyOf_int_mk underlying3 A);rw [B];cases F:f k with
 | none=>
  have h1:=(E k A).1 F;rw [Maps.atKey_of_not_has h1] at C;rw [hc.inv _ _ _ C];rfl
 | some x=>
  obtain ⟨h1,G⟩:=(E k A).2 x F;rw [G] at C;rw [hc.inv _ _ _ C];rfl
def mputF (f:Int->Option V) (k:Int) (v:Option V) (j:Int):Option V:=if j=k then v else f j
theorem MapF.store {w:World} {b n c:Nat} {f:Int->Option V} (h:MapF R lt w b n c f) (hc:Cod R enc lt) {t e:TypeId} (ht:Tryz.prog.underlying t=some (.map 3 e)) (J:n < maxLen) {k:Int} (A:Yk k) (v:V):
  ∃ w',(Instr.mapUpdate t (.map (some b)) (.int .i64 k) (enc v)).run prog w=.ok () w'/\MapF R lt w' b (n+1) (if (f k).isSome then c else c+1) (mputF f k (some v))/\Frm (fun i=>i=b) w w':=by
 obtain ⟨D,h,N,C⟩:=h;have K:=h.tidy (Maps.int_keyed underlying3);have E:=h.isMap;obtain ⟨w',G,F,L⟩:=h.store (Maps.int_keyed underlying3) ht J (Maps.keyOf_int_mk underlying3 A) (hc.toV v);refine ⟨w',G,⟨_,F,?_,fun j I=>?_⟩,Frm.grown L.grown (fun g e=>(Option.some.inj e).symm)⟩
 ·rw [Maps.size_put K,N]
  cases M:f k with
  | none=>rw [(C k A).1 M];rfl
  | some x=>rw [((C k A).2 x M).1];rfl
 unfold mputF
 by_cases e:j=k
 ·subst e
  rw [if_pos rfl];exact ⟨fun h=>(by cases h),fun x H=>by cases H;exact ⟨Maps.has_put_same E (by trivial) _,fun z=>Maps.atKey_put_same E (by trivial) _ _⟩⟩
 rw [if_neg e]
 have B:(Lit.int .i64 j)≠(Lit.int .i64 k):=by simpa using e
 refine ⟨fun J=>by rw [Maps.has_put_other B];exact (C j I).1 J,fun x H=>⟨by rw [Maps.has_put_other B];exact ((C j I).2 x H).1,fun z=>by rw [Maps.atKey_put_other B];exact ((C j I).2 x H).2 z⟩⟩
theorem MapF.same {w':World} {n c:Nat} (h:MapF R lt w b n c f) (hb:w'.heap[b]?=w.heap[b]?):MapF R lt w' b n c f:=by
 obtain ⟨D,⟨B,A,h1,C⟩,E⟩:=h;exact ⟨D,⟨B,A,hb.trans h1,C⟩,E⟩
theorem Qa0 {α:Type} (xs:Array α) (a:α) (g:α->α):(xs.push a).modify xs.size g=xs.push (g a):=by
 apply Array.ext
 ·simp
 intro i h1 A
 simp only [Array.size_push] at A
 by_cases e:i=xs.size
 ·subst e;rw [Array.getElem_modify,if_pos rfl];simp
 have:i < xs.size:=by omega
 rw [Array.getElem_modify,if_neg (fun h=>e h.symm),Array.getElem_push_lt this,Array.getElem_push_lt this]
theorem MapF.entry_new {w:World} {b n c:Nat} {f:Int->Option V} (h:MapF R lt w b n c f) (hc:Cod R enc lt) {t e:TypeId} (ht:Tryz.prog.underlying t=some (.map 3 e)) (hn:n < maxLen) {k:Int} (L:Yk k) (P:f k=none) {z:Value} (hz:∀ u:World,(zeroValue e).run prog u=.ok z u):
  ∃ (st:Nat) (w1:World),(Instr.mapEntry t (.map (some b)) (.int .i64 k)).run prog w=.ok (.tuple #[z,(st:Nat)]) w1/\Frm (fun i=>i=b) w w1∧
  ∀ M:World,M.heap[b]?=w1.heap[b]?->∀ v:V,∃ w3,(Instr.entryStore t (.map (some b)) (.int .i64 (st:Nat)) (enc v)).run prog M=.ok () w3/\MapF R lt w3 b (n+1) (c+1) (mputF f k (some v))/\Frm (fun i=>i=b) M w3:=by
 have T:=fun v=>h.store hc ht hn L v;rw [P] at T;obtain ⟨D,⟨E,A,J,F,p,d⟩,q,l⟩:=h;have K:=Maps.int_keyed underlying3;have B:=Maps.keyOf_int_mk underlying3 L
 have W:∀ x∈E.toList,x.key≠.int .i64 k:=by
  intro x Z e;have U:=(l k L).1 P;have H:=(⟨E,A,J,F,p,d⟩:w.ownsMap prog 3 R b n D);rcases K.find w B E.toList F.keys with ⟨_,h2⟩ | ⟨j,e0,h1,h2,h3⟩
  ·exact h2 x Z e
  ·rcases Maps.fit_look (z:=z) true K ht (hz w) J F B with ⟨_,h2',_⟩ | ⟨e1,y,_,_,_,_,hat,_⟩
   ·exact h2' e0 (lm h2) h3
   ·rw [d] at U
    rw [Maps.has_true_of_atKey hat] at U;cases U
 have G:(Instr.findKey 3 (.int .i64 k) E.toList).run prog w=.ok none w:=by
  rcases K.find w B E.toList F.keys with ⟨h1,_⟩ | ⟨j,e0,_,h2,h3⟩
  ·exact h1
  ·exact absurd h3 (W e0 (lm h2))
 have C:∀ (u:World) (o:Obj) (N:Array MapEntry) (a:Nat),u.heap[b]?=some (.map N a)->Frm (fun i=>i=b) u (ChangeMaps.setBlock u b o)/\(ChangeMaps.setBlock u b o).heap[b]?=some o:=fun u o N a g=>
  ⟨⟨rfl,rfl,rfl,by simp [ChangeMaps.setBlock],fun i _ hi=>ChangeMaps.heap_setBlock_other g o hi⟩,ChangeMaps.heap_setBlock_same g o⟩
 refine ⟨A,ChangeMaps.setBlock w b (.map (E.push ⟨.int .i64 k,z,A⟩) (A+1)),?_,(C w _ E A J).1,fun M I v=>?_⟩
 ·simp [Instr.mapEntry,run_underlying ht,MapKept.run_getObj_map J,K.check w false B,G,hz w,MapKept.run_setObj_map _ J,Result.andThen,ChangeMaps.setBlock,goInt]
 rw [(C w _ E A J).2] at I
 have Q:(E.push ⟨.int .i64 k,z,A⟩).findIdx? (fun e=>((e.born:Nat):Int) == ((A:Nat):Int))=some E.size:=by
  rw [Array.findIdx?_push]
  have:E.findIdx? (fun e=>((e.born:Nat):Int) == ((A:Nat):Int))=none:=by
   rw [Array.findIdx?_eq_none_iff];intro x Z;have:=F.stamped.1 x (by simpa using Z);simp;omega
  rw [this];simp
 refine ⟨ChangeMaps.setBlock M b (.map (E.push ⟨.int .i64 k,enc v,A⟩) (A+1)),?_,?_,(C M _ _ _ I).1⟩
 ·simp [Instr.entryStore,MapKept.run_getObj_map I,asInt,asIntOf,Q,Qa0,MapKept.run_setObj_map _ I,Result.andThen,ChangeMaps.setBlock]
 obtain ⟨w',H,m,_⟩:=T v
 have Y:(Instr.mapUpdate t (.map (some b)) (.int .i64 k) (enc v)).run prog w=.ok () (ChangeMaps.setBlock w b (.map (E.push ⟨.int .i64 k,enc v,A⟩) (A+1))):=by
  simp [Instr.mapUpdate,run_underlying ht,MapKept.run_getObj_map J,K.check w false B,G,MapKept.run_setObj_map _ J,Result.andThen,ChangeMaps.setBlock]
 rw [Y] at H;cases H;refine MapF.same (w:=ChangeMaps.setBlock w b (.map (E.push ⟨.int .i64 k,enc v,A⟩) (A+1))) m ?_;rw [(C M _ _ _ I).2,(C w _ E A J).2]
theorem MapF.drop {w:World} {b n c:Nat} {f:Int->Option V} (h:MapF R lt w b n c f) {t e:TypeId} (ht:Tryz.prog.underlying t=some (.map 3 e)) {k:Int} (B:Yk k) (ty:TypeId):
  ∃ w',(Builtin.delete_ #[t,3] ty #[.map (some b),k]).run prog w=.ok (.tuple #[]) w'/\MapF R lt w' b n (if (f k).isSome then c - 1 else c) (mputF f k none)/\Frm (fun i=>i=b) w w':=by
 obtain ⟨D,h,N,E⟩:=h;have J:=h.tidy (Maps.int_keyed underlying3);obtain ⟨w',G,F,K⟩:=h.drop (Maps.int_keyed underlying3) ht (Maps.keyOf_int_mk underlying3 B) ty;have A:=Maps.size_del J (k:=Lit.int .i64 k);refine ⟨w',G,⟨_,F,?_,fun j I=>?_⟩,Frm.grown K.grown (fun g e=>(Option.some.inj e).symm)⟩
 ·cases L:f k with
  | none=>rw [(E k B).1 L] at A;simp at A;simp;omega
  | some x=>rw [((E k B).2 x L).1] at A;simp at A;simp;omega
 unfold mputF
 by_cases e:j=k
 ·subst e
  rw [if_pos rfl];exact ⟨fun _=>Maps.has_del_same,fun x H=>by cases H⟩
 rw [if_neg e]
 have C:(Lit.int .i64 j)≠(Lit.int .i64 k):=by simpa using e
 refine ⟨fun M=>by rw [Maps.has_del_other C];exact (E j I).1 M,fun x H=>⟨by rw [Maps.has_del_other C];exact ((E j I).2 x H).1,fun z=>by rw [Maps.atKey_del_other C];exact ((E j I).2 x H).2 z⟩⟩
theorem MapF.len {w:World} {b n c:Nat} {f:Int->Option V} (h:MapF R lt w b n c f) {t e:TypeId} (ht:Tryz.prog.underlying t=some (.map 3 e)) (ty:TypeId):(Builtin.len_ #[t] ty #[.map (some b)]).run prog w=.ok (.int .i64 (c:Nat)) w:=by
 obtain ⟨D,h,A,B⟩:=h;rw [h.len ht ty,A]
theorem zA {ops:Array Oper} {rest:List Oper} {o:Oper} {a:Act} {Q:Exit->Act->World->Prop} (hg:o.guard=none) (m x:Operand) (t e:TypeId) (D:o.op=Op.call {callee:=Callee.builtin Builtin.delete,args:=#[m,x],argTypes:=#[t,3]})
  (ht:Tryz.prog.underlying t=some (.map 3 e)) (b n c:Nat) (f:Int->Option V) (hm:a.eval m=.map (some b)) (h:MapF R lt w b n c f) (k:Int) (hx:a.eval x=.int .i64 k) (C:Yk k)
  (hK:∀ w',MapF R lt w' b n (if (f k).isSome then c - 1 else c) (mputF f k none)->Frm (fun i=>i=b) w w'->wpList prog ops Q rest (a.put o.dst (.tuple #[])) w'):wpList prog ops Q (o :: rest) a w:=by
 refine wpList_plain hg fun G B=>?_;obtain ⟨w',A,E,F⟩:=h.drop ht C o.type;unfold Oper.wp;simp [execOp,D,resolve,invoke,builtin,hm,hx,A,Result.andThen];exact B _ _ (hK w' E F)
theorem qU {ops:Array Oper} {rest:List Oper} {o:Oper} {a:Act} {Q:Exit->Act->World->Prop} (hg:o.guard=none) (m x v:Operand) (t e:TypeId) (D:o.op=Op.mapUpdate t m x v)
  (ht:Tryz.prog.underlying t=some (.map 3 e)) (hc:Cod R enc lt) (b n c:Nat) (f:Int->Option V) (hm:a.eval m=.map (some b)) (h:MapF R lt w b n c f) (hn:n < maxLen) (k:Int) (hx:a.eval x=.int .i64 k) (C:Yk k) (u:V) (hv:a.eval v=enc u)
  (hK:∀ w',MapF R lt w' b (n+1) (if (f k).isSome then c else c+1) (mputF f k (some u))->Frm (fun i=>i=b) w w'->wpList prog ops Q rest (a.put o.dst undef) w'):wpList prog ops Q (o :: rest) a w:=by
 refine wpList_plain hg fun G B=>?_;obtain ⟨w',A,E,F⟩:=h.store hc ht hn C u;unfold Oper.wp;simp [execOp,D,hm,hx,hv,A,Result.andThen];exact B _ _ (hK w' E F)
end
end
end Go.Proofs.YtinkbgeckjbnbaaGreat
