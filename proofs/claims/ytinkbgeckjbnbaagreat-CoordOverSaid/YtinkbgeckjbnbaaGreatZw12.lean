/- Lemmas (part 12). -/
import Derived.Test.YtinkbgeckjbnbaaGreatZw11
namespace Go.Proofs.YtinkbgeckjbnbaaGreat
open Go.RowKit Go.Proofs.Tryz
set_option autoImplicit true
set_option relaxedAutoImplicit true
set_option linter.unusedVariables false
set_option linter.unusedSimpArgs false
set_option maxRecDepth 100000
set_option maxHeartbeats 32000000
section
def CfgM.own (c:CfgM) (ac:Option Addr) (cc:Nat):CfgM:={c with aw:=none,nw:=0,cw:=0,words:=[],ac:=ac,cc:=cc}
theorem Y1 {c:CfgM} {ac:Option Addr} {cc:Nat} (h:mayC c=true):mayC (c.own ac cc)=true:=by
 unfold mayC at h ⊢;simp only [Bool.and_eq_true,decide_eq_true_eq] at h ⊢;exact ⟨⟨by show goodT []=0;decide,h.1.2⟩,h.2⟩
theorem xB {c:CfgM} {ac:Option Addr} {cc:Nat} (h:mayC c=true):shardsC (c.own ac cc)=shardsC c:=by
 rw [yd h,yd (Y1 h)];rfl
theorem zan {c:CfgM} {ac:Option Addr} {cc:Nat} (h:mayC c=true) (s:Nat) (hs:(s:Int) < shardsC c):copiesC (c.own ac cc) (s:Int)=copN c s:=by
 rw [Yf (by unfold inB;rw [xB h];simp;omega)];rfl
def CS.init (c:CfgM):CS:=⟨c,0,Tab.new c.wk c.le,List.replicate c.sl.toNat 0,[],fun _=>⟨0,⟨#[]⟩,0,0,[],[],[]⟩,[]⟩
def cellsN (c:CfgM) (a b:Value) (le sl ti qm:Value):List Value:=[.slice c.aw c.nw c.cw,.slice c.ac c.nc c.cc,.int .i64 c.wk,.int .i64 c.cp,.int .i64 c.sl,.int .i64 c.ba,.int .i64 c.le,.int .i64 c.he,.int .i64 c.fi,.int .i64 c.ca,.int .i64 c.ji,.int .i64 c.ne,a,.int .i64 0,le,sl,ti,qm,b]
structure NwS (B:Nat) (wr:World) (c:CfgM) (p qm:Nat) (cpa:Option Addr) (cpc:Nat) (cps:List (Option Addr×Nat)):Prop where
 blk:Blk wr p 120 (cellsN c (.slice cpa cps.length cpc) (.slice none 0 0) (.pointer none) (.pointer none) (.pointer none) (.map (some qm)))
 row:wr.ownsRow B 26 1 (.slice cpa cps.length cpc) cps.length (cps.map (fun x=>.slice x.1 c.cp.toNat x.2))
 each:∀ (s:Nat) x,cps[s]?=some x->wr.ownsRow B 3 1 (.slice x.1 c.cp.toNat x.2) c.cp.toNat (ints (copN c s))
theorem NwS.frm {c:CfgM} {qm:Nat} {cpa:Option Addr} {cpc:Nat} {cps:List (Option Addr×Nat)} (h:NwS B wr c p qm cpa cpc cps) (hf:Frm F wr w2) (h1:¬ F p) (h2:∀ k,B<=k->k < wr.heap.size->¬ F k):NwS B w2 c p qm cpa cpc cps:=
 ⟨h.blk.frm hf h1,za h.row hf (fun k A=>h2 k (Xa h.row k A) (qg h.row k A)),fun s x C=>za (h.each s x C) hf (fun k A=>h2 k (Xa (h.each s x C) k A) (qg (h.each s x C) k A))⟩
theorem NwS.below {c:CfgM} {qm:Nat} {cpa:Option Addr} {cpc:Nat} {cps:List (Option Addr×Nat)} (h:NwS B wr c p qm cpa cpc cps) (hb:Below wr.heap.size wr w2):NwS B w2 c p qm cpa cpc cps:=
 h.frm (F:=fun _=>False) (Frm.below hb) (fun q=>q) (fun _ _ _ q=>q)
theorem NwS.add {w2:World} {c:CfgM} {qm:Nat} {cpa:Option Addr} {cpc:Nat} {cps:List (Option Addr×Nat)} (h:NwS B wr c p qm cpa cpc cps) (N:p < B) {a:Option Addr} {cap:Nat} (hr:wr.ownsRow B 3 1 (.slice a c.cp.toNat cap) c.cp.toNat (ints (copN c cps.length)))
  {a':Option Addr} {c':Nat} (hg:wr.grownBy w2 (Value.ownBlock (.slice cpa cps.length cpc))) (D:w2.ownsRow B 26 1 (.slice a' (cps.length+1) c') (cps.length+1) (cps.map (fun x=>.slice x.1 c.cp.toNat x.2)++[.slice a c.cp.toNat cap])):
  NwS B (w2.setCell ⟨p,12,none⟩ (.slice a' (cps.length+1) c')) c p qm a' c' (cps++[(a,cap)]):=by
 have K:(cps++[(a,cap)]).length=cps.length+1:=by simp
 have J:Frm (fun b=>(Value.slice cpa cps.length cpc).ownBlock=some b) wr w2:=Frm.grown hg (fun g e=>e);have G:Blk w2 p 120 _:=h.blk.frm J (fun e=>absurd (Xa h.row p e) (by omega));have L:Frm (fun b=>b=p) w2 (w2.setCell ⟨p,12,none⟩ (.slice a' (cps.length+1) c')):=(Frm.refl _ w2).setCell _ _ (.inl rfl)
 have A:∀ {v:Value} {n:Nat} {I:List Value},wr.ownsRow B 3 1 v n I->(w2.setCell ⟨p,12,none⟩ (.slice a' (cps.length+1) c')).ownsRow B 3 1 v n I:=fun {v n I} H=>by
  refine za (za H J (fun k C e=>Yad H h.row (by decide) k C e)) L (fun k C e=>?_);have:=Xa H k C;subst e;omega
 refine ⟨?_,?_,fun s x E=>?_⟩
 ·rw [K]
  have q:=G.set 12 (.slice a' (cps.length+1) c');exact q
 ·rw [K,List.map_append]
  exact za D L (fun k C e=>by have:=Xa D k C;subst e;omega)
 by_cases F:s < cps.length
 ·rw [List.getElem?_append_left F] at E
  exact A (h.each s x E)
 rw [List.getElem?_append_right (by omega)] at E
 have M:s - cps.length=0:=by
  cases e:s - cps.length with
  | zero=>rfl
  | succ n=>rw [e] at E;simp at E
 rw [M] at E;simp only [List.getElem?_cons_zero,Option.some.injEq] at E;subst E;rw [show s=cps.length from by omega];exact A hr
theorem NeF {B p:Nat} {w9:World} {v x:Value} {n:Nat} {xs:List Value} (hf:Frm (fun b=>b=p) w6 W8) (hB:w6.heap.size=B) (hr:W8.ownsRow B 26 1 v n xs) (hg:W8.grownBy w9 v.ownBlock):Frm (fun b=>b=p) w6 (w9.setCell ⟨p,12,none⟩ x):=by
 have A:Frm (fun b=>b=p) w6 w9:=⟨hg.os.trans hf.os,hg.tape.trans hf.tape,hg.output.trans hf.output,nr hf.size hg.size,fun i hi C=>(hg.block i (nt hi hf.size) (fun e=>by have:=Xa hr i e.symm;omega)).trans (hf.block i hi C)⟩;exact A.setCell _ _ (.inl rfl)
theorem keptB {B p:Nat} {W8 w9:World} {v:Value} {n:Nat} {xs cs:List Value} {T:TypeId} (h:Blk W8 p T cs) (hp:p < B) (hr:W8.ownsRow B 26 1 v n xs) (hg:W8.grownBy w9 v.ownBlock):Blk w9 p T cs:=
 h.kept hg (fun e=>by have:=Xa hr p e.symm;omega)
def ownNew (O:Own) (n0 qm lz sz tz:Nat):Own:=fun b=>if b < n0 then O b else if b < qm then ct 1 else if b=qm then ct 5 else if b=qm+1 then ct 0 else if b < lz then ct 1 else if b < sz then ct 2 else if b < tz then ct 3 else ct 4
section
variable {O:Own} {n0 qm lz sz tz b:Nat}
theorem qa0 (h:b < n0):ownNew O n0 qm lz sz tz b=O b:=by unfold ownNew;rw [if_pos h]
theorem qa7 (h:n0<=b) (h2:b < qm):ownNew O n0 qm lz sz tz b=ct 1:=by unfold ownNew;rw [if_neg (by omega),if_pos h2]
theorem Ybb (h:n0<=qm):ownNew O n0 qm lz sz tz qm=ct 5:=by unfold ownNew;rw [if_neg (by omega),if_neg (by omega),if_pos rfl]
theorem Xa6 (h:n0<=qm):ownNew O n0 qm lz sz tz (qm+1)=ct 0:=by unfold ownNew;rw [if_neg (by omega),if_neg (by omega),if_neg (by omega),if_pos rfl]
theorem ZaP (h:n0<=qm) (h1:qm+2<=b) (h2:b < lz):ownNew O n0 qm lz sz tz b=ct 1:=by unfold ownNew;rw [if_neg (by omega),if_neg (by omega),if_neg (by omega),if_neg (by omega),if_pos h2]
theorem Qbb (h:n0<=qm) (h1:qm+2<=b) (h2:lz<=b) (h3:b < sz):ownNew O n0 qm lz sz tz b=ct 2:=by unfold ownNew;rw [if_neg (by omega),if_neg (by omega),if_neg (by omega),if_neg (by omega),if_neg (by omega),if_pos h3]
theorem za7 (h:n0<=qm) (h1:qm+2<=b) (h2:lz<=b) (h3:sz<=b) (h4:b < tz):ownNew O n0 qm lz sz tz b=ct 3:=by unfold ownNew;rw [if_neg (by omega),if_neg (by omega),if_neg (by omega),if_neg (by omega),if_neg (by omega),if_neg (by omega),if_pos h4]
theorem Zbb (h:n0<=qm) (h1:qm+2<=b) (h2:lz<=b) (h3:sz<=b) (h4:tz<=b):ownNew O n0 qm lz sz tz b=ct 4:=by unfold ownNew;rw [if_neg (by omega),if_neg (by omega),if_neg (by omega),if_neg (by omega),if_neg (by omega),if_neg (by omega),if_neg (by omega)]
end
def NeR (B:Nat) (wl:World) (c:CfgM) (p qm ns:Nat) (v:Value) (wr:World):Prop:=∃ (k:Nat) (cpa:Option Addr) (cpc:Nat) (cps:List (Option Addr×Nat)),k<=ns/\v=.int .i64 k/\cps.length=k/\Hid (NwS B wr c p qm cpa cpc cps)/\Hid (Frm (fun b=>b=p) wl wr)
def NewE (O:Own) (c:CfgM) (w:World) (e:Ending) (w':World):Prop:=∃ p ac cc A O',e=.returned (.tuple #[.pointer (some ⟨p,0,none⟩),()])/\CW w' O' A p (CS.init (c.own ac cc))/\(A.cps.length:Int)=shardsC c/\AgO w.heap.size O O'/\Below w.heap.size w w'
theorem xy:(Tryz.prog.info? 26).map (fun i=>(i.zero,i.size,i.bytes))=some (some (.slice none 0 0),1,24):=by kernel_rfl
theorem zaW {A:CA} (hp:BlkO O (ct 0) w' p 120 ((CS.init c).cells A)) (hi:Imm O w' A c) (D:BlkO O (ct 2) w' A.le 217 (Tab.new c.wk c.le).cells) (F:SlO O (ct 3) w' A.sl A.sf A.sa (List.replicate c.sl.toNat 0) 0) (I:TLO O (ct 4) w' A.ti []) (E:MapO O (ct 5) w' A.qm 0 0 (fun _=>none)) (G:A.ta=none) (H:A.tc=0):CW w' O A p (CS.init c):=by
 have B:∀ id∈(CS.init c).L,id≠0->False:=fun id C h0=>h0 (List.eq_of_mem_replicate C);refine ⟨fun _=>hp,fun _=>hi,fun _=>D,fun _=>F,fun _=>I,fun _=>?_,fun _=>?_,fun id C h0=>(B id C h0).elim,fun id C h0=>(B id C h0).elim,fun i t M=>by simp [CS.init] at M⟩
 ·have J:cntS (CS.init c).L=0:=by
   show List.countP _ (List.replicate _ 0)=0;rw [List.countP_replicate];rfl
  have K:qF A.q (CS.init c).L=fun _=>none:=by
   funext k;unfold qF;rw [if_neg (fun h=>B k.toNat h.2 (by omega))]
  rw [J,K];exact E
 show Row O (ct 6) w' _ 7 (.slice A.ta 0 A.tc) 0 []
 rw [G,H];exact Row.nil O (ct 6) w' _ 7
theorem xa1 (V:World):RdT V none 0 0 []:=⟨rfl,nl _,nz _,fun _=>rfl,fun i hi=>absurd hi (Nat.not_lt_zero _)⟩
theorem Xa9 {c:CfgM} (h:mayC c=true):1<=c.le/\c.le<=1000:=by
 unfold mayC timesC inB at h;simp only [Bool.and_eq_true,decide_eq_true_eq] at h;omega
theorem Xaa (O:Own) (c:CfgM) (w:World) (h:CfgOK w c) (hm:mayC c=true):
  Calls prog 15 #[c.val] w (NewE O c w):=by
 obtain ⟨i0,hi,CC,Cm,Cn⟩:=info_parts xy;clear hi CC Cm Cn;have CB:=fun V=>run_makeMap (P:=prog) 114 V;have HM:=Hy hm;have Ap:=Hy (Zf hm);have BM:=Hy (Xa9 hm);have ⟨W,hW⟩:=gn (w.alloc (.cells #[.slice c.aw c.nw c.cw,.slice c.ac c.nc c.cc,c.wk,c.cp,c.sl,c.ba,c.le,c.he,c.fi,c.ca,c.ji,c.ne] 25));have Bz:Below w.heap.size w W:=by rw [<- hW];exact (bf _ w).alloc (nl _) _
 have T:Blk W w.heap.size 25 [.slice c.aw c.nw c.cw,.slice c.ac c.nc c.cc,c.wk,c.cp,c.sl,c.ba,c.le,c.he,c.fi,c.ca,c.ji,c.ne]:=by rw [<- hW];exact hn_ w _
 have k0:Cl W w.heap.size 0 (.slice c.aw c.nw c.cw):=T.cell 0;have k1:W.cell? ⟨w.heap.size,1,none⟩=some (.slice c.ac c.nc c.cc):=T.cell 1;have k2:W.cell? ⟨w.heap.size,2,none⟩=some (.int .i64 c.wk):=T.cell 2;have k3:W.cell? ⟨w.heap.size,3,none⟩=some (.int .i64 c.cp):=T.cell 3;have k4:W.cell? ⟨w.heap.size,4,none⟩=some (.int .i64 c.sl):=T.cell 4;have k5:W.cell? ⟨w.heap.size,5,none⟩=some (.int .i64 c.ba):=T.cell 5;have k6:W.cell? ⟨w.heap.size,6,none⟩=some (.int .i64 c.le):=T.cell 6;have k7:W.cell? ⟨w.heap.size,7,none⟩=some (.int .i64 c.he):=T.cell 7;have k8:W.cell? ⟨w.heap.size,8,none⟩=some (.int .i64 c.fi):=T.cell 8
 have k9:Ci W w.heap.size 9 c.ca:=T.cell 9;have CF:W.cell? ⟨w.heap.size,10,none⟩=some (.int .i64 c.ji):=T.cell 10;have CG:W.cell? ⟨w.heap.size,11,none⟩=some (.int .i64 c.ne):=T.cell 11;have AM:=Q1 c W (h.below Bz rfl);rw [hm] at AM;unfold CfgM.val at AM ⊢;have BP:=Hy AM;have HB:=Hy Bz;have HX:=Hy T;have Bk:=Hy h;clear AM Bz T h;go_in;go_wp2_with (rw [hW]);clear hW k0 k1 k2 k3 k4 k5 k6 k7 k8 k9 CF CG;refine BP.mono ?_;clear BP;rintro e w2 ⟨rfl,By⟩;have Ar:=Hy (HX.below By HX.lt)
 have AB:=Hy (HB.trans (By.mono HB.size));clear By hm;have k1:w2.cell? ⟨w.heap.size,1,none⟩=some (.slice c.ac c.nc c.cc):=Ar.cell 1;have B0:=Bk.below AB.o rfl;have Ch:c.nc<=1000:=by have:=B0.rk.1;have:=Ap.1;omega
 have BC:=Hy (Xaj w2 c.ac c.nc c.cc c.cuts B0.rk Ch);clear B0 Ch;go_wp2_with fail;clear k1;refine BC.mono ?_;clear BC;rintro e w3 ⟨ac,cc,rfl,Ax,AH⟩;have As:=Hy (Ar.below AH Ar.lt);have m:=Hy (AB.trans (AH.mono AB.size));have Bo:=Hy Ax;have AX:=Hy AH.size;clear Ax AH;have c0:w3.cell? ⟨w.heap.size,0,none⟩=some (.slice c.aw c.nw c.cw):=As.cell 0;have c1:w3.cell? ⟨w.heap.size,1,none⟩=some (.slice c.ac c.nc c.cc):=As.cell 1;have fz:∀ o,w3.frozen? ⟨w.heap.size,o,none⟩=false:=fun o=>zk (o:=o) As.o;have ⟨w4,AQ⟩:=gn ((w3.setCell ⟨w.heap.size,0,none⟩ (.slice none 0 0)).setCell ⟨w.heap.size,1,none⟩ (.slice ac c.nc cc))
 have l:Frm (fun b=>b=w.heap.size) w3 w4:=by rw [<- AQ];exact ((Frm.refl (fun b=>b=w.heap.size) w3).setCell ⟨w.heap.size,0,none⟩ _ (.inl rfl)).setCell ⟨w.heap.size,1,none⟩ _ (.inl rfl)
 have AF:=Hy (by rw [<- AQ];exact (As.set 0 (.slice none 0 0)).set 1 (.slice ac c.nc cc):Blk w4 w.heap.size 25 [.slice none 0 0,.slice ac c.nc cc,c.wk,c.cp,c.sl,c.ba,c.le,c.he,c.fi,c.ca,c.ji,c.ne]);have Bf:=Hy (show Below w.heap.size w w4 from ⟨l.os.trans m.os,l.tape.trans m.tape,l.output.trans m.output,nr m.size l.size,fun k Ai=>(l.block k (nt Ai m.size) (by omega)).trans (m.block k Ai)⟩);have Ae:=Hy Ar.lt
 have Bp:=Hy (za Bo.o l (fun k Ai e=>by have:=Xa Bo.o k Ai;have:=Ae.o;omega));have AY:=Hy (nr AX.o l.size);clear l HX Ar As Bo HB AB m AX;have ⟨C,hC⟩:=gn (c.own ac cc);have r:=Hy hC;obtain ⟨d0,d1,d2,d3,d4,d5,d6,d7,d8,d9,C6,C7⟩:=c12 AF.o;have ⟨H,y⟩:=gn w4.heap.size;have CP:=Hy y;have ⟨w5,A3⟩:=gn ((w4.alloc (.map #[] 0)).alloc (.cells #[.slice none 0 0,.slice ac c.nc cc,c.wk,c.cp,c.sl,c.ba,c.le,c.he,c.fi,c.ca,c.ji,c.ne,.slice none 0 0,(),.pointer none,.pointer none,.pointer none,.map (some H),.slice none 0 0] 120))
 have Bb:(w4.alloc (.map #[] 0)).heap.size=H+1:=by rw [<- y];simp
 have AI:Below w4.heap.size w4 w5:=by rw [<- A3];exact ((bf _ w4).alloc (nl _) _).alloc (by simp) _
 have Bt:=Hy (by rw [<- A3,<- Bb,<- hC];exact hn_ _ _:Blk w5 (H+1) 120 (cellsN C (.slice none 0 0) (.slice none 0 0) (.pointer none) (.pointer none) (.pointer none) (.map (some H))));have AG:=Hy (AF.below AI AF.lt);have Bq:=Hy (Qa Bp.o AI);have Bg:=Hy (Bf.trans (AI.mono Bf.size));have Cg:MapF rdP ltP (w4.alloc (.map #[] 0)) H 0 0 (fun _=>(none:Option (Option Nat))):=by rw [<- y];exact MapF.made w4
 have BO:=Hy (by rw [<- A3];exact Cg.frm (S:=fun _=>False) (Frm.below ((bf _ _).alloc (nl _) _)) (fun q=>q):MapF rdP ltP w5 H 0 0 (fun _=>(none:Option (Option Nat))));have Bw:=Hy (show w2.heap.size<=H/\w5.heap.size=H+2 from ⟨by rw [<- y];exact AY.o,by rw [<- A3];simp [y]⟩);have Bs:=Hy (show ∀ q,(Value.slice ac c.nc cc).ownBlock=some q->q < H from fun q M=>by rw [<- y];exact qg Bp.o q M);clear AF Bp Bf AY Cg AI Bb;have BD:=Hy (fun (V:World) (hV:V.ownsRow w2.heap.size 107 2 (.slice ac c.nc cc) c.nc (c.cuts.flatMap KeyL.cells))=>show CfgOK V C from by rw [<- hC];exact ⟨xa1 V,Za (enc:=KeyL.cells) (fun _=>rfl) Bk.rk.1 hV,fun x T=>absurd (show x∈([]:List ByteArray) from T) (List.not_mem_nil),Bk.hk⟩)
 obtain ⟨x0,x1,x2,x3,x4,x5,x6,x7,x8,x9,CH,CI⟩:=c12 AG.o;have AP:=XB C w5 (BD.o w5 Bq.o);obtain ⟨ns,B6⟩:∃ n:Nat,shardsC C=(n:Int):=⟨(shardsC C).toNat,by have:=xe C;omega⟩;rw [B6] at AP;have Bn:=Hy B6;have A0:C.val=.agg #[.slice none 0 0,.slice ac c.nc cc,c.wk,c.cp,c.sl,c.ba,c.le,c.he,c.fi,c.ca,c.ji,c.ne]:=by rw [<- hC];rfl
 rw [A0] at AP;have Cb:=Hy A0;have BW:=Hy AP;clear AP B6 A0 hC;have f:(ns:Int)<=6:=by have:=xe C;rw [Bn.o] at this;exact this.2
 have CL:ns<=6:=by omega
 clear f;go_wp2_with (rw [AQ]);clear AQ A3 c0 c1 fz y CB d0 x0 d1 x1 d2 x2 d3 x3 d4 x4 d5 x5 d6 x6 d7 x7 d8 x8 d9 x9 C6 CH C7 CI;refine BW.mono ?_;clear BW;rintro e w6 ⟨rfl,f⟩;have Cc:=Hy (AG.below f AG.lt);have Br:=Hy (Qa Bq.o f);have Ad:=Hy (Bg.trans (f.mono Bg.size));have Cv:=Hy (BO.frm (S:=fun _=>False) (Frm.below f) (fun q=>q));have ⟨B,hB⟩:=gn w6.heap.size;have Bj:=Hy hB;have Ag:=Hy (show w2.heap.size<=H/\H+2<=B from ⟨Bw.1,by have:=f.size;have:=Bw.2;omega⟩);have BQ:=Hy (show NwS B w6 C (H+1) H none 0 [] from ⟨Bt.below f Bt.lt,World.ownsRow_nil _ _ _ _,fun s x T=>by simp at T⟩)
 clear f hB Bt AG Bq Bg BO Bw;go_wp2_with fail;go_loopw [20] (fun v wr=>NeR B w6 C (H+1) H ns v wr) (fun v _=>ns - (intOf v).toNat)
 case atStart=>exact ⟨0,none,0,[],nz _,rfl,rfl,BQ.o,Frm.refl _ _⟩
 case round=>
  clear BQ;obtain ⟨k,Y,Z,t,Ai,rfl,B1,HN,HF⟩:=hrel;have j:=Hy B1
  by_cases C9:k < ns
  ·have e1:(k:Int) < (ns:Int):=by omega
   have Aj:w.heap.size≠H+1:=by have:=Ae.o;have:=Ag.o;omega
   have Ah:Frm (fun b=>b=H+1) w6 wr.drew:=HF.drew;have E:=Hy (show Blk wr.drew w.heap.size 25 [.slice none 0 0,.slice ac c.nc cc,c.wk,c.cp,c.sl,c.ba,c.le,c.he,c.fi,c.ca,c.ji,c.ne] from Cc.frm Ah Aj);have Cx:=Hy (show wr.drew.ownsRow w2.heap.size 107 2 (.slice ac c.nc cc) c.nc (c.cuts.flatMap KeyL.cells) from za Br.o (show Frm (fun b=>b=H+1) w6 wr.drew from HF.drew) (fun q M e=>by have:=Bs.o q M;omega));have Bl:=Hy (show NwS B wr.drew C (H+1) H Y Z t from HN.below (below_drewN (bf _ wr) 1))
   have BG:=Hy (show Frm (fun b=>b=H+1) w6 wr.drew from HF.drew);have Cj:H+1 < B:=by have:=Ag.o;omega
   have BT:=Hy Cj;have C0:=Hy (by have:=Ae.o;have:=Ag.o;omega:w.heap.size < B);have A6:wr.drew.cell? ⟨H+1,12,none⟩=some (.slice Y k Z):=by have q:Cl wr.drew (H+1) 12 (.slice Y t.length Z):=Bl.blk.cell 12;rw [j.o] at q;exact q
   have Cf:copiesC C (k:Int)=copN C k:=by rw [<- r.o];exact zan HM.o k (by rw [<- xB (ac:=ac) (cc:=cc) HM.o,r.o,Bn.o];exact e1)
   have AZ:(ints (copN C k)).length=C.cp.toNat:=by unfold ints copN;simp
   have B2:=QN C (k:Int) wr.drew (BD.o _ Cx.o);rw [Cb.o,Cf] at B2;have AC:=Hy B2;have BU:=Hy AZ;have Bi:=Hy (by rw [<- Bj.o];exact BG.size:B<=wr.drew.heap.size);have A1:k+1<=maxLen:=by unfold maxLen;omega
   have A2:(k+1) * 24<=140737488355328:=by omega
   clear Aj Ah B1 Cf AZ B2 HN HF Cj;go_upto_region 8 with fail;refine wp_region_held_drew (S:=(fun w'=>Cl w' w.heap.size 0 (.slice none 0 0)/\Cl w' w.heap.size 1 (.slice ac c.nc cc)/\Ci w' w.heap.size 2 c.wk/\Ci w' w.heap.size 3 c.cp/\Ci w' w.heap.size 4 c.sl/\Ci w' w.heap.size 5 c.ba/\Ci w' w.heap.size 6 c.le/\Ci w' w.heap.size 7 c.he/\Ci w' w.heap.size 8 c.fi/\Ci w' w.heap.size 9 c.ca/\Ci w' w.heap.size 10 c.ji/\Ci w' w.heap.size 11 c.ne)) (by kernel_rfl) (by first | exact ⟨E.cell 0,E.cell 1,E.cell 2,E.cell 3,E.cell 4,E.cell 5,E.cell 6,E.cell 7,E.cell 8,E.cell 9,E.cell 10,E.cell 11⟩ | exact ⟨A.cell 0,A.cell 1,A.cell 2,A.cell 3,A.cell 4,A.cell 5,A.cell 6,A.cell 7,A.cell 8,A.cell 9,A.cell 10,A.cell 11⟩ | exact ⟨F.cell 0,F.cell 1,F.cell 2,F.cell 3,F.cell 4,F.cell 5,F.cell 6,F.cell 7,F.cell 8,F.cell 9,F.cell 10,F.cell 11⟩ | exact ⟨G.cell 0,G.cell 1,G.cell 2,G.cell 3,G.cell 4,G.cell 5,G.cell 6,G.cell 7,G.cell 8,G.cell 9,G.cell 10,G.cell 11⟩ | exact ⟨D.cell 0,D.cell 1,D.cell 2,D.cell 3,D.cell 4,D.cell 5,D.cell 6,D.cell 7,D.cell 8,D.cell 9,D.cell 10,D.cell 11⟩) (fun I=>?_)
   (iterate 4 refine tq 0 ?_);refine tk 5 ?_;refine tk 6 ?_;refine wpAnyH_ready (rs:=[4,7]) (by kernel_rfl) (by simp) ?_;refine AllReadyH.cons rfl (fun K N=>?_) (AllReadyH.cons rfl (fun K N=>?_) AllReadyH.nil)
   focus
    go_simp
    go_wp2_with fail;refine N.out _ _ (by first | exact ⟨E.cell 0,E.cell 1,E.cell 2,E.cell 3,E.cell 4,E.cell 5,E.cell 6,E.cell 7,E.cell 8,E.cell 9,E.cell 10,E.cell 11⟩ | exact ⟨A.cell 0,A.cell 1,A.cell 2,A.cell 3,A.cell 4,A.cell 5,A.cell 6,A.cell 7,A.cell 8,A.cell 9,A.cell 10,A.cell 11⟩ | exact ⟨F.cell 0,F.cell 1,F.cell 2,F.cell 3,F.cell 4,F.cell 5,F.cell 6,F.cell 7,F.cell 8,F.cell 9,F.cell 10,F.cell 11⟩ | exact ⟨G.cell 0,G.cell 1,G.cell 2,G.cell 3,G.cell 4,G.cell 5,G.cell 6,G.cell 7,G.cell 8,G.cell 9,G.cell 10,G.cell 11⟩ | exact ⟨D.cell 0,D.cell 1,D.cell 2,D.cell 3,D.cell 4,D.cell 5,D.cell 6,D.cell 7,D.cell 8,D.cell 9,D.cell 10,D.cell 11⟩) (fun I=>?_)
    clear N K;try go_frame
    refine rdy 7 fun K N=>?_
    go_simp
    refine AC.mono ?_;rintro e g ⟨a7,n7,c7,rfl,J,R⟩;clear AC;have A:=Hy (E.below R E.lt);have u:=J.1;rw [BU.o,Nat.mul_one] at u;have AT:=Hy (Bl.below R);have d:g.cell? ⟨H+1,12,none⟩=some (.slice Y k Z):=(R.cell (p:=⟨H+1,12,none⟩) (cell?_lt A6)).trans A6;have Aa:=Hy u;have BS:=Hy (zi J Bi.o);have Bh:=Hy R;have F:=Hy (show Blk (g.alloc (.cells #[.slice a7 n7 c7] 26)) w.heap.size 25 [.slice none 0 0,.slice ac c.nc cc,c.wk,c.cp,c.sl,c.ba,c.le,c.he,c.fi,c.ca,c.ji,c.ne] from A.alloc _)
    have Be:Cl (g.alloc (.cells #[.slice a7 n7 c7] 26)) (H+1) 12 (.slice Y k Z):=(((bf g.heap.size g).alloc (nl _) _).cell (p:=⟨H+1,12,none⟩) (cell?_lt d)).trans d;clear J u R;go_wp2_with fail;refine N.out _ _ (by first | exact ⟨E.cell 0,E.cell 1,E.cell 2,E.cell 3,E.cell 4,E.cell 5,E.cell 6,E.cell 7,E.cell 8,E.cell 9,E.cell 10,E.cell 11⟩ | exact ⟨A.cell 0,A.cell 1,A.cell 2,A.cell 3,A.cell 4,A.cell 5,A.cell 6,A.cell 7,A.cell 8,A.cell 9,A.cell 10,A.cell 11⟩ | exact ⟨F.cell 0,F.cell 1,F.cell 2,F.cell 3,F.cell 4,F.cell 5,F.cell 6,F.cell 7,F.cell 8,F.cell 9,F.cell 10,F.cell 11⟩ | exact ⟨G.cell 0,G.cell 1,G.cell 2,G.cell 3,G.cell 4,G.cell 5,G.cell 6,G.cell 7,G.cell 8,G.cell 9,G.cell 10,G.cell 11⟩ | exact ⟨D.cell 0,D.cell 1,D.cell 2,D.cell 3,D.cell 4,D.cell 5,D.cell 6,D.cell 7,D.cell 8,D.cell 9,D.cell 10,D.cell 11⟩) (fun I=>?_)
    clear N K;try go_frame
    refine rdy 8 fun K N=>?_
   rotate_left
   focus
    go_simp
    refine AC.mono ?_;rintro e g ⟨a7,n7,c7,rfl,J,R⟩;clear AC;have A:=Hy (E.below R E.lt);have u:=J.1;rw [BU.o,Nat.mul_one] at u;have AT:=Hy (Bl.below R);have d:g.cell? ⟨H+1,12,none⟩=some (.slice Y k Z):=(R.cell (p:=⟨H+1,12,none⟩) (cell?_lt A6)).trans A6;have Aa:=Hy u;have BS:=Hy (zi J Bi.o);have Bh:=Hy R;have F:=Hy (show Blk (g.alloc (.cells #[.slice a7 n7 c7] 26)) w.heap.size 25 [.slice none 0 0,.slice ac c.nc cc,c.wk,c.cp,c.sl,c.ba,c.le,c.he,c.fi,c.ca,c.ji,c.ne] from A.alloc _)
    have Be:Cl (g.alloc (.cells #[.slice a7 n7 c7] 26)) (H+1) 12 (.slice Y k Z):=(((bf g.heap.size g).alloc (nl _) _).cell (p:=⟨H+1,12,none⟩) (cell?_lt d)).trans d;clear J u R;go_wp2_with fail;refine N.out _ _ (by first | exact ⟨E.cell 0,E.cell 1,E.cell 2,E.cell 3,E.cell 4,E.cell 5,E.cell 6,E.cell 7,E.cell 8,E.cell 9,E.cell 10,E.cell 11⟩ | exact ⟨A.cell 0,A.cell 1,A.cell 2,A.cell 3,A.cell 4,A.cell 5,A.cell 6,A.cell 7,A.cell 8,A.cell 9,A.cell 10,A.cell 11⟩ | exact ⟨F.cell 0,F.cell 1,F.cell 2,F.cell 3,F.cell 4,F.cell 5,F.cell 6,F.cell 7,F.cell 8,F.cell 9,F.cell 10,F.cell 11⟩ | exact ⟨G.cell 0,G.cell 1,G.cell 2,G.cell 3,G.cell 4,G.cell 5,G.cell 6,G.cell 7,G.cell 8,G.cell 9,G.cell 10,G.cell 11⟩ | exact ⟨D.cell 0,D.cell 1,D.cell 2,D.cell 3,D.cell 4,D.cell 5,D.cell 6,D.cell 7,D.cell 8,D.cell 9,D.cell 10,D.cell 11⟩) (fun I=>?_)
    clear N K;try go_frame
    refine wpAnyH_ready (rs:=[4,8]) (by kernel_rfl) (by simp) ?_;refine AllReadyH.cons rfl (fun K N=>?_) (AllReadyH.cons rfl (fun K N=>?_) AllReadyH.nil)
    focus
     go_simp
     go_wp2_with fail;refine N.out _ _ (by first | exact ⟨E.cell 0,E.cell 1,E.cell 2,E.cell 3,E.cell 4,E.cell 5,E.cell 6,E.cell 7,E.cell 8,E.cell 9,E.cell 10,E.cell 11⟩ | exact ⟨A.cell 0,A.cell 1,A.cell 2,A.cell 3,A.cell 4,A.cell 5,A.cell 6,A.cell 7,A.cell 8,A.cell 9,A.cell 10,A.cell 11⟩ | exact ⟨F.cell 0,F.cell 1,F.cell 2,F.cell 3,F.cell 4,F.cell 5,F.cell 6,F.cell 7,F.cell 8,F.cell 9,F.cell 10,F.cell 11⟩ | exact ⟨G.cell 0,G.cell 1,G.cell 2,G.cell 3,G.cell 4,G.cell 5,G.cell 6,G.cell 7,G.cell 8,G.cell 9,G.cell 10,G.cell 11⟩ | exact ⟨D.cell 0,D.cell 1,D.cell 2,D.cell 3,D.cell 4,D.cell 5,D.cell 6,D.cell 7,D.cell 8,D.cell 9,D.cell 10,D.cell 11⟩) (fun I=>?_)
     clear N K;try go_frame
     refine rdy 8 fun K N=>?_
    rotate_left
    focus
     go_simp
     go_wp2_with fail;refine N.out _ _ (by first | exact ⟨E.cell 0,E.cell 1,E.cell 2,E.cell 3,E.cell 4,E.cell 5,E.cell 6,E.cell 7,E.cell 8,E.cell 9,E.cell 10,E.cell 11⟩ | exact ⟨A.cell 0,A.cell 1,A.cell 2,A.cell 3,A.cell 4,A.cell 5,A.cell 6,A.cell 7,A.cell 8,A.cell 9,A.cell 10,A.cell 11⟩ | exact ⟨F.cell 0,F.cell 1,F.cell 2,F.cell 3,F.cell 4,F.cell 5,F.cell 6,F.cell 7,F.cell 8,F.cell 9,F.cell 10,F.cell 11⟩ | exact ⟨G.cell 0,G.cell 1,G.cell 2,G.cell 3,G.cell 4,G.cell 5,G.cell 6,G.cell 7,G.cell 8,G.cell 9,G.cell 10,G.cell 11⟩ | exact ⟨D.cell 0,D.cell 1,D.cell 2,D.cell 3,D.cell 4,D.cell 5,D.cell 6,D.cell 7,D.cell 8,D.cell 9,D.cell 10,D.cell 11⟩) (fun I=>?_)
     clear N K;try go_frame
     refine rdy 4 fun K N=>?_
   all_goals
    go_simp
    go_wp2_with fail;refine N.out _ _ (by first | exact ⟨E.cell 0,E.cell 1,E.cell 2,E.cell 3,E.cell 4,E.cell 5,E.cell 6,E.cell 7,E.cell 8,E.cell 9,E.cell 10,E.cell 11⟩ | exact ⟨A.cell 0,A.cell 1,A.cell 2,A.cell 3,A.cell 4,A.cell 5,A.cell 6,A.cell 7,A.cell 8,A.cell 9,A.cell 10,A.cell 11⟩ | exact ⟨F.cell 0,F.cell 1,F.cell 2,F.cell 3,F.cell 4,F.cell 5,F.cell 6,F.cell 7,F.cell 8,F.cell 9,F.cell 10,F.cell 11⟩ | exact ⟨G.cell 0,G.cell 1,G.cell 2,G.cell 3,G.cell 4,G.cell 5,G.cell 6,G.cell 7,G.cell 8,G.cell 9,G.cell 10,G.cell 11⟩ | exact ⟨D.cell 0,D.cell 1,D.cell 2,D.cell 3,D.cell 4,D.cell 5,D.cell 6,D.cell 7,D.cell 8,D.cell 9,D.cell 10,D.cell 11⟩) (fun I=>?_)
    clear N K;try go_frame
    refine rdy 9 fun K N=>?_
    have At:Below g.heap.size g (g.alloc (.cells #[.slice a7 n7 c7] 26)):=(bf _ g).alloc (nl _) _
    have Bm:=Hy (AT.below At);have Ck:(g.alloc (.cells #[.slice a7 n7 c7] 26)).ownsRow B 26 1 (.slice Y k Z) k (t.map (fun x=>.slice x.1 C.cp.toNat x.2)):=by have q:=Bm.row;rw [j.o] at q;exact q
    have AE:=Hy Ck;have BB:=Hy (show B<=(g.alloc (.cells #[.slice a7 n7 c7] 26)).heap.size from nr Bi.o (nr Bh.size At.size));have AD:=Hy (show Frm (fun b=>b=H+1) w6 (g.alloc (.cells #[.slice a7 n7 c7] 26)) from Frm.trans BG.o (Frm.trans (Frm.below Bh.o) (Frm.below At) (fun i hi hl=>hi)) (fun i hi hl=>hi));have Cy:=Hy (Qa BS.o At);clear At Ck;refine sa xy underlying115 AE.o (Src.one' underlying115 g (.slice a7 n7 c7) 26 rfl) A1 A2 BB.o ?_;intro a9 c9 w9 Ay AL;have Af:=Hy (keptB Bm.blk BT.o AE.o AL)
    have G:=Hy (keptB F.o C0.o AE.o AL);have BL:=Hy AL;have Cz:=Hy Ay;clear Ay AL d Be;have Co:w9.cell? ⟨H+1,12,none⟩=some (.slice Y t.length Z):=Af.cell 12;have Bx:w9.frozen? ⟨H+1,12,none⟩=false:=Af.frozen 12;have D:=Hy (show Blk (w9.setCell ⟨H+1,12,none⟩ (.slice a9 (k+1) c9)) w.heap.size 25 [.slice none 0 0,.slice ac c.nc cc,c.wk,c.cp,c.sl,c.ba,c.le,c.he,c.fi,c.ca,c.ji,c.ne] from G.frm ((Frm.refl (fun b=>b=H+1) w9).setCell ⟨H+1,12,none⟩ _ (.inl rfl)) (fun e=>by have:=Ae.o;have:=Ag.o;omega))
    refine N.out _ _ (by first | exact ⟨E.cell 0,E.cell 1,E.cell 2,E.cell 3,E.cell 4,E.cell 5,E.cell 6,E.cell 7,E.cell 8,E.cell 9,E.cell 10,E.cell 11⟩ | exact ⟨A.cell 0,A.cell 1,A.cell 2,A.cell 3,A.cell 4,A.cell 5,A.cell 6,A.cell 7,A.cell 8,A.cell 9,A.cell 10,A.cell 11⟩ | exact ⟨F.cell 0,F.cell 1,F.cell 2,F.cell 3,F.cell 4,F.cell 5,F.cell 6,F.cell 7,F.cell 8,F.cell 9,F.cell 10,F.cell 11⟩ | exact ⟨G.cell 0,G.cell 1,G.cell 2,G.cell 3,G.cell 4,G.cell 5,G.cell 6,G.cell 7,G.cell 8,G.cell 9,G.cell 10,G.cell 11⟩ | exact ⟨D.cell 0,D.cell 1,D.cell 2,D.cell 3,D.cell 4,D.cell 5,D.cell 6,D.cell 7,D.cell 8,D.cell 9,D.cell 10,D.cell 11⟩) (fun I=>?_)
    clear N K;refine tk 10 ?_;refine tk 11 ?_;refine rdy 12 fun K N=>?_
    go_simp
    go_wp2_with fail;refine N.out _ _ (by first | exact ⟨E.cell 0,E.cell 1,E.cell 2,E.cell 3,E.cell 4,E.cell 5,E.cell 6,E.cell 7,E.cell 8,E.cell 9,E.cell 10,E.cell 11⟩ | exact ⟨A.cell 0,A.cell 1,A.cell 2,A.cell 3,A.cell 4,A.cell 5,A.cell 6,A.cell 7,A.cell 8,A.cell 9,A.cell 10,A.cell 11⟩ | exact ⟨F.cell 0,F.cell 1,F.cell 2,F.cell 3,F.cell 4,F.cell 5,F.cell 6,F.cell 7,F.cell 8,F.cell 9,F.cell 10,F.cell 11⟩ | exact ⟨G.cell 0,G.cell 1,G.cell 2,G.cell 3,G.cell 4,G.cell 5,G.cell 6,G.cell 7,G.cell 8,G.cell 9,G.cell 10,G.cell 11⟩ | exact ⟨D.cell 0,D.cell 1,D.cell 2,D.cell 3,D.cell 4,D.cell 5,D.cell 6,D.cell 7,D.cell 8,D.cell 9,D.cell 10,D.cell 11⟩) (fun I=>?_)
    clear N K;try go_frame
    refine dn ?_;have BR:=Hy (NwS.add (a:=a7) (cap:=c7) Bm.o BT.o (by rw [j.o,Aa.o];exact Cy.o) (by rw [j.o];exact BL.o) (by rw [j.o,Aa.o];have q:=Cz.o;rw [Aa.o] at q;exact q));rw [j.o] at BR;have Cs:=Hy (NeF (x:=.slice a9 (k+1) c9) AD.o Bj.o AE.o BL.o);clear I A6 Co Bx;go_wp2_with fail;go_roundw
    case rel=>exact ⟨k+1,a9,c9,t++[(a7,c7)],by omega,by go_num,by rw [List.length_append,j.o];rfl,BR.o,Cs.o⟩
    case measure=>simp [intOf];omega
  obtain rfl:k=ns:=by omega
  clear C9 Ai B1;have Aj:w.heap.size≠H+1:=by have:=Ae.o;have:=Ag.o;omega
  have Ah:Frm (fun b=>b=H+1) w6 wr:=HF.o;have AR:=Cc.frm Ah Aj;have b2:wr.cell? ⟨w.heap.size,2,none⟩=some (.int .i64 c.wk):=AR.cell 2;have b6:wr.cell? ⟨w.heap.size,6,none⟩=some (.int .i64 c.le):=AR.cell 6;have BN:=Hy (qaP wr c.wk c.le Ap.2.1 Ap.2.2.1 BM.1 BM.2);have E:=Hy AR;have Cw:=Hy Aj;have BI:=Hy Ah;clear AR Aj Ah;go_wp2_with fail;refine BN.mono ?_;clear BN b2 b6;rintro e w8 ⟨rfl,Bd,AJ⟩;have BZ:=Hy Bd;have BB:=Hy AJ;have Bu:=Hy (HN.blk.below AJ HN.blk.lt);have C3:w8.cell? ⟨H+1,14,none⟩=some (.pointer none):=Bu.cell 14
  have C8:w8.frozen? ⟨H+1,14,none⟩=false:=Bu.frozen 14;have ⟨U,AN⟩:=gn (w8.setCell ⟨H+1,14,none⟩ (.pointer (some ⟨wr.heap.size,0,none⟩)));have B3:Frm (fun b=>b=H+1) w8 U:=by rw [<- AN];exact (Frm.refl (fun b=>b=H+1) w8).setCell ⟨H+1,14,none⟩ _ (.inl rfl)
  have Aw:Frm (fun b=>b=H+1) wr U:=Frm.trans (Frm.below AJ) B3 (fun i hi hl=>hi);have AU:=Hy (by rw [<- AN];exact Bu.set 14 _:Blk U (H+1) _ _);have AD:=Hy B3;have BJ:=Hy Aw;have F:=Hy (E.frm Aw Cw.o);have b4:U.cell? ⟨w.heap.size,4,none⟩=some (.int .i64 c.sl):=F.cell 4;have BX:=Hy (Qba c.sl U Ap.2.2.2.2.2.2.1 Ap.2.2.2.2.2.2.2.1);clear Bd AJ B3 Aw;go_wp2_with (rw [AN]);clear AN C3 C8;refine BX.mono ?_;clear BX b4;rintro e w9 ⟨rfl,Bc,AK⟩;have BV:=Hy Bc;have CO:=Hy AK;have Af:=Hy (AU.below AK AU.lt)
  have c15:Cl w9 (H+1) 15 (.pointer none):=Af.cell 15;have Bx:w9.frozen? ⟨H+1,15,none⟩=false:=Af.frozen 15;have ⟨s9,AO⟩:=gn (w9.setCell ⟨H+1,15,none⟩ (.pointer (some ⟨U.heap.size+2,0,none⟩)));have B4:Frm (fun b=>b=H+1) w9 s9:=by rw [<- AO];exact (Frm.refl (fun b=>b=H+1) w9).setCell ⟨H+1,15,none⟩ _ (.inl rfl)
  have Ba:Frm (fun b=>b=H+1) U s9:=Frm.trans (Frm.below AK) B4 (fun i hi hl=>hi);have AW:=Hy (by rw [<- AO];exact Af.set 15 _:Blk s9 (H+1) _ _);have BH:=Hy B4;have BK:=Hy Ba;have Ca:=Hy (qbb 24 s9 (by decide) (by decide));clear Bc AK B4 Ba;go_wp2_with (rw [AO]);clear AO c15 Bx;refine Ca.mono ?_;clear Ca;rintro e A7 ⟨rfl,Az,Ab⟩;have BY:=Hy Az;have CJ:=Hy Ab;have Aq:=Hy (AW.below Ab AW.lt);have C4:A7.cell? ⟨H+1,16,none⟩=some (.pointer none):=Aq.cell 16;have Cd:A7.frozen? ⟨H+1,16,none⟩=false:=Aq.frozen 16
  have ⟨Ak,Ac⟩:=gn (A7.setCell ⟨H+1,16,none⟩ (.pointer (some ⟨s9.heap.size,0,none⟩)));have Au:Frm (fun b=>b=H+1) A7 Ak:=by rw [<- Ac];exact (Frm.refl (fun b=>b=H+1) A7).setCell ⟨H+1,16,none⟩ _ (.inl rfl)
  have Av:Frm (fun b=>b=H+1) s9 Ak:=Frm.trans (Frm.below Ab) Au (fun i hi hl=>hi);have Bv:=Hy (by rw [<- Ac];exact Aq.set 16 _:Blk Ak (H+1) _ _);have BF:=Hy Au;have Ao:=Hy Av;clear Az Ab Au Av;go_wp2_with (rw [Ac]);clear Ac C4 Cd;go_ret2;have Cm:=Ae.o;have Cn:=Ag.o;have CD:=BI.size;rw [Bj.o] at CD;have Dj:wr.heap.size < U.heap.size:=nt BZ.lt AD.size;have Dk:U.heap.size+2 < s9.heap.size:=nt BV.blk.lt BH.size;have A4:Frm (fun b=>b=H+1) U Ak:=Frm.trans BK.o Ao.o (fun i hi hl=>hi)
  have z:Frm (fun b=>b=H+1) wr Ak:=Frm.trans BJ.o A4 (fun i hi hl=>hi);have L:Frm (fun b=>b=H+1) w6 Ak:=Frm.trans BI.o z (fun i hi hl=>hi);have ⟨O',Q⟩:=gn (ownNew O w.heap.size H wr.heap.size U.heap.size s9.heap.size);refine ⟨H+1,ac,cc,⟨Y,Z,t,wr.heap.size,U.heap.size+2,U.heap.size,U.heap.size+1,s9.heap.size,H,none,0,fun _=>0,fun _=>0,fun _=>(none,0)⟩,O',rfl,zaW ?_ ?_ ?_ ?_ ?_ ?_ rfl rfl,?_,?_,?_⟩
  ·rw [r.o];exact ⟨Bv.o,by rw [<- Q];exact Xa6 (by omega)⟩
  ·refine ⟨⟨?_,?_⟩,⟨?_,?_⟩,fun s x T=>⟨?_,?_⟩⟩
   ·exact zi (za Br.o L (fun q M e=>by have:=Bs.o q M;omega)) (nz _)
   ·intro q M;rw [<- Q];exact qa7 (by have:=Xa Br.o q M;omega) (Bs.o q M)
   ·rw [r.o];exact zi (za HN.row z (fun q M e=>by have:=Xa HN.row q M;omega)) (nz _)
   ·intro q M;rw [<- Q];exact ZaP (by omega) (by have:=Xa HN.row q M;omega) (qg HN.row q M)
   ·rw [r.o];exact zi (za (HN.each s x T) z (fun q M e=>by have:=Xa (HN.each s x T) q M;omega)) (nz _)
   rw [r.o];intro q M;rw [<- Q];exact ZaP (by omega) (by have:=Xa (HN.each s x T) q M;omega) (qg (HN.each s x T) q M)
  ·exact ⟨Blk.frm (Blk.frm BZ.o AD.o (by show ¬ wr.heap.size=H+1;omega)) A4 (by show ¬ wr.heap.size=H+1;omega),by show O' wr.heap.size=ct 2;rw [<- Q];exact Qbb (by omega) (by omega) (by omega) (by omega)⟩
  ·exact ⟨(BV.frm BH.o (by show ¬ U.heap.size+2=H+1;omega) (by show ¬ U.heap.size=H+1;omega) (by show ¬ U.heap.size+1=H+1;omega)).frm Ao.o (by show ¬ U.heap.size+2=H+1;omega) (by show ¬ U.heap.size=H+1;omega) (by show ¬ U.heap.size+1=H+1;omega),by show O' (U.heap.size+2)=ct 3;rw [<- Q];exact za7 (by omega) (by omega) (by omega) (by omega) (by omega),by show O' (U.heap.size)=ct 3;rw [<- Q];exact za7 (by omega) (by omega) (by omega) (by omega) (by omega),by show O' (U.heap.size+1)=ct 3;rw [<- Q];exact za7 (by omega) (by omega) (by omega) (by omega) (by omega)⟩
  ·exact ⟨none,BY.frm BF.o (by show ¬ s9.heap.size=H+1;omega) (fun q M=>by cases M),by show O' s9.heap.size=ct 4;rw [<- Q];exact Zbb (by omega) (by omega) (by omega) (by omega) (by omega),fun q M=>by cases M⟩
  ·exact ⟨Cv.frm L (by show ¬ H=H+1;omega),by rw [<- Q];exact Ybb (by omega)⟩
  ·show (t.length:Int)=shardsC c;rw [j.o,<- Bn.o,<- r.o,xB HM.o]
  ·intro q M;rw [<- Q];exact qa0 M
  exact ⟨L.os.trans Ad.os,L.tape.trans Ad.tape,L.output.trans Ad.output,nr Ad.size L.size,fun q M=>(L.block q (nt M Ad.size) (by omega)).trans (Ad.block q M)⟩
end
def RB (w:World) (g:Nat) (t:Tab):Prop:=Blk w g 191 t.rcells
theorem RB.cell {t:Tab} (h:RB w g t) (ho:t.ok) (k j:Nat) (A:k < 6) (hj:j < 3):w.cell? ⟨g,k * 3+j,none⟩=(t.at k).rcells[j]?:=by
 rw [Blk.cell h,Tab.rcell_at ho k j A hj]
theorem RB.workers {t:Tab} (h:RB w g t) (ho:t.ok):w.cell? ⟨g,18,none⟩=some (.int .i64 t.workers):=by rw [Blk.cell h];exact (Tab.rcell_n ho).1
theorem RB.term {t:Tab} (h:RB w g t) (ho:t.ok):w.cell? ⟨g,19,none⟩=some (.int .i64 t.term):=by rw [Blk.cell h];exact (Tab.rcell_n ho).2
theorem RB.epoch {t:Tab} (h:RB w g t) (ho:t.ok) (k:Nat) (A:k < 6):w.cell? ⟨g,k * 3,none⟩=some (.int .i64 (t.at k).epoch):=RB.cell h ho k 0 A (by decide)
theorem RB.life {t:Tab} (h:RB w g t) (ho:t.ok) (k:Nat) (A:k < 6):w.cell? ⟨g,k * 3+1,none⟩=some (.int .i64 (t.at k).life):=RB.cell h ho k 1 A (by decide)
theorem RB.till {t:Tab} (h:RB w g t) (ho:t.ok) (k:Nat) (A:k < 6):w.cell? ⟨g,k * 3+2,none⟩=some (.int .i64 (t.at k).till):=RB.cell h ho k 2 A (by decide)
theorem RB.set {t:Tab} (h:RB w g t) (ho:t.ok) (k j:Nat) (v:Value) (x:L1) (A:k < 6) (hj:j < 3) (hx:x.rcells=(t.at k).rcells.set j v):RB (w.setCell ⟨g,k * 3+j,none⟩ v) g (t.put k x):=by
 unfold RB;rw [<- Tab.set_rcell ho k j v x A hj hx];exact Blk.set h _ _
theorem Zr (w:World) (g:Nat) (t:Tab) (v:Int) (h:RB w g t) (ho:t.ok):
  Calls prog 152 #[.pointer (some ⟨g,0,none⟩),v] w fun e w'=>e=.returned (.bool (t.is v))/\w=w':=by
 have F:=h.workers ho;clear h ho
 by_cases h1:1<=v
 ·have B:decide (1<=v)=true:=by simp;omega
  by_cases E:v<=t.workers
  ·have A:Hid (t.is v=true):=by unfold Hid Tab.is;rw [decide_eq_true_iff];exact ⟨h1,E⟩
   have C:decide (v<=t.workers)=true:=by simp;omega
   go_in;go_wp2_with fail;go_ret;exact ⟨by rw [A.o];rfl,rfl⟩
  have A:Hid (t.is v=false):=by unfold Hid Tab.is;rw [decide_eq_false_iff_not];exact fun D=>E D.2
  have C:decide (v<=t.workers)=false:=by simp;omega
  go_in;go_wp2_with fail;go_ret;exact ⟨by rw [A.o];rfl,rfl⟩
 have A:Hid (t.is v=false):=by unfold Hid Tab.is;rw [decide_eq_false_iff_not];exact fun D=>h1 D.1
 have B:decide (1<=v)=false:=by simp;omega
 go_in;go_wp2_with fail;go_ret;exact ⟨by rw [A.o];rfl,rfl⟩
theorem yao (w:World) (g:Nat) (t:Tab) (v life now:Int) (h:RB w g t) (ho:t.ok) (hb:okHello t v life now=false):
  Calls prog 98 #[.pointer (some ⟨g,0,none⟩),v,life,now] w fun e w'=>e=.returned (.tuple #[(),.int .i64 2])/\w=w':=by
 have H:=Hy h;clear h;cases A:t.is v with
 | false=>
  have HI:=Hy (Zr w g t v H.o ho);rw [A] at HI;clear hb A ho;go_in;go_wp2_with fail;refine (HI.o).mono ?_;rintro e w' ⟨rfl,rfl⟩;go_wp2_with fail;go_ret2;exact ⟨rfl,rfl⟩
 | true=>
  have HI:=Hy (Zr w g t v H.o ho);rw [A] at HI
  by_cases h1:life < 1
  ·clear hb ho A
   go_in;go_wp2_with fail;refine (HI.o).mono ?_;rintro e w' ⟨rfl,rfl⟩;go_wp2_with fail;go_ret2;exact ⟨rfl,rfl⟩
  by_cases B:2147483647 < life
  ·clear hb ho A
   go_in;go_wp2_with fail;refine (HI.o).mono ?_;rintro e w' ⟨rfl,rfl⟩;go_wp2_with fail;go_ret2;exact ⟨rfl,rfl⟩
  by_cases C:now < 0
  ·clear hb ho A
   go_in;go_wp2_with fail;refine (HI.o).mono ?_;rintro e w' ⟨rfl,rfl⟩;go_wp2_with fail;go_ret2;exact ⟨rfl,rfl⟩
  have D:1099511627776 < now:=by
   simp only [okHello,A,Bool.true_and,okTime] at hb;rw [show decide (1<=life/\life<=2147483647)=true by rw [decide_eq_true_iff];omega,Bool.true_and,decide_eq_false_iff_not] at hb;omega
  clear hb ho A;go_in;go_wp2_with fail;refine (HI.o).mono ?_;rintro e w' ⟨rfl,rfl⟩;go_wp2_with fail;go_ret2;exact ⟨rfl,rfl⟩
theorem Qao (w:World) (g:Nat) (t:Tab) (v life now:Int) (h:RB w g t) (ho:t.ok) (hb:okHello t v life now=true) (C:life < (t.at v).life):
  Calls prog 98 #[.pointer (some ⟨g,0,none⟩),v,life,now] w fun e w'=>e=.returned (.tuple #[(),.int .i64 4])/\w=w':=by
 have H:=Hy h;clear h;simp only [okHello,Bool.and_eq_true,decide_eq_true_eq,okTime] at hb;obtain ⟨⟨A,Z,a⟩,D⟩:=hb
 have B:∃ k:Nat,v=k/\1<=k/\k<=5/\(k:Int)<=t.workers:=by
  simp only [Tab.is,decide_eq_true_eq] at A;have:=ho.workers1;exact ⟨v.toNat,by omega,by omega,by omega,by omega⟩
 obtain ⟨k,rfl,V,W,Y⟩:=B;have HI:=Hy (Zr w g t k H.o ho);rw [A] at HI;have b:=H.life ho k (by omega);have N:=H.epoch ho k (by omega);have Q:=H.till ho k (by omega);have P:=H.term ho;have R:=Blk.frozen H.o (k * 3);have T:=Blk.frozen H.o (k * 3+1);have U:=Blk.frozen H.o (k * 3+2);have E:=ho.term0;have F:=ho.term1;have G:=(ho.at (k:Int)).epoch0;have I:=(ho.at (k:Int)).epoch1;have J:=(ho.at (k:Int)).life1;have K:=(ho.at (k:Int)).till0;have M:=(ho.at (k:Int)).till1;clear A ho;generalize (t.at (k:Int)).life=L at *;go_in
 go_wp2_with fail;refine (HI.o).mono ?_;rintro e w' ⟨rfl,rfl⟩;go_wp2_with fail;go_ret2;exact ⟨rfl,rfl⟩
theorem Zae (w:World) (g:Nat) (t:Tab) (v life now:Int) (h:RB w g t) (ho:t.ok) (hb:okHello t v life now=true) (B:life=(t.at v).life):
  Calls prog 98 #[.pointer (some ⟨g,0,none⟩),v,life,now] w fun e w'=>e=.returned (.tuple #[.int .i64 (t.at v).epoch,()])/\RB w' g (t.put v ((t.at v).on (now+t.term)))/\w.grownBy w' (some g):=by
 have H:=Hy h;clear h;simp only [okHello,Bool.and_eq_true,decide_eq_true_eq,okTime] at hb;obtain ⟨⟨A,f,i⟩,F⟩:=hb
 have C:∃ k:Nat,v=k/\1<=k/\k<=5/\(k:Int)<=t.workers:=by
  simp only [Tab.is,decide_eq_true_eq] at A;have:=ho.workers1;exact ⟨v.toNat,by omega,by omega,by omega,by omega⟩
 obtain ⟨k,rfl,b,c,d⟩:=C;have HI:=Hy (Zr w g t k H.o ho);rw [A] at HI;have l:=H.life ho k (by omega);have U:=H.epoch ho k (by omega);have W:=H.till ho k (by omega);have V:=H.term ho;have Y:=Blk.frozen H.o (k * 3);have Z:=Blk.frozen H.o (k * 3+1);have a:=Blk.frozen H.o (k * 3+2);have I:=ho.term0;have J:=ho.term1;have K:=(ho.at (k:Int)).epoch0;have N:=(ho.at (k:Int)).epoch1;have P:=(ho.at (k:Int)).life1;have Q:=(ho.at (k:Int)).till0;have R:=(ho.at (k:Int)).till1;have G:=Hy (H.set ho k 2 (.int .i64 (max (t.at (k:Int)).till (now+t.term))) ((t.at (k:Int)).on (now+t.term)) (by omega) (by decide) rfl)
 have h0:(t.at (k:Int)).life<=life:=by omega
 have j:life<=(t.at (k:Int)).life:=by omega
 clear B ho A;generalize (t.at (k:Int)).on (now+t.term)=X at *;generalize (t.at (k:Int)).life=L at *;generalize (t.at (k:Int)).epoch=E at *;generalize (t.at (k:Int)).till=T at *;generalize t.term=M at *;have D:(if T < now+M then now+M else T)=max T (now+M):=by split <;> omega
 go_in;go_wp2_with fail;refine (HI.o).mono ?_;rintro e w' ⟨rfl,rfl⟩;go_wp2_with fail;go_region
 all_goals go_wp2
 go_ret2;exact ⟨rfl,G.o,yj (Blk.grown_self _ _)⟩
theorem xao (w:World) (g:Nat) (t:Tab) (v life now:Int) (h:RB w g t) (ho:t.ok) (hb:okHello t v life now=true) (J:(t.at v).life < life):
  Calls prog 98 #[.pointer (some ⟨g,0,none⟩),v,life,now] w fun e w'=>e=.returned (.tuple #[.int .i64 ((t.at v).epoch+1),()])/\RB w' g (t.put v (((t.at v).told life).on (now+t.term)))/\w.grownBy w' (some g):=by
 have H:=Hy h;clear h;simp only [okHello,Bool.and_eq_true,decide_eq_true_eq,okTime] at hb;obtain ⟨⟨B,U,I⟩,Z⟩:=hb
 have R:∃ k:Nat,v=k/\1<=k/\k<=5/\(k:Int)<=t.workers:=by
  simp only [Tab.is,decide_eq_true_eq] at B;have:=ho.workers1;exact ⟨v.toNat,by omega,by omega,by omega,by omega⟩
 obtain ⟨k,rfl,r,s,u⟩:=R;have HI:=Hy (Zr w g t k H.o ho);rw [B] at HI;have z:=H.life ho k (by omega);have j:=H.epoch ho k (by omega);have m:=H.till ho k (by omega);have l:=H.term ho;have n:=Blk.frozen H.o (k * 3);have p:=Blk.frozen H.o (k * 3+1);have q:=Blk.frozen H.o (k * 3+2);have a:=ho.term0;have b:=ho.term1;have Q:=(ho.at (k:Int)).epoch0;have c:=(ho.at (k:Int)).epoch1;have d:=(ho.at (k:Int)).life1;have f:=(ho.at (k:Int)).till0;have i:=(ho.at (k:Int)).till1;have F:t.is (k:Int)=true:=B;have A:(t.at (k:Int)).told life=⟨life,(t.at (k:Int)).epoch+1,(t.at (k:Int)).till⟩:=by unfold L1.told;rw [if_pos J]
 have V:=Hy (H.set ho k 1 (.int .i64 life) ⟨life,(t.at (k:Int)).epoch,(t.at (k:Int)).till⟩ (by omega) (by decide) rfl);have K:(t.put (k:Int) ⟨life,(t.at (k:Int)).epoch,(t.at (k:Int)).till⟩).ok:=ho.put _ ⟨by simp;omega,I,Q,by simp;omega,(ho.at (k:Int)).till0,(ho.at (k:Int)).till1⟩;have C:(t.put (k:Int) ⟨life,(t.at (k:Int)).epoch,(t.at (k:Int)).till⟩).at (k:Int)=⟨life,(t.at (k:Int)).epoch,(t.at (k:Int)).till⟩:=by rw [Tab.at_put ho (k:Int) k _ F,if_pos rfl]
 have P:=Hy (V.set K k 0 (.int .i64 ((t.at (k:Int)).epoch+1)) ⟨life,(t.at (k:Int)).epoch+1,(t.at (k:Int)).till⟩ (by omega) (by decide) (by rw [C];rfl));have G:∀ x y:L1,(t.put (k:Int) x).put (k:Int) y=t.put (k:Int) y:=by intro x y;simp [Tab.put]
 rw [G,<- A] at P;have N:(t.put (k:Int) ((t.at (k:Int)).told life)).ok:=ho.put _ ((ho.at (k:Int)).told U I);have D:(t.put (k:Int) ((t.at (k:Int)).told life)).at (k:Int)=(t.at (k:Int)).told life:=by rw [Tab.at_put ho (k:Int) k _ F,if_pos rfl]
 have W:=Hy (P.set N k 2 (.int .i64 (max (t.at (k:Int)).till (now+t.term))) (((t.at (k:Int)).told life).on (now+t.term)) (by omega) (by decide) (by rw [D,A];rfl));rw [G] at W;clear F B ho A V K C G P N D;generalize t.put (k:Int) (((t.at (k:Int)).told life).on (now+t.term))=t2 at *;generalize (t.at (k:Int)).life=L at *;generalize (t.at (k:Int)).epoch=E at *;generalize (t.at (k:Int)).till=T at *;generalize t.term=M at *;have Y:(if T < now+M then now+M else T)=max T (now+M):=by split <;> omega
 go_in;go_wp2_with fail;refine (HI.o).mono ?_;rintro e w' ⟨rfl,rfl⟩;go_wp2_with fail;go_region
 all_goals go_wp2
 go_region
 all_goals go_wp2
 go_ret2;exact ⟨rfl,W.o,yj (yj (zb (zb (Blk.grown_self _ _) (Blk.grown_self _ _)) (Blk.grown_self _ _)))⟩
theorem xaF (w:World) (g:Nat) (t:Tab) (v ep now:Int) (h:RB w g t) (ho:t.ok) (hb:okSeen t v ep now=false):
  Calls prog 154 #[.pointer (some ⟨g,0,none⟩),v,ep,now] w fun e w'=>e=.returned (.bool false)/\w=w':=by
 have H:=Hy h;clear h;cases A:t.is v with
 | false=>
  have HI:=Hy (Zr w g t v H.o ho);rw [A] at HI;clear hb A ho;go_in;go_wp2_with fail;refine (HI.o).mono ?_;rintro e w' ⟨rfl,rfl⟩;go_wp2_with fail;go_ret;exact ⟨rfl,rfl⟩
 | true=>
  have I:∃ k:Nat,v=k/\1<=k/\k<=5/\(k:Int)<=t.workers:=by
   simp only [Tab.is,decide_eq_true_eq] at A;have:=ho.workers1;exact ⟨v.toNat,by omega,by omega,by omega,by omega⟩
  obtain ⟨k,rfl,T,U,V⟩:=I;have HI:=Hy (Zr w g t k H.o ho);rw [A] at HI;have G:=H.epoch ho k (by omega);have C:=H.till ho k (by omega);have B:=H.term ho;have R:=Blk.frozen H.o (k * 3+2);have L:=ho.term0;have M:=ho.term1;have N:=(ho.at (k:Int)).epoch0;have P:=(ho.at (k:Int)).till0;have Q:=(ho.at (k:Int)).till1;simp only [okSeen,A,Bool.true_and] at hb
  by_cases h1:(t.at (k:Int)).epoch=0
  ·rw [h1] at G
   clear hb h1 C B ho A;go_in;go_wp2_with fail;refine (HI.o).mono ?_;rintro e w' ⟨rfl,rfl⟩;go_wp2_with fail;go_ret;exact ⟨rfl,rfl⟩
  have J:((t.at (k:Int)).epoch == 0)=false:=by simp;omega
  by_cases D:(t.at (k:Int)).epoch=ep
  ·have F:okTime now=false:=by
    rw [show decide ((t.at (k:Int)).epoch≠0/\(t.at (k:Int)).epoch=ep)=true by rw [decide_eq_true_iff];exact ⟨h1,D⟩,Bool.true_and] at hb;exact hb
   simp only [okTime,decide_eq_false_iff_not] at F;subst D;clear hb h1 ho A C B;generalize (t.at (k:Int)).epoch=E at *
   by_cases W:now < 0
   ·clear F
    go_in;go_wp2_with fail;refine (HI.o).mono ?_;rintro e w' ⟨rfl,rfl⟩;go_wp2_with fail;go_ret;exact ⟨rfl,rfl⟩
   have Y:1099511627776 < now:=by omega
   clear F;go_in;go_wp2_with fail;refine (HI.o).mono ?_;rintro e w' ⟨rfl,rfl⟩;go_wp2_with fail;go_ret;exact ⟨rfl,rfl⟩
  have K:((t.at (k:Int)).epoch != ep)=true:=by simp;exact D
  clear hb h1 D ho A C B;generalize (t.at (k:Int)).epoch=E at *;go_in;go_wp2_with fail;refine (HI.o).mono ?_;rintro e w' ⟨rfl,rfl⟩;go_wp2_with fail;go_ret;exact ⟨rfl,rfl⟩
theorem Qap (w:World) (g:Nat) (t:Tab) (v ep now:Int) (h:RB w g t) (ho:t.ok) (hb:okSeen t v ep now=true):
  Calls prog 154 #[.pointer (some ⟨g,0,none⟩),v,ep,now] w fun e w'=>e=.returned (.bool true)/\RB w' g (t.put v ((t.at v).on (now+t.term)))/\w.grownBy w' (some g):=by
 have H:=Hy h;clear h;simp only [okSeen,Bool.and_eq_true,decide_eq_true_eq,okTime] at hb;obtain ⟨⟨A,C,D⟩,G⟩:=hb
 have B:∃ k:Nat,v=k/\1<=k/\k<=5/\(k:Int)<=t.workers:=by
  simp only [Tab.is,decide_eq_true_eq] at A;have:=ho.workers1;exact ⟨v.toNat,by omega,by omega,by omega,by omega⟩
 obtain ⟨k,rfl,Y,Z,a⟩:=B;have HI:=Hy (Zr w g t k H.o ho);rw [A] at HI;have R:=H.epoch ho k (by omega);have V:=H.till ho k (by omega);have U:=H.term ho;have W:=Blk.frozen H.o (k * 3+2);have K:=ho.term0;have L:=ho.term1;have N:=(ho.at (k:Int)).epoch0;have P:=(ho.at (k:Int)).till0;have Q:=(ho.at (k:Int)).till1;have I:=Hy (H.set ho k 2 (.int .i64 (max (t.at (k:Int)).till (now+t.term))) ((t.at (k:Int)).on (now+t.term)) (by omega) (by decide) rfl);have J:((t.at (k:Int)).epoch == 0)=false:=by simp;omega
 subst D;clear ho A C;generalize (t.at (k:Int)).on (now+t.term)=X at *;generalize (t.at (k:Int)).epoch=E at *;generalize (t.at (k:Int)).till=T at *;generalize t.term=M at *;have F:(if T < now+M then now+M else T)=max T (now+M):=by split <;> omega
 go_in;go_wp2_with fail;refine (HI.o).mono ?_;rintro e w' ⟨rfl,rfl⟩;go_wp2_with fail;go_region
 all_goals go_wp2
 go_ret;exact ⟨rfl,I.o,yj (Blk.grown_self _ _)⟩
theorem ZaE (w:World) (g:Nat) (t:Tab) (v now:Int) (h:RB w g t) (ho:t.ok):
  Calls prog 147 #[.pointer (some ⟨g,0,none⟩),v,now] w fun e w'=>e=.returned (.bool (t.live v now))/\w=w':=by
 have H:=Hy h;clear h;cases A:t.is v with
 | false=>
  have HI:=Hy (Zr w g t v H.o ho);rw [A] at HI;have B:Hid (t.live v now=false):=by unfold Hid Tab.live;rw [A];rfl
  clear A ho;go_in;go_wp2_with fail;refine (HI.o).mono ?_;rintro e w' ⟨rfl,rfl⟩;go_wp2_with fail;go_ret;exact ⟨by rw [B.o];rfl,rfl⟩
 | true=>
  have G:∃ k:Nat,v=k/\1<=k/\k<=5/\(k:Int)<=t.workers:=by
   simp only [Tab.is,decide_eq_true_eq] at A;have:=ho.workers1;exact ⟨v.toNat,by omega,by omega,by omega,by omega⟩
  obtain ⟨k,rfl,L,M,N⟩:=G;have HI:=Hy (Zr w g t k H.o ho);rw [A] at HI;have J:=H.epoch ho k (by omega);have K:=H.till ho k (by omega)
  by_cases h1:0 < (t.at (k:Int)).epoch
  ·by_cases I:now<=(t.at (k:Int)).till
   ·have B:Hid (t.live (k:Int) now=true):=by unfold Hid Tab.live;rw [A,Bool.true_and,decide_eq_true_iff];exact ⟨h1,I⟩
    clear A ho;generalize (t.at (k:Int)).epoch=E at *;generalize (t.at (k:Int)).till=T at *;have D:decide (now<=T)=true:=by simp;omega
    have C:decide (0 < E)=true:=by simp;omega
    go_in;go_wp2_with fail;refine (HI.o).mono ?_;rintro e w' ⟨rfl,rfl⟩;go_wp2_with fail;go_ret;exact ⟨by rw [B.o];rfl,rfl⟩
   ·have B:Hid (t.live (k:Int) now=false):=by unfold Hid Tab.live;rw [A,Bool.true_and,decide_eq_false_iff_not];exact fun F=>I F.2
    clear A ho;generalize (t.at (k:Int)).epoch=E at *;generalize (t.at (k:Int)).till=T at *;have D:decide (now<=T)=false:=by simp;omega
    have C:decide (0 < E)=true:=by simp;omega
    go_in;go_wp2_with fail;refine (HI.o).mono ?_;rintro e w' ⟨rfl,rfl⟩;go_wp2_with fail;go_ret;exact ⟨by rw [B.o];rfl,rfl⟩
  ·have B:Hid (t.live (k:Int) now=false):=by unfold Hid Tab.live;rw [A,Bool.true_and,decide_eq_false_iff_not];exact fun F=>h1 F.1
   clear A ho;generalize (t.at (k:Int)).epoch=E at *;have C:decide (0 < E)=false:=by simp;omega
   go_in;go_wp2_with fail;refine (HI.o).mono ?_;rintro e w' ⟨rfl,rfl⟩;go_wp2_with fail;go_ret;exact ⟨by rw [B.o];rfl,rfl⟩
theorem XaE (w:World) (A B:Int) (h1:1<=A) (h2:A<=5) (h3:1<=B) (h4:B<=1000):
  Calls prog 79 #[A,B] w fun e w'=>e=.returned (.tuple #[.pointer (some ⟨w.heap.size,0,none⟩),()])/\RB w' w.heap.size (Tab.new A B)/\Below w.heap.size w w':=by
 go_in;go_wp2_with fail;go_ret2;exact ⟨rfl,by unfold RB Blk;rw [heap_alloc_new];rfl,(bf _ _).alloc (nl _) _⟩
def refCells (x:One):List Value:=[.int .i64 x.2,.int .i64 x.1]
theorem Qj (x:One):(refCells x).length=2:=rfl
theorem Qv (x:One):∀ u∈refCells x,u.oneCell'=true:=by
 intro u A;simp only [refCells,List.mem_cons,List.not_mem_nil,or_false] at A;rcases A with rfl | rfl <;> rfl
def RT (w0 w:World) (q:Nat) (most:Int) (L:List One):Prop:=∃ ao c,Blk w q 209 [.slice ao L.length c,most]/\w.ownsRow w0.heap.size 278 2 (.slice ao L.length c) L.length (L.flatMap refCells)/\w0.heap.size<=q/\Below w0.heap.size w0 w
theorem RT.below {q:Nat} {L:List One} (h:RT w0 w q most L) (hb:Below w.heap.size w w'):RT w0 w' q most L:=by
 obtain ⟨B,c,h1,C,D,A⟩:=h;exact ⟨B,c,h1.frm (Frm.below (S:=fun _=>False) hb) id,za C (Frm.below (S:=fun _=>False) hb) (fun _ _=>id),D,A.trans (hb.mono A.size)⟩
theorem RT.cell {q:Nat} {L:List One} (h:RT w0 w q most L):∃ A c,w.cell? ⟨q,0,none⟩=some (.slice A L.length c)/\w.cell? ⟨q,1,none⟩=some (.int .i64 most)/\w.frozen? ⟨q,0,none⟩=false/\RdE refCells 2 w A L.length c L/\q < w.heap.size:=by
 obtain ⟨A,c,h1,B,C,D⟩:=h;exact ⟨A,c,by rw [h1.cell];rfl,by rw [h1.cell];rfl,h1.frozen 0,Za Qj rfl B,h1.lt⟩
theorem RdE.at_ {w:World} {a:Option Addr} {n c:Nat} {L:List One} (h:RdE refCells 2 w a n c L) {i:Nat} {x:One} (hx:L[i]?=some x):∃ b o,a=some ⟨b,o,none⟩/\w.cell? ⟨b,o+i * 2,none⟩=some (.int .i64 x.2)/\w.cell? ⟨b,o+i * 2+1,none⟩=some (.int .i64 x.1):=by
 obtain ⟨b,o,e,B,A⟩:=h.2.2.2.2 i x hx;exact ⟨b,o,e,A 0 (by omega),A 1 (by omega)⟩
theorem xaQ (A:Int) (w:World) (h1:1<=A) (h2:A<=24):
  Calls prog 81 #[A] w fun e w'=>e=.returned (.tuple #[.pointer (some ⟨w.heap.size,0,none⟩),()])/\w'=w.alloc (.cells #[.slice none 0 0,A] 209):=by
 go_in;go_wp2_with fail;go_ret2;exact ⟨rfl,rfl⟩
theorem XaJ {L:List One} {i:Nat} {x:One} {id:Int} (h:L[i]?=some x):atL id (L.drop i)=if x.2=id then (x.1,true) else atL id (L.drop (i+1)):=by
 obtain ⟨B,e⟩:=lg h;rw [List.drop_eq_getElem_cons B,e];unfold atL;rw [List.find?_cons]
 by_cases A:x.2=id
 ·rw [decide_eq_true A,if_pos A]
 rw [decide_eq_false A,if_neg A]
theorem Ya7 (w0:World) (q:Nat) (id:Int) (w:World) (H:Int) (L:List One) (h:RT w0 w q H L) (hL:L.length<=24):
  Calls prog 145 #[.pointer (some ⟨q,0,none⟩),id] w fun e w'=>e=.returned (.tuple #[.int .i64 (atL id L).1,.bool (atL id L).2])/\w=w':=by
 obtain ⟨V,c,Q,W,Y,I,Z⟩:=h.cell;clear h;have N:=Hy I;have ⟨R,K⟩:=gn (atL id L);rw [K];have D:=Hy K;have ⟨n,M⟩:=gn L.length;rw [M] at Q N hL;have J:=Hy M;clear I K M;go_in;go_wp2_with fail;go_loop [6] (fun v=>∃ i:Nat,i<=n/\v=.int .i64 i/\Hid (atL id (L.drop i)=R)) (fun v=>n - (intOf v).toNat)
 case atStart=>exact ⟨0,nz _,rfl,D.o⟩
 case round=>
  clear D;obtain ⟨i,hi,rfl,C⟩:=hrel
  by_cases E:i < n
  ·have F:L[i]?=some (L[i]'(by rw [J.o];exact E)):=le_ _
   have ⟨x,G⟩:=gn (L[i]'(by rw [J.o];exact E));rw [G] at F;have B:=C.o;rw [XaJ F] at B;obtain ⟨b,o,rfl,f,g⟩:=N.at_ F;have U:=Hy F;clear G F C;have a:(0:Int)<=(i:Int):=by omega
   have d:(i:Int) < (n:Int):=by omega
   by_cases A:x.2=id
   ·rw [if_pos A] at B
    subst B;have T:(x.2 == id)=true:=by rw [beq_iff_eq];exact A
    have P:=Hy A;clear A;go_wp2_with fail;go_ret2;exact ⟨rfl,rfl⟩
   rw [if_neg A] at B
   have C:=Hy B;have T:(x.2 == id)=false:=by rw [beq_eq_false_iff_ne];exact A
   clear A B;go_wp2_with fail;go_round
   case rel=>exact ⟨i+1,by omega,by go_num,C.o⟩
   case measure=>simp [intOf];omega
  have B:=C.o
  rw [List.drop_eq_nil_of_le (by rw [J.o];omega)] at B;have I:R=(0,false):=B.symm;subst I;clear C B;go_wp2_with fail;go_ret2;exact ⟨rfl,rfl⟩
def RowN (w w':World) (q:Nat):Prop:=∀ v,w'.cell? ⟨q,0,none⟩=some v->(∀ k,v.ownBlock=some k->w.heap.size<=k)∨w.cell? ⟨q,0,none⟩=some v
theorem RowN.refl (w:World) (q:Nat):RowN w w q:=fun v h=>.inr h
theorem RowN.new {w w':World} {q:Nat} {v:Value} (hc:w'.cell? ⟨q,0,none⟩=some v) (h:∀ k,v.ownBlock=some k->w.heap.size<=k):RowN w w' q:=fun u A=>by rw [hc] at A;cases A;exact .inl h
theorem RowN.same {w w':World} {q:Nat} (h:w'.cell? ⟨q,0,none⟩=w.cell? ⟨q,0,none⟩):RowN w w' q:=fun v A=>.inr (by rw [<- h];exact A)
theorem RowN.below {w:World} {q:Nat} (hb:Below w.heap.size w w') (hq:q < w.heap.size):RowN w w' q:=RowN.same (hb.cell (p:=⟨q,0,none⟩) hq)
theorem xd:(Tryz.prog.info? 278).map (fun i=>(i.zero,i.size,i.bytes))=some (some (.agg #[(),()]),2,16):=by kernel_rfl
theorem xU:∀ {L:List One} {i:Nat} {x:One} {id:Int},L[i]?=some x->x.2=id->(∀ j y,j < i->L[j]?=some y->y.2≠id)->cancelL id L=L.take i++L.drop (i+1)/\hasL id L=true
 | [],i,x,id,h,_,_=>by simp at h
 | y :: L,0,x,id,h,hx,_=>by
  simp only [List.getElem?_cons_zero,Option.some.injEq] at h
  subst h
  unfold cancelL hasL
  rw [List.eraseP_cons,List.any_cons,decide_eq_true hx]
  simp
 | y :: L,i+1,x,id,h,hx,hj=>by
  have hy:=hj 0 y (by omega) rfl
  obtain ⟨h1,B⟩:=xU (L:=L) (i:=i) (x:=x) (by simpa using h) hx (fun j z C A=>hj (j+1) z (by omega) (by simpa using A))
  unfold cancelL hasL at *
  rw [List.eraseP_cons,List.any_cons,decide_eq_false hy,cond_false,h1,B]
  simp
theorem Qaa {L:List One} {id:Int} (h:∀ j y,j < L.length->L[j]?=some y->y.2≠id):hasL id L=false:=by
 rw [Bool.eq_false_iff];intro e;obtain ⟨x,D,C⟩:=Yo.1 e;obtain ⟨j,A,B⟩:=List.mem_iff_getElem.1 D;exact h j x A (by rw [<- B];exact le_ A) C
theorem zX (w0:World) (q:Nat) (id:Int) (w:World) (G:Int) (L:List One) (h:RT w0 w q G L) (hL:L.length<=24):
  Calls prog 156 #[.pointer (some ⟨q,0,none⟩),id] w fun e w'=>e=.returned (.bool (hasL id L))/\RT w0 w' q G (cancelL id L)/\Frm (fun k=>k=q) w w'/\RowN w w' q:=by
 obtain ⟨i0,hi,AB,M,AC⟩:=info_parts xd;clear hi AB M AC;have As:=Hy h;have Af:Below w0.heap.size w0 w:=by obtain ⟨_,_,_,_,_,hb⟩:=h;exact hb
 have Aj:w0.heap.size<=q:=by obtain ⟨_,_,_,_,hq,_⟩:=h;exact hq
 have A0:∃ ao c,Blk w q 209 [.slice ao L.length c,G]/\w.cell? ⟨q,0,none⟩=some (.slice ao L.length c)/\RdE refCells 2 w ao L.length c L:=by
  obtain ⟨ao,c,h1,h2,_⟩:=h;exact ⟨ao,c,h1,by rw [h1.cell];rfl,Za Qj rfl h2⟩
 obtain ⟨ao,c,m,c0,hr⟩:=A0;have A6:=hr.2.2.1;have AA:=hr.2.1;unfold maxLen at A6;have Z:=m.lt;have HR:=Hy hr;have a:=Hy m;have N:=Hy Af;have ⟨L',l⟩:=gn (cancelL id L);have ⟨R,hR⟩:=gn (hasL id L);rw [l,hR];have U:=Hy l;have V:=Hy hR;have ⟨n,hn⟩:=gn L.length;rw [hn] at c0 HR hL a AA;have HN:=Hy hn;clear h m Af hr l hR hn;go_in;go_wp2_with fail;go_loop [5] (fun v=>∃ i:Nat,i<=n/\v=.int .i64 i/\Hid (∀ j y,j < i->L[j]?=some y->y.2≠id)) (fun v=>n - (intOf v).toNat)
 case atStart=>exact ⟨0,nz _,rfl,fun j y hj _=>by omega⟩
 case round=>
  obtain ⟨i,hi,rfl,HT⟩:=hrel
  by_cases t:i < n
  ·have hx:L[i]?=some (L[i]'(by rw [HN.o];exact t)):=le_ _
   have ⟨x,Ak⟩:=gn (L[i]'(by rw [HN.o];exact t));rw [Ak] at hx;obtain ⟨b,o,rfl,x0,x1⟩:=HR.at_ hx;have HX:=Hy hx;clear Ak hx x1;have k1:(0:Int)<=(i:Int):=by omega
   have k2:(i:Int) < (n:Int):=by omega
   by_cases K:x.2=id
   ·obtain ⟨Ag,Ah⟩:=xU HX.o K HT.o
    have u:R=true:=by rw [<- V.o];exact Ah
    have Y:L'=L.take i++L.drop (i+1):=by rw [<- U.o];exact Ag
    subst u;have Ad:=Hy Y;have d1:(x.2 == id)=true:=by rw [beq_iff_eq];exact K
    have AO:=Hy K;clear K U V Ag Ah Y HT;go_wp2_with fail;have Au:=Hy (RdE.take HR.o i (by omega));have HD:=Hy (RdE.drop HR.o (i+1) (by omega));have X1:=Hy (show Src prog 2 207 (.slice (some ⟨b,o,none⟩) i c) i ((L.take i).flatMap refCells) w.drew from Src.ofRdE (enc:=refCells) (size:=2) underlying207 Qj Qv (Au.below (below_drewN (bf _ w) 1) rfl));have A1:0+i<=maxLen:=by unfold maxLen;omega
    have A2:(0+i) * 16<=140737488355328:=by omega
    have A3:i+(n - (i+1))<=maxLen:=by unfold maxLen;omega
    have A4:(i+(n - (i+1))) * 16<=140737488355328:=by omega
    have w2:((i:Int)+1).toNat=i+1:=by omega
    have w3:(0:Int)<=(i:Int)+1:=by omega
    have w4:(i:Int)+1<=n:=by omega
    have w5:(i:Int)<=c:=by omega
    have w6:(n:Int)<=c:=by omega
    have w1:IntKind.i64.wrap ((i:Int)+1)=(i:Int)+1:=IntWalk.i64_in _ (by omega)
    by_cases r:c=i+1
    ·have e1:n - (i+1)=0:=by omega
     have e2:c - (i+1)=0:=by omega
     have hd:=HD.o o (fun h=>by omega);rw [e1,e2] at hd;have d:=Hy hd;rw [e1] at A3 A4;clear hd e1 e2 HD;have Ai:=r.symm;clear r;go_region_law (first | (refine sa (base:=w.heap.size) xd underlying207 (World.ownsRow_nil _ _ _ _) X1.o A1 A2 (nl _) ?_;intro a1 Ax u1 A P;rw [Nat.zero_add,List.nil_append] at A;have T:=Hy ((below_drewN (bf w.heap.size w) 1).grown P (nl _) (fun k B=>by cases B));have M:=T.size;have cu:=(T.cell (p:=⟨q,0,none⟩) Z).trans c0;have X2:=Hy (show Src prog 2 207 (.slice (some ⟨b,o,none⟩) 0 0) (0) ((L.drop (i+1)).flatMap refCells) u1 from Src.ofRdE (enc:=refCells) (size:=2) underlying207 Qj Qv (d.below T.o rfl))) | (refine sa xd underlying207 A X2.o A3 A4 M ?_;intro f J z C E;have B2:=Hy (T.grown E M (Xa A));have D:=a.below B2.o Z;have g:=D.cell 0;have Az:=D.frozen 0;rw [show ([.slice (some ⟨b,o,none⟩) n c,G]:List Value)[0]?=some (.slice (some ⟨b,o,none⟩) n c) from rfl] at g;have H:=Hy D;have I:=Hy C;clear D C E))
     all_goals clear w1 w2 w3 w4
     all_goals go_wp2_with fail
     all_goals go_ret
     all_goals
      have s:=Ad.o;subst s;have Q:(L.take i++L.drop (i+1)).length=i+(0):=by have:=HN.o;simp;omega
      have F:Frm (fun k=>k=q) z (z.setCell ⟨q,0,none⟩ (.slice f (i+(0):Nat) J)):=(Frm.refl _ _).setCell _ _ (.inl rfl);have W:Frm (fun k=>k=q) w (z.setCell ⟨q,0,none⟩ (.slice f (i+(0):Nat) J)):=(Frm.below B2.o).trans F (fun i h _=>h);refine ⟨rfl,⟨f,J,?_,?_,Aj,N.trans (W.toBelow N.size (fun i hi h=>by omega))⟩,W,?_⟩
      ·rw [Q];exact H.set 0 _
      ·rw [Q,List.flatMap_append]
       refine zi (za I.o F (fun k B e=>?_)) N.size;have:=Xa I.o k B;omega
      ·exact RowN.new (by rw [(H.set 0 _).cell];rfl) (fun k B=>by have:=Xa I.o k B;have:=H.lt;omega)
    have hd:=HD.o (o+(i+1) * 2) (fun _=>rfl)
    have d:=Hy hd;clear hd HD;have Ai:¬ i+1=c:=fun e=>r e.symm;go_region_law (first | (refine sa (base:=w.heap.size) xd underlying207 (World.ownsRow_nil _ _ _ _) X1.o A1 A2 (nl _) ?_;intro a1 Ax u1 A P;rw [Nat.zero_add,List.nil_append] at A;have T:=Hy ((below_drewN (bf w.heap.size w) 1).grown P (nl _) (fun k B=>by cases B));have M:=T.size;have cu:=(T.cell (p:=⟨q,0,none⟩) Z).trans c0;have X2:=Hy (show Src prog 2 207 (.slice (some ⟨b,o+(i+1) * 2,none⟩) (n - (i+1)) (c - (i+1))) ((n - (i+1))) ((L.drop (i+1)).flatMap refCells) u1 from Src.ofRdE (enc:=refCells) (size:=2) underlying207 Qj Qv (d.below T.o rfl))) | (refine sa xd underlying207 A X2.o A3 A4 M ?_;intro f J z C E;have B2:=Hy (T.grown E M (Xa A));have D:=a.below B2.o Z;have g:=D.cell 0;have Az:=D.frozen 0;rw [show ([.slice (some ⟨b,o,none⟩) n c,G]:List Value)[0]?=some (.slice (some ⟨b,o,none⟩) n c) from rfl] at g;have H:=Hy D;have I:=Hy C;clear D C E))
    all_goals clear w1 w2 w3 w4
    all_goals go_wp2_with fail
    all_goals go_ret
    all_goals
     have s:=Ad.o;subst s;have Q:(L.take i++L.drop (i+1)).length=i+(n - (i+1)):=by have:=HN.o;simp;omega
     have F:Frm (fun k=>k=q) z (z.setCell ⟨q,0,none⟩ (.slice f (i+(n - (i+1)):Nat) J)):=(Frm.refl _ _).setCell _ _ (.inl rfl);have W:Frm (fun k=>k=q) w (z.setCell ⟨q,0,none⟩ (.slice f (i+(n - (i+1)):Nat) J)):=(Frm.below B2.o).trans F (fun i h _=>h);refine ⟨rfl,⟨f,J,?_,?_,Aj,N.trans (W.toBelow N.size (fun i hi h=>by omega))⟩,W,?_⟩
     ·rw [Q];exact H.set 0 _
     ·rw [Q,List.flatMap_append]
      refine zi (za I.o F (fun k B e=>?_)) N.size;have:=Xa I.o k B;omega
     ·exact RowN.new (by rw [(H.set 0 _).cell];rfl) (fun k B=>by have:=Xa I.o k B;have:=H.lt;omega)
   have At:Hid (∀ j y,j < i+1->L[j]?=some y->y.2≠id):=by
    intro j y hj hy;rcases (by omega:j < i∨j=i) with h | h
    ·exact HT.o j y h hy
    ·subst h
     rw [HX.o] at hy;cases hy;exact K
   have d1:(x.2 == id)=false:=by rw [beq_eq_false_iff_ne];exact K
   clear K HT;go_wp2_with fail;go_round
   case rel=>exact ⟨i+1,by omega,by go_num,At.o⟩
   case measure=>simp [intOf];omega
  have A7:i=n:=by omega
  subst A7;have W:=Qaa (L:=L) (id:=id) (fun j y hj hy=>HT.o j y (by rw [<- HN.o];exact hj) hy);have u:R=false:=by rw [<- V.o];exact W
  have Y:L'=L:=by rw [<- U.o];exact Zo W
  subst u;subst Y;clear U V W t HT;go_wp2_with fail;go_ret;exact ⟨rfl,As.o,Frm.refl _ _,RowN.refl _ _⟩
theorem YaP (w0:World) (q:Nat) (id:Int) (w:World) (A:Int) (L:List One) (h:RT w0 w q A L) (hL:L.length<=24):
  Calls prog 156 #[.pointer (some ⟨q,0,none⟩),id] w fun e w'=>e=.returned (.bool (hasL id L))/\RT w0 w' q A (cancelL id L)/\Frm (fun k=>k=q) w w':=
 (zX w0 q id w A L h hL).mono fun e w' h=>⟨h.1,h.2.1,h.2.2.1⟩
def SeR (B:Nat) (w4:World) (n:Nat) (K:List One) (x:One) (R:List One) (v10 v11 v12:Value) (wr:World):Prop:=∃ (i k c2:Nat) (ao2:Option Addr) (acc:List One) (is:Bool),i<=n/\k<=i+is.toNat/\v12=.int .i64 i/\v11=.bool is/\v10=.slice ao2 k c2/\Hid (acc.length=k)/\Hid (wr.ownsRow B 278 2 (.slice ao2 k c2) k (acc.flatMap refCells))/\Hid (acc++(if is=true then K.drop i else insL x (K.drop i))=R)/\Hid (Below B w4 wr)
theorem ZaA {K:List One} {i:Nat} {x y:One} (h:K[i]?=some y):insL x (K.drop i)=if ltO x y=true then x :: y :: K.drop (i+1) else y :: insL x (K.drop (i+1)):=by
 obtain ⟨A,e⟩:=lg h;rw [List.drop_eq_getElem_cons A,e];rfl
theorem zaL {K:List One} {i:Nat} {y:One} (h:K[i]?=some y):K.drop i=y :: K.drop (i+1):=by
 obtain ⟨A,e⟩:=lg h;rw [List.drop_eq_getElem_cons A,e]
theorem yX (w0:World) (q:Nat) (id A:Int) (w:World) (N:Int) (L:List One) (h:RT w0 w q N L) (hL:L.length<=24) (h1:0<=id) (h2:0<=A) (h3:A<=1099511627776) (bv:Bool) (hx:hasL id L=bv) (hm:bv=false->(L.length:Int) < N):
  Calls prog 150 #[.pointer (some ⟨q,0,none⟩),id,A] w fun e w'=>e=.returned (.int .i64 0)/\RT w0 w' q N (insL (A,id) (cancelL id L))/\Frm (fun k=>k=q) w w'/\RowN w w' q:=by
 obtain ⟨i0,hi,Bf,Bg,Bh⟩:=info_parts xd;clear hi Bf Bg Bh;have At:=Hy h;have j:Hid (Below w0.heap.size w0 w):=by obtain ⟨_,_,_,_,_,V⟩:=h;exact V
 have AK:w0.heap.size<=q:=by obtain ⟨_,_,_,_,hq,_⟩:=h;exact hq
 have a1:(atL id L).2=bv:=by
  rw [<- hx];unfold hasL atL;cases hf:L.find? (fun y=>decide (y.2=id)) with
  | none=>symm;rw [List.any_eq_false];exact List.find?_eq_none.1 hf
  | some y=>symm;rw [List.any_eq_true];exact ⟨y,List.mem_of_find?_eq_some hf,by simpa using List.find?_some hf⟩
 obtain ⟨ao,c,c0,c1,_,_,_⟩:=h.cell;clear h hx;have hA:∃ a,atL id L=(a,bv):=⟨(atL id L).1,by rw [<- a1]⟩;obtain ⟨av,AJ⟩:=hA;have AC:=Hy AJ;clear AJ a1;have A5:=Ya7 w0 q id w N L At.o hL;rw [AC.o] at A5;have AD:=Hy A5;clear A5;go_in;go_wp2_with fail;refine AD.mono ?_;rintro e w' ⟨rfl,rfl⟩;have ⟨n0,A7⟩:=gn L.length;rw [A7] at c0 hm;have Bv:=Hy A7;clear A7 AD AC;cases bv
 focus
  have B2:=hm rfl;clear hm
 rotate_left
 focus
  clear hm
 all_goals
  go_wp2_with fail;go_quiet (fail);have HT:=Hy (At.below (below_drewN (bf w.heap.size w) nq));have Ar:Hid (Frm (fun k=>k=q) w (w.drewN nq)):=Frm.below (below_drewN (bf _ _) _);clear c0 c1 At;generalize w.drewN nq=wA at HT Ar ⊢;go_wp2_with fail;refine (YaP w0 q id _ N L HT.o hL).mono ?_;rintro e l ⟨rfl,AI,AG⟩;have Au:=Hy AI;have AE:=Hy (Ar.trans AG (fun i h _=>h));clear AI AG HT Ar;have AH:(cancelL id L).length<=24:=nr ((List.eraseP_sublist ..).length_le) hL;generalize hK:cancelL id L=K at Au AH;have HK:=Hy hK
  clear hK;generalize hasL id L=hs;go_wp2_with fail;have A0:Below l.heap.size l (l.alloc (.cells #[id,A] 278)):=(bf _ _).alloc (nl _) _;have Av:=Hy (Au.below A0);have Z:=Hy (AE.trans (Frm.below (S:=fun k=>k=q) A0) (fun i h _=>h));have Aj:(l.alloc (.cells #[id,A] 278)).cell? ⟨l.heap.size,0,none⟩=some (.int .i64 id):=by rw [cell_of_row _ _ _ _ _ _ (heap_alloc_new l _)];rfl
  have Ak:(l.alloc (.cells #[id,A] 278)).cell? ⟨l.heap.size,1,none⟩=some (.int .i64 A):=by rw [cell_of_row _ _ _ _ _ _ (heap_alloc_new l _)];rfl
  have Ab:l.heap.size < (l.alloc (.cells #[id,A] 278)).heap.size:=by simp
  clear A0 Au AE;generalize l.alloc (.cells #[id,A] 278)=w4 at Av Z Aj Ak Ab ⊢;generalize l.heap.size=xb at Aj Ak Ab ⊢;have AT:=Hy Aj;have AU:=Hy Ak;clear Aj Ak;obtain ⟨ao,c,c0,c1,fz,hr,hq⟩:=Av.cell;have ⟨n,hn⟩:=gn K.length;rw [hn] at c0 hr AH;have HR:=Hy hr;have Ae:=Hy c0;have HN:=Hy hn;clear c0 c1 fz hr hn;have ⟨B,hB⟩:=gn w4.heap.size;rw [hB] at hq Ab;have Q:=Hy hB;clear hB;go_loopw [10,11,12] (fun Bj Bk Bl wr=>SeR B w4 n K (A,id) (insL (A,id) K) Bj Bk Bl wr) (fun _ _ v _=>n - (intOf v).toNat)
  case atStart=>exact ⟨0,0,0,none,[],false,nz _,nz _,rfl,rfl,rfl,rfl,World.ownsRow_nil _ _ _ _,(by unfold Hid;simp),bf _ _⟩
  case round=>
   obtain ⟨i,k,c2,Aw,R,is,hi,J,rfl,rfl,rfl,HL,d,HA,HB⟩:=hrel;have hz:B<=wr.heap.size:=by have:=HB.size;rw [Q.o] at this;exact this
   have J:k<=i+1:=nr J (by cases is <;> simp);have c0:=(HB.cell (p:=⟨q,0,none⟩) hq).trans Ae.o;have y0:=(HB.cell (p:=⟨xb,0,none⟩) Ab).trans AT.o;have y1:=(HB.cell (p:=⟨xb,1,none⟩) Ab).trans AU.o
   by_cases Ai:i < n
   ·have hx:K[i]?=some (K[i]'(by rw [HN.o];exact Ai)):=le_ _
    have ⟨y,AL⟩:=gn (K[i]'(by rw [HN.o];exact Ai));rw [AL] at hx;obtain ⟨b,o,rfl,z0,z1⟩:=(HR.below HB.o (by rw [Q.o])).at_ hx;have HX:=Hy hx;clear AL hx;have k1:(0:Int)<=(i:Int):=by omega
    have k2:(i:Int) < (n:Int):=by omega
    have A1:k+1<=maxLen:=by unfold maxLen;omega
    have A2:(k+1) * 16<=140737488355328:=by omega
    have A3:k+1+1<=maxLen:=by unfold maxLen;omega
    have A4:(k+1+1) * 16<=140737488355328:=by omega
    have Ac:∀ u v:Value,B<=(wr.alloc (.cells #[u,v] 278)).heap.size:=fun u v=>by simp;omega
    have G:=Hy Ac;clear Ac;have U:Hid (∀ w:World,Src prog 2 207 (.slice (some ⟨w.heap.size,0,none⟩) 1 1) 1 [y.2,y.1] (w.alloc (.cells #[y.2,y.1] 278))):=fun w=>Src.two underlying207 w _ _ _ rfl rfl;have g:Hid (∀ w:World,Src prog 2 207 (.slice (some ⟨w.heap.size,0,none⟩) 1 1) 1 [id,A] (w.alloc (.cells #[id,A] 278))):=fun w=>Src.two underlying207 w _ _ _ rfl rfl;cases is with
    | true=>
     have Bc:k<=i+1:=J
     have H:Hid ((R++[y])++(if true=true then K.drop (i+1) else insL (A,id) (K.drop (i+1)))=insL (A,id) K):=by
      have:=HA.o;rw [if_pos rfl,zaL HX.o] at this;unfold Hid;rw [if_pos rfl,<- this];simp
     clear HA;go_wp2_with (at_builtin;refine wa xd underlying207 (d.alloc _) (U.o wr) A1 A2 (G.o _ _) ?_;intro I c3 P C D;have F:=Hy C;have E:=Hy (show Below B w4 P from (HB.alloc hz _).grown D (G.o _ _) (fun b V=>(d.lt b V).1));clear C D);go_roundw
     case rel=>exact ⟨i+1,k+1,c3,I,R++[y],true,by omega,(by omega:k+1<=i+1+1),by go_num,rfl,rfl,(by unfold Hid;rw [List.length_append,HL.o];rfl),(by unfold Hid;rw [List.flatMap_append];exact F.o),H.o,E.o⟩
     case measure=>simp [intOf];omega
    | false=>
     have Bc:k<=i:=J;have f:=HA.o;rw [if_neg (by exact Bool.false_ne_true),ZaA HX.o] at f;cases hl:ltO (A,id) y with
     | false=>
      rw [hl,if_neg (by exact Bool.false_ne_true)] at f
      have H:Hid ((R++[y])++(if false=true then K.drop (i+1) else insL (A,id) (K.drop (i+1)))=insL (A,id) K):=by
       unfold Hid;rw [if_neg (by exact Bool.false_ne_true),<- f];simp
      have Aa:¬ (A < y.1∨(A=y.1/\id < y.2)):=by unfold ltO at hl;simpa using hl
      clear HA f hl;have d1:decide (A < y.1)=false:=by simp;omega
      by_cases he:y.1=A
      ·have d2:(y.1 == A)=true:=by rw [beq_iff_eq];exact he
       have d3:decide (id < y.2)=false:=by simp;omega
       clear he Aa;go_wp2_with (at_builtin;refine wa xd underlying207 (d.alloc _) (U.o wr) A1 A2 (G.o _ _) ?_;intro I c3 P C D;have F:=Hy C;have E:=Hy (show Below B w4 P from (HB.alloc hz _).grown D (G.o _ _) (fun b V=>(d.lt b V).1));clear C D);go_roundw
       case rel=>exact ⟨i+1,k+1,c3,I,R++[y],false,by omega,(by omega:k+1<=i+1),by go_num,rfl,rfl,(by unfold Hid;rw [List.length_append,HL.o];rfl),(by unfold Hid;rw [List.flatMap_append];exact F.o),H.o,E.o⟩
       case measure=>simp [intOf];omega
      ·have d2:(y.1 == A)=false:=by rw [beq_eq_false_iff_ne];exact he
       clear he Aa;go_wp2_with (at_builtin;refine wa xd underlying207 (d.alloc _) (U.o wr) A1 A2 (G.o _ _) ?_;intro I c3 P C D;have F:=Hy C;have E:=Hy (show Below B w4 P from (HB.alloc hz _).grown D (G.o _ _) (fun b V=>(d.lt b V).1));clear C D);go_roundw
       case rel=>exact ⟨i+1,k+1,c3,I,R++[y],false,by omega,(by omega:k+1<=i+1),by go_num,rfl,rfl,(by unfold Hid;rw [List.length_append,HL.o];rfl),(by unfold Hid;rw [List.flatMap_append];exact F.o),H.o,E.o⟩
       case measure=>simp [intOf];omega
     | true=>
      rw [hl,if_pos rfl] at f
      have H:Hid (((R++[(A,id)])++[y])++(if true=true then K.drop (i+1) else insL (A,id) (K.drop (i+1)))=insL (A,id) K):=by
       unfold Hid;rw [if_pos rfl,<- f];simp
      have Aa:A < y.1∨(A=y.1/\id < y.2):=by unfold ltO at hl;simpa using hl
      clear HA f hl
      by_cases he:A < y.1
      ·have d1:decide (A < y.1)=true:=by simpa using he
       clear he Aa;go_wp2_with (first | (at_builtin;refine wa xd underlying207 (d.alloc _) (g.o wr) A1 A2 (G.o _ _) ?_;intro I c3 P C D;have F:=Hy C;have E:=Hy (show Below B w4 P from (HB.alloc hz _).grown D (G.o _ _) (fun b V=>(d.lt b V).1));have A9:B<=P.heap.size:=nr (G.o (.int .i64 id) (.int .i64 A)) D.size;have Y:∀ u v:Value,B<=(P.alloc (.cells #[u,v] 278)).heap.size:=(fun u v=>by simp;omega);have T:=Hy Y;have Az:=(E.cell (p:=⟨q,0,none⟩) hq).trans Ae.o;obtain ⟨b',o',e1,Bn,Bo⟩:=(HR.below E.o (by rw [Q.o])).at_ HX.o;simp only [Option.some.injEq,Addr.mk.injEq,and_true] at e1;obtain ⟨rfl,rfl⟩:=e1;clear C D Y) | (at_builtin;refine wa xd underlying207 (F.alloc _) (U.o P) A3 A4 (T.o _ _) ?_;intro Ax c4 w6 M s;have As:=Hy M;have Aq:=Hy (show Below B w4 w6 from (E.alloc A9 _).grown s (T.o _ _) (fun b V=>(F.lt b V).1));clear M s))
       go_roundw
       case rel=>exact ⟨i+1,k+1+1,c4,Ax,R++[(A,id)]++[y],true,by omega,(by omega:k+1+1<=i+1+1),by go_num,rfl,rfl,(by unfold Hid;rw [List.length_append,List.length_append,HL.o];rfl),(by unfold Hid;rw [List.flatMap_append,List.flatMap_append];exact As.o),H.o,Aq.o⟩
       case measure=>simp [intOf];omega
      ·have d1:decide (A < y.1)=false:=by simpa using he
       have d2:(y.1 == A)=true:=by rw [beq_iff_eq];omega
       have d3:decide (id < y.2)=true:=by simp;omega
       clear he Aa;go_wp2_with (first | (at_builtin;refine wa xd underlying207 (d.alloc _) (g.o wr) A1 A2 (G.o _ _) ?_;intro I c3 P C D;have F:=Hy C;have E:=Hy (show Below B w4 P from (HB.alloc hz _).grown D (G.o _ _) (fun b V=>(d.lt b V).1));have A9:B<=P.heap.size:=nr (G.o (.int .i64 id) (.int .i64 A)) D.size;have Y:∀ u v:Value,B<=(P.alloc (.cells #[u,v] 278)).heap.size:=(fun u v=>by simp;omega);have T:=Hy Y;have Az:=(E.cell (p:=⟨q,0,none⟩) hq).trans Ae.o;obtain ⟨b',o',e1,Bn,Bo⟩:=(HR.below E.o (by rw [Q.o])).at_ HX.o;simp only [Option.some.injEq,Addr.mk.injEq,and_true] at e1;obtain ⟨rfl,rfl⟩:=e1;clear C D Y) | (at_builtin;refine wa xd underlying207 (F.alloc _) (U.o P) A3 A4 (T.o _ _) ?_;intro Ax c4 w6 M s;have As:=Hy M;have Aq:=Hy (show Below B w4 w6 from (E.alloc A9 _).grown s (T.o _ _) (fun b V=>(F.lt b V).1));clear M s))
       go_roundw
       case rel=>exact ⟨i+1,k+1+1,c4,Ax,R++[(A,id)]++[y],true,by omega,(by omega:k+1+1<=i+1+1),by go_num,rfl,rfl,(by unfold Hid;rw [List.length_append,List.length_append,HL.o];rfl),(by unfold Hid;rw [List.flatMap_append,List.flatMap_append];exact As.o),H.o,Aq.o⟩
       case measure=>simp [intOf];omega
   ·have Bb:i=n:=by omega
    subst Bb
    have r:=(show Blk w4 q 209 [.slice ao i c,N] from by
     obtain ⟨Bw,c',h1,h2,_⟩:=Av.o;have:=h1.cell 0;rw [Ae.o] at this;simp only [List.getElem?_cons_zero,Option.some.injEq,Value.slice.injEq] at this;obtain ⟨rfl,e2,rfl⟩:=this;rw [e2];exact h1)
    have B3:q < w4.heap.size:=r.lt;cases is with
    | true=>
     have f:=HA.o;rw [if_pos rfl,List.drop_eq_nil_of_le (by rw [HN.o];exact Nat.le_refl _),List.append_nil] at f;have H:=Hy f;clear HA f Ai;have cq:=r.below HB.o hq;have AZ:=cq.frozen 0;have m:=Hy cq;clear cq r;go_wp2_with fail;go_ret;have t:(insL (A,id) K).length=k:=by rw [<- H.o];first | exact HL.o | (rw [List.length_append,HL.o];rfl)
     have W:Frm (fun z=>z=q) wr (wr.setCell ⟨q,0,none⟩ (.slice Aw (k:Nat) c2)):=(Frm.refl _ _).setCell _ _ (.inl rfl);have A6:Frm (fun z=>z=q) w4 wr:=Frm.below (by rw [Q.o];exact HB.o);have hf:Frm (fun z=>z=q) w (wr.setCell ⟨q,0,none⟩ (.slice Aw (k:Nat) c2)):=(Z.trans A6 (fun i h _=>h)).trans W (fun i h _=>h);refine ⟨rfl,⟨Aw,c2,?_,?_,AK,j.trans (hf.toBelow j.size (fun i hi h=>by omega))⟩,hf,?_⟩
     ·rw [HK.o,t];exact m.set 0 _
     ·rw [HK.o,t,<- H.o]
      refine zi (za d.o W (fun kk J e=>?_)) (by have:=Z.size;have:=j.size;have:=Q.o;omega);have:=Xa d.o kk J;omega
     ·exact RowN.new (by rw [(m.set 0 _).cell];rfl) (fun kk J=>by have:=Xa d.o kk J;have:=Z.size;have:=Q.o;omega)
    | false=>
     have f:=HA.o;rw [if_neg (by exact Bool.false_ne_true),List.drop_eq_nil_of_le (by rw [HN.o];exact Nat.le_refl _)] at f;have H:=Hy (show R++[(A,id)]=insL (A,id) K from f);clear HA f Ai;have A1:k+1<=maxLen:=by unfold maxLen;omega
     have A2:(k+1) * 16<=140737488355328:=by omega
     have Ac:B<=(wr.alloc (.cells #[id,A] 278)).heap.size:=by simp;omega
     have G:=Hy Ac;clear Ac;have AQ:=Hy r;clear r;have g:Hid (∀ w:World,Src prog 2 207 (.slice (some ⟨w.heap.size,0,none⟩) 1 1) 1 [id,A] (w.alloc (.cells #[id,A] 278))):=fun w=>Src.two underlying207 w _ _ _ rfl rfl;go_wp2_with (at_builtin;refine wa xd underlying207 (d.alloc _) (g.o wr) A1 A2 G.o ?_;intro I c3 P C D;have F:=Hy (by rw [List.flatMap_append];exact C:P.ownsRow B 278 2 (.slice I (k+1) c3) (k+1) ((R++[(A,id)]).flatMap refCells));have E:=Hy (show Below B w4 P from (HB.alloc hz _).grown D G.o (fun b V=>(d.lt b V).1));have cq:=AQ.below E.o hq;have Az:=cq.cell 0;have AZ:=cq.frozen 0;rw [show ([.slice ao i c,N]:List Value)[0]?=some (.slice ao i c) from rfl] at Az;have m:=Hy cq;clear cq C D)
     go_ret;have t:(insL (A,id) K).length=k+1:=by rw [<- H.o];first | exact HL.o | (rw [List.length_append,HL.o];rfl)
     have W:Frm (fun z=>z=q) P (P.setCell ⟨q,0,none⟩ (.slice I (k+1:Nat) c3)):=(Frm.refl _ _).setCell _ _ (.inl rfl);have A6:Frm (fun z=>z=q) w4 P:=Frm.below (by rw [Q.o];exact E.o);have hf:Frm (fun z=>z=q) w (P.setCell ⟨q,0,none⟩ (.slice I (k+1:Nat) c3)):=(Z.trans A6 (fun i h _=>h)).trans W (fun i h _=>h);refine ⟨rfl,⟨I,c3,?_,?_,AK,j.trans (hf.toBelow j.size (fun i hi h=>by omega))⟩,hf,?_⟩
     ·rw [HK.o,t];exact m.set 0 _
     ·rw [HK.o,t,<- H.o]
      refine zi (za F.o W (fun kk J e=>?_)) (by have:=Z.size;have:=j.size;have:=Q.o;omega);have:=Xa F.o kk J;omega
     ·exact RowN.new (by rw [(m.set 0 _).cell];rfl) (fun kk J=>by have:=Xa F.o kk J;have:=Z.size;have:=Q.o;omega)
theorem xan (w0:World) (q:Nat) (id B:Int) (w:World) (A:Int) (L:List One) (h:RT w0 w q A L) (hL:L.length<=24) (h1:0<=id) (h2:0<=B) (h3:B<=1099511627776) (hx:hasL id L=false) (hm:A<=(L.length:Int)):
  Calls prog 150 #[.pointer (some ⟨q,0,none⟩),id,B] w fun e w'=>e=.returned (.int .i64 3)/\Below w.heap.size w w':=by
 have F:=Hy h
 have G:atL id L=(0,false):=by
  unfold hasL at hx;unfold atL;cases H:L.find? (fun y=>decide (y.2=id)) with
  | none=>rfl
  | some y=>
   exfalso;rw [List.any_eq_false] at hx;exact hx y (List.mem_of_find?_eq_some H) (by simpa using List.find?_some H)
 obtain ⟨K,c,J,M,_,_,_⟩:=h.cell;clear h hx;have C:=Ya7 w0 q id w A L F.o hL;rw [G] at C;have E:=Hy C;clear C G;go_in;go_wp2_with fail;refine E.mono ?_;rintro e w' ⟨rfl,rfl⟩;have ⟨N,D⟩:=gn L.length;rw [D] at J hm;have I:=Hy D;clear D E;go_wp2_with fail;go_quiet (fail);go_wp2_with fail;go_ret;exact ⟨rfl,below_drewN (bf _ _) _⟩
theorem YaD (q:Nat) (id A:Int) (w:World) (hx:id < 0∨A < 0∨1099511627776 < A):
  Calls prog 150 #[.pointer (some ⟨q,0,none⟩),id,A] w fun e w'=>e=.returned (.int .i64 2)/\w=w':=by
 by_cases h1:id < 0
 ·clear hx
  go_in;go_wp2_with fail;go_ret;exact ⟨rfl,rfl⟩
 have B:0<=id:=by omega
 by_cases D:A < 0
 ·clear hx
  go_in;go_wp2_with fail;go_ret;exact ⟨rfl,rfl⟩
 have E:1099511627776 < A:=by omega
 have C:0<=A:=by omega
 clear hx;go_in;go_wp2_with fail;go_ret;exact ⟨rfl,rfl⟩
theorem Ya8 (w0:World) (q:Nat) (id B:Int) (w:World) (A:Int) (L:List One) (h:RT w0 w q A L) (hL:L.length<=24) (hm:(L.length:Int)<=A):
  Calls prog 150 #[.pointer (some ⟨q,0,none⟩),id,B] w fun e w'=>e=.returned (.int .i64 (setL A L id B).1)/\RT w0 w' q A (setL A L id B).2/\Frm (fun k=>k=q) w w'/\RowN w w' q:=by
 unfold setL
 by_cases E:id < 0∨B < 0∨1099511627776 < B
 ·rw [if_pos E]
  refine (YaD q id B w E).mono ?_;rintro e w' ⟨rfl,rfl⟩;exact ⟨rfl,h,Frm.refl _ _,RowN.refl _ _⟩
 rw [if_neg E]
 cases C:hasL id L with
 | true=>
  rw [if_pos rfl];exact yX w0 q id B w A L h hL (by omega) (by omega) (by omega) true C (by simp)
 | false=>
  rw [if_neg (by exact Bool.false_ne_true)]
  by_cases F:(L.length:Int)=A
  ·rw [if_pos F]
   refine (xan w0 q id B w A L h hL (by omega) (by omega) (by omega) C (by omega)).mono ?_;rintro e w' ⟨rfl,D⟩;exact ⟨rfl,h.below D,Frm.below D,RowN.below D (by obtain ⟨_,_,_,_,_,_,G⟩:=h.cell;exact G)⟩
  ·rw [if_neg F]
   have:=yX w0 q id B w A L h hL (by omega) (by omega) (by omega) false C (fun _=>by omega);rw [Zo C] at this;exact this
end Go.Proofs.YtinkbgeckjbnbaaGreat
