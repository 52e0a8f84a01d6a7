/- Parts. -/
import Derived.Test.YtdkhlkfleggbaaaGreatQ33
namespace Go.Proofs.YtdkhlkfleggbaaaGreat
set_option maxHeartbeats 2000000
set_option maxRecDepth 8000
open Lib (hid)
open Tryz
set_option linter.unusedVariables false
open Go.RowKit
theorem a4k {t:ByteArray} {m:NmD} (h1:m.s.ids.length≤1000000) (h2:m.u.L.length≤1000000):(aat t m).s.ids.length≤1000000 ∧(aat t m).u.L.length≤1000000:=by
 have e1:ye.ids.length≤1000000:=by decide
 have e2:vt.L.length≤1000000:=by decide
 unfold aat
 split
 ·exact⟨e1,e2⟩
 split
 ·exact⟨e1,e2⟩
 split
 ·exact⟨h1,e2⟩
 split
 ·exact⟨e1,e2⟩
 split
 ·exact⟨e1,h2⟩
 ·exact⟨e1,e2⟩
theorem a52 (t y:ByteArray) (fs:List ByteArray):(aei t y fs).1.s.ids.length≤1000000 ∧(aei t y fs).1.u.L.length≤1000000:=by
 unfold aei
 split
 ·exact a4k (aqb y fs).1 (aqb y fs).2
 ·exact⟨Nat.zero_le _,Nat.zero_le _⟩
theorem a8s (t:ByteArray):(ym t).1.s.ids.length≤1000000 ∧(ym t).1.u.L.length≤1000000:=by
 unfold ym
 split
 ·exact a52 _ _ _
 ·exact⟨Nat.zero_le _,Nat.zero_le _⟩
theorem a3j (u:aen):ayt u u=true:=by simp[ayt]
theorem a3i (u:ag1):bc4 u u=true:=by simp[bc4]
def amk (x:ItD):Prop:=x.N.s.ids.length≤1000000∧x.N.u.L.length≤1000000
theorem afh:amk ael:=⟨Nat.zero_le _,Nat.zero_le _⟩
theorem bfy (l:List UInt8):amk (zm l).x:=by
 have hd:∀p,amk (ad1 p l).1:=fun p=>by
  unfold ad1
  split
  ·exact afh
  split
  ·exact a8s _
  ·exact afh
 cases l with
 | nil=>exact afh
 | cons x l=>
  rw[vw]
  split
  ·exact afh
  ·unfold agw
   split
   ·split
    ·exact hd _
    ·exact afh
   ·split<;>exact afh
theorem bk3 {Q R:Nat→Prop} {w:World} {L M:List Value} {x:ItD} (h:ItM Q w L x) (h':ItM R w M x) (hq:∀b,Q b→b<w.1.size) (hr:∀b,R b→b<w.1.size) (hi:amk x) :
 Calls prog 14 #[.agg L.toArray,.agg M.toArray] w fun e w'=>e=.returned (.bool true)∧Below w.1.size w w':=by
 obtain⟨U,N,T,rfl,h1,h2,h3⟩:=h;obtain⟨U',N',T',rfl,k1,k2,k3⟩:=h';have hu:=h1.toV hq;have hu':=k1.toV hr;have hn:=h2.toV hq;have hn':=k2.toV hr;have ht:=h3.toV hq;have ht':=k3.toV hr
 have:=a45 (w:=w) (pr:=x.pr) (prq:=x.pr) (od:=x.od) (odq:=x.od) (b0:=true) (b1:=true) (b2:=true) (b3:=true) (b4:=true) (hid h1.len) (hid k1.len) (hid h2.len) (hid k2.len) (hid h3.len) (hid k3.len) (hid sm) (hid sm)
  (hid fun W hb=>by have:=a0b (hu.on hb) (hu'.on hb);rwa [a3j]at this)
  (hid fun W hb=>a0c (hn.on hb) (hn'.on hb) hi.1 hi.2)
  (hid fun W hb=>by have:=a0d (ht.on hb) (ht'.on hb);rwa [a3i]at this)
 exact this
def axt (w:World) (A:Option Addr) (X:List ItD):Prop:=∃Ls,qf (fun b=>b<w.1.size) w A Ls.flatten∧ab4 (fun b=>b<w.1.size) w Ls X
theorem xz.rowQ {B:Nat} {v:Value} {X:List ItD} {w:World} (h:xz B v X w):∃A c,v=.slice A X.length c∧X.length≤c∧axt w A X:=by
 obtain⟨Ls,h1,h2⟩:=h;obtain⟨A,c,e,hc,hf,-⟩:=zj h1;exact⟨A,c,e,hc,Ls,hf.less fun b q=>q.2,h2.less fun b q=>q.2.1⟩
theorem axt.on {w w':World} {A:Option Addr} {X:List ItD} (h:axt w A X) (hb:Below w.1.size w w'):axt w' A X:=by
 obtain⟨Ls,h1,h2⟩:=h;exact⟨Ls,(h1.below hb fun b q=>q).less fun b q=>Nat.lt_of_lt_of_le q hb.size,(h2.keep fun b q=>hb.block b q).less fun b q=>Nat.lt_of_lt_of_le q hb.size⟩
theorem axt.at_ {w:World} {A:Option Addr} {X:List ItD} (h:axt w A X) (k:Nat) (hk:k<X.length):∃b off L,A=some ⟨b,off,none⟩∧b<w.1.size∧w.rangeAt b (off+k*120) L∧ItM (fun b=>b<w.1.size) w L X[k]:=by
 obtain⟨Ls,h1,h2⟩:=h;obtain⟨P,L,D,e1,e2,hit⟩:=h2.at_ k hk;have hl:=hit.len
 have hg:∀j u,L[j]?=some u→Ls.flatten[k*120+j]?=some u:=fun j u hu=>by
  have hj:j<L.length:=(List.getElem?_eq_some_iff.1 hu).1;rw[e1,← e2,List.append_assoc,List.getElem?_append_right om,show P.length+j-P.length=j by omega,List.getElem?_append_left hj];exact hu
 obtain⟨u0,hu0⟩:∃u,L[0]?=some u:=⟨_,List.getElem?_eq_getElem om⟩;obtain⟨b,off,rfl,hb,-⟩:=h1 _ _ (hg 0 u0 hu0);refine⟨b,off,L,rfl,hb,fun j u hu=>?_,hit⟩;obtain⟨b',off',e,-,hc⟩:=h1 _ _ (hg j u hu);injection e with e
 injection e with ea eo
 subst ea eo;rw[← Nat.add_assoc]at hc;exact hc
theorem a4a {w:World} {A B:Option Addr} {X:List ItD} (c d:Nat) (hA:axt w A X) (hB:axt w B X) (hi:∀x∈X,amk x) (hn:X.length≤20000000) :
 Calls prog 17 #[.slice A X.length c,.slice B X.length d] w fun e w'=>e=.returned (.bool true)∧Below w.1.size w w':=by
 have HA:=hid hA;have HB:=hid hB;have HI:=hid hi;have hnI:(X.length:Int)≤20000000:=by omega
 clear hA hB hi hn;generalize hL:X.length=n at *;have HL:=hid hL;clear hL;go_enter func17,ntmps17;go_wp2_with fail
 go_loopg [5] n (fun g s5 wr=>∃k:Nat,k≤n∧n-k≤g∧s5=.int .i64 k∧Hid (Below w.1.size w wr))
 case atStart=>exact⟨0,Nat.zero_le _,by omega,rfl,hid (Below.refl _ _)⟩
 case round=>
  obtain⟨k,hk,hg,rfl,HW⟩:=hrel
  by_cases hlt:k<n
  ·have hkl:k<X.length:=by rw[HL.out];exact hlt
   obtain⟨b1,o1,L,rfl,hb1,hr1,hm1⟩:=(HA.out.on HW.out).at_ k hkl;obtain⟨b2,o2,M,rfl,hb2,hr2,hm2⟩:=(HB.out.on HW.out).at_ k hkl;have HS:∀w',Below wr.1.size wr w'→Hid (Calls prog 14 #[.agg L.toArray,.agg M.toArray] w' fun e w''=>e=.returned (.bool true)∧Below w'.1.size w' w''):=fun w' q=>hid (bk3 ((hm1.keep fun b r=>q.block b r).less fun b r=>Nat.lt_of_lt_of_le r q.size) ((hm2.keep fun b r=>q.block b r).less fun b r=>Nat.lt_of_lt_of_le r q.size) (fun b r=>r) (fun b r=>r) (HI.out _ (List.getElem_mem hkl)))
   have HR1:=hid (And.intro hr1 (And.intro hb1 hm1.len));have HR2:=hid (And.intro hr2 (And.intro hb2 hm2.len));have i1:(k:Int)<(n:Int):=by omega
   have i2:(0:Int) ≤(k:Int):=Int.natCast_nonneg _;clear hr1 hb1 hm1 hr2 hb2 hm2;go_wp2_with fail;have hS0:Below wr.1.size wr wr.drew:=(Below.refl _ _).drew;refine wp_region_held_drew (S:=fun w'=>Below wr.1.size wr w') kr hS0 (fun hHeld0=>?_);refine tkA 0 17 rfl ?_
   try go_frame
   refine tkA 1 18 rfl ?_
   try go_frame
   refine tkA 2 19 rfl ?_
   try go_frame
   refine tkQ (i:=3) (oi:=⟨some 20,_,_,_,_,_⟩) (v:=_) rfl (yieldsIf_load_mid (by rfl) 64 _ rfl b1 (o1+k*120) rfl L _ (fun w' hSw=>zl HR1.out.1 hSw HR1.out.2.1) underlying64 rfl (by rw[HR1.out.2.2];kernel_rfl)) ?_
   try go_frame
   refine tkA 4 21 rfl ?_
   try go_frame
   refine tkA 5 22 rfl ?_
   try go_frame
   refine tkA 6 23 rfl ?_
   try go_frame
   refine tkQ (i:=7) (oi:=⟨some 24,_,_,_,_,_⟩) (v:=_) rfl (yieldsIf_load_mid (by rfl) 64 _ rfl b2 (o2+k*120) rfl M _ (fun w' hSw=>zl HR2.out.1 hSw HR2.out.2.1) underlying64 rfl (by rw[HR2.out.2.2];kernel_rfl)) ?_
   try go_frame
   refine rdB 8 25 rfl fun K hK=>?_
   go_step;refine(HS _ hHeld0).out.mono ?_;rintro e w5 ⟨rfl,hb⟩;have HB5:Hid (Below wr.1.size wr w5):=hid (hHeld0.trans (hb.mono hHeld0.size));clear hb
   try go_frame
   refine hK.out _ _ (HB5.out) (fun hHeld=>?_);clear hK K
   try go_frame
   refine tkA 9 26 rfl ?_
   try go_frame
   refine wpAnyH_done kr ?_ _
   try go_frame
   have HW5:Hid (Below w.1.size w w5):=hid (qb HW.out HB5.out);clear hHeld hHeld0 hS0 HS HR1 HR2 HB5;go_wp2_with fail
   go_roundg (n-(k+1))
   case measure=>omega
   case rel=>exact⟨k+1,by omega,by omega,by simp,HW5⟩
  ·obtain rfl:k=n:=by omega
   go_wp2_with fail;go_ret;exact⟨rfl,HW.out⟩
theorem bdl:prog.keyTypeAt 3 78=true:=by kernel_rfl
theorem a8j:prog.cellsOf 78=13:=by kernel_rfl
theorem bcu:prog.cellsOf 76=4:=by kernel_rfl
theorem bgj:prog.cellsOf 3=1:=by kernel_rfl
theorem bdn (x0 x1 x2 x3 x4 x5 x6 x7 x8 x9 xa xb xc:Int) (h0:(Lit.int .i64 x0).wf=true) (h1:(Lit.int .i64 x1).wf=true) (h2:(Lit.int .i64 x2).wf=true) (h3:(Lit.int .i64 x3).wf=true) (h4:(Lit.int .i64 x4).wf=true) (h5:(Lit.int .i64 x5).wf=true) (h6:(Lit.int .i64 x6).wf=true) (h7:(Lit.int .i64 x7).wf=true) (h8:(Lit.int .i64 x8).wf=true) (h9:(Lit.int .i64 x9).wf=true) (ha:(Lit.int .i64 xa).wf=true) (hb:(Lit.int .i64 xb).wf=true) (hc:(Lit.int .i64 xc).wf=true):KV 78 ([x0,x1,x2,x3,x4,x5,x6,x7,x8,x9,xa,xb,xc].map (Value.int .i64)) ([x0,x1,x2,x3,x4,x5,x6,x7,x8,x9,xa,xb,xc].map (Lit.int .i64)):=by
 have r4:List.range 4=[0,1,2,3]:=rfl;refine⟨4,?_⟩;simp[Program.keyLits,underlying78,underlying76,underlying3,a8j,bcu,bgj,r4,h0,h1,h2,h3,h4,h5,h6,h7,h8,h9,ha,hb,hc]
theorem bj6 {C:List Int} (h:C.length=13):∃x0 x1 x2 x3 x4 x5 x6 x7 x8 x9 xa xb xc,C=[x0,x1,x2,x3,x4,x5,x6,x7,x8,x9,xa,xb,xc]:=by
 match C,h with
 | [x0,x1,x2,x3,x4,x5,x6,x7,x8,x9,xa,xb,xc],_=>exact⟨x0,x1,x2,x3,x4,x5,x6,x7,x8,x9,xa,xb,xc,rfl⟩
theorem bj3 {C:List Int} (hl:C.length=13) (ho:yj C 20000000000):KV 78 (C.map (Value.int .i64)) (C.map (Lit.int .i64)):=by
 have hw:∀n∈C,(Lit.int .i64 n).wf=true:=fun n hn=>by
  obtain⟨k,hk,rfl⟩:=List.getElem_of_mem hn;have:=ho k;rw[List.getD_eq_getElem?_getD,List.getElem?_eq_getElem hk]at this;simp at this;exact aju om
 obtain⟨x0,x1,x2,x3,x4,x5,x6,x7,x8,x9,xa,xb,xc,rfl⟩:=bj6 hl;exact bdn x0 x1 x2 x3 x4 x5 x6 x7 x8 x9 xa xb xc (hw _ sm) (hw _ sm) (hw _ sm) (hw _ sm) (hw _ sm) (hw _ sm) (hw _ sm) (hw _ sm) (hw _ sm) (hw _ sm) (hw _ sm) (hw _ sm) (hw _ sm)
theorem bc6 {C:List Int} (hl:C.length=13) (ho:yj C 20000000000) (w:World):(binOp .eql 78 (.agg (vr C)) (.agg (vr C))).run prog w=.ok (.bool true) w:=by
 have h:=bj3 hl ho;have:=an2 (t:=78) underlying78 bdl dc h h w;rw[decide_eq_true rfl]at this;exact this
theorem bdd {C D:List Int} (h1:C.length=13) (h2:D.length=13) (h:∀k,k<13→C.getD k 0=D.getD k 0):C=D:=by
 apply List.ext_getElem om;intro k h3 h4;have:=h k om;rw[List.getD_eq_getElem?_getD,List.getD_eq_getElem?_getD,List.getElem?_eq_getElem h3,List.getElem?_eq_getElem h4]at this;exact this
theorem alg:∀(V:List VeD) (C:List Int),C.length=13 →(∀v∈V,axz v)→∀k,k<13 →(abb C V).getD k 0=C.getD k 0 +(abb z13 V).getD k 0
 | [],C,_,_,k,hk=>by
  show C.getD k 0=C.getD k 0+z13.getD k 0
  have:z13.getD k 0=0:=by
   rcases k with _|_|_|_|_|_|_|_|_|_|_|_|_|k<;>rfl
  omega
 | v::V,C,hC,hV,k,hk=>by
  have hv:=(hV v sm).1
  have hs:ayh v<13:=by
   unfold ayh
   split
   ·omega
   ·split<;>omega
  have e1:=alg V (acl C v) (by rw[apg];exact hC) (fun u hu=>hV u (by simp[hu])) k hk;have e2:=alg V (acl z13 v) (by rw[apg];rfl) (fun u hu=>hV u (by simp[hu])) k hk;have a1:(acl C v).getD k 0=C.getD k 0+if k=ayh v then 1 else 0:=abw om 1 k
  have a2:(acl z13 v).getD k 0=z13.getD k 0+if k=ayh v then 1 else 0:=abw (show ayh v<z13.length from hs) 1 k
  have z:z13.getD k 0=0:=by
   rcases k with _|_|_|_|_|_|_|_|_|_|_|_|_|k<;>rfl
  show (abb (acl C v) V).getD k 0=C.getD k 0 +(abb (acl z13 v) V).getD k 0;omega
theorem a7k {X Y:List Int} (hx:X.length=13) (k:Nat):∀i,i≤4 →(adm X Y i).getD k 0=X.getD k 0+if k=0∨1≤k∧k<1+i∨5≤k∧k<5+i∨9≤k∧k<9+i then Y.getD k 0 else 0
 | 0,_=>by
  show (q8 X 0 (Y.getD 0 0)).getD k 0=_;rw[abw om]
  by_cases h:k=0
  ·subst h;simp
  ·rw[if_neg h,if_neg om]
 | i+1,hi=>by
  have ih:=a7k (Y:=Y) hx k i om;have hl:=akz (Y:=Y) hx i
  have e:∀j,(if k=j then Y.getD j 0 else 0)=if k=j then Y.getD k 0 else 0:=fun j=>by
   by_cases h:k=j
   ·subst h;rfl
   ·rw[if_neg h,if_neg h]
  show (q8 (q8 (q8 (adm X Y i) (1+i) (Y.getD (1+i) 0)) (5+i) (Y.getD (5+i) 0)) (9+i) (Y.getD (9+i) 0)).getD k 0=_;rw[abw (by rw[yg,yg];omega),abw (by rw[yg];omega),abw om,ih,e,e,e];generalize Y.getD k 0=y
  repeat' split
  all_goals omega
theorem bfm {X Y:List Int} (hx:X.length=13):∀k,k<13 →(adm X Y 4).getD k 0=X.getD k 0+Y.getD k 0:=fun k hk=>by
 rw[a7k hx k 4 dc,if_pos om]
theorem jf (l:List UInt8):(aac l).length=13:=by
 unfold aac;rw[yg,alf];rfl
theorem a8l {a b:List UInt8} (ha:(q6 a).2=[]):adm (aac a) (aac b) 4=aac (a++b):=by
 have e:=bcx a b;rw[ha,List.nil_append]at e;refine bdd (akz (jf a) 4) (jf _) fun k hk=>?_
 rw[bfm (jf a) k hk,← e,alg _ _ (by rw[yg];exact jf a) (aql b) k hk];rw[abw (by rw[jf];decide)];show (aac a).getD k 0 +(q8 (abb z13 (q6 b).1) 0 b.length).getD k 0=_;rw[abw (by rw[alf];decide)];omega
theorem auo (l:List UInt8):yj (aac l) (l.length +(q6 l).1.length):=fun k=>by
 have h0:yj z13 0:=fun k=>by
  have:z13.getD k 0=0:=by
   rcases k with _|_|_|_|_|_|_|_|_|_|_|_|_|k<;>rfl
  omega
 have:=abq (a63 (q6 l).1 h0) 0 (n:=(l.length:Int)) (Int.natCast_nonneg _) k;refine⟨this.1,?_⟩;have h2:=this.2;show (q8 (abb z13 (q6 l).1) 0 (l.length:Int)).getD k 0≤_;omega
theorem be7 (l:List UInt8):∀x∈xw (q6 l).1,amk x:=fun x hx=>by
 unfold xw at hx;obtain⟨v,hv,rfl⟩:=List.mem_map.1 hx;exact a0v (P:=fun v=>amk v.x) (fun l _=>bfy l) l v (List.mem_filter.1 hv).1
theorem bfv:∃i z,prog.info? 5=some i∧i.zero=some z∧i.size=1∧i.bytes=1∧z.cells.size=1:=by
 have h:(prog.info? 5).map (fun i=>(i.zero,i.size,i.bytes))=some (some (.int .u8 0),1,1):=by kernel_rfl
 cases hi:prog.info? 5 with
 | none=>rw[hi]at h;cases h
 | some i=>
  rw[hi,Option.map_some,Option.some.injEq,Prod.mk.injEq,Prod.mk.injEq]at h;exact⟨i,_,rfl,h.1,h.2.1,h.2.2,rfl⟩
theorem bdj {w0 W:World} {X Y:List ItD} {AX AY:Option Addr} {cX cY:Nat} (hx:xz w0.1.size (.slice AX X.length cX) X W) (hy:xz w0.1.size (.slice AY Y.length cY) Y W) (hz:w0.1.size≤W.1.size) (hn:X.length+Y.length≤20000000) :
 ∃A1 c1 W2 A2 c2 W3,(Builtin.append_ #[75,75] 75 #[.slice (some ⟨W.1.size,0,none⟩) 0 0,.slice AX X.length cX]).run prog (W.alloc (.cells #[] 64))=.ok (.slice A1 X.length c1) W2 ∧
  (Builtin.append_ #[75,75] 75 #[.slice A1 X.length c1,.slice AY Y.length cY]).run prog W2=.ok (.slice A2 (X++Y).length c2) W3∧xz w0.1.size (.slice A2 (X++Y).length c2) (X++Y) W3∧Below W.1.size W W2∧Below W.1.size W W3:=by
 obtain⟨Lx,ox,qx⟩:=hx;obtain⟨Ly,oy,qy⟩:=hy;obtain⟨A',c',e1,-,fx,-⟩:=zj ox;injection e1 with e1 _ _
 subst e1;obtain⟨A',c',e1,-,fy,-⟩:=zj oy;injection e1 with e1 _ _
 subst e1;have hb:=qa W (.cells #[] 64);have hz1:(W.alloc (.cells #[] 64)).1.size=W.1.size+1:=by simp
 have h0:xz w0.1.size (.slice (some ⟨W.1.size,0,none⟩) 0 0) [] (W.alloc (.cells #[] 64)):=⟨[],alu (World.ownsRow_made W #[] 0 (Nat.le_refl _) dc rfl) hz,ab4.nil _ _⟩;have ex:∀k,Value.ownBlock (.slice (some ⟨W.1.size,0,none⟩) 0 0)=some k→k=W.1.size:=fun k q=>by simpa [Value.ownBlock]using q.symm
 have f1:qf (fun k=>k<W.1.size) (W.alloc (.cells #[] 64)) AX Lx.flatten:=(fx.keep fun k q=>hb.block k q.2).less fun k q=>q.2
 have q1:ab4 (fun k=>w0.1.size≤k∧k<(W.alloc (.cells #[] 64)).1.size∧some k≠Value.ownBlock (.slice (some ⟨W.1.size,0,none⟩) 0 0)) (W.alloc (.cells #[] 64)) Lx X:=(qx.keep fun k q=>hb.block k q.2.1).less fun k q=>⟨q.1,by omega,fun r=>by have:=ex k r.symm;omega⟩
 obtain⟨v1,W2,r1,i1,b1,x1,o1⟩:=h0.app om AX cX Lx f1 q1 (by simp;omega);obtain⟨A1,c1,rfl,-⟩:=i1.slice
 have ho1:∀k,Value.ownBlock (.slice A1 ([]++X).length c1)=some k→W.1.size≤k:=fun k q=>by
  rcases o1 with e|e
  ·rw[e]at q;have:=ex k q;omega
  ·rw[e]at q;injection q with q;omega
 have kx:∀k,k<W.1.size→W2.heap[k]?=W.heap[k]?:=fun k q=>(x1 k om (fun r=>by have:=ex k r.symm;omega)).trans (hb.block k q)
 have f2:qf (fun k=>k<W.1.size) W2 AY Ly.flatten:=(fy.keep fun k q=>kx k q.2).less fun k q=>q.2
 have q2:ab4 (fun k=>w0.1.size≤k∧k<W2.1.size∧some k≠Value.ownBlock (.slice A1 ([]++X).length c1)) W2 Ly Y:=(qy.keep fun k q=>kx k q.2.1).less fun k q=>⟨q.1,by have:=b1.size;omega,fun r=>by have:=ho1 k r.symm;omega⟩
 obtain⟨v2,W3,r2,i2,b2,x2,-⟩:=i1.app (by have:=b1.size;omega) AY cY Ly f2 q2 (by simp;omega);obtain⟨A2,c2,rfl,-⟩:=i2.slice;rw[List.nil_append]at r1 r2 i2 ho1;have m2:Below W.1.size W W2:=⟨b1.os.trans hb.os,b1.tape.trans hb.tape,b1.output.trans hb.output,Nat.le_trans hb.size b1.size,kx⟩;refine⟨A1,c1,W2,A2,c2,W3,r1,r2,i2,m2,m2.trans ⟨b2.os,b2.tape,b2.output,b2.size,fun k q=>x2 k (by have:=b1.size;omega) (fun r=>?_)⟩⟩;rw[List.nil_append]at r;have:=ho1 k r.symm;omega
theorem bcs {W:World} {a b:List UInt8} {A B:Option Addr} (c d:Nat) (ha:qf (fun k=>k<W.1.size) W A (bsV a)) (hb:qf (fun k=>k<W.1.size) W B (bsV b)) (hn:a.length+b.length≤1000000) :
 ∃A1 c1 W2 A2 c2 W3,(Builtin.append_ #[22,22] 22 #[.slice (some ⟨W.1.size,0,none⟩) 0 0,.slice A a.length c]).run prog (W.alloc (.cells #[] 5))=.ok (.slice A1 a.length c1) W2 ∧
  (Builtin.append_ #[22,22] 22 #[.slice A1 a.length c1,.slice B b.length d]).run prog W2=.ok (.slice A2 (a++b).length c2) W3 ∧(a++b).length≤c2∧qf (fun k=>k<W3.1.size) W3 A2 (bsV (a++b))∧Below W.1.size W W3:=by
 obtain⟨iu,zu,hu1,hu2,hu3,hu4,hu5⟩:=bfv;have h0:=qa W (.cells #[] 5);have hz1:(W.alloc (.cells #[] 5)).1.size=W.1.size+1:=by simp
 have ex:∀k,Value.ownBlock (.slice (some ⟨W.1.size,0,none⟩) 0 0)=some k→k=W.1.size:=fun k q=>by simpa [Value.ownBlock]using q.symm
 obtain⟨v1,W2,r1,o1,g1,w1⟩:=jl (P:=prog) (W.alloc (.cells #[] 5)) 22 22 5 iu zu 1 1 underlying22 hu1 hu2 hu3 hu4 hu5 dc W.1.size _ 0 [] (World.ownsRow_made W #[] 0 (Nat.le_refl _) dc rfl) A a.length c (bsV a) (by rw[adg];omega) ((ha.keep fun k q=>h0.block k q).less (R:=fun _=>True) fun _ _=>trivial) (anw _) (by unfold maxLen;omega) om om;obtain⟨A1,c1,rfl,-⟩:=zj o1;rw[Nat.zero_add]at r1 o1 w1;have kx:∀k,k<W.1.size→W2.heap[k]?=W.heap[k]?:=fun k q=>(g1.block k om (fun r=>by have:=ex k r.symm;omega)).trans (h0.block k q)
 obtain⟨v2,W3,r2,o2,g2,-⟩:=jl (P:=prog) W2 22 22 5 iu zu 1 1 underlying22 hu1 hu2 hu3 hu4 hu5 dc W.1.size _ a.length _ o1 B b.length d (bsV b) (by rw[adg];omega) ((hb.keep fun k q=>kx k q).less (R:=fun _=>True) fun _ _=>trivial) (anw _) (by unfold maxLen;omega) om (by have:=g1.size;omega);obtain⟨A2,c2,rfl,hc2,hf2,-⟩:=zj o2;rw[List.nil_append,← aj6]at hf2;have m2:Below W.1.size W W2:=⟨g1.os.trans h0.os,g1.tape.trans h0.tape,g1.output.trans h0.output,Nat.le_trans h0.size g1.size,kx⟩;rw[show a.length+b.length=(a++b).length from List.length_append.symm]at r2 hc2;exact⟨A1,c1,W2,A2,c2,W3,r1,r2,hc2,hf2.less fun k q=>q.2,m2.grown g2 m2.size (fun k hk=>(avm o1 hk).1)⟩
