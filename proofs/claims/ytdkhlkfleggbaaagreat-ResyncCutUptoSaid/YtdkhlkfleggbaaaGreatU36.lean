/- Parts. -/
import Derived.Test.YtdkhlkfleggbaaaGreatU35
namespace Go.Proofs.YtdkhlkfleggbaaaGreat
set_option maxHeartbeats 4000000
set_option maxRecDepth 8000
open Lib (hid)
open Tryz
set_option linter.unusedVariables false
open Go.RowKit
theorem a5a {t:ByteArray} {m:NmD} (h1:m.s.ids.length≤1000000) (h2:m.u.L.length≤1000000):(aau t m).s.ids.length≤1000000 ∧(aau t m).u.L.length≤1000000:=by
 have e1:yi.ids.length≤1000000:=by decide
 have e2:vr.L.length≤1000000:=by decide
 unfold aau
 split
 ·exact⟨e1,e2⟩
 split
 ·exact⟨e1,e2⟩
 split
 ·exact⟨h1,e2⟩
 split
 ·exact⟨e1,e2⟩
 split
 ·exact⟨e1,h2⟩
 ·exact⟨e1,e2⟩
theorem a6r (t y:ByteArray) (fs:List ByteArray):(aeh t y fs).1.s.ids.length≤1000000 ∧(aeh t y fs).1.u.L.length≤1000000:=by
 unfold aeh
 split
 ·exact a5a (aqm y fs).1 (aqm y fs).2
 ·exact⟨b0c _,b0c _⟩
theorem a9m (t:ByteArray):(yp t).1.s.ids.length≤1000000 ∧(yp t).1.u.L.length≤1000000:=by
 unfold yp
 split
 ·exact a6r _ _ _
 ·exact⟨b0c _,b0c _⟩
theorem a37 (u:ael):aza u u=true:=by simp[aza]
theorem a36 (u:aha):bdu u u=true:=by simp[bdu]
def aom (x:ItD):Prop:=x.N.s.ids.length≤1000000∧x.N.u.L.length≤1000000
theorem afd:aom aek:=⟨b0c _,b0c _⟩
theorem bgr (l:List UInt8):aom (jn l).x:=by
 have hd:∀p,aom (adz p l).1:=fun p=>by
  unfold adz
  split
  ·exact afd
  split
  ·exact a9m _
  ·exact afd
 cases l with
 | nil=>exact afd
 | cons x l=>
  rw[vv]
  split
  ·exact afd
  ·unfold ag3
   split
   ·split
    ·exact hd _
    ·exact afd
   ·split<;>exact afd
theorem bl8 {Q R:Nat→Prop} {w:World} {L M:List Value} {x:ItD} (h:ItM Q w L x) (h':ItM R w M x) (hq:∀b,Q b→b<w.1.size) (hr:∀b,R b→b<w.1.size) (hi:aom x) :
 Calls prog 14 #[.agg L.toArray,.agg M.toArray] w fun e w'=>e=.returned (.bool true)∧Below w.1.size w w':=by
 obtain⟨U,N,T,rfl,h1,h2,h3⟩:=h;obtain⟨U',N',T',rfl,k1,k2,k3⟩:=h';have hu:=h1.toV hq;have hu':=k1.toV hr;have hn:=h2.toV hq;have hn':=k2.toV hr;have ht:=h3.toV hq;have ht':=k3.toV hr
 have:=a5u (w:=w) (pr:=x.pr) (prq:=x.pr) (od:=x.od) (odq:=x.od) (b0:=true) (b1:=true) (b2:=true) (b3:=true) (b4:=true) (hid h1.len) (hid k1.len) (hid h2.len) (hid k2.len) (hid h3.len) (hid k3.len) (hid sm) (hid sm)
  (hid fun W hb=>by have:=a0t (hu.on hb) (hu'.on hb);rwa [a37]at this)
  (hid fun W hb=>a0u (hn.on hb) (hn'.on hb) hi.1 hi.2)
  (hid fun W hb=>by have:=a0v (ht.on hb) (ht'.on hb);rwa [a36]at this)
 exact this
def aoq (w:World) (A:Option Addr) (X:List ItD):Prop:=∃Ls,qf (fun b=>b<w.1.size) w A Ls.flatten∧acm (fun b=>b<w.1.size) w Ls X
theorem j6.rowQ {B:Nat} {v:Value} {X:List ItD} {w:World} (h:j6 B v X w):∃A c,v=.slice A X.length c∧X.length≤c∧aoq w A X:=by
 obtain⟨Ls,h1,h2⟩:=h;obtain⟨A,c,e,hc,hf,-⟩:=xx h1;exact⟨A,c,e,hc,Ls,hf.less fun b q=>q.2,h2.less fun b q=>q.2.1⟩
theorem aoq.on {w w':World} {A:Option Addr} {X:List ItD} (h:aoq w A X) (hb:Below w.1.size w w'):aoq w' A X:=by
 obtain⟨Ls,h1,h2⟩:=h;exact⟨Ls,(h1.below hb fun b q=>q).less fun b q=>e9 q hb.size,(h2.keep fun b q=>hb.block b q).less fun b q=>e9 q hb.size⟩
theorem aoq.at_ {w:World} {A:Option Addr} {X:List ItD} (h:aoq w A X) (k:Nat) (hk:k<X.length):∃b off L,A=some ⟨b,off,none⟩∧b<w.1.size∧w.rangeAt b (off+k*120) L∧ItM (fun b=>b<w.1.size) w L X[k]:=by
 obtain⟨Ls,h1,h2⟩:=h;obtain⟨P,L,D,e1,e2,hit⟩:=h2.at_ k hk;have hl:=hit.len
 have hg:∀j u,L[j]?=some u→Ls.flatten[k*120+j]?=some u:=fun j u hu=>by
  have hj:j<L.length:=(b1q.1 hu).1;rw[e1,← e2,b0l,t8 om,show P.length+j-P.length=j by omega,b0a hj];exact hu
 obtain⟨u0,hu0⟩:∃u,L[0]?=some u:=⟨_,c8 om⟩;obtain⟨b,off,rfl,hb,-⟩:=h1 _ _ (hg 0 u0 hu0);refine⟨b,off,L,rfl,hb,fun j u hu=>?_,hit⟩;obtain⟨b',off',e,-,hc⟩:=h1 _ _ (hg j u hu);injection e with e
 injection e with ea eo
 subst ea eo;rw[← b20]at hc;exact hc
theorem ap4 {w:World} {A B:Option Addr} {X:List ItD} (c d:Nat) (hA:aoq w A X) (hB:aoq w B X) (hi:∀x∈X,aom x) (hn:X.length≤20000000) :
 Calls prog 17 #[.slice A X.length c,.slice B X.length d] w fun e w'=>e=.returned (.bool true)∧Below w.1.size w w':=by
 have HA:=hid hA;have HB:=hid hB;have HI:=hid hi;have hnI:(X.length:Int)≤20000000:=by omega
 clear hA hB hi hn;generalize hL:X.length=n at *;have HL:=hid hL;clear hL;go_enter func17,ntmps17;go_wp2_with fail
 go_loopg [5] n (fun g s5 wr=>∃k:Nat,k≤n∧n-k≤g∧s5=.int .i64 k∧Hid (Below w.1.size w wr))
 case atStart=>exact⟨0,b0c _,by omega,rfl,hid (n6 _ _)⟩
 case round=>
  obtain⟨k,hk,hg,rfl,HW⟩:=hrel
  by_cases hlt:k<n
  ·have hkl:k<X.length:=by rw[HL.out];exact hlt
   obtain⟨b1,o1,L,rfl,hb1,hr1,hm1⟩:=(HA.out.on HW.out).at_ k hkl;obtain⟨b2,o2,M,rfl,hb2,hr2,hm2⟩:=(HB.out.on HW.out).at_ k hkl;have HS:∀w',Below wr.1.size wr w'→Hid (Calls prog 14 #[.agg L.toArray,.agg M.toArray] w' fun e w''=>e=.returned (.bool true)∧Below w'.1.size w' w''):=fun w' q=>hid (bl8 ((hm1.keep fun b r=>q.block b r).less fun b r=>e9 r q.size) ((hm2.keep fun b r=>q.block b r).less fun b r=>e9 r q.size) (fun b r=>r) (fun b r=>r) (HI.out _ (b1c hkl)))
   have HR1:=hid (o4 hr1 (o4 hb1 hm1.len));have HR2:=hid (o4 hr2 (o4 hb2 hm2.len));have i1:(k:Int)<(n:Int):=by omega
   have i2:(0:Int) ≤(k:Int):=n8 _;clear hr1 hb1 hm1 hr2 hb2 hm2;go_wp2_with fail;have hS0:Below wr.1.size wr wr.drew:=(n6 _ _).drew;refine o7 (S:=fun w'=>Below wr.1.size wr w') kr hS0 (fun hHeld0=>?_);refine tkA 0 17 rfl ?_;go_frame;refine tkA 1 18 rfl ?_;go_frame;refine tkA 2 19 rfl ?_;go_frame;refine tkQ (i:=3) (oi:=⟨some 20,_,_,_,_,_⟩) (v:=_) rfl (n9 (by rfl) 64 _ rfl b1 (o1+k*120) rfl L _ (fun w' hSw=>xu HR1.out.1 hSw HR1.out.2.1) underlying64 rfl (by rw[HR1.out.2.2];kernel_rfl)) ?_;go_frame;refine tkA 4 21 rfl ?_;go_frame;refine tkA 5 22 rfl ?_;go_frame;refine tkA 6 23 rfl ?_;go_frame;refine tkQ (i:=7) (oi:=⟨some 24,_,_,_,_,_⟩) (v:=_) rfl (n9 (by rfl) 64 _ rfl b2 (o2+k*120) rfl M _ (fun w' hSw=>xu HR2.out.1 hSw HR2.out.2.1) underlying64 rfl (by rw[HR2.out.2.2];kernel_rfl)) ?_;go_frame;refine rdB 8 25 rfl fun K hK=>?_
   go_step;refine(HS _ hHeld0).out.mono ?_;rintro e w5 ⟨rfl,hb⟩;have HB5:Hid (Below wr.1.size wr w5):=hid (hHeld0.trans (hb.mono hHeld0.size));clear hb
   try go_frame
   refine hK.out _ _ (HB5.out) (fun hHeld=>?_);clear hK K
   try go_frame
   refine tkA 9 26 rfl ?_;go_frame;refine b0j kr ?_ _
   try go_frame
   have HW5:Hid (Below w.1.size w w5):=hid (qb HW.out HB5.out);clear hHeld hHeld0 hS0 HS HR1 HR2 HB5;go_wp2_with fail
   go_roundg (n-(k+1))
   case measure=>omega
   case rel=>exact⟨k+1,by omega,by omega,by simp,HW5⟩
  ·obtain rfl:k=n:=by omega
   go_wp2_with fail;go_ret;exact⟨rfl,HW.out⟩
theorem bea:prog.keyTypeAt 3 78=true:=by kernel_rfl
theorem a9c:prog.cellsOf 78=13:=by kernel_rfl
theorem bdl:prog.cellsOf 76=4:=by kernel_rfl
theorem bhf:prog.cellsOf 3=1:=by kernel_rfl
theorem bec (x0 x1 x2 x3 x4 x5 x6 x7 x8 x9 xa xb xc:Int) (h0:(Lit.int .i64 x0).wf=true) (h1:(Lit.int .i64 x1).wf=true) (h2:(Lit.int .i64 x2).wf=true) (h3:(Lit.int .i64 x3).wf=true) (h4:(Lit.int .i64 x4).wf=true) (h5:(Lit.int .i64 x5).wf=true) (h6:(Lit.int .i64 x6).wf=true) (h7:(Lit.int .i64 x7).wf=true) (h8:(Lit.int .i64 x8).wf=true) (h9:(Lit.int .i64 x9).wf=true) (ha:(Lit.int .i64 xa).wf=true) (hb:(Lit.int .i64 xb).wf=true) (hc:(Lit.int .i64 xc).wf=true):KV 78 ([x0,x1,x2,x3,x4,x5,x6,x7,x8,x9,xa,xb,xc].map (Value.int .i64)) ([x0,x1,x2,x3,x4,x5,x6,x7,x8,x9,xa,xb,xc].map (Lit.int .i64)):=by
 have r4:List.range 4=[0,1,2,3]:=rfl;refine⟨4,?_⟩;simp[Program.keyLits,underlying78,underlying76,underlying3,a9c,bdl,bhf,r4,h0,h1,h2,h3,h4,h5,h6,h7,h8,h9,ha,hb,hc]
theorem bla {C:List Int} (h:C.length=13):∃x0 x1 x2 x3 x4 x5 x6 x7 x8 x9 xa xb xc,C=[x0,x1,x2,x3,x4,x5,x6,x7,x8,x9,xa,xb,xc]:=by
 match C,h with
 | [x0,x1,x2,x3,x4,x5,x6,x7,x8,x9,xa,xb,xc],_=>exact⟨x0,x1,x2,x3,x4,x5,x6,x7,x8,x9,xa,xb,xc,rfl⟩
theorem bk7 {C:List Int} (hl:C.length=13) (ho:abo C 20000000000):KV 78 (C.map (Value.int .i64)) (C.map (Lit.int .i64)):=by
 have hw:∀n∈C,(Lit.int .i64 n).wf=true:=fun n hn=>by
  obtain⟨k,hk,rfl⟩:=b3c hn;have:=ho k;rw[l9,c8 hk]at this;simp at this;exact aka om
 obtain⟨x0,x1,x2,x3,x4,x5,x6,x7,x8,x9,xa,xb,xc,rfl⟩:=bla hl;exact bec x0 x1 x2 x3 x4 x5 x6 x7 x8 x9 xa xb xc (hw _ sm) (hw _ sm) (hw _ sm) (hw _ sm) (hw _ sm) (hw _ sm) (hw _ sm) (hw _ sm) (hw _ sm) (hw _ sm) (hw _ sm) (hw _ sm) (hw _ sm)
theorem bdx {C:List Int} (hl:C.length=13) (ho:abo C 20000000000) (w:World):(binOp .eql 78 (.agg (abh C)) (.agg (abh C))).run prog w=.ok (.bool true) w:=by
 have h:=bk7 hl ho;have:=aob (t:=78) underlying78 bea dc h h w;rw[p9 rfl]at this;exact this
theorem a9e (l:List UInt8):(aez l).length=13:=by
 unfold aez;rw[af3,alt];rfl
theorem bhr (l:List UInt8):abo (aez l) (l.length +(q9 l).1.length):=fun k=>by
 have h0:abo z13 0:=fun k=>by
  have:z13.getD k 0=0:=by
   rcases k with _|_|_|_|_|_|_|_|_|_|_|_|_|k<;>rfl
  omega
 have:=ajq (af4 (q9 l).1 h0) 0 (n:=(l.length:Int)) (n8 _) k;refine⟨this.1,?_⟩;have h2:=this.2;show (q6 (jp z13 (q9 l).1) 0 (l.length:Int)).getD k 0≤_;omega
theorem bf1 (l:List UInt8):∀x∈zg (q9 l).1,aom x:=fun x hx=>by
 unfold zg at hx;obtain⟨v,hv,rfl⟩:=b2c.1 hx;exact a1e (P:=fun v=>aom v.x) (fun l _=>bgr l) l v (List.mem_filter.1 hv).1
theorem azb (C D:Array Value) (x y:Operand) (w:World):(eqGuard .eql 78 x y (.agg C) (.agg D)).run prog w=.ok () w:=by kernel_rfl
theorem j6.onB {B:Nat} {v:Value} {X:List ItD} {w w':World} (h:j6 B v X w) (hb:Below w.1.size w w'):j6 B v X w':=h.kept (fun k _ r=>hb.block k r) hb.size
theorem abw {P:Program} {md:Region.Mode} {ops:Array Oper} {Q:Exit→Act→World→Prop} {S S':World→Prop} (hS:∀w,S' w→S w):∀(fuel:Nat) (listed:Array Bool) (a:Act) (w:World),wpAnyH P md ops Q S' fuel listed a w→wpAnyH P md ops Q S fuel listed a w
 | 0,_,_,_,h=>h
 | fuel+1,_,_,_,h=>⟨h.1,fun i hi=>wpOp_mono (fun a' w' h'=>⟨hS _ h'.1,abw hS fuel _ a' w' h'.2⟩) (h.2 i hi)⟩
structure aol (g b:Nat) (l:List UInt8) (va:Value) (W0 W:World):Prop where
 dec:zz W g b (aez l) (q9 l).2
 row:j6 W0.1.size va (zg (q9 l).1) W
 kept:qj (fun j=>j<W0.1.size∧j≠b∧j≠g) W0 W
theorem aol.start {g b:Nat} {W0:World} (h:zz W0 g b [0,0,0,0,0,0,0,0,0,0,0,0,0] []):aol g b [] (.slice none 0 0) W0 W0:=⟨h,j6.nil _ _,qj.refl _ _⟩
theorem aol.feed {g b:Nat} {l p:List UInt8} {va:Value} {W0 W:World} (h:aol g b l va W0 W) (hgb:g<W0.1.size∧b<W0.1.size) (X:Option Addr) (c:Nat) (hf:qf (fun j=>j<W0.1.size∧j≠b∧j≠g) W0 X (bsV p)) (hl:l.length+p.length≤2000000) (hc:p.length≤c) :
 Calls prog 22 #[.pointer (some ⟨g,0,none⟩),.slice X p.length c] W fun e w3=>∃v,e=.returned v∧∃v4 w4,(Builtin.append_ #[75,75] 75 #[va,v]).run prog w3=.ok v4 w4∧aol g b (l++p) v4 W0 w4:=by
 have hz:=h.kept.size;refine(ane X c h.dec (amd l).1 ((hf.keep fun j q=>h.kept.block j q).less fun j q=>⟨by omega,q.2⟩) om hc (a7t l om)).mono ?_;rintro e w3 ⟨v,rfl,hd,hi,hk⟩;refine⟨v,rfl,?_⟩;rw[bdo]at hd;have es:=ala l p;have hd':zz w3 g b (aez (l++p)) (q9 (l++p)).2:=by rw[es];exact hd
 obtain⟨Ls,ho,hq⟩:=hi;obtain⟨A3,c3,rfl,-,hfl,-⟩:=xx ho;have hr3:j6 W0.1.size va (zg (q9 l).1) w3:=h.row.kept (fun k q1 q2=>hk.block k ⟨q2,by omega,by omega⟩) hk.size;have h1:=al4 (q9 l).1;have h2:=ac2 l;have h3:=al4 (q9 ((q9 l).2++p)).1;have h4:=ac2 ((q9 l).2++p)
 have h5:(q9 l).2.length≤l.length:=by
  obtain⟨-,-,P,hP,-⟩:=amd l;have:=congrArg List.length hP;rw[d7]at this;omega
 rw[d7]at h4;obtain⟨v4,w4,q1,q2,q3,-,-⟩:=hr3.app (by have:=hk.size;omega) A3 c3 Ls hfl (hq.less fun j r=>⟨by have:=r.1;omega,r.2.1,fun q=>by have:=(h.row.own q.symm).2;have:=r.1;omega⟩) om;refine⟨v4,w4,q1,hd'.moved2 (qj.of_below (S:=fun j=>j<W0.1.size) q3 fun j q=>q) ⟨hgb.2,hgb.1⟩,?_,(h.kept.trans (hk.less fun j q=>⟨by omega,q.2⟩)).trans (qj.of_below q3 fun j q=>q.1)⟩;rw[a40];exact q2
theorem zz.past {W W':World} {g b:Nat} {C:List Int} {l:List UInt8} (h:zz W g b C l) (hg:W'.heap[g]?=W.heap[g]?) (hb:W'.heap[b]?=W.heap[b]?) (hz:W.1.size≤W'.1.size):zz W' g b C l:=⟨h.blk.kept hg hz,h.len,h.win.kept hb hz,h.ne⟩
theorem a08 {w:World} (A:Option Addr) (ps:List (List UInt8)) (c:Nat) (h:ag5 (fun b=>b<w.1.size) w A ps) (hm:ps.length≤maxLen) (hp:∀p∈ps,p.length≤maxLen) (hf:a4a ps=false) :
 Calls prog 6 #[.slice A ps.length c] w fun e w'=>e=.returned (.bool true)∧Below w.1.size w w':=by
 have HF:=hid (aqt A ps c h hm hp);have HK:=fun W=>hid (am6 W)
 rw[hf]at HF;clear h hp hf;unfold maxLen at hm;generalize ps.length=n at *;go_enter func6,ntmps6;go_wp2_with fail;refine HF.out.mono ?_;rintro e w' ⟨rfl,rfl⟩;go_wp2_with fail;refine(HK w).out.mono ?_;rintro e w2 ⟨rfl,hb⟩;go_wp2_with fail;go_ret;exact⟨rfl,hb⟩
theorem a5y {w:World} (A:Option Addr) (ps:List (List UInt8)) (c:Nat) (h:ag5 (fun b=>b<w.1.size) w A ps) (hm:ps.length≤maxLen) (hp:∀p∈ps,p.length≤maxLen) (hf:a4a ps=true) (hj:ps.flatten.length≤2000000) :
 Calls prog 6 #[.slice A ps.length c] w fun e w'=>e=.returned (.bool true)∧Below w.1.size w w':=by
 have HF:=hid (aqt A ps c h hm hp);have HK:=fun W=>hid (am6 W)
 have HI:=hid h;have HJ:=hid hj;rw[hf]at HF;have h60:ps.length≤60:=by unfold a4a at hf;simp at hf;exact hf.1
 clear h hp hf hm hj;generalize hL:ps.length=n at *;have HL:=hid hL;clear hL;go_enter func6,ntmps6;go_wp2_with fail;refine HF.out.mono ?_;rintro e w' ⟨rfl,rfl⟩;go_wp2_with fail;refine(HK w).out.mono ?_;rintro e w1 ⟨rfl,hb⟩;have HB1:=hid hb;clear hb HF HK;go_wp2_with fail;refine(agf w1).mono ?_;rintro e w2 ⟨rfl,hd2,hb2,hz2⟩;have HD2:=hid hd2;have HB2:=hid hb2;have HZ2:=hid hz2;clear hd2 hb2 hz2;go_wp2_with fail;refine(agf w2).mono ?_;rintro e w3 ⟨rfl,hd3,hb3,hz3⟩;have HD3:=hid (HD2.out.on hb3);have HE3:=hid hd3;have HB3:=hid (qb HB2.out hb3);have HZ3:=hid hz3;clear hd3 hb3 hz3 HD2 HB2;go_wp2_with fail;refine(agf w3).mono ?_;rintro e w4 ⟨rfl,hd4,hb4,hz4⟩;have HD:=hid (HD3.out.on hb4);have HE:=hid (HE3.out.on hb4);have HF:=hid hd4;have HB4:=hid (qb HB1.out (qb HB3.out hb4));have HSZ:Hid (w.1.size≤w1.1.size∧w2.1.size=w1.1.size+2∧w3.1.size=w2.1.size+2∧w4.1.size=w3.1.size+2):=hid ⟨HB1.out.size,HZ2.out,HZ3.out,hz4⟩
 clear hd4 hb4 hz4 HD3 HE3 HB3 HZ2 HZ3 HB1;have HS:Hid (aol (w1.1.size+1) w1.1.size (ps.take 0).flatten (.slice none 0 0) w4 w4):=hid (aol.start HD.out);go_wp2_with fail
 go_loopg [6,8] n (fun t s6 s8 wr=>∃k:Nat,k≤n∧n-k≤t∧s8=.int .i64 k∧Hid (aol (w1.1.size+1) w1.1.size (ps.take k).flatten s6 w4 wr))
 case atStart=>exact⟨0,b0c _,by omega,rfl,HS⟩
 case round=>
  obtain⟨k,hk,hg,rfl,HR⟩:=hrel;clear HS
  by_cases hlt:k<n
  ·have hkl:k<ps.length:=by rw[HL.out];exact hlt
   obtain⟨b',o',X,c',rfl,hq,hc,hxc,hfx⟩:=HI.out.get (c8 hkl);have hc':wr.cell? ⟨b',o'+k,none⟩=some (.slice X ps[k].length c'):=(b0q (a:=⟨b',o'+k,none⟩) (HR.out.kept.block b' (by have:=HSZ.out;omega))).trans ((HB4.out.cell (p:=⟨b',o'+k,none⟩) hq).trans hc);have hft:=atf (c8 hkl)
   have hfl:(ps.take k).flatten.length+ps[k].length≤2000000:=by
    have:=a7z (ps:=ps) (k+1);rw[hft,d7]at this;exact o8 this HJ.out
   have HFD:=hid (HR.out.feed (p:=ps[k]) (by have:=HSZ.out;omega) X c' ((hfx.keep fun j q=>HB4.out.block j q).less fun j q=>by have:=HSZ.out;omega) hfl hxc);rw[← hft]at HFD;clear hc hft hfl hfx hxc HR;generalize ps[k].length=x at *;have i1:(k:Int)<n:=by omega
   have i2:(0:Int) ≤(k:Int):=n8 _;go_wp2_with fail;refine HFD.out.mono ?_;rintro e w5 ⟨v,rfl,v4,w6,hrun,hcs⟩;have HRUN:=hid hrun;have HCS:=hid hcs;clear hrun hcs HFD hc';go_wp2_with (at_builtin;refine qw rfl _ _ 75 rfl _ _ _ rfl rfl HRUN.out ?_)
   go_roundg (n-(k+1))
   case measure=>omega
   case rel=>exact⟨k+1,by omega,by omega,by simp,HCS⟩
  ·obtain rfl:k=n:=by omega
   have he:(ps.take k).flatten=ps.flatten:=by rw[← HL.out,b0o]
   rw[he]at HR;obtain⟨AA,cA,rfl,-⟩:=HR.out.row.slice;have hbw:Below w.1.size w wr:=HB4.out.trans ⟨HR.out.kept.os,HR.out.kept.tape,HR.out.kept.output,HR.out.kept.size,fun b q=>HR.out.kept.block b (by have:=HSZ.out;omega)⟩;have HJN:=ash (w:=wr) A ps c (HI.out.below hbw) (by rw[HL.out];unfold maxLen;omega) (by have:=HJ.out;omega);rw[HL.out]at HJN;have HJN:=hid HJN;have HBW:=hid hbw;clear he hbw;generalize hall:ps.flatten=all at *;clear hall;have hjj:(all.length:Int)≤2000000:=by have:=HJ.out;omega
   go_wp2_with fail;refine HJN.out.mono ?_;rintro e w7 ⟨v,rfl,ho⟩;obtain⟨AJ,cJ,hv,hcJ,hfJ,hnJ⟩:=xx ho.1;subst hv;have HFJ:=hid hfJ;have HCJ:=hid hcJ;have HW7:=hid ho.2;have HQ7:=hid (qb HBW.out ho.2);have hk7:qj (fun j=>j<w4.1.size∧j≠w1.1.size∧j≠w1.1.size+1) w4 w7:=HR.out.kept.trans (qj.of_below ho.2 fun j q=>by have:=HR.out.kept.size;omega);have HE7:=hid (HE.out.past (hk7.block _ (by have:=HSZ.out;omega)) (hk7.block _ (by have:=HSZ.out;omega)) hk7.size);have HF7:=hid (HF.out.past (hk7.block _ (by have:=HSZ.out;omega)) (hk7.block _ (by have:=HSZ.out;omega)) hk7.size);have HD7:=hid (HR.out.dec.on ho.2);have HA7:=hid (HR.out.row.onB ho.2);have HZ7:Hid (w4.1.size≤wr.1.size∧wr.1.size≤w7.1.size):=hid ⟨HR.out.kept.size,ho.2.size⟩;clear ho hfJ hcJ hnJ hk7 HJN HBW HR HE HF HD;have HFE:=ane (W:=w7) AJ cJ HE7.out dc (HFJ.out.less fun j q=>⟨q.2,by have:=HSZ.out;have:=HZ7.out;omega,by have:=HSZ.out;have:=HZ7.out;omega⟩) om HCJ.out (a7t [] dc)
   have HFE:=hid HFE;go_wp2_with fail;refine HFE.out.mono ?_;rintro e w8 ⟨vb,rfl,hse⟩;rw[b03]at hse;have hde:=hse.dec;rw[als]at hde;have HDE:Hid (zz w8 (w2.1.size+1) w2.1.size (aez all) (q9 all).2):=hid hde;clear hde;obtain⟨AB,cB,rfl,-⟩:=hse.its.slice;have HK8:=hid hse.kept;have HBR:=hid hse.its;have HD8:=hid (HD7.out.past (HK8.out.block _ (by have:=HSZ.out;have:=HZ7.out;omega)) (HK8.out.block _ (by have:=HSZ.out;have:=HZ7.out;omega)) HK8.out.size);have HF8:=hid (HF7.out.past (HK8.out.block _ (by have:=HSZ.out;have:=HZ7.out;omega)) (HK8.out.block _ (by have:=HSZ.out;have:=HZ7.out;omega)) HK8.out.size);have HA8:=hid (HA7.out.kept (fun k q1 q2=>HK8.out.block k (by have:=HSZ.out;have:=HZ7.out;omega)) HK8.out.size);have HFJ8:=hid ((HFJ.out.keep fun j q=>HK8.out.block j (by have:=HSZ.out;have:=HZ7.out;omega)).less (R:=fun j=>wr.1.size≤j∧j<w8.1.size) fun j q=>⟨q.1,e9 q.2 HK8.out.size⟩)
   have HQ8:Hid (Below w.1.size w w8):=hid (HQ7.out.trans ⟨HK8.out.os,HK8.out.tape,HK8.out.output,HK8.out.size,fun k q=>HK8.out.block k (by have:=HSZ.out;have:=HZ7.out;omega)⟩);have HZ8:Hid (w4.1.size≤w8.1.size∧wr.1.size≤w8.1.size∧w4.1.size≤wr.1.size):=hid ⟨by have:=HK8.out.size;have:=HZ7.out;omega,by have:=HK8.out.size;have:=HZ7.out;omega,HZ7.out.1⟩;have HZ9:Hid (w4.1.size≤w7.1.size):=hid (o8 HZ7.out.1 HZ7.out.2);have HS8:Hid (aol (w3.1.size+1) w3.1.size (all.take 0) (.slice none 0 0) w8 w8):=hid (aol.start HF8.out);clear hse HFE HE7 HF7 HD7 HA7 HFJ HQ7 HK8 HF8 HW7 HZ7;have hcI:(all.length:Int) ≤(cJ:Int):=by have:=HCJ.out;omega
   go_wp2_with fail;generalize hal:all.length=al at *;have HAL:=hid hal;clear hal
   go_loopg [7,11] al (fun t s7 s11 wq=>∃k:Nat,k≤al∧al-k≤t∧s11=.int .i64 k∧Hid (aol (w3.1.size+1) w3.1.size (all.take k) s7 w8 wq))
   case atStart=>exact⟨0,b0c _,by omega,rfl,HS8⟩
   case round=>
    obtain⟨k,hk,hg,rfl,HR⟩:=hrel;clear HS8
    by_cases hlt:k<al
    ·have hkl:k<all.length:=by rw[HAL.out];exact hlt
     obtain⟨bj,oj,rfl,-,-⟩:=HFJ8.out k _ (vz hkl);have hp1:=(HFJ8.out.part k).first 1
     rw[abp,v6]at hp1;have he1:(all.drop k).take 1=[all[k]]:=by rw[b0n hkl];rfl
     rw[he1]at hp1;have hft:all.take (k+1)=all.take k++[all[k]]:=o5 hkl;have hkc:k+1≤cJ:=by have:=HCJ.out;have:=HAL.out;omega
     have HFD:=HR.out.feed (p:=[all[k]]) (by have:=HSZ.out;have:=HZ8.out;omega) (some ⟨bj,oj+k,none⟩) (cJ-k) (hp1.less fun j q=>by have:=HSZ.out;have:=HZ8.out;omega) (by rw[l7];have:=HJ.out;have:=HAL.out;simp;omega) (by simp;omega);rw[← hft]at HFD;have HFD:=hid HFD;clear hp1 he1 hft HR;have i1:(k:Int)<(al:Int):=by omega
     have i2:(0:Int) ≤(k:Int):=n8 _;have i3:(k:Int)+1 ≤(cJ:Int):=by omega
     have i4:(k:Int)<(cJ:Int):=by omega
     go_wp2_with fail;refine HFD.out.mono ?_;rintro e w9 ⟨v,rfl,v4,w10,hrun,hcs⟩;have HRUN:=hid hrun;have HCS:=hid hcs;clear hrun hcs HFD;go_wp2_with (at_builtin;refine qw rfl _ _ 75 rfl _ _ _ rfl rfl HRUN.out ?_)
     go_roundg (al-(k+1))
     case measure=>omega
     case rel=>exact⟨k+1,by omega,by omega,by simp,HCS⟩
    ·obtain rfl:k=al:=by omega
     have he:all.take k=all:=by rw[← HAL.out,b0o]
     rw[he]at HR;obtain⟨AC,cC,rfl,-⟩:=HR.out.row.slice;have hkp:=HR.out.kept
     have HRA:Hid (aoq wr AA (zg (q9 all).1)):=hid (by
      obtain⟨A',c',e,-,q⟩:=(HA8.out.kept (w':=wr) (fun k q1 q2=>hkp.block k (by have:=HSZ.out;omega)) hkp.size).rowQ;injection e with e _ _
      rw[e];exact q)
     have HRB:Hid (aoq wr AB (zg (q9 all).1)):=hid (by
      obtain⟨A',c',e,-,q⟩:=(HBR.out.kept (w':=wr) (fun k q1 q2=>hkp.block k (by have:=HSZ.out;have:=HZ9.out;omega)) hkp.size).rowQ;injection e with e _ _
      rw[e];exact q)
     have HRC:Hid (aoq wr AC (zg (q9 all).1)):=hid (by
      obtain⟨A',c',e,-,q⟩:=HR.out.row.rowQ;injection e with e _ _
      rw[e];exact q)
     have HIDS:=hid (bf1 all);have HNI:Hid ((zg (q9 all).1).length≤20000000):=hid (by have h1:=al4 (q9 all).1;have h2:=ac2 all;have:=HJ.out;have:=HAL.out;omega);have HDD:=hid (HD8.out.past (hkp.block _ (by have:=HSZ.out;have:=HZ8.out;omega)) (hkp.block _ (by have:=HSZ.out;have:=HZ8.out;omega)) hkp.size);have HEE:=hid (HDE.out.past (hkp.block _ (by have:=HSZ.out;have:=HZ8.out;omega)) (hkp.block _ (by have:=HSZ.out;have:=HZ8.out;omega)) hkp.size);have HFF:=hid HR.out.dec;have HQF:Hid (Below w.1.size w wr):=hid (HQ8.out.trans ⟨hkp.os,hkp.tape,hkp.output,hkp.size,fun k q=>hkp.block k (by have:=HSZ.out;have:=HZ8.out;omega)⟩);have HIAB:=fun w' (q:Below wr.1.size wr w')=>hid (ap4 cA cB (HRA.out.on q) (HRB.out.on q) HIDS.out HNI.out)
     have HIAC:=fun w' (q:Below wr.1.size wr w')=>hid (ap4 cA cC (HRA.out.on q) (HRC.out.on q) HIDS.out HNI.out)
     have HCd:=fun w' (q:Below wr.1.size wr w')=>hid ((ahq (HDD.out.on q)).mono (R':=fun e w''=>e=.returned (.agg (abh (aez all)))∧Below w'.1.size w' w'') fun e w'' r=>⟨r.1,r.2.2⟩)
     have HCe:=fun w' (q:Below wr.1.size wr w')=>hid ((ahq (HEE.out.on q)).mono (R':=fun e w''=>e=.returned (.agg (abh (aez all)))∧Below w'.1.size w' w'') fun e w'' r=>⟨r.1,r.2.2⟩)
     have HCf:=fun w' (q:Below wr.1.size wr w')=>hid ((ahq (HFF.out.on q)).mono (R':=fun e w''=>e=.returned (.agg (abh (aez all)))∧Below w'.1.size w' w'') fun e w'' r=>⟨r.1,r.2.2⟩)
     have HRd:=fun w' (q:Below wr.1.size wr w')=>hid ((ab4 (HDD.out.on q)).mono (R':=fun e w''=>e=.returned (.slice (some ⟨w'.1.size,0,none⟩) (q9 all).2.length (q9 all).2.length)∧Blk w'' w'.1.size (bsV (q9 all).2)∧Below w'.1.size w' w'') fun e w'' r=>⟨r.1,r.2.1,r.2.2.2.1⟩)
     have HRe:=fun w' (q:Below wr.1.size wr w')=>hid ((ab4 (HEE.out.on q)).mono (R':=fun e w''=>e=.returned (.slice (some ⟨w'.1.size,0,none⟩) (q9 all).2.length (q9 all).2.length)∧Blk w'' w'.1.size (bsV (q9 all).2)∧Below w'.1.size w' w'') fun e w'' r=>⟨r.1,r.2.1,r.2.2.2.1⟩)
     have HRf:=fun w' (q:Below wr.1.size wr w')=>hid ((ab4 (HFF.out.on q)).mono (R':=fun e w''=>e=.returned (.slice (some ⟨w'.1.size,0,none⟩) (q9 all).2.length (q9 all).2.length)∧Blk w'' w'.1.size (bsV (q9 all).2)∧Below w'.1.size w' w'') fun e w'' r=>⟨r.1,r.2.1,r.2.2.2.1⟩)
     have HEQ:=fun W=>hid (bdx (a9e all) (fun k=>by have h1:=bhr all k;have h2:=ac2 all;have:=HJ.out;have:=HAL.out;omega) W)
     obtain⟨sr,hsr⟩:∃sr,toS (q9 all).2=sr:=⟨_,rfl⟩;have HRS:=hid hsr;clear he hkp HR hsr HRA HRB HRC HDD HEE HFF HD8 HDE HBR HA8 HFJ8 HQ8 HIDS HNI;generalize zg (q9 all).1=X at *;go_wp2_with fail;refine o7 (S:=fun w'=>Below wr.1.size wr w') kr (n6 _ _).drew (fun hH0=>?_);refine tkA 0 57 rfl ?_;go_frame;refine tkA 1 58 rfl ?_;go_frame;refine rdB 2 59 rfl fun K hK=>?_
     go_step;refine(HIAB wr.drew hH0).out.mono ?_;rintro e x1 ⟨rfl,hb⟩;have hX1:Below wr.1.size wr x1:=hH0.trans (hb.mono hH0.size);clear hb
     try go_frame
     refine hK.out _ _ (hX1) (fun hHeld=>?_);clear hK K
     try go_frame
     refine tkA 3 60 rfl ?_;go_frame;refine tkA 4 61 rfl ?_;go_frame;refine tkA 5 62 rfl ?_;go_frame;refine rdB 6 63 rfl fun K hK=>?_
     go_step;refine(HIAC x1 hX1).out.mono ?_;rintro e x2 ⟨rfl,hb⟩;have hX2:Below wr.1.size wr x2:=hX1.trans (hb.mono hX1.size);clear hb
     try go_frame
     refine hK.out _ _ (hX2) (fun hHeld=>?_);clear hK K
     try go_frame
     refine tkA 7 64 rfl ?_;go_frame;refine tkA 8 65 rfl ?_;go_frame;refine tkA 9 66 rfl ?_;go_frame;refine tkA 11 68 rfl ?_;go_frame;refine rdB 10 67 rfl fun K hK=>?_
     go_step;refine(HCd x2 hX2).out.mono ?_;rintro e x3 ⟨rfl,hb⟩;have hX3:Below wr.1.size wr x3:=hX2.trans (hb.mono hX2.size);clear hb
     try go_frame
     refine hK.out _ _ (hX3) (fun hHeld=>?_);clear hK K
     try go_frame
     refine rdB 12 69 rfl fun K hK=>?_
     go_step;refine(HCe x3 hX3).out.mono ?_;rintro e x4 ⟨rfl,hb⟩;have hX4:Below wr.1.size wr x4:=hX3.trans (hb.mono hX3.size);clear hb
     try go_frame
     refine hK.out _ _ (hX4) (fun hHeld=>?_);clear hK K
     try go_frame
     refine tkQ (i:=13) (oi:=⟨some 70,_,_,_,_,_⟩) (v:=.bool true) rfl (aci (by rfl) .eql 78 _ _ 78 rfl (u:=.agg (abh (aez all))) (v:=.agg (abh (aez all))) rfl rfl (fun w=>azb _ _ _ _ w) (fun w=>(HEQ w).out)) ?_;go_frame;refine tkA 14 71 rfl ?_;go_frame;refine tkA 15 72 rfl ?_;go_frame;refine tkA 16 73 rfl ?_;go_frame;refine tkA 18 75 rfl ?_;go_frame;refine rdB 17 74 rfl fun K hK=>?_
     go_step;refine(HCd x4 hX4).out.mono ?_;rintro e x5 ⟨rfl,hb⟩;have hX5:Below wr.1.size wr x5:=hX4.trans (hb.mono hX4.size);clear hb
     try go_frame
     refine hK.out _ _ (hX5) (fun hHeld=>?_);clear hK K
     try go_frame
     refine rdB 19 76 rfl fun K hK=>?_
     go_step;refine(HCf x5 hX5).out.mono ?_;rintro e x6 ⟨rfl,hb⟩;have hX6:Below wr.1.size wr x6:=hX5.trans (hb.mono hX5.size);clear hb
     try go_frame
     refine hK.out _ _ (hX6) (fun hHeld=>?_);clear hK K
     try go_frame
     refine tkQ (i:=20) (oi:=⟨some 77,_,_,_,_,_⟩) (v:=.bool true) rfl (aci (by rfl) .eql 78 _ _ 78 rfl (u:=.agg (abh (aez all))) (v:=.agg (abh (aez all))) rfl rfl (fun w=>azb _ _ _ _ w) (fun w=>(HEQ w).out)) ?_;go_frame;refine tkA 21 78 rfl ?_;go_frame;refine tkA 22 79 rfl ?_;go_frame;refine tkA 23 80 rfl ?_;go_frame;refine tkA 26 83 rfl ?_;go_frame;refine rdB 24 81 rfl fun K hK=>?_
     go_step;refine(HRd x6 hX6).out.mono ?_;rintro e x7 ⟨rfl,hbk,hb⟩;have hX7:Below wr.1.size wr x7:=hX6.trans (hb.mono hX6.size);have HK7:=hid (hbk.flat (Q:=fun j=>j<x7.1.size) hbk.lt);clear hbk
     try go_frame
     refine hK.out _ _ (hX7) (fun hHeld=>?_);clear hK K
     try go_frame
     refine abw (S':=fun w'=>Below x7.1.size x7 w') (fun w' q=>hX7.trans (q.mono hX7.size)) _ _ _ _ ?_;have hT7:Below x7.1.size x7 x7:=n6 _ _;refine tkQ (i:=25) (oi:=⟨some 82,_,_,_,_,_⟩) (v:=?_) rfl (Or.inl ⟨by rfl,?_⟩) ?_;rotate_left
     ·intro w' hSw;have cv:=ahb (HK7.out.below hSw fun j q=>q) _ (q9 all).2.length rfl;rw[HRS.out]at cv;go_simp
      try with_reducible rfl
     try go_frame
     refine rdB 27 84 rfl fun K hK=>?_
     go_step;refine(HRe x7 hX7).out.mono ?_;rintro e x8 ⟨rfl,hbk,hb⟩;have hX8:Below wr.1.size wr x8:=hX7.trans (hb.mono hX7.size);have HK8:=hid (hbk.flat (Q:=fun j=>j<x8.1.size) hbk.lt);have hB8:Below x7.1.size x7 x8:=hb.mono (a8 _);clear hbk
     try go_frame
     refine hK.out _ _ (hB8) (fun hHeld=>?_);clear hK K
     try go_frame
     refine abw (S':=fun w'=>Below x8.1.size x8 w') (fun w' q=>hB8.trans (q.mono hB8.size)) _ _ _ _ ?_;have hT8:Below x8.1.size x8 x8:=n6 _ _;refine tkQ (i:=28) (oi:=⟨some 85,_,_,_,_,_⟩) (v:=?_) rfl (Or.inl ⟨by rfl,?_⟩) ?_;rotate_left
     ·intro w' hSw;have cv:=ahb (HK8.out.below hSw fun j q=>q) _ (q9 all).2.length rfl;rw[HRS.out]at cv;go_simp
      try with_reducible rfl
     try go_frame
     refine tkA 29 86 rfl ?_;go_frame;refine tkA 30 87 rfl ?_;go_frame;refine tkA 31 88 rfl ?_;go_frame;refine tkA 32 89 rfl ?_;go_frame;refine tkA 35 92 rfl ?_;go_frame;refine rdB 33 90 rfl fun K hK=>?_
     go_step;refine(HRd x8 hX8).out.mono ?_;rintro e x9 ⟨rfl,hbk,hb⟩;have hX9:Below wr.1.size wr x9:=hX8.trans (hb.mono hX8.size);have HK9:=hid (hbk.flat (Q:=fun j=>j<x9.1.size) hbk.lt);have hB9:Below x8.1.size x8 x9:=hb.mono (a8 _);clear hbk
     try go_frame
     refine hK.out _ _ (hB9) (fun hHeld=>?_);clear hK K
     try go_frame
     refine abw (S':=fun w'=>Below x9.1.size x9 w') (fun w' q=>hB9.trans (q.mono hB9.size)) _ _ _ _ ?_;have hT9:Below x9.1.size x9 x9:=n6 _ _;refine tkQ (i:=34) (oi:=⟨some 91,_,_,_,_,_⟩) (v:=?_) rfl (Or.inl ⟨by rfl,?_⟩) ?_;rotate_left
     ·intro w' hSw;have cv:=ahb (HK9.out.below hSw fun j q=>q) _ (q9 all).2.length rfl;rw[HRS.out]at cv;go_simp
      try with_reducible rfl
     try go_frame
     refine rdB 36 93 rfl fun K hK=>?_
     go_step;refine(HRf x9 hX9).out.mono ?_;rintro e x10 ⟨rfl,hbk,hb⟩;have hX10:Below wr.1.size wr x10:=hX9.trans (hb.mono hX9.size);have HK10:=hid (hbk.flat (Q:=fun j=>j<x10.1.size) hbk.lt);have hB10:Below x9.1.size x9 x10:=hb.mono (a8 _);clear hbk
     try go_frame
     refine hK.out _ _ (hB10) (fun hHeld=>?_);clear hK K
     try go_frame
     refine abw (S':=fun w'=>Below x10.1.size x10 w') (fun w' q=>hB10.trans (q.mono hB10.size)) _ _ _ _ ?_;have hT10:Below x10.1.size x10 x10:=n6 _ _;refine tkQ (i:=37) (oi:=⟨some 94,_,_,_,_,_⟩) (v:=?_) rfl (Or.inl ⟨by rfl,?_⟩) ?_;rotate_left
     ·intro w' hSw;have cv:=ahb (HK10.out.below hSw fun j q=>q) _ (q9 all).2.length rfl;rw[HRS.out]at cv;go_simp
      try with_reducible rfl
     try go_frame
     refine tkA 38 95 rfl ?_;go_frame;refine tkA 39 96 rfl ?_;go_frame;refine tkA 40 2 rfl ?_;go_frame;refine b0j kr ?_ _
     try go_frame
     have HBF:Hid (Below w.1.size w x10):=hid (HQF.out.trans (hX10.mono HQF.out.size));go_wp2_with fail;go_ret;exact⟨rfl,HBF.out⟩
theorem rsyCut_any {w:World} (A:Option Addr) (ps:List (List UInt8)) (c:Nat) (h:ag5 (fun b=>b<w.1.size) w A ps) (hm:ps.length≤maxLen) (hp:∀p∈ps,p.length≤maxLen) (hj:ps.flatten.length≤2000000) :
 Calls prog 6 #[.slice A ps.length c] w fun e w'=>e=.returned (.bool true)∧Below w.1.size w w':=by
 cases hf:a4a ps with
 | false=>exact a08 A ps c h hm hp hf
 | true=>exact a5y A ps c h hm hp hf hj
