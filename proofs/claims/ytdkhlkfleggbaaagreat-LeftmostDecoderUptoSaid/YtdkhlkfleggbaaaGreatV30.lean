/- Parts. -/
import Derived.Test.YtdkhlkfleggbaaaGreatV29
namespace Go.Proofs.YtdkhlkfleggbaaaGreat
set_option maxHeartbeats 4000000
set_option maxRecDepth 8000
open Tryz
set_option linter.unusedVariables false
open Go.RowKit
theorem a6a {t:ByteArray} {m:NmD} (h1:m.s.ids.length<=1100000) (h2:m.u.L.length<=1100000):(aay t m).s.ids.length<=1100000 /\(aay t m).u.L.length<=1100000:=by
 have e1:yk.ids.length<=1100000:=by decide
 have e2:vv.L.length<=1100000:=by decide
 unfold aay
 split
 ·exact⟨e1,e2⟩
 split
 ·exact⟨e1,e2⟩
 split
 ·exact⟨h1,e2⟩
 split
 ·exact⟨e1,e2⟩
 split
 ·exact⟨e1,h2⟩
 ·exact⟨e1,e2⟩
theorem a7x (t y:ByteArray) (fs:List ByteArray):(aen t y fs).1.s.ids.length<=1100000 /\(aen t y fs).1.u.L.length<=1100000:=by
 unfold aen
 split
 ·exact a6a (aqz y fs).1 (aqz y fs).2
 ·exact⟨b0d _,b0d _⟩
theorem bar (t:ByteArray):(yt t).1.s.ids.length<=1100000 /\(yt t).1.u.L.length<=1100000:=by
 unfold yt
 split
 ·exact a7x _ _ _
 ·exact⟨b0d _,b0d _⟩
theorem a44 (u:aes):az1 u u=true:=by simp[az1]
theorem a43 (u:ahh):be6 u u=true:=by simp[be6]
def ao5 (x:ItD):Prop:=x.N.s.ids.length<=1100000/\x.N.u.L.length<=1100000
theorem afo:ao5 aeq:=⟨b0d _,b0d _⟩
theorem bh0 (l:List UInt8):ao5 (zg l).x:=by
 have hd:∀p,ao5 (ad5 p l).1:=λp=>by
  unfold ad5
  split
  ·exact afo
  split
  ·exact bar _
  ·exact afo
 cases l with
 | nil=>exact afo
 | cons x l=>
  rw[vz]
  split
  ·exact afo
  ·unfold aha
   split
   ·split
    ·exact hd _
    ·exact afo
   ·split<;>exact afo
theorem bnj {Q R:Nat->Prop} {w:World} {L M:List Value} {x:ItD} (h:ItM Q w L x) (h':ItM R w M x) (hq:∀b,Q b->b<w.1.size) (hr:∀b,R b->b<w.1.size) (hi:ao5 x) :
 Calls prog 14 #[.agg L.toArray,.agg M.toArray] w λe w'=>e=.returned (.bool true)/\Below w.1.size w w':=by
 obtain⟨U,N,T,rfl,h1,h2,h3⟩:=h;obtain⟨U',N',T',rfl,k1,k2,k3⟩:=h';have hu:=h1.toV hq;have hu':=k1.toV hr;have hn:=h2.toV hq;have hn':=k2.toV hr;have ht:=h3.toV hq;have ht':=k3.toV hr
 have:=a6x (w:=w) (pr:=x.pr) (prq:=x.pr) (od:=x.od) (odq:=x.od) (b0:=true) (b1:=true) (b2:=true) (b3:=true) (b4:=true) (q_ h1.len) (q_ k1.len) (q_ h2.len) (q_ k2.len) (q_ h3.len) (q_ k3.len) (q_ sm) (q_ sm)
  (q_ λW hb=>by have:=a1n (hu.on hb) (hu'.on hb);rwa [a44]at this)
  (q_ λW hb=>a1o (hn.on hb) (hn'.on hb) hi.1 hi.2)
  (q_ λW hb=>by have:=a1p (ht.on hb) (ht'.on hb);rwa [a43]at this)
 exact this
def ar7 (w:World) (A:Option Addr) (X:List ItD):Prop:=∃Ls,qf (λb=>b<w.1.size) w A Ls.flatten/\acd (λb=>b<w.1.size) w Ls X
theorem xt.rowQ {B:Nat} {v:Value} {X:List ItD} {w:World} (h:xt B v X w):∃A c,v=.slice A X.length c/\X.length<=c/\ar7 w A X:=by
 obtain⟨Ls,h1,h2⟩:=h;obtain⟨A,c,e,hc,hf,-⟩:=zt h1;exact⟨A,c,e,hc,Ls,hf.less λb q=>q.2,h2.less λb q=>q.2.1⟩
theorem ar7.on {w w':World} {A:Option Addr} {X:List ItD} (h:ar7 w A X) (hb:Below w.1.size w w'):ar7 w' A X:=by
 obtain⟨Ls,h1,h2⟩:=h;exact⟨Ls,(h1.below hb λb q=>q).less λb q=>i9 q hb.size,(h2.keep λb q=>hb.block b q).less λb q=>i9 q hb.size⟩
theorem ar7.at_ {w:World} {A:Option Addr} {X:List ItD} (h:ar7 w A X) (k:Nat) (hk:k<X.length):∃b off L,A=some ⟨b,off,none⟩/\b<w.1.size/\w.rangeAt b (off+k*120) L/\ItM (λb=>b<w.1.size) w L X[k]:=by
 obtain⟨Ls,h1,h2⟩:=h;obtain⟨P,L,D,e1,e2,hit⟩:=h2.at_ k hk;have hl:=hit.len
 have hg:∀j u,L[j]?=some u->Ls.flatten[k*120+j]?=some u:=λj u hu=>by
  have hj:j<L.length:=(b11.1 hu).1;rw[e1,<- e2,b0s,b0a om,show P.length+j-P.length=j by omega,b0e hj];exact hu
 obtain⟨u0,hu0⟩:∃u,L[0]?=some u:=⟨_,d7 om⟩;obtain⟨b,off,rfl,hb,-⟩:=h1 _ _ (hg 0 u0 hu0);refine⟨b,off,L,rfl,hb,λj u hu=>?_,hit⟩;obtain⟨b',off',e,-,hc⟩:=h1 _ _ (hg j u hu);injection e with e
 injection e with ea eo
 subst ea eo;rw[<- b3c]at hc;exact hc
theorem a5z {w:World} {A B:Option Addr} {X:List ItD} (c d:Nat) (hA:ar7 w A X) (hB:ar7 w B X) (hi:∀x∈X,ao5 x) (hn:X.length<=20000000) :
 Calls prog 17 #[.slice A X.length c,.slice B X.length d] w λe w'=>e=.returned (.bool true)/\Below w.1.size w w':=by
 have HA:=q_ hA;have HB:=q_ hB;have HI:=q_ hi;have hnI:(X.length:Int)<=20000000:=by omega
 clear hA hB hi hn;generalize hL:X.length=n at *;have HL:=q_ hL;clear hL;go_enter func17,ntmps17;go_wp2_with fail
 go_loopg [5] n (λg s5 wr=>∃k:Nat,k<=n/\n-k<=g/\s5=.int .i64 k/\Q_ (Below w.1.size w wr))
 case atStart=>exact⟨0,b0d _,by omega,rfl,q_ (n9 _ _)⟩
 case round=>
  obtain⟨k,hk,hg,rfl,HW⟩:=hrel
  by_cases hlt:k<n
  ·have hkl:k<X.length:=by rw[HL.o];exact hlt
   obtain⟨b1,o1,L,rfl,hb1,hr1,hm1⟩:=(HA.o.on HW.o).at_ k hkl;obtain⟨b2,o2,M,rfl,hb2,hr2,hm2⟩:=(HB.o.on HW.o).at_ k hkl;have HS:∀w',Below wr.1.size wr w'->Q_ (Calls prog 14 #[.agg L.toArray,.agg M.toArray] w' λe w''=>e=.returned (.bool true)/\Below w'.1.size w' w''):=λw' q=>q_ (bnj ((hm1.keep λb r=>q.block b r).less λb r=>i9 r q.size) ((hm2.keep λb r=>q.block b r).less λb r=>i9 r q.size) (λb r=>r) (λb r=>r) (HI.o _ (b1j hkl)))
   have HR1:=q_ (o3 hr1 (o3 hb1 hm1.len));have HR2:=q_ (o3 hr2 (o3 hb2 hm2.len));have i1:(k:Int)<(n:Int):=by omega
   have i2:(0:Int) <=(k:Int):=o5 _;clear hr1 hb1 hm1 hr2 hb2 hm2;go_wp2_with fail;have hS0:Below wr.1.size wr wr.drew:=(n9 _ _).drew;refine t6 (S:=λw'=>Below wr.1.size wr w') kr hS0 (λhHeld0=>?_);refine tkA 0 17 rfl ?_;go_frame;refine tkA 1 18 rfl ?_;go_frame;refine tkA 2 19 rfl ?_;go_frame;refine tkQ (i:=3) (oi:=⟨some 20,_,_,_,_,_⟩) (v:=_) rfl (o4 (by rfl) 64 _ rfl b1 (o1+k*120) rfl L _ (λw' hSw=>xf HR1.o.1 hSw HR1.o.2.1) underlying64 rfl (by rw[HR1.o.2.2];kernel_rfl)) ?_;go_frame;refine tkA 4 21 rfl ?_;go_frame;refine tkA 5 22 rfl ?_;go_frame;refine tkA 6 23 rfl ?_;go_frame;refine tkQ (i:=7) (oi:=⟨some 24,_,_,_,_,_⟩) (v:=_) rfl (o4 (by rfl) 64 _ rfl b2 (o2+k*120) rfl M _ (λw' hSw=>xf HR2.o.1 hSw HR2.o.2.1) underlying64 rfl (by rw[HR2.o.2.2];kernel_rfl)) ?_;go_frame;refine rdB 8 25 rfl λK hK=>?_
   go_step;refine(HS _ hHeld0).o.mono ?_;rintro e w5 ⟨rfl,hb⟩;have HB5:Q_ (Below wr.1.size wr w5):=q_ (hHeld0.trans (hb.mono hHeld0.size));clear hb
   try go_frame
   refine hK.out _ _ (HB5.o) (λhHeld=>?_);clear hK K
   try go_frame
   refine tkA 9 26 rfl ?_;go_frame;refine b0m kr ?_ _
   try go_frame
   have HW5:Q_ (Below w.1.size w w5):=q_ (qb HW.o HB5.o);clear hHeld hHeld0 hS0 HS HR1 HR2 HB5;go_wp2_with fail
   go_roundg (n-(k+1))
   case measure=>omega
   case rel=>exact⟨k+1,by omega,by omega,by simp,HW5⟩
  ·obtain rfl:k=n:=by omega
   go_wp2_with fail;go_ret;exact⟨rfl,HW.o⟩
theorem bfl:prog.keyTypeAt 3 78=true:=by kernel_rfl
theorem bak:prog.cellsOf 78=13:=by kernel_rfl
theorem bew:prog.cellsOf 76=4:=by kernel_rfl
theorem bio:prog.cellsOf 3=1:=by kernel_rfl
theorem bfn (x0 x1 x2 x3 x4 x5 x6 x7 x8 x9 xa xb xc:Int) (h0:(Lit.int .i64 x0).wf=true) (h1:(Lit.int .i64 x1).wf=true) (h2:(Lit.int .i64 x2).wf=true) (h3:(Lit.int .i64 x3).wf=true) (h4:(Lit.int .i64 x4).wf=true) (h5:(Lit.int .i64 x5).wf=true) (h6:(Lit.int .i64 x6).wf=true) (h7:(Lit.int .i64 x7).wf=true) (h8:(Lit.int .i64 x8).wf=true) (h9:(Lit.int .i64 x9).wf=true) (ha:(Lit.int .i64 xa).wf=true) (hb:(Lit.int .i64 xb).wf=true) (hc:(Lit.int .i64 xc).wf=true):KV 78 ([x0,x1,x2,x3,x4,x5,x6,x7,x8,x9,xa,xb,xc].map (Value.int .i64)) ([x0,x1,x2,x3,x4,x5,x6,x7,x8,x9,xa,xb,xc].map (Lit.int .i64)):=by
 have r4:List.range 4=[0,1,2,3]:=rfl;refine⟨4,?_⟩;simp[Program.keyLits,underlying78,underlying76,underlying3,bak,bew,bio,r4,h0,h1,h2,h3,h4,h5,h6,h7,h8,h9,ha,hb,hc]
theorem bmm {C:List Int} (h:C.length=13):∃x0 x1 x2 x3 x4 x5 x6 x7 x8 x9 xa xb xc,C=[x0,x1,x2,x3,x4,x5,x6,x7,x8,x9,xa,xb,xc]:=by
 match C,h with
 | [x0,x1,x2,x3,x4,x5,x6,x7,x8,x9,xa,xb,xc],_=>exact⟨x0,x1,x2,x3,x4,x5,x6,x7,x8,x9,xa,xb,xc,rfl⟩
theorem bmj {C:List Int} (hl:C.length=13) (ho:v5 C 20000000000):KV 78 (C.map (Value.int .i64)) (C.map (Lit.int .i64)):=by
 have hw:∀n∈C,(Lit.int .i64 n).wf=true:=λn hn=>by
  obtain⟨k,hk,rfl⟩:=b3l hn;have:=ho k;rw[l9,d7 hk]at this;simp at this;exact akh om
 obtain⟨x0,x1,x2,x3,x4,x5,x6,x7,x8,x9,xa,xb,xc,rfl⟩:=bmm hl;exact bfn x0 x1 x2 x3 x4 x5 x6 x7 x8 x9 xa xb xc (hw _ sm) (hw _ sm) (hw _ sm) (hw _ sm) (hw _ sm) (hw _ sm) (hw _ sm) (hw _ sm) (hw _ sm) (hw _ sm) (hw _ sm) (hw _ sm) (hw _ sm)
theorem be8 {C:List Int} (hl:C.length=13) (ho:v5 C 20000000000) (w:World):(binOp .eql 78 (.agg (yp C)) (.agg (yp C))).run prog w=.ok (.bool true) w:=by
 have h:=bmj hl ho;have:=aot (t:=78) underlying78 bfl dc h h w;rw[t8 rfl]at this;exact this
theorem afm (l:List UInt8):(acb l).length=13:=by
 unfold acb;rw[age,aii];rfl
theorem bi0 (l:List UInt8):v5 (acb l) (l.length +(qp l).1.length):=λk=>by
 have h0:v5 z13 0:=λk=>by
  have:z13.getD k 0=0:=by
   rcases k with _|_|_|_|_|_|_|_|_|_|_|_|_|k<;>rfl
  omega
 have:=ajy (agf (qp l).1 h0) 0 (n:=(l.length:Int)) (o5 _) k;refine⟨this.1,?_⟩;have h2:=this.2;show (q7 (jp z13 (qp l).1) 0 (l.length:Int)).getD k 0<=_;omega
theorem bg8 (l:List UInt8):∀x∈q6 (qp l).1,ao5 x:=λx hx=>by
 unfold q6 at hx;obtain⟨v,hv,rfl⟩:=b2f.1 hx;exact a2b (P:=λv=>ao5 v.x) (λl _=>bh0 l) l v (List.mem_filter.1 hv).1
theorem be7 (C D:Array Value) (x y:Operand) (w:World):(eqGuard .eql 78 x y (.agg C) (.agg D)).run prog w=.ok () w:=by kernel_rfl
theorem xt.onB {B:Nat} {v:Value} {X:List ItD} {w w':World} (h:xt B v X w) (hb:Below w.1.size w w'):xt B v X w':=h.kept (λk _ r=>hb.block k r) hb.size
structure ayt (g b:Nat) (l:List UInt8) (va:Value) (W0 W:World):Prop where
 dec:jr W g b (acb l) (qp l).2
 row:xt W0.1.size va (q6 (qp l).1) W
 kept:qi (λj=>j<W0.1.size/\j≠b/\j≠g) W0 W
theorem ayt.start {g b:Nat} {W0:World} (h:jr W0 g b [0,0,0,0,0,0,0,0,0,0,0,0,0] []):ayt g b [] (.slice none 0 0) W0 W0:=⟨h,xt.nil _ _,qi.refl _ _⟩
theorem ayt.feed {g b:Nat} {l p:List UInt8} {va:Value} {W0 W:World} (h:ayt g b l va W0 W) (hgb:g<W0.1.size/\b<W0.1.size) (X:Option Addr) (c:Nat) (hf:qf (λj=>j<W0.1.size/\j≠b/\j≠g) W0 X (bsV p)) (hl:l.length+p.length<=2000000) (hc:p.length<=c) :
 Calls prog 22 #[.pointer (some ⟨g,0,none⟩),.slice X p.length c] W λe w3=>∃v,e=.returned v/\∃v4 w4,(Builtin.append_ #[75,75] 75 #[va,v]).run prog w3=.ok v4 w4/\ayt g b (l++p) v4 W0 w4:=by
 have hz:=h.kept.size;refine(a14 X c h.dec (adz l).1 ((hf.keep λj q=>h.kept.block j q).less λj q=>⟨by omega,q.2⟩) om hc (bi1 l om)).mono ?_;rintro e w3 ⟨v,rfl,hd,hi,hk⟩;refine⟨v,rfl,?_⟩;rw[bez]at hd;have es:=alg l p;have hd':jr w3 g b (acb (l++p)) (qp (l++p)).2:=by rw[es];exact hd
 obtain⟨Ls,ho,hq⟩:=hi;obtain⟨A3,c3,rfl,-,hfl,-⟩:=zt ho;have hr3:xt W0.1.size va (q6 (qp l).1) w3:=h.row.kept (λk q1 q2=>hk.block k ⟨q2,by omega,by omega⟩) hk.size;have h1:=aml (qp l).1;have h2:=aa8 l;have h3:=aml (qp ((qp l).2++p)).1;have h4:=aa8 ((qp l).2++p)
 have h5:(qp l).2.length<=l.length:=by
  obtain⟨-,-,P,hP,-⟩:=adz l;have:=congrArg List.length hP;rw[e9]at this;omega
 rw[e9]at h4;obtain⟨v4,w4,q1,q2,q3,-,-⟩:=hr3.app (by have:=hk.size;omega) A3 c3 Ls hfl (hq.less λj r=>⟨by have:=r.1;omega,r.2.1,λq=>by have:=(h.row.own q.symm).2;have:=r.1;omega⟩) om;refine⟨v4,w4,q1,hd'.moved2 (qi.of_below (S:=λj=>j<W0.1.size) q3 λj q=>q) ⟨hgb.2,hgb.1⟩,?_,(h.kept.trans (hk.less λj q=>⟨by omega,q.2⟩)).trans (qi.of_below q3 λj q=>q.1)⟩;rw[a5x];exact q2
theorem a54 {w:World} (A:Option Addr) (ps:List (List UInt8)) (c:Nat) (h:ahc (λb=>b<w.1.size) w A ps) (hm:ps.length<=maxLen) (hp:∀p∈ps,p.length<=maxLen) (hf:a47 ps=false) :
 Calls prog 8 #[.slice A ps.length c] w λe w'=>e=.returned (.bool true)/\Below w.1.size w w':=by
 have HF:=q_ (aq5 A ps c h hm hp);have HK:=λW=>q_ (ann W)
 rw[hf]at HF;clear h hp hf;unfold maxLen at hm;generalize ps.length=n at *;go_enter func8,ntmps8;go_wp2_with fail;refine HF.o.mono ?_;rintro e w' ⟨rfl,rfl⟩;go_wp2_with fail;refine(HK w).o.mono ?_;rintro e w2 ⟨rfl,hb⟩;go_wp2_with fail;go_ret;exact⟨rfl,hb⟩
theorem bbl {w:World} (A:Option Addr) (ps:List (List UInt8)) (c:Nat) (h:ahc (λb=>b<w.1.size) w A ps) (hm:ps.length<=maxLen) (hp:∀p∈ps,p.length<=maxLen) (hf:a47 ps=true) (hj:ps.flatten.length<=1100000) :
 Calls prog 8 #[.slice A ps.length c] w λe w'=>e=.returned (.bool true)/\Below w.1.size w w':=by
 have HF:=q_ (aq5 A ps c h hm hp);have HK:=λW=>q_ (ann W)
 have HZ:=λW=>q_ (al4 W)
 have HI:=q_ h;have HJ:=q_ hj;rw[hf]at HF;have h60:ps.length<=60:=by unfold a47 at hf;simp at hf;exact hf.1
 clear h hp hf hm hj;generalize hL:ps.length=n at *;have HL:=q_ hL;clear hL;go_enter func8,ntmps8;go_wp2_with fail;refine HF.o.mono ?_;rintro e w' ⟨rfl,rfl⟩;go_wp2_with fail;refine(HK w).o.mono ?_;rintro e w1 ⟨rfl,hb⟩;have HB1:=q_ hb;clear hb HF HK;go_wp2_with fail;refine(a62 w1).mono ?_;rintro e w4 ⟨rfl,hd4,hb4,hz4⟩;have HD:=q_ hd4;have HB4:=q_ (qb HB1.o hb4);have HSZ:Q_ (w.1.size<=w1.1.size/\w4.1.size=w1.1.size+2):=q_ ⟨HB1.o.size,hz4⟩;clear hd4 hb4 hz4 HB1;have HS:Q_ (ayt (w1.1.size+1) w1.1.size (ps.take 0).flatten (.slice none 0 0) w4 w4):=q_ (ayt.start HD.o);go_wp2_with fail
 go_loopg [4,5] n (λt s4 s5 wr=>∃k:Nat,k<=n/\n-k<=t/\s5=.int .i64 k/\Q_ (ayt (w1.1.size+1) w1.1.size (ps.take k).flatten s4 w4 wr))
 case atStart=>exact⟨0,b0d _,by omega,rfl,HS⟩
 case round=>
  obtain⟨k,hk,hg,rfl,HR⟩:=hrel;clear HS
  by_cases hlt:k<n
  ·have hkl:k<ps.length:=by rw[HL.o];exact hlt
   obtain⟨b',o',X,c',rfl,hq,hc,hxc,hfx⟩:=HI.o.get (d7 hkl);have hc':wr.cell? ⟨b',o'+k,none⟩=some (.slice X ps[k].length c'):=(t7 (a:=⟨b',o'+k,none⟩) (HR.o.kept.block b' (by have:=HSZ.o;omega))).trans ((HB4.o.cell (p:=⟨b',o'+k,none⟩) hq).trans hc);have hft:=atw (d7 hkl)
   have hfl:(ps.take k).flatten.length+ps[k].length<=2000000:=by
    have:=a86 (ps:=ps) (k+1);rw[hft,e9]at this;exact p9 this (p9 HJ.o dc)
   have HFD:=q_ (HR.o.feed (p:=ps[k]) (by have:=HSZ.o;omega) X c' ((hfx.keep λj q=>HB4.o.block j q).less λj q=>by have:=HSZ.o;omega) hfl hxc);rw[<- hft]at HFD;clear hc hft hfl hfx hxc HR;generalize ps[k].length=x at *;have i1:(k:Int)<n:=by omega
   have i2:(0:Int) <=(k:Int):=o5 _;go_wp2_with fail;refine HFD.o.mono ?_;rintro e w5 ⟨v,rfl,v4,w6,hrun,hcs⟩;have HRUN:=q_ hrun;have HCS:=q_ hcs;clear hrun hcs HFD hc';go_wp2_with (at_builtin;refine q9 rfl _ _ 75 rfl _ _ _ rfl rfl HRUN.o ?_)
   go_roundg (n-(k+1))
   case measure=>omega
   case rel=>exact⟨k+1,by omega,by omega,by simp,HCS⟩
  ·obtain rfl:k=n:=by omega
   have he:(ps.take k).flatten=ps.flatten:=by rw[<- HL.o,b0v]
   rw[he]at HR;obtain⟨AA,cA,rfl,-⟩:=HR.o.row.slice;have hbw:Below w.1.size w wr:=HB4.o.trans ⟨HR.o.kept.os,HR.o.kept.tape,HR.o.kept.output,HR.o.kept.size,λb q=>HR.o.kept.block b (by have:=HSZ.o;omega)⟩;have HJN:=asw (w:=wr) A ps c (HI.o.below hbw) (by rw[HL.o];unfold maxLen;omega) (by have:=HJ.o;omega);rw[HL.o]at HJN;have HJN:=q_ HJN;have HBW:=q_ hbw;clear he hbw;generalize hall:ps.flatten=all at *;clear hall;have hjj:(all.length:Int)<=2000000:=by have:=HJ.o;omega
   go_wp2_with fail;refine HJN.o.mono ?_;rintro e w7 ⟨v,rfl,ho⟩;obtain⟨AJ,cJ,hv,hcJ,hfJ,hnJ⟩:=zt ho.1;subst hv;have HQ7:=q_ (qb HBW.o ho.2);have HD7:=q_ (HR.o.dec.on ho.2);have HA7:=q_ (HR.o.row.onB ho.2);have HPA:=q_ (a05 (w:=w7) (hfJ.less λj q=>q.2) HJ.o hcJ);clear ho hfJ hcJ hnJ HJN HBW HR HD;go_wp2_with fail;refine HPA.o.mono ?_;rintro e w8 ⟨vb,rfl,hib,hb8⟩;obtain⟨AB,cB,rfl,-⟩:=hib.slice;have HQ8:=q_ (qb HQ7.o hb8);have HD8:=q_ (HD7.o.on hb8);have HA8:=q_ (HA7.o.onB hb8);have HI8:=q_ hib;clear hib hb8 HPA HQ7 HD7 HA7;have hcl:(yp (acb all)).toList.length=(z13.map (Value.int .i64)).length:=by simp[yp,afm,z13]
   have hct:0 +(yp (acb all)).size <=(z13.map (Value.int .i64)).length:=by simp[yp,afm,z13]
   go_upto_region 12 with(first
    | (refine qc rfl 78 rfl (yp z13) (HZ _).o ?_;intro W9 hW;have HC9:=q_ (Blk.newL (L:=z13.map (Value.int .i64)) hW rfl);have HB9:Q_ (Below w8.1.size w8 W9/\W9.1.size=w8.1.size+1):=q_ ⟨hW.bel,hW.sz⟩;clear hW)
    | (refine qe rfl 78 _ _ rfl w8.1.size 0 (yp (acb all)) rfl rfl (HC9.o.there 0 _ hct) (ac3 (afm all)) (ahj _) ?_;intro wr hs;have HCR:=q_ (HC9.o.all hs hcl);have HBR:=q_ (HB9.o.1.trans (hs.below (a8 _)));have HLT:Q_ (w8.1.size<wr.1.size):=q_ (by have:=hs.sz;have:=HB9.o.2;omega);clear hs))
   have HRA:Q_ (ar7 wr AA (q6 (qp all).1)):=q_ (by
    obtain⟨A',c',e,-,q⟩:=(HA8.o.onB HBR.o).rowQ;injection e with e _ _
    rw[e];exact q)
   have HRB:Q_ (ar7 wr AB (q6 (qp all).1)):=q_ (by
    obtain⟨A',c',e,-,q⟩:=(HI8.o.onB HBR.o).rowQ;injection e with e _ _
    rw[e];exact q)
   have HIDS:=q_ (bg8 all);have HNI:Q_ ((q6 (qp all).1).length<=20000000):=q_ (by have h1:=aml (qp all).1;have h2:=aa8 all;have:=HJ.o;omega);have HDD:=q_ (HD8.o.on HBR.o);have HQF:=q_ (qb HQ8.o HBR.o);have HIAB:=λw' (q:Below wr.1.size wr w')=>q_ (a5z cA cB (HRA.o.on q) (HRB.o.on q) HIDS.o HNI.o)
   have HCd:=λw' (q:Below wr.1.size wr w')=>q_ ((a13 (HDD.o.on q)).mono (R':=λe w''=>e=.returned (.agg (yp (acb all)))/\Below w'.1.size w' w'') λe w'' r=>⟨r.1,r.2.2⟩)
   have HRd:=λw' (q:Below wr.1.size wr w')=>q_ ((a15 (HDD.o.on q)).mono (R':=λe w''=>e=.returned (.slice (some ⟨w'.1.size,0,none⟩) (qp all).2.length (qp all).2.length)/\Below w'.1.size w' w'') λe w'' r=>⟨r.1,r.2.2.2.1⟩)
   have HEQ:=λW=>q_ (be8 (afm all) (λk=>by have h1:=bi0 all k;have h2:=aa8 all;have:=HJ.o;omega) W)
   clear HRA HRB HDD HD8 HA8 HI8 HQ8 HIDS HNI HC9 HB9 HZ;generalize (q6 (qp all).1).length=nx at *;generalize (qp all).2.length=rl at *;generalize w8.1.size=cb at *;go_wp2_with fail;refine t6 (S:=λw'=>Below wr.1.size wr w') kr (n9 _ _).drew (λhH0=>?_);refine tkA 0 41 rfl ?_;go_frame;refine tkA 1 42 rfl ?_;go_frame;refine rdB 2 43 rfl λK hK=>?_
   go_step;refine(HIAB wr.drew hH0).o.mono ?_;rintro e x1 ⟨rfl,hb⟩;have hX1:Below wr.1.size wr x1:=hH0.trans (hb.mono hH0.size);clear hb
   try go_frame
   refine hK.out _ _ (hX1) (λhHeld=>?_);clear hK K
   try go_frame
   refine tkA 3 44 rfl ?_;go_frame;refine tkA 4 45 rfl ?_;go_frame;refine tkQ (i:=6) (oi:=⟨some 47,_,_,_,_,_⟩) (v:=_) rfl (o4 (by rfl) 78 _ rfl cb 0 rfl ((acb all).map (Value.int .i64)) _ (λw' hSw=>xf HCR.o.rg hSw HLT.o) underlying78 rfl (al9 (afm all))) ?_;go_frame;refine rdB 5 46 rfl λK hK=>?_
   go_step;refine(HCd x1 hX1).o.mono ?_;rintro e x2 ⟨rfl,hb⟩;have hX2:Below wr.1.size wr x2:=hX1.trans (hb.mono hX1.size);clear hb
   try go_frame
   refine hK.out _ _ (hX2) (λhHeld=>?_);clear hK K
   try go_frame
   refine tkQ (i:=7) (oi:=⟨some 48,_,_,_,_,_⟩) (v:=.bool true) rfl (aic (by rfl) .eql 78 _ _ 78 rfl (u:=.agg (yp (acb all))) (v:=.agg (yp (acb all))) rfl rfl (λw=>be7 _ _ _ _ w) (λw=>(HEQ w).o)) ?_;go_frame;refine tkA 8 49 rfl ?_;go_frame;refine tkA 9 50 rfl ?_;go_frame;refine tkA 10 51 rfl ?_;go_frame;refine tkA 13 54 rfl ?_;go_frame;refine rdB 11 52 rfl λK hK=>?_
   go_step;refine(HRd x2 hX2).o.mono ?_;rintro e x3 ⟨rfl,hb⟩;have hX3:Below wr.1.size wr x3:=hX2.trans (hb.mono hX2.size);clear hb
   try go_frame
   refine hK.out _ _ (hX3) (λhHeld=>?_);clear hK K
   try go_frame
   refine tkA 12 53 rfl ?_;go_frame;refine tkA 14 55 rfl ?_;go_frame;refine tkA 15 56 rfl ?_;go_frame;refine tkA 16 2 rfl ?_;go_frame;refine b0m kr ?_ _
   try go_frame
   have HBF:Q_ (Below w.1.size w x3):=q_ (HQF.o.trans (hX3.mono HQF.o.size));go_wp2_with fail;go_ret;exact⟨rfl,HBF.o⟩
theorem lmDec_any {w:World} (A:Option Addr) (ps:List (List UInt8)) (c:Nat) (h:ahc (λb=>b<w.1.size) w A ps) (hm:ps.length<=maxLen) (hp:∀p∈ps,p.length<=maxLen) (hj:ps.flatten.length<=1100000) :
 Calls prog 8 #[.slice A ps.length c] w λe w'=>e=.returned (.bool true)/\Below w.1.size w w':=by
 cases hf:a47 ps with
 | false=>exact a54 A ps c h hm hp hf
 | true=>exact bbl A ps c h hm hp hf hj
