/- Parts. -/
import Derived.Test.YtdkhlkfleggbaaaGreatU04
namespace Go.Proofs.YtdkhlkfleggbaaaGreat
set_option maxHeartbeats 4000000
set_option maxRecDepth 8000
open Lib (hid)
open Tryz
set_option linter.unusedVariables false
open Go.RowKit
def flS (p:UInt8×UInt8) (c:UInt8):UInt8×UInt8:=(p.1+c,p.2 +(p.1+c))
def flL (l:List UInt8):UInt8×UInt8:=l.foldl flS (0,0)
theorem bd0 (l:List UInt8) (c:UInt8):flL (l++[c])=flS (flL l) c:=by simp[flL]
def flV (p:UInt8×UInt8):List Value:=[bV p.1,bV p.2]
theorem bgk (a b:UInt8):((a.toNat:Int) +(b.toNat:Int))%256=((a+b).toNat:Int):=by
 rw[UInt8.toNat_add];omega
theorem a4b {w:World} {g:Nat} {p:UInt8×UInt8} (c:UInt8) (h:Blk w g (flV p)) :
 Calls prog 202 #[.pointer (some ⟨g,0,none⟩),.int .u8 (c.toNat:Int)] w fun e w'=>e=.returned (.tuple #[])∧Blk w' g (flV (flS p c))∧qj (fun k=>k≠g) w w':=by
 obtain⟨x,y⟩:=p;have c0:=h.cell 0 (v:=.int .u8 (x.toNat:Int)) rfl;have c1:=h.cell 1 (v:=.int .u8 (y.toNat:Int)) rfl;have z0:=h.fz 0;have z1:=h.fz 1;obtain⟨z,e1,hz⟩:∃z:UInt8,((x.toNat:Int) +(c.toNat:Int))%256=(z.toNat:Int)∧x+c=z:=⟨x+c,bgk x c,rfl⟩;obtain⟨v,e2,hv⟩:∃v:UInt8,((y.toNat:Int) +(z.toNat:Int))%256=(v.toNat:Int)∧y+z=v:=⟨y+z,bgk y z,rfl⟩;have HFS:Hid (flS (x,y) c=(z,v)):=hid (by unfold flS;rw[hz,hv]);have s1:qp w (w.setCell ⟨g,0,none⟩ (.int .u8 (z.toNat:Int))) g 0 [.int .u8 (z.toNat:Int)]:=ze (h.there 0 1 (by simp[flV]));have k1:Blk (w.setCell ⟨g,0,none⟩ (.int .u8 (z.toNat:Int))) g [.int .u8 (z.toNat:Int),bV y]:=Blk.put (A:=[]) (M:=[bV x]) (D:=[bV y]) h s1 rfl rfl;have HK1:=hid k1;have HT1:Hid (qj (fun k=>k≠g) w (w.setCell ⟨g,0,none⟩ (.int .u8 (z.toNat:Int)))):=hid ((qj.refl _ w).stored s1 (fun q=>q rfl));clear h s1 k1 hz hv;go_enter func202,ntmps202
 go_upto_region 1 with fail;have c0':=HK1.out.cell 0 (v:=.int .u8 (z.toNat:Int)) rfl;have c1':=HK1.out.cell 1 (v:=.int .u8 (y.toNat:Int)) rfl;have z1':=HK1.out.fz 1;clear c0 c1 z0 z1 e1;generalize w.setCell ⟨g,0,none⟩ (.int .u8 (z.toNat:Int))=W1 at *
 go_region
 go_wp2_with fail;have s2:qp W1 (W1.setCell ⟨g,1,none⟩ (.int .u8 (v.toNat:Int))) g 1 [.int .u8 (v.toNat:Int)]:=ze (HK1.out.there 1 1 sm);have k2:Blk (W1.setCell ⟨g,1,none⟩ (.int .u8 (v.toNat:Int))) g (flV (z,v)):=Blk.put (A:=[.int .u8 (z.toNat:Int)]) (M:=[bV y]) (D:=[]) HK1.out s2 rfl rfl;rw[← HFS.out]at k2;refine b4n (v:=.tuple #[]) (by simp[results,results202,go_sem]) rfl ⟨rfl,k2.drew,(HT1.out.stored s2 (fun q=>q rfl)).drew⟩
theorem a9s {Q:Nat→Prop} {w:World} (A:Option Addr) (l:List UInt8) (c:Nat) (h:qf Q w A (bsV l)) (hm:l.length≤1000000) :
 Calls prog 95 #[.slice A l.length c] w fun e w'=>e=.returned (.tuple #[bV (flL l).1,bV (flL l).2])∧Below w.1.size w w':=by
 have HM:∀W,Below w.1.size w W→Hid (Calls prog 129 #[.int .u8 0,.int .u8 0,.slice A l.length c] W fun e w'=>e=.returned (.tuple #[bV (flL l).1,bV (flL l).2])∧Below W.1.size W w'):=fun W hW=>hid (by
  replace h:=h.lt.below hW (fun b q=>q.2);clear hW;generalize hL:l.length=n at *;have HL:=hid hL;have HI:=hid h;clear hL h;have HZ:Hid (Blk (W.alloc (.cells #[.int .u8 0,.int .u8 0] 219)) W.1.size (flV (flL []))):=hid (Blk.newL (qg W _ _) rfl);go_enter func129,ntmps129;go_wp2_with fail
  go_loopg [16] n (fun g s16 wr=>∃k:Nat,k≤n∧n-k≤g∧s16=.int .i64 k∧Hid (Blk wr W.1.size (flV (flL (l.take k))))∧Hid (Below W.1.size W wr))
  case atStart=>exact⟨0,b0c _,by omega,rfl,HZ,qa _ _⟩
  case round=>
   obtain⟨k,hk,hg,rfl,HK,HB⟩:=hrel
   by_cases hlt:k<n
   ·have hkl:k<l.length:=by rw[HL.out];exact hlt
    obtain⟨b',o',rfl,hq,hc⟩:=HI.out k (bV (l[k]'hkl)) (vz hkl);have HS:Hid (flL (l.take (k+1))=flS (flL (l.take k)) l[k]):=hid (by rw[o5 hkl,bd0]);have HA:=hid (a4b l[k] HK.out);have hc':wr.cell? ⟨b',o'+k,none⟩=some (bV l[k]):=(HB.out.cell (p:=⟨b',o'+k,none⟩) (aa3 hc)).trans hc;unfold bV at hc';clear hc;generalize l[k]=x at *;have i1:(k:Int)<n:=by omega
    have i2:(0:Int) ≤(k:Int):=n8 _;go_wp2_with fail;refine(HA.out).mono ?_;rintro e w1 ⟨rfl,hb,hk1⟩;have HK1:Hid (Blk w1 W.1.size (flV (flL (l.take (k+1))))):=hid (by rw[HS.out];exact hb);have HB1:Hid (Below W.1.size W w1):=hid (HB.out.trans (hk1.below (fun j hj=>b0y hj)));clear hb hk1 hc';go_wp2_with fail
    go_roundg (n-(k+1))
    case measure=>omega
    case rel=>exact⟨k+1,by omega,by omega,by go_num,HK1,HB1⟩
   ·obtain rfl:k=n:=by omega
    have HK2:Hid (Blk wr W.1.size (flV (flL l))):=hid (by have:=HK.out;rwa [b08 (by rw[HL.out];exact a8 _)]at this);have c0:=HK2.out.cell 0 (v:=bV (flL l).1) rfl;have c1:=HK2.out.cell 1 (v:=bV (flL l).2) rfl;generalize hx:bV (flL l).1=x at c0;generalize hy:bV (flL l).2=y at c1;have HX:=hid hx;have HY:=hid hy;clear HK HK2 HZ hx hy;go_wp2_with fail
    go_quiet (fail)
    go_wp2_with fail
    go_ret2
    exact⟨by rw[HX.out,HY.out];rfl,aad HB.out _⟩)
 generalize bV (flL l).1=x at *;generalize bV (flL l).2=y at *;generalize l.length=n at *;clear h;go_enter func95,ntmps95;go_wp2_with (refine(HM _ (n6 _ _)).out.mono ?_;rintro e w' ⟨rfl,hb⟩;have HB:=hid hb;clear hb)
 go_ret2
 exact⟨rfl,HB.out⟩
def a0k (s:List UInt8):Bool:=decide (flL (s.take (s.length-2))=(s.getD (s.length-2) 0,s.getD (s.length-1) 0))
def auo (s:List UInt8) (w:World) (e:Ending) (w':World):Prop:=
 if a0k s then ∃B d,e=.returned (.tuple #[.slice B (s.length-2) d,.bool true])∧qf (fun b=>w.1.size≤b∧b<w'.1.size) w' B (bsV (s.take (s.length-2)))∧s.length-2≤d∧Below w.1.size w w'
 else e=.returned (.tuple #[.slice none 0 0,.bool false])∧Below w.1.size w w'
theorem bet (u v x y:UInt8) (W:World):(binOp .neq 219 (.agg #[.int .u8 (u.toNat:Int),.int .u8 (v.toNat:Int)]) (.agg #[.int .u8 (x.toNat:Int),.int .u8 (y.toNat:Int)])).run prog W=.ok (.bool (!decide ((u,v)=(x,y)))) W:=by
 have kv:∀x y:UInt8,KV 219 [.int .u8 (x.toNat:Int),.int .u8 (y.toNat:Int)] [.int .u8 (x.toNat:Int),.int .u8 (y.toNat:Int)]:=fun x y=>
  ak0 underlying219 underlying5 kr dc (by decide +kernel) kr [(x.toNat:Int),(y.toNat:Int)] rfl (fun n hn=>by
   simp only[b0z,b2d,b4o]at hn;rcases hn with rfl|rfl<;>exact bnc _)
 have h:=avw (m:=10) underlying219 kr dc (kv u v) (kv x y) W
 rw[show decide ((u,v)=(x,y))=decide (([.int .u8 (u.toNat:Int),.int .u8 (v.toNat:Int)]:List Lit)=[.int .u8 (x.toNat:Int),.int .u8 (y.toNat:Int)])from by
  apply decide_eq_decide.2;simp[b1p,Int.natCast_inj]]
 exact h
theorem azi {Q:Nat→Prop} {w:World} (A:Option Addr) (s:List UInt8) (c:Nat) (h:qf Q w A (bsV s)) (h2:2≤s.length) (hm:s.length≤1000000) (hc:s.length≤c) :
 Calls prog 77 #[.slice A s.length c] w (auo s w):=by
 obtain⟨n,hn⟩:∃n,s.length=n+2:=⟨s.length-2,by omega⟩;obtain⟨b,off,rfl,-,-⟩:=h 0 (bV (s[0]'(by omega))) (vz om);have htl:(s.take n).length=n:=by rw[l7];omega
 have hft:qf Q w (some ⟨b,off,none⟩) (bsV (s.take n)):=by have:=h.first n;rwa [v6]at this
 have HO:∀W,Below w.1.size w W→Hid (Calls prog 95 #[.slice (some ⟨b,off,none⟩) n c] W fun e w'=>e=.returned (.tuple #[bV (flL (s.take n)).1,bV (flL (s.take n)).2])∧Below W.1.size W w'):=fun W hW=>hid (by
  have:=a9s (w:=W) (some ⟨b,off,none⟩) (s.take n) c (hft.lt.below hW (fun b q=>q.2)) om
  rwa [htl]at this)
 have HC:∀W,Below w.1.size w W→Hid (Calls prog 92 #[.slice (some ⟨b,off,none⟩) n c] W fun e w'=>∃B d,e=.returned (.slice B n d)∧qf (fun b=>W.1.size≤b∧b<w'.1.size) w' B (bsV (s.take n))∧n≤d∧Below W.1.size W w'):=fun W hW=>hid (by
  have:=aok (some ⟨b,off,none⟩) (s.take n) c W (hft.lt.below hW (fun b q=>q.2)) om
  rwa [htl]at this)
 obtain⟨x,hx⟩:∃x,s[n]?=some x:=⟨_,c8 om⟩;obtain⟨y,hy⟩:∃y,s[n+1]?=some y:=⟨_,c8 om⟩;have g0:=h.lt n (bV x) (by unfold bsV;rw[b0m,hx];rfl);have g1:=h.lt (n+1) (bV y) (by unfold bsV;rw[b0m,hy];rfl)
 have ho:a0k s=decide (flL (s.take n)=(x,y)):=by
  unfold a0k;rw[show s.length-2=n from by omega,show s.length-1=n+1 from by omega,l9,l9,hx,hy];rfl
 unfold auo;rw[ho,show s.length-2=n from by omega];clear h2 hx hy;rw[hn]at hm hc ⊢;have HFT:=hid hft;clear hn htl h ho hft;generalize s.take n=l at *;generalize flL l=p at *;obtain⟨u,v⟩:=p;obtain⟨b1,o1,e1,q1,d0⟩:=g0;injection e1 with e1;injection e1 with e1 e2;subst e1 e2
 obtain⟨b1,o1,e1,q2,d1⟩:=g1;injection e1 with e1;injection e1 with e1 e2;subst e1 e2
 have HE:∃bb,Hid (decide ((u,v)=(x,y))=bb):=⟨_,rfl⟩;have HN:=fun W=>bet u v x y W
 obtain⟨bb,HBB⟩:=HE;rw[HBB.out];simp only[HBB.out]at HN;dsimp only[bV]at *;have HD0:=hid d0;have HD1:=hid d1;have HQ1:=hid q1.2;have f1:IntKind.i64.wrap (((n+2:Nat):Int)-2)=(n:Int):=by rw[b00 _ om];omega
 have f2:(((n+2:Nat):Int)-2)=(n:Int):=by omega
 have f3:(n:Int)≤c:=by omega
 have f4:(0:Int) ≤(n:Int):=n8 _;have f5:(n:Int)<((n+2:Nat):Int):=by omega
 have f6:(n:Int)+1<((n+2:Nat):Int):=by omega
 have f7:IntKind.i64.wrap ((n:Int)+1)=(n:Int)+1:=b00 _ om;have f8:(0:Int) ≤(n:Int)+1:=by omega
 clear d0 d1 q1 q2;generalize hN2:n+2=m at *;have HZ:∀W,Below (w.alloc (.cells #[.int .u8 0,.int .u8 0] 219)).1.size (w.alloc (.cells #[.int .u8 0,.int .u8 0] 219)) W→Hid (Blk W w.1.size [.int .u8 0,.int .u8 0]):=fun W hW=>hid ((Blk.newL (qg w _ _) rfl).on hW)
 go_enter func77,ntmps77;go_wp2_with fail;refine(HO _ (qa _ _)).out.mono ?_;rintro e w1 ⟨rfl,hb⟩;have HB1:=hid (qb (qa _ _) hb);have HZ1:=HZ _ hb;have z0:=HZ1.out.cell 0 (v:=.int .u8 0) rfl;have z1:=HZ1.out.cell 1 (v:=.int .u8 0) rfl;have y0:=HZ1.out.fz 0;have y1:=HZ1.out.fz 1;clear hb HO HZ;go_upto_region 6 with fail;have hs:qp w1 ((w1.setCell ⟨w.1.size,0,none⟩ (.int .u8 (u.toNat:Int))).setCell ⟨w.1.size,1,none⟩ (.int .u8 (v.toNat:Int))) w.1.size 0 [.int .u8 (u.toNat:Int),.int .u8 (v.toNat:Int)]:=qo (cs:=[.int .u8 (u.toNat:Int),.int .u8 (v.toNat:Int)]) (HZ1.out.there 0 2 (a8 _));have HK2:=hid (HZ1.out.all hs rfl);have HB2:Hid (Below w.1.size w ((w1.setCell ⟨w.1.size,0,none⟩ (.int .u8 (u.toNat:Int))).setCell ⟨w.1.size,1,none⟩ (.int .u8 (v.toNat:Int)))):=hid (HB1.out.trans (hs.below (a8 _)));clear hs z0 z1 y0 y1 HZ1 HB1;generalize (w1.setCell ⟨w.1.size,0,none⟩ (.int .u8 (u.toNat:Int))).setCell ⟨w.1.size,1,none⟩ (.int .u8 (v.toNat:Int))=W2 at *
 try (apply b1e;intro K_ HK_)
 have hS0:Below W2.1.size W2 W2.drew:=(n6 _ _).drew;refine o7 (S:=fun w'=>Below W2.1.size W2 w') kr hS0 (fun hHeld0=>?_);have HL1:Hid (b<W2.1.size):=hid (e9 HQ1.out HB2.out.size);have d0:=hid ((HB2.out.cell (p:=⟨b,off+n,none⟩) HQ1.out).trans HD0.out);have d1:=hid ((HB2.out.cell (p:=⟨b,off +(n+1),none⟩) HQ1.out).trans HD1.out);refine tkQ (i:=0) (oi:=⟨some 20,_,_,_,_,_⟩) (v:=_) rfl (n9 (by rfl) 219 _ rfl w.1.size 0 rfl [.int .u8 (u.toNat:Int),.int .u8 (v.toNat:Int)] _ (fun w' hSw=>(HK2.out.on hSw).rg) underlying219 rfl kr) ?_;go_frame;refine tkA 1 21 rfl ?_;go_frame;refine tkA 2 22 rfl ?_;go_frame;refine tkA 3 23 rfl ?_;go_frame;refine tkQ (i:=4) (oi:=⟨some 24,_,_,_,_,_⟩) (v:=?_) rfl (Or.inl ⟨by rfl,?_⟩) ?_;rotate_left
 ·intro w' hSw;have q:=(hSw.cell (p:=⟨b,off+n,none⟩) HL1.out).trans d0.out;go_simp
  try with_reducible rfl
 try go_frame
 refine tkA 5 25 rfl ?_;go_frame;refine tkA 6 26 rfl ?_;go_frame;refine tkA 7 27 rfl ?_;go_frame;refine tkA 8 28 rfl ?_;go_frame;refine tkQ (i:=9) (oi:=⟨some 29,_,_,_,_,_⟩) (v:=?_) rfl (Or.inl ⟨by rfl,?_⟩) ?_;rotate_left
 ·intro w' hSw;have q:=(hSw.cell (p:=⟨b,off +(n+1),none⟩) HL1.out).trans d1.out;go_simp
  try with_reducible rfl
 try go_frame
 refine tkA 10 30 rfl ?_;go_frame;refine tkQ (i:=11) (oi:=⟨some 31,_,_,_,_,_⟩) (v:=_) rfl (aap (by rfl) .neq 219 (.tmp 20) (.tmp 30) 219 rfl rfl rfl (fun w=>by kernel_rfl) HN) ?_;go_frame;refine b0j kr ?_ _
 try go_frame
 clear hHeld0 hS0 HL1 d0 d1;have HB3:Hid (Below w.1.size w W2.drew):=hid HB2.out.drew;generalize W2.drew=W3 at *;cases bb
 ·go_wp2_with fail
  go_ret2
  exact⟨rfl,HB3.out⟩
 ·go_wp2_with (refine(HC _ HB3.out).out.mono ?_;rintro e w4 ⟨B,d,rfl,hf,hd,hb⟩;have HF:=hid (o4 hf (o4 hd hb));clear hf hd hb)
  go_ret2
  exact⟨B,d,rfl,HF.out.1.less fun b q=>⟨o8 HB3.out.size q.1,q.2⟩,HF.out.2.1,qb HB3.out HF.out.2.2⟩
theorem azn (n:Nat) (w:World) (h:n≤100000):Calls prog 76 #[.int .i64 n] w fun e w'=>e=.returned (.int .i64 (if n≤1016 then((n+8:Nat):Int)else 0))∧w=w':=by
 have HF:∀W,Hid (Calls prog 94 #[.int .i64 n] W fun e w'=>e=.returned (.bool (decide ((n:Int)≤1016)))∧W=w'):=fun W=>hid (by
  have h0:(0:Int) ≤(n:Int):=n8 _;go_enter func94,ntmps94;go_wp2;go_ret;exact⟨rfl,rfl⟩)
 by_cases h1:n≤1016
 ·have e1:decide ((n:Int)≤1016)=true:=p9 om;simp only[e1]at HF;rw[if_pos h1];have e2:((n+8:Nat):Int)=6 +(n:Int)+2:=by omega
  rw[e2];clear e1 e2;go_enter func76,ntmps76;go_wp2_with (refine(HF _).out.mono ?_;rintro e w' ⟨rfl,rfl⟩);go_ret;exact⟨rfl,rfl⟩
 ·have e1:decide ((n:Int)≤1016)=false:=o3 om;simp only[e1]at HF;rw[if_neg h1];clear e1;go_enter func76,ntmps76;go_wp2_with (refine(HF _).out.mono ?_;rintro e w' ⟨rfl,rfl⟩);go_ret;exact⟨rfl,rfl⟩
def zx (l:List UInt8) (k:Nat):UInt8:=l.getD k 0
structure bg6 where
 e:Int
 n:Nat
 cls:Nat
 id:Nat
 pl:List UInt8
def aeq (e:Int):bg6:=⟨e,0,0,0,[]⟩
def abq (b:List UInt8):bg6:=
 if vo b=false then aeq 3 else if b.length<6 then aeq 2 else
  if 1016<(zx b 4).toNat+256*(zx b 5).toNat then aeq 7 else if b.length<(zx b 4).toNat+256*(zx b 5).toNat+8 then aeq 2 else
   if a0k ((b.drop 2).take ((zx b 4).toNat+256*(zx b 5).toNat+6))then⟨0,(zx b 4).toNat+256*(zx b 5).toNat+8,(zx b 2).toNat,(zx b 3).toNat,(b.drop 6).take ((zx b 4).toNat+256*(zx b 5).toNat)⟩else aeq 4
def aum (f:bg6) (w:World) (e:Ending) (w':World):Prop:=
 ∃A c,e=.returned (.tuple #[.agg #[.int .i64 f.cls,.int .i64 f.id,.slice A f.pl.length c],.int .i64 f.n,.int .i64 f.e])∧qf (fun b=>w.1.size≤b∧b<w'.1.size) w' A (bsV f.pl)∧f.pl.length≤c∧Below w.1.size w w'
theorem ap0 {E:Int} {w:World} {e:Ending} {w':World} (h:e=.returned (.tuple #[adb,.int .i64 0,.int .i64 E])∧Below w.1.size w w'):aum (aeq E) w e w':=
 ⟨none,0,h.1,qf.nil _ _ _,a8 _,h.2⟩
theorem aic {w1 w:World} {b:Nat} {x y z:Value} (hk:Blk w1 b [x,y,z]) (p q r:Value) (hb:Below b w w1) :
 (loadVar 143 ⟨b,0,none⟩).run prog (((w1.setCell ⟨b,0,none⟩ p).setCell ⟨b,1,none⟩ q).setCell ⟨b,2,none⟩ r)=.ok (.agg #[p,q,r]) (((w1.setCell ⟨b,0,none⟩ p).setCell ⟨b,1,none⟩ q).setCell ⟨b,2,none⟩ r)∧Below b w (((w1.setCell ⟨b,0,none⟩ p).setCell ⟨b,1,none⟩ q).setCell ⟨b,2,none⟩ r)∧∀k,k≠b →(((w1.setCell ⟨b,0,none⟩ p).setCell ⟨b,1,none⟩ q).setCell ⟨b,2,none⟩ r).heap[k]?=w1.heap[k]?:=by
 have hs:qp w1 (((w1.setCell ⟨b,0,none⟩ p).setCell ⟨b,1,none⟩ q).setCell ⟨b,2,none⟩ r) b 0 [p,q,r]:=qo (cs:=[p,q,r]) (hk.there 0 3 (a8 _));exact⟨(avo hk p q r).1,hb.trans (avo hk p q r).2,hs.far⟩
theorem bm5 (x:UInt8):je [x]=x.toNat:=by simp[je]
theorem bne (x y:UInt8):je [x,y]=x.toNat+256*y.toNat:=by simp[je]
theorem azo {Q:Nat→Prop} {w:World} (A:Option Addr) (c:Nat) (l:List UInt8) (h:qf Q w A (bsV l)) (hm:l.length≤1000000) (hc:l.length≤c) :
 Calls prog 60 #[.slice A l.length c] w (aum (abq l) w):=by
 by_cases h6:l.length<6
 ·have e:abq l=aeq (if vo l then 2 else 3):=by
   unfold abq;cases hb:vo l
   ·rw[if_pos rfl];rfl
   ·rw[if_neg sm,if_pos h6];rfl
  rw[e];exact(ai4 A c l h h6 hc).mono fun e w' q=>ap0 q
 obtain⟨x0,x1,x2,x3,x4,x5,r,rfl⟩:∃x0 x1 x2 x3 x4 x5 r,l=x0::x1::x2::x3::x4::x5::r:=by
  rcases l with _|⟨x0,_|⟨x1,_|⟨x2,_|⟨x3,_|⟨x4,_|⟨x5,r⟩⟩⟩⟩⟩⟩<;>first|exact⟨_,_,_,_,_,_,_,rfl⟩|simp at h6
 obtain⟨b,off,rfl,-,-⟩:=h 0 (bV x0) rfl;have HB:∀W,Below w.1.size w W→Hid (Calls prog 73 #[.slice (some ⟨b,off,none⟩) (x0::x1::x2::x3::x4::x5::r).length c] W fun e w'=>e=.returned (.bool (vo (x0::x1::x2::x3::x4::x5::r)))∧Below W.1.size W w'):=fun W hW=>hid (ai3 _ c _ (h.lt.below hW (fun b q=>q.2)) (by unfold maxLen;omega) hc)
 have HN:∀W,Below w.1.size w W→Hid (Calls prog 74 #[.slice (some ⟨b,off+2,none⟩) 4 (c-2)] W fun e w'=>∃g,e=.returned (.pointer (some ⟨g,0,none⟩))∧RdI (fun b=>W.1.size≤b∧b<w'.1.size) w' g (some [x2,x3,x4,x5])∧Below W.1.size W w'):=fun W hW=>hid (by
  have:=(h.lt.below hW (fun b q=>q.2)).part 2;have:=this.first 4
  exact ajy _ [x2,x3,x4,x5] (c-2) W this sm)
 have HO:∀m,m+8 ≤(x0::x1::x2::x3::x4::x5::r).length→∀W,Below w.1.size w W→Hid (Calls prog 77 #[.slice (some ⟨b,off+2,none⟩) (m+6) (c-2)] W (auo ((x2::x3::x4::x5::r).take (m+6)) W)):=fun m hm8 W hW=>hid (by
  have h1:=(h.lt.below hW (fun b q=>q.2)).part 2;have h2:=h1.first (m+6)
  have e1:((x2::x3::x4::x5::r).take (m+6)).length=m+6:=by rw[l7];simp only[n7]at *;omega
  have:=azi (w:=W) (some ⟨b,off+2,none⟩) ((x2::x3::x4::x5::r).take (m+6)) (c-2) (by rw[abp,v6]at h2;exact h2) om (by rw[e1];simp only[n7]at *;omega) (by rw[e1];simp only[n7]at *;omega)
  rwa [e1]at this)
 have hT:abq (x0::x1::x2::x3::x4::x5::r)=if vo (x0::x1::x2::x3::x4::x5::r)=false then aeq 3 else
  if 1016<x4.toNat+256*x5.toNat then aeq 7 else if(x0::x1::x2::x3::x4::x5::r).length<x4.toNat+256*x5.toNat+8 then aeq 2 else
   if a0k ((x2::x3::x4::x5::r).take (x4.toNat+256*x5.toNat+6))then⟨0,x4.toNat+256*x5.toNat+8,x2.toNat,x3.toNat,r.take (x4.toNat+256*x5.toNat)⟩else aeq 4:=by
  unfold abq;rw[if_neg (c:=List.length _<6) h6];rfl
 rw[hT];clear h hT;generalize hbb:vo (x0::x1::x2::x3::x4::x5::r)=bb at *;have hlr:(x0::x1::x2::x3::x4::x5::r).length=r.length+6:=rfl;generalize hL:(x0::x1::x2::x3::x4::x5::r).length=L at *;have f6:¬(L:Int)<6:=by omega
 have HLR:=hid hlr;have HK:∀W,Below (w.alloc (.cells #[.int .i64 0,.int .i64 0,.slice none 0 0] 143)).1.size (w.alloc (.cells #[.int .i64 0,.int .i64 0,.slice none 0 0] 143)) W→Hid (Blk W w.1.size [.int .i64 0,.int .i64 0,.slice none 0 0]):=fun W hW=>hid ((Blk.newL (qg w _ _) rfl).on hW)
 clear hbb hL hlr;cases bb
 ·rw[if_pos rfl];go_enter func60,ntmps60;go_wp2_with fail;refine(HB _ (qa _ _)).out.mono ?_;rintro e w1 ⟨rfl,hb⟩;have HK1:=HK _ hb;have HB1:=hid (qb (qa w _) hb);have g0:=HK1.out.cell 0 rfl;have g1:=HK1.out.cell 1 rfl;have g2:=HK1.out.cell 2 rfl;have z0:=HK1.out.fz 0;have z1:=HK1.out.fz 1;have z2:=HK1.out.fz 2;clear hb HB HK HN HO;go_wp2_with fail;obtain⟨r1,r2,-⟩:=aic HK1.out (.int .i64 0) (.int .i64 0) (.slice none 0 0) HB1.out;exact b9 (v:=.tuple #[adb,.int .i64 0,.int .i64 3]) (by rw[zl rfl];simp[asAddr,Result.andThen,r1,adb]) rfl (ap0 ⟨rfl,r2⟩)
 rw[if_neg sm];have hx4:=x4.toNat_lt;have hx5:=x5.toNat_lt;obtain⟨n,hn⟩:∃n,x4.toNat+256*x5.toNat=n:=⟨_,rfl⟩;have hU1:je ([x2,x3,x4,x5].take 1)=x2.toNat:=bm5 x2;have hU2:je ([x3,x4,x5].take 1)=x3.toNat:=bm5 x3;have hU3:je ([x4,x5].take 2)=n:=by rw[← hn];exact bne x4 x5
 have hx2:=x2.toNat_lt;have hx3:=x3.toNat_lt;have HU1:=fun(QQ:Nat→Prop) W a (q:RdI QQ W a (some [x2,x3,x4,x5]))=>hid (aco 1 q dc dc sm)
 have HU2:=fun(QQ:Nat→Prop) W a (q:RdI QQ W a (some [x3,x4,x5]))=>hid (aco 1 q dc dc sm)
 have HU3:=fun(QQ:Nat→Prop) W a (q:RdI QQ W a (some [x4,x5]))=>hid (aco 2 q dc dc sm)
 rw[hn];simp only[hU1]at HU1;simp only[hU2]at HU2;simp only[hU3]at HU3;have hn9:n≤100000:=by omega
 have HSZ:=fun W=>hid (azn n W hn9)
 clear hU1 hU2 hU3 hn hx4 hx5;generalize x2.toNat=X2 at *;generalize x3.toNat=X3 at *;have wX2:IntKind.i64.wrap (X2:Int)=(X2:Int):=b00 _ om;have wX3:IntKind.i64.wrap (X3:Int)=(X3:Int):=b00 _ om;have wn:IntKind.i64.wrap (n:Int)=(n:Int):=b00 _ om
 have HPL:Hid (∀n,(((x2::x3::x4::x5::r).take (n+6)).take (n+4)).drop 4=r.take n):=hid fun n=>by
  rw[List.take_take,b1d om];rfl
 generalize hbl:(x2::x3::x4::x5::r)=BL at *;have f1:¬(L:Int)<6:=by omega
 have f2:(6:Int) ≤(c:Int):=by omega
 have f3:(6:Int) ≤(L:Int):=by omega
 have f4:(n:Int)≤100000:=by omega
 have f5:(0:Int) ≤(n:Int):=n8 _;have HLB:Hid (BL.length=L-2):=hid (by rw[← hbl];simp only[n7];have:=HLR.out;omega);clear hbl
 by_cases h7:1016<n
 ·have e7:(if n≤1016 then((n+8:Nat):Int)else 0)=0:=if_neg om;rw[if_pos h7];simp only[e7]at HSZ;clear e7;go_enter func60,ntmps60;go_wp2_with fail;refine(HB _ (qa _ _)).out.mono ?_;rintro e w1 ⟨rfl,hb⟩;have HK1:=HK _ hb;have HB1:=hid (qb (qa w _) hb);clear hb HB HK HO;go_wp2_with fail;refine((HN _ HB1.out).out).mono ?_;rintro e w2 ⟨g,rfl,hr,hb⟩;have HR2:=hid hr;have HK2:=hid (HK1.out.on hb);have HB2:=hid (qb HB1.out hb);have HGL:=hid (e9 HK1.out.lt hr.1.1);clear hr hb HK1 HB1 HN;go_wp2_with fail;refine((HU1 _ _ _ HR2.out).out).mono ?_;rintro e w3 ⟨rfl,hr,hk⟩;have HR3:=hid hr;have HS3:=hid hk;clear hr hk HR2;go_wp2_with fail;refine((HU2 _ _ _ HR3.out).out).mono ?_;rintro e w4 ⟨rfl,hr,hk⟩;have HR4:=hid hr;have HS4:=hid (HS3.out.trans hk);clear hr hk HR3 HS3;go_wp2_with fail;refine((HU3 _ _ _ HR4.out).out).mono ?_;rintro e w5 ⟨rfl,hr,hk⟩;have HS5:=hid (HS4.out.trans hk)
  have HK5:=hid (HK2.out.kept (HS5.out.block _ (b0y HGL.out)) HS5.out.size);have HB5:Hid (Below w.1.size w w5):=hid (HB2.out.trans (HS5.out.below (fun j hj=>b0y (b05 hj HGL.out))));clear hr hk HR4 HS4 HK2 HB2 HS5;have g0:=HK5.out.cell 0 rfl;have g1:=HK5.out.cell 1 rfl;have g2:=HK5.out.cell 2 rfl;have z0:=HK5.out.fz 0;have z1:=HK5.out.fz 1;have z2:=HK5.out.fz 2;go_wp2_with (refine(HSZ _).out.mono ?_;rintro e w' ⟨rfl,rfl⟩);obtain⟨r1,r2,-⟩:=aic HK5.out (.int .i64 0) (.int .i64 0) (.slice none 0 0) HB5.out;exact b9 (v:=.tuple #[adb,.int .i64 0,.int .i64 7]) (by rw[zl rfl];simp[asAddr,Result.andThen,r1,adb]) rfl (ap0 ⟨rfl,r2⟩)
 rw[if_neg h7];have e7:(if n≤1016 then((n+8:Nat):Int)else 0)=((n+8:Nat):Int):=if_pos om;simp only[e7]at HSZ;clear e7;obtain⟨s,hs⟩:∃s,n+8=s:=⟨_,rfl⟩;rw[hs]at HSZ ⊢;have f8:((s:Int)==0)=false:=by rw[l6];omega
 by_cases h8:L<s
 ·have f9:(L:Int)<(s:Int):=by omega
  rw[if_pos h8];go_enter func60,ntmps60;go_wp2_with fail;refine(HB _ (qa _ _)).out.mono ?_;rintro e w1 ⟨rfl,hb⟩;have HK1:=HK _ hb;have HB1:=hid (qb (qa w _) hb);clear hb HB HK HO;go_wp2_with fail;refine((HN _ HB1.out).out).mono ?_;rintro e w2 ⟨g,rfl,hr,hb⟩;have HR2:=hid hr;have HK2:=hid (HK1.out.on hb);have HB2:=hid (qb HB1.out hb);have HGL:=hid (e9 HK1.out.lt hr.1.1);clear hr hb HK1 HB1 HN;go_wp2_with fail;refine((HU1 _ _ _ HR2.out).out).mono ?_;rintro e w3 ⟨rfl,hr,hk⟩;have HR3:=hid hr;have HS3:=hid hk;clear hr hk HR2;go_wp2_with fail;refine((HU2 _ _ _ HR3.out).out).mono ?_;rintro e w4 ⟨rfl,hr,hk⟩;have HR4:=hid hr;have HS4:=hid (HS3.out.trans hk);clear hr hk HR3 HS3;go_wp2_with fail;refine((HU3 _ _ _ HR4.out).out).mono ?_;rintro e w5 ⟨rfl,hr,hk⟩;have HS5:=hid (HS4.out.trans hk);have HK5:=hid (HK2.out.kept (HS5.out.block _ (b0y HGL.out)) HS5.out.size)
  have HB5:Hid (Below w.1.size w w5):=hid (HB2.out.trans (HS5.out.below (fun j hj=>b0y (b05 hj HGL.out))));clear hr hk HR4 HS4 HK2 HB2 HS5;have g0:=HK5.out.cell 0 rfl;have g1:=HK5.out.cell 1 rfl;have g2:=HK5.out.cell 2 rfl;have z0:=HK5.out.fz 0;have z1:=HK5.out.fz 1;have z2:=HK5.out.fz 2;go_wp2_with (refine(HSZ _).out.mono ?_;rintro e w' ⟨rfl,rfl⟩);obtain⟨r1,r2,-⟩:=aic HK5.out (.int .i64 0) (.int .i64 0) (.slice none 0 0) HB5.out;exact b9 (v:=.tuple #[adb,.int .i64 0,.int .i64 2]) (by rw[zl rfl];simp[asAddr,Result.andThen,r1,adb]) rfl (ap0 ⟨rfl,r2⟩)
 rw[if_neg h8];have f9:(s:Int) ≤(L:Int):=by omega
 have f10:(s:Int) ≤(c:Int):=by omega
 have f11:(2:Int) ≤(s:Int):=by omega
 have HO2:=HO n om;have hlt6:(BL.take (n+6)).length=n+6:=by rw[l7];have:=HLB.out;have:=HLR.out;omega
 have HOC:∀bb,a0k (BL.take (n+6))=bb→∀W,Below w.1.size w W→Hid (Calls prog 77 #[.slice (some ⟨b,off+2,none⟩) (n+6) (c-2)] W fun e w'=>if bb then ∃B d,e=.returned (.tuple #[.slice B (n+4) d,.bool true])∧qf (fun b=>W.1.size≤b∧b<w'.1.size) w' B (bsV ((BL.take (n+6)).take (n+4)))∧n+4≤d∧Below W.1.size W w' else e=.returned (.tuple #[.slice none 0 0,.bool false])∧Below W.1.size W w'):=fun bb hbb W hW=>hid (by
  have:=(HO2 W hW).out;unfold auo at this;rw[hbb,hlt6]at this;exact this)
 have hcs:(s:Int)-2=(n:Int)+6:=by omega
 have hcs2:s-2=n+6:=by omega
 have HPN:=hid (HPL.out n);obtain⟨bb,hbb⟩:∃bb,a0k (BL.take (n+6))=bb:=⟨_,rfl⟩;have HO3:=HOC bb hbb;have HPLL:Hid (((BL.take (n+6)).take (n+4)).length=n+4):=hid (by rw[l7,hlt6];omega);obtain⟨res,hres⟩:∃res,(if a0k (BL.take (n+6))=true then(⟨0,s,X2,X3,r.take n⟩:bg6)else aeq 4)=res:=⟨_,rfl⟩;rw[hres];rw[hbb]at hres;have HRES:=hid hres;clear hres;have HRL:Hid ((r.take n).length=n):=hid (by rw[l7];have:=HLR.out;omega);clear HO HO2 HOC hbb hlt6 HPL;generalize (BL.take (n+6)).take (n+4)=PL at *;go_enter func60,ntmps60;go_wp2_with fail;refine(HB _ (qa _ _)).out.mono ?_;rintro e w1 ⟨rfl,hb⟩;have HK1:=HK _ hb;have HB1:=hid (qb (qa w _) hb);clear hb HB HK;go_wp2_with fail;refine((HN _ HB1.out).out).mono ?_;rintro e w2 ⟨g,rfl,hr,hb⟩;have HR2:=hid hr;have HK2:=hid (HK1.out.on hb);have HB2:=hid (qb HB1.out hb);have HGL:=hid (e9 HK1.out.lt hr.1.1)
 clear hr hb HK1 HB1 HN;go_wp2_with fail;refine((HU1 _ _ _ HR2.out).out).mono ?_;rintro e w3 ⟨rfl,hr,hk⟩;have HR3:=hid hr;have HS3:=hid hk;clear hr hk HR2;go_wp2_with fail;refine((HU2 _ _ _ HR3.out).out).mono ?_;rintro e w4 ⟨rfl,hr,hk⟩;have HR4:=hid hr;have HS4:=hid (HS3.out.trans hk);clear hr hk HR3 HS3;go_wp2_with fail;refine((HU3 _ _ _ HR4.out).out).mono ?_;rintro e w5 ⟨rfl,hr,hk⟩;have HS5:=hid (HS4.out.trans hk);have HK5:=hid (HK2.out.kept (HS5.out.block _ (b0y HGL.out)) HS5.out.size);have HB5:Hid (Below w.1.size w w5):=hid (HB2.out.trans (HS5.out.below (fun j hj=>b0y (b05 hj HGL.out))));clear hr hk HR4 HS4 HK2 HB2 HS5;have g0:=HK5.out.cell 0 rfl;have g1:=HK5.out.cell 1 rfl;have g2:=HK5.out.cell 2 rfl;have z0:=HK5.out.fz 0;have z1:=HK5.out.fz 1;have z2:=HK5.out.fz 2;go_wp2_with (refine(HSZ _).out.mono ?_;rintro e w' ⟨rfl,rfl⟩);refine(HO3 _ HB5.out).out.mono ?_
 rintro e w6 hq;cases bb
 ·have hre:=HRES.out;rw[if_neg sm]at hre;subst hre;obtain⟨rfl,hb⟩:=hq;have HK6:=hid (HK5.out.on hb);have HB6:=hid (qb HB5.out hb);clear hb HK5 HB5 g0 g1 g2 z0 z1 z2;have g0:=HK6.out.cell 0 rfl;have g1:=HK6.out.cell 1 rfl;have g2:=HK6.out.cell 2 rfl;have z0:=HK6.out.fz 0;have z1:=HK6.out.fz 1;have z2:=HK6.out.fz 2;go_wp2_with fail;obtain⟨r1,r2,-⟩:=aic HK6.out (.int .i64 0) (.int .i64 0) (.slice none 0 0) HB6.out;exact b9 (v:=.tuple #[adb,.int .i64 0,.int .i64 4]) (by rw[zl rfl];simp[asAddr,Result.andThen,r1,adb]) rfl (ap0 ⟨rfl,r2⟩)
 ·have hre:=HRES.out;rw[if_pos rfl]at hre;subst hre;obtain⟨B,d,rfl,hf,hd,hb⟩:=hq;have hpl:=HPLL.out;obtain⟨bq,oq,rfl,-,-⟩:=hf 0 (bV (PL[0]'(by omega))) (vz om);have HK6:=hid (HK5.out.on hb);have HB6:=hid (qb HB5.out hb);have HF6:=hid (o4 hf (o4 hd HB5.out.size));have HKL:=hid (e9 HK5.out.lt (a8 _));clear hb HK5 HB5 g0 g1 g2 z0 z1 z2 hf hpl;have g0:=HK6.out.cell 0 rfl;have g1:=HK6.out.cell 1 rfl;have g2:=HK6.out.cell 2 rfl;have z0:=HK6.out.fz 0;have z1:=HK6.out.fz 1;have z2:=HK6.out.fz 2;have f12:(4:Int) ≤(n:Int)+4:=by omega
  have f13:(n:Int)+4 ≤(d:Int):=by omega
  by_cases hd4:d=4
  ·obtain rfl:n=0:=by omega
   subst hd4;go_wp2_with fail;obtain⟨r1,r2,r3⟩:=aic HK6.out (.int .i64 X2) (.int .i64 X3) (.slice (some ⟨bq,oq,none⟩) 0 0) HB6.out;refine b9 (v:=.tuple #[.agg #[.int .i64 X2,.int .i64 X3,.slice (some ⟨bq,oq,none⟩) 0 0],.int .i64 s,.int .i64 0]) (by rw[zl rfl];simp[asAddr,Result.andThen];rw[r1]) rfl ⟨some ⟨bq,oq,none⟩,0,rfl,qf.nil _ _ _,a8 _,r2⟩
  ·have f14:¬(4:Int)=(d:Int):=by omega
   have f15:¬(4:Nat)=d:=by omega
   go_wp2_with fail;obtain⟨r1,r2,r3⟩:=aic HK6.out (.int .i64 X2) (.int .i64 X3) (.slice (some ⟨bq,oq+4,none⟩) n (d-4)) HB6.out;have hfl:=HF6.out.1.part 4;rw[abp,HPN.out]at hfl;refine b9 (v:=.tuple #[.agg #[.int .i64 X2,.int .i64 X3,.slice (some ⟨bq,oq+4,none⟩) n (d-4)],.int .i64 s,.int .i64 0]) (by rw[zl rfl];simp[asAddr,Result.andThen];rw[r1]) rfl ⟨some ⟨bq,oq+4,none⟩,d-4,by rw[HRL.out],?_,by rw[HRL.out];omega,r2⟩;refine(hfl.keep fun k hk=>r3 k (fun e=>?_)).less fun k hk=>⟨o8 HF6.out.2.2 hk.1,by simpa using hk.2⟩
   have:=HKL.out;omega
theorem bjf (kd:Int) (w:World):(Instr.build 38 #[(0,.int .i64 kd)]).run prog w=.ok (.agg (ubZ kd).toArray) w:=by kernel_rfl
theorem aln {L:List Value} (h:L.length=48):(prog.info? 38).map (·.size)=some L.toArray.size:=by
 rw[o6,h];kernel_rfl
theorem bje (kd:Int):∀v∈ubZ kd,v.oneCell'=true:=by
 intro v hv;have h1:∀v∈jt,v.oneCell'=true:=by decide +kernel
 rcases b0z.1 (show v∈.int .i64 kd::jt.tail from hv)with rfl|h
 ·rfl
 ·exact h1 v (List.mem_of_mem_tail h)
theorem adw.ones {Q:Nat→Prop} {w:World} {L:List Value} {u:ael} (h:adw Q w L u):∀v∈L,v.oneCell'=true:=by
 obtain⟨P,ss,D,A,sp,rfl,h1,⟨_,_,rfl,-,-⟩,h3,h4,⟨_,_,rfl,-,-⟩⟩:=h;intro v hv;simp only[b1u,b0z,b2d,b4o]at hv;rcases hv with rfl|hv|rfl|rfl|hv|hv|rfl|rfl
 ·rfl
 ·exact KV.ones (m:=10) kr h1 v hv
 ·rfl
 ·rfl
 ·exact KV.ones (m:=10) kr h3 v hv
 ·exact KV.ones (m:=10) kr h4 v hv
 ·rfl
 ·rfl
def bda (x:Int×ael) (w:World) (e:Ending) (w':World):Prop:=∃L,e=.returned (.tuple #[.agg L.toArray,.int .i64 x.1])∧adw (fun b=>w.1.size≤b∧b<w'.1.size) w' L x.2∧Below w.1.size w w'
theorem ah2 {W:World} {b:Nat} {L:List Value} (h:Blk W b L) (hl:L.length=48):(loadVar 38 ⟨b,0,none⟩).run prog W=.ok (.agg L.toArray) W:=
 t6 (P:=prog) W b 0 38 L _ h.rg underlying38 sm (by rw[hl];kernel_rfl)
theorem alm {W W':World} {b:Nat} {L0 L:List Value} (h:Blk W b L0) (hs:qp W W' b 0 L.toArray.toList) (h1:L.length=L0.length):Blk W' b L:=h.all (by simpa using hs) h1
theorem afn {W:World} {b:Nat} {L0 L:List Value} (h:Blk W b L0) (h0:L0.length=48) (h1:L.length=48):W.there b 0 L.toArray.size:=by
 rw[o6,h1];exact h.there 0 48 om
theorem axp {w:World} (c i n d:Nat) (A:Option Addr) (hnil:vh c i=.nilIface):Calls prog 61 #[.agg #[.int .i64 c,.int .i64 i,.slice A n d]] w (bda (6,aaq) w):=by
 have HZ:=fun W=>hid (aft W)
 have HB0:=fun W=>hid (af1 W)
 have HN:=fun W=>hid (alk c i W)
 rw[hnil]at HN;clear hnil;go_enter func61,ntmps61;go_upto_region 1 with(refine qc rfl 38 rfl aaw (HZ _).out ?_;intro W1 hW1;have HG1:=hid hW1;clear hW1)
 try go_frame
 have HX1:Hid (Blk W1 w.1.size [.int .i64 c,.int .i64 i,.slice A n d]):=hid ((Blk.newL (qg w _ _) rfl).on HG1.out.bel);have hsz:(w.alloc (.cells #[.int .i64 c,.int .i64 i,.slice A n d] 143)).1.size=w.1.size+1:=by simp
 have HR1:Hid (Blk W1 (w.1.size+1) jt):=hid (by have:=Blk.newL (L:=jt) HG1.out rfl;rwa [hsz]at this);have HB1:Hid (Below w.1.size w W1):=hid (qb (qa _ _) HG1.out.bel);clear hsz HG1;have x0:=HX1.out.cell 0 (v:=.int .i64 c) rfl;have x1:=HX1.out.cell 1 (v:=.int .i64 i) rfl;have HRS:Hid (w.1.size≤w.1.size+1):=hid (b2g _);generalize w.1.size+1=r at *
 go_wp2_with (first
  | (refine(HN _).out.mono ?_;rintro e w' ⟨rfl,rfl⟩)
  | refine zo rfl 38 rfl (HB0 _).out ?_
  | (refine qe rfl 38 _ _ rfl r 0 aaw rfl rfl (HR1.out.there 0 48 (a8 _)) kr (by decide +kernel) ?_;intro W5 hs;have HR5:Hid (Blk W5 r jt):=hid (HR1.out.all hs rfl);have HB5:=hid (HB1.out.trans (hs.below HRS.out));clear hs))
 have HLD:=hid (ah2 HR5.out rfl);exact b9 (v:=.tuple #[.agg aaw,.int .i64 6]) (by rw[zm rfl];simp[asAddr,Result.andThen];rw[HLD.out];rfl) rfl ⟨jt,rfl,aml _ _ 0,HB5.out⟩
theorem aej {w:World} (c i n d:Nat) (A:Option Addr) (T fk ft:Nat) (kd E:Int) (u:ael) (hT:vh c i=.iface T (.agg #[]))
 (h1:∀(x:Value) (W:World),(method 526 T x "landfall/ubx.kind").run prog W=.ok (fk,x) W) (h2:∀(x:Value) (W:World),(callFunc fk #[x]).run prog W=.ok (.enter fk #[x]) W)
 (h3:∀(x:Value) (W:World),(method 526 T x "landfall/ubx.take").run prog W=.ok (ft,x) W) (h4:∀(x y z t:Value) (W:World),(callFunc ft #[x,y,z,t]).run prog W=.ok (.enter ft #[x,y,z,t]) W)
 (hk:∀W,Calls prog fk #[.agg #[]] W fun e w'=>e=.returned (.int .i64 kd)∧Below W.1.size W w')
 (ht:∀W mb,Below w.1.size w W→Blk W mb (ubZ kd)→Calls prog ft #[.agg #[],.pointer (some ⟨mb,0,none⟩),.slice A n d,.int .i64 i] W (UTk mb E u W)) :
 Calls prog 61 #[.agg #[.int .i64 c,.int .i64 i,.slice A n d]] w (bda (if E=0 then(0,u)else(E,aaq)) w):=by
 have HZ:=fun W=>hid (aft W)
 have HB0:=fun W=>hid (af1 W)
 have HBK:=fun W=>hid (bjf kd W)
 have HN:=fun W=>hid (alk c i W)
 have HKD:=fun W=>hid (hk W)
 have HTK:=fun W mb hb hm=>hid (ht W mb hb hm)
 have HSK:=hid (aln (L:=ubZ kd) rfl);have HOK:=hid (vm (C:=(ubZ kd).toArray) (fun v hv=>bje kd v (by simpa using hv)));obtain⟨res,hres⟩:∃res,(if E=0 then((0:Int),u)else(E,aaq))=res:=⟨_,rfl⟩;rw[hres];have HRES:=hid hres;rw[hT]at HN;clear hT hk ht hres;go_enter func61,ntmps61;go_upto_region 1 with(refine qc rfl 38 rfl aaw (HZ _).out ?_;intro W1 hW1;have HG1:=hid hW1;clear hW1)
 try go_frame
 have HX1:Hid (Blk W1 w.1.size [.int .i64 c,.int .i64 i,.slice A n d]):=hid ((Blk.newL (qg w _ _) rfl).on HG1.out.bel);have hsz:(w.alloc (.cells #[.int .i64 c,.int .i64 i,.slice A n d] 143)).1.size=w.1.size+1:=by simp
 have HR1:Hid (Blk W1 (w.1.size+1) jt):=hid (by have:=Blk.newL (L:=jt) HG1.out rfl;rwa [hsz]at this);have HB1:Hid (Below w.1.size w W1):=hid (qb (qa _ _) HG1.out.bel);clear hsz HG1;have x0:=HX1.out.cell 0 (v:=.int .i64 c) rfl;have x1:=HX1.out.cell 1 (v:=.int .i64 i) rfl;have HRS:Hid (w.1.size≤w.1.size+1):=hid (b2g _);generalize w.1.size+1=r at *;go_wp2_with (refine(HN _).out.mono ?_;rintro e w' ⟨rfl,rfl⟩);refine(HKD _).out.mono ?_;rintro e w2 ⟨rfl,hb⟩;have HX2:=hid (HX1.out.on hb);have HR2:=hid (HR1.out.on hb);have HB2:=hid (qb HB1.out hb);clear hb HX1 HR1 HB1 x0 x1 h1 h2 HKD HN
 go_upto_region 5 with(first
  | refine zh (u:=.int .i64 kd) rfl 38 0 _ rfl rfl (HBK _).out ?_
  | (refine qc rfl 38 rfl aaw (HZ _).out ?_;intro W3 hW3;have HM3:=hid (Blk.newL (L:=jt) hW3 rfl);have HX3:=hid (HX2.out.on hW3.bel);have HR3:=hid (HR2.out.on hW3.bel);have HB3:=hid (qb HB2.out hW3.bel);have HL3:=hid hW3.sz;clear hW3)
  | (refine qe rfl 38 _ _ rfl w2.1.size 0 (ubZ kd).toArray rfl rfl (afn HM3.out rfl rfl) HSK.out HOK.out ?_;intro W4 hs;have HM4:Hid (Blk W4 w2.1.size (ubZ kd)):=hid (alm HM3.out hs rfl);have HX4:=hid (HX3.out.far hs (b0y HX2.out.lt));have HR4:=hid (HR3.out.far hs (b0y HR2.out.lt));have HB4:=hid (HB3.out.trans (hs.below HB2.out.size));clear hs))
 try go_frame
 have HTX:=HTK _ _ HB4.out HM4.out;have x1:=HX4.out.cell 1 (v:=.int .i64 i) rfl;have x2:=HX4.out.cell 2 (v:=.slice A n d) rfl;have HW2:Hid (w.1.size<w2.1.size∧r<w2.1.size∧w2.1.size<W4.1.size):=hid ⟨HX2.out.lt,HR2.out.lt,HM4.out.lt⟩;clear HTK HX2 HR2 HX3 HR3 HM3 HB3 HL3 HX4;go_wp2_with fail;refine HTX.out.mono ?_;rintro e w5 ⟨rfl,hks,L,hL1,hL2,hL3⟩;have HM5:=hid hL1;have HR5:=hid (HR4.out.kept (hks.block r ⟨by have:=HW2.out;omega,by have:=HW2.out;omega⟩) hks.size);have HB5:Hid (Below w.1.size w w5):=hid (HB4.out.trans (hks.below (fun j hj=>⟨by have:=HW2.out;omega,by have:=HW2.out;omega⟩)));have HLL:=hid (o4 hL2 hL3);have HW5:Hid (W4.1.size≤w5.1.size∧w.1.size≤W4.1.size):=hid ⟨hks.size,by have:=HW2.out;omega⟩;clear hks hL1 hL2 hL3 x1 x2 HTX HR4 HB4 h3 h4 HM4
 by_cases hE:E=0
 ·subst hE;have HQ:=hid (HLL.out.2 rfl);have hl:=HLL.out.1;have HSZ:=hid (aln hl);have HON:=hid (vm (C:=L.toArray) (fun v hv=>HQ.out.ones v (by simpa using hv)));have HLn:=hid hl;have hre:=HRES.out;rw[if_pos rfl]at hre;subst hre;clear hl HLL
  go_wp2_with (first
   | refine b0i rfl 38 _ rfl w2.1.size 0 rfl L _ HM5.out.rg underlying38 sm (by rw[HLn.out];kernel_rfl) ?_
   | (refine qe rfl 38 _ _ rfl r 0 L.toArray rfl rfl (afn HR5.out rfl HLn.out) HSZ.out HON.out ?_;intro W6 hs;have HR6:Hid (Blk W6 r L):=hid (alm HR5.out hs HLn.out);have HS6:=hid hs;have HB6:=hid (HB5.out.trans (hs.below HRS.out));clear hs))
  have HLD:=hid (ah2 HR6.out HLn.out);refine b9 (v:=.tuple #[.agg L.toArray,.int .i64 0]) (by rw[zm rfl];simp[asAddr,Result.andThen];rw[HLD.out]) rfl ⟨L,rfl,?_,HB6.out⟩;refine(HQ.out.keep fun k hk=>HS6.out.far k (by have:=HW2.out;have:=hk.1;omega)).less fun k hk=>⟨o8 HW5.out.2 hk.1,by rw[HS6.out.sz];exact hk.2⟩
 ·have hE2:(E != 0)=true:=by rw[b0g];exact hE
  have hE3:(E==0)=false:=by rw[l6];exact hE
  have hre:=HRES.out;rw[if_neg hE]at hre;subst hre;clear hE HLL
  go_wp2_with (first
   | refine zo rfl 38 rfl (HB0 _).out ?_
   | (refine qe rfl 38 _ _ rfl r 0 aaw rfl rfl (HR5.out.there 0 48 (a8 _)) kr (by decide +kernel) ?_;intro W6 hs;have HR6:Hid (Blk W6 r jt):=hid (HR5.out.all hs rfl);have HB6:=hid (HB5.out.trans (hs.below HRS.out));clear hs))
  have HLD:=hid (ah2 HR6.out rfl);exact b9 (v:=.tuple #[.agg aaw,.int .i64 E]) (by rw[zm rfl];simp[asAddr,Result.andThen];rw[HLD.out];rfl) rfl ⟨jt,rfl,aml _ _ 0,HB6.out⟩
def ai8 (E:Int) (u:ael):Int×ael:=if E=0 then(0,u)else(E,aaq)
def ai0 (c i:Nat) (b:List UInt8):Int×ael:=
 if c=1∧i=7 then ai8 (ag1 b).1 {aaq with kd:=1,P:=abt (ag1 b).2}
 else if c=1∧i=53 then ai8 (ab5 b).1 {aaq with kd:=2,tw:=(ab5 b).2.1,X:=(ab5 b).2.2.map abt}
 else if c=1∧i=4 then ai8 (ahd b).1 {aaq with kd:=3,D:=abt (ahd b).2}
 else if c=5 ∧(i=0∨i=1)then ai8 (afw b).1 {aaq with kd:=4,A:=.bool ((i:Int)==1)::abt (afw b).2}
 else if c=6∧i=138 then ai8 (afp b).1 {aaq with kd:=5,ly:=(afp b).2.1,Y:=(afp b).2.2.map fun p=>abt (aqd p)}
 else(6,aaq)
theorem a2m {Q0:Nat→Prop} {w:World} (c i d:Nat) (A:Option Addr) (b:List UInt8) (hB:qf Q0 w A (bsV b)) (hl:b.length≤1000000) (hd:b.length≤d) :
 Calls prog 61 #[.agg #[.int .i64 c,.int .i64 i,.slice A b.length d]] w (bda (ai0 c i b) w):=by
 have hBW:=fun W (hW:Below w.1.size w W)=>hB.lt.below hW (fun b q=>q.2)
 by_cases h1:c=1∧i=7
 ·rw[show ai0 c i b=ai8 (ag1 b).1 {aaq with kd:=1,P:=abt (ag1 b).2}from by unfold ai0;rw[if_pos h1]];exact aej c i _ d A _ _ _ 1 _ _ (by unfold vh;rw[if_pos h1]) bh9 bhi bid bhm a63 (fun W mb hW hm=>a67 mb A d b _ hm (hBW W hW) hl)
 by_cases h2:c=1∧i=53
 ·rw[show ai0 c i b=ai8 (ab5 b).1 {aaq with kd:=2,tw:=(ab5 b).2.1,X:=(ab5 b).2.2.map abt}from by unfold ai0;rw[if_neg h1,if_pos h2]];exact aej c i _ d A _ _ _ 2 _ _ (by unfold vh;rw[if_neg h1,if_pos h2]) bef bdm beg bdn a2k (fun W mb hW hm=>a2l mb A d b _ hm (hBW W hW) hl hd)
 by_cases h3:c=1∧i=4
 ·rw[show ai0 c i b=ai8 (ahd b).1 {aaq with kd:=3,D:=abt (ahd b).2}from by unfold ai0;rw[if_neg h1,if_neg h2,if_pos h3]];exact aej c i _ d A _ _ _ 3 _ _ (by unfold vh;rw[if_neg h1,if_neg h2,if_pos h3]) bh8 bhh bic bhl a62 (fun W mb hW hm=>a66 mb A d b _ hm (hBW W hW) hl hd)
 by_cases h4:c=5 ∧(i=0∨i=1)
 ·rw[show ai0 c i b=ai8 (afw b).1 {aaq with kd:=4,A:=.bool ((i:Int)==1)::abt (afw b).2}from by unfold ai0;rw[if_neg h1,if_neg h2,if_neg h3,if_pos h4]];exact aej c i _ d A _ _ _ 4 _ _ (by unfold vh;rw[if_neg h1,if_neg h2,if_neg h3,if_pos h4]) bh7 bhg bib bhk a61 (fun W mb hW hm=>a65 mb A d b _ hm (hBW W hW) hl hd)
 by_cases h5:c=6∧i=138
 ·rw[show ai0 c i b=ai8 (afp b).1 {aaq with kd:=5,ly:=(afp b).2.1,Y:=(afp b).2.2.map fun p=>abt (aqd p)}from by unfold ai0;rw[if_neg h1,if_neg h2,if_neg h3,if_neg h4,if_pos h5]];exact aej c i _ d A _ _ _ 5 _ _ (by unfold vh;rw[if_neg h1,if_neg h2,if_neg h3,if_neg h4,if_pos h5]) bia bhj bie bhn a64 (fun W mb hW hm=>a68 mb A d b _ hm (hBW W hW) hl hd)
 ·rw[show ai0 c i b=(6,aaq)from by unfold ai0;rw[if_neg h1,if_neg h2,if_neg h3,if_neg h4,if_neg h5]];exact axp c i _ d A (by unfold vh;rw[if_neg h1,if_neg h2,if_neg h3,if_neg h4,if_neg h5])
def agq (b:List UInt8):Int×Nat×ael:=if(abq b).e=0 then((ai0 (abq b).cls (abq b).id (abq b).pl).1,(abq b).n,(ai0 (abq b).cls (abq b).id (abq b).pl).2)else((abq b).e,0,aaq)
def a3j (x:Int×Nat×ael) (w:World) (e:Ending) (w':World):Prop:=∃L,e=.returned (.tuple #[.agg L.toArray,.int .i64 x.2.1,.int .i64 x.1])∧adw (fun b=>w.1.size≤b∧b<w'.1.size) w' L x.2.2∧Below w.1.size w w'
theorem bh0 (b:List UInt8):(abq b).pl.length≤b.length:=by
 unfold abq aeq
 repeat' split
 all_goals first|exact b0c _|(dsimp only;rw[l7,l8];omega)
theorem asu {Q:Nat→Prop} {w:World} (A:Option Addr) (c:Nat) (l:List UInt8) (h:qf Q w A (bsV l)) (hm:l.length≤1000000) (hc:l.length≤c) :
 Calls prog 42 #[.slice A l.length c] w (a3j (agq l) w):=by
 have HZ:=fun W=>hid (aft W)
 have HB0:=fun W=>hid (af1 W)
 have HF:∀W,Below w.1.size w W→Hid (Calls prog 60 #[.slice A l.length c] W (aum (abq l) W)):=fun W hW=>hid (azo A c l (h.lt.below hW (fun b q=>q.2)) hm hc)
 have hpl:=bh0 l;unfold agq;obtain⟨⟨E,n,c1,i1,pl⟩,hr⟩:∃r,abq l=r:=⟨_,rfl⟩;rw[hr]at HF hpl ⊢;unfold aum at HF;dsimp only at *;have HPL:=hid (o8 hpl hm);generalize l.length=L at *;clear h hr hpl
 by_cases hE:E=0
 ·subst hE;rw[if_pos rfl];have HT:=fun(QQ:Nat→Prop) W A d (q:qf QQ W A (bsV pl)) (qd:pl.length≤d)=>hid (a2m c1 i1 d A pl q HPL.out qd)
  generalize ai0 c1 i1 pl=R at *;generalize pl.length=pn at *;go_enter func42,ntmps42;go_wp2_with (refine qc rfl 38 rfl aaw (HZ _).out ?_;intro W1 hW1;have HR1:=hid (Blk.newL (L:=jt) hW1 rfl);have HB1:=hid hW1.bel;clear hW1);refine(HF _ HB1.out).out.mono ?_;rintro e w2 ⟨A2,c2,rfl,hf,hfl,hb⟩;have HR2:=hid (HR1.out.on hb);have HB2:=hid (qb HB1.out hb);have HT2:=HT _ (w2.alloc (.cells #[.int .i64 c1,.int .i64 i1,.slice A2 pn c2] 143)) A2 c2 (hf.below (qa _ _) (fun b q=>q.2)) hfl;have HR3:Hid (Blk (w2.alloc (.cells #[.int .i64 c1,.int .i64 i1,.slice A2 pn c2] 143)) w.1.size jt):=hid (HR2.out.on (qa _ _));have HB3:Hid (Below w.1.size w (w2.alloc (.cells #[.int .i64 c1,.int .i64 i1,.slice A2 pn c2] 143))):=hid (qb HB2.out (qa _ _));have HZ3:=hid HB3.out.size;clear hf hfl hb HT HF HR1 HB1 HR2 HB2;go_wp2_with fail;refine HT2.out.mono ?_;rintro e w4 ⟨L4,rfl,hq,hb⟩;have HR4:=hid (HR3.out.on hb)
  have HB4:=hid (qb HB3.out hb);have hl4:=hq.len;have HQ4:=hid (hq.less fun k hk=>(⟨o8 HB3.out.size hk.1,hk.2⟩:w.1.size≤k∧k<w4.1.size));have HSZ:=hid (aln hl4);have HON:=hid (vm (C:=L4.toArray) (fun v hv=>hq.ones v (by simpa using hv)));have HLn:=hid hl4;have HWL:=hid (e9 HR3.out.lt hb.size);have HPR:Hid (∀k,(w2.alloc (.cells #[.int .i64 c1,.int .i64 i1,.slice A2 pn c2] 143)).1.size≤k→k≠w.1.size):=hid (fun k hk e=>by have:=HR3.out.lt;omega);have HQ5:=hid hq;clear hq hb hl4 HT2 HR3 HB3;obtain⟨r1,r2⟩:=R;dsimp only at *
  go_wp2_with (first
   | (refine qc rfl 38 rfl aaw (HZ _).out ?_;intro W5 hW;have HP5:=hid (Blk.newL (L:=jt) hW rfl);have HR5:=hid (HR4.out.on hW.bel);have HB5:=hid (qb HB4.out hW.bel);have HBE5:=hid hW.bel;clear hW)
   | (refine qe rfl 38 _ _ rfl w4.1.size 0 L4.toArray rfl rfl (afn HP5.out rfl HLn.out) HSZ.out HON.out ?_;intro W6 hs;have HP6:Hid (Blk W6 w4.1.size L4):=hid (alm HP5.out hs HLn.out);have HR6:=hid (HR5.out.far hs (b0y HR4.out.lt));have HB6:=hid (HB5.out.trans (hs.below HB4.out.size));have HS6:=hid hs;clear hs)
   | refine b0i rfl 38 _ rfl w4.1.size 0 rfl L4 _ HP6.out.rg underlying38 sm (by rw[HLn.out];kernel_rfl) ?_
   | (refine qe rfl 38 _ _ rfl w.1.size 0 L4.toArray rfl rfl (afn HR6.out rfl HLn.out) HSZ.out HON.out ?_;intro W7 hs;have HR7:Hid (Blk W7 w.1.size L4):=hid (alm HR6.out hs HLn.out);have HB7:=hid (HB6.out.trans (hs.below (a8 _)));have HS7:=hid hs;clear hs))
  have HLD:=hid (ah2 HR7.out HLn.out);refine b9 (v:=.tuple #[.agg L4.toArray,.int .i64 n,.int .i64 r1]) (by rw[zl rfl];simp[asAddr,Result.andThen];rw[HLD.out]) rfl ⟨L4,rfl,?_,HB7.out⟩;have hz:w4.1.size≤W7.1.size:=by rw[HS7.out.sz,HS6.out.sz];exact HBE5.out.size
  refine(HQ5.out.keep fun k hk=>?_).less fun k hk=>⟨?_,e9 hk.2 hz⟩
  ·rw[HS7.out.far k (HPR.out k hk.1),HS6.out.far k (by have:=hk.2;omega),HBE5.out.block k hk.2]
  ·exact o8 HZ3.out hk.1
 ·have hE2:(E != 0)=true:=by rw[b0g];exact hE
  have hE3:(E==0)=false:=by rw[l6];exact hE
  rw[if_neg hE];clear hE HPL;generalize pl.length=pn at *;go_enter func42,ntmps42;go_wp2_with (refine qc rfl 38 rfl aaw (HZ _).out ?_;intro W1 hW1;have HR1:=hid (Blk.newL (L:=jt) hW1 rfl);have HB1:=hid hW1.bel;clear hW1);refine(HF _ HB1.out).out.mono ?_;rintro e w2 ⟨A2,c2,rfl,hf,hfl,hb⟩;have HR3:Hid (Blk (w2.alloc (.cells #[.int .i64 c1,.int .i64 i1,.slice A2 pn c2] 143)) w.1.size jt):=hid ((HR1.out.on hb).on (qa _ _));have HB3:Hid (Below w.1.size w (w2.alloc (.cells #[.int .i64 c1,.int .i64 i1,.slice A2 pn c2] 143))):=hid (qb (qb HB1.out hb) (qa _ _));clear hf hfl hb HF HR1 HB1
  go_wp2_with (first
   | refine zo rfl 38 rfl (HB0 _).out ?_
   | (refine qe rfl 38 _ _ rfl w.1.size 0 aaw rfl rfl (HR3.out.there 0 48 (a8 _)) kr (by decide +kernel) ?_;intro W6 hs;have HR6:Hid (Blk W6 w.1.size jt):=hid (HR3.out.all hs rfl);have HB6:=hid (HB3.out.trans (hs.below (a8 _)));clear hs))
  have HLD:=hid (ah2 HR6.out rfl);exact b9 (v:=.tuple #[.agg aaw,.int .i64 0,.int .i64 E]) (by rw[zl rfl];simp[asAddr,Result.andThen];rw[HLD.out];rfl) rfl ⟨jt,rfl,aml _ _ 0,HB6.out⟩
