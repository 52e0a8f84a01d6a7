/- Parts. -/
import Derived.Test.YtdkhlkfleggbaaaGreatV04
namespace Go.Proofs.YtdkhlkfleggbaaaGreat
set_option maxHeartbeats 4000000
set_option maxRecDepth 8000
open Tryz
set_option linter.unusedVariables false
open Go.RowKit
def flS (p:UInt8×UInt8) (c:UInt8):UInt8×UInt8:=(p.1+c,p.2 +(p.1+c))
def flL (l:List UInt8):UInt8×UInt8:=l.foldl flS (0,0)
theorem bfa (l:List UInt8) (c:UInt8):flL (l++[c])=flS (flL l) c:=by simp[flL]
def flV (p:UInt8×UInt8):List Value:=[bV p.1,bV p.2]
theorem bhu (a b:UInt8):((a.toNat:Int) +(b.toNat:Int))%256=((a+b).toNat:Int):=by
 rw[UInt8.toNat_add];omega
theorem a48 {w:World} {g:Nat} {p:UInt8×UInt8} (c:UInt8) (h:Blk w g (flV p)) :
 Calls prog 202 #[.pointer (some ⟨g,0,none⟩),.int .u8 (c.toNat:Int)] w λe w'=>e=.returned (.tuple #[])/\Blk w' g (flV (flS p c))/\qi (λk=>k≠g) w w':=by
 obtain⟨x,y⟩:=p;have c0:=h.cell 0 (v:=.int .u8 (x.toNat:Int)) rfl;have c1:=h.cell 1 (v:=.int .u8 (y.toNat:Int)) rfl;have z0:=h.fz 0;have z1:=h.fz 1;obtain⟨z,e1,hz⟩:∃z:UInt8,((x.toNat:Int) +(c.toNat:Int))%256=(z.toNat:Int)/\x+c=z:=⟨x+c,bhu x c,rfl⟩;obtain⟨v,e2,hv⟩:∃v:UInt8,((y.toNat:Int) +(z.toNat:Int))%256=(v.toNat:Int)/\y+z=v:=⟨y+z,bhu y z,rfl⟩;have HFS:Q_ (flS (x,y) c=(z,v)):=q_ (by unfold flS;rw[hz,hv]);have s1:qq w (w.setCell ⟨g,0,none⟩ (.int .u8 (z.toNat:Int))) g 0 [.int .u8 (z.toNat:Int)]:=zm (h.there 0 1 (by simp[flV]));have k1:Blk (w.setCell ⟨g,0,none⟩ (.int .u8 (z.toNat:Int))) g [.int .u8 (z.toNat:Int),bV y]:=Blk.put (A:=[]) (M:=[bV x]) (D:=[bV y]) h s1 rfl rfl;have HK1:=q_ k1;have HT1:Q_ (qi (λk=>k≠g) w (w.setCell ⟨g,0,none⟩ (.int .u8 (z.toNat:Int)))):=q_ ((qi.refl _ w).stored s1 (λq=>q rfl));clear h s1 k1 hz hv;go_enter func202,ntmps202
 go_upto_region 1 with fail;have c0':=HK1.o.cell 0 (v:=.int .u8 (z.toNat:Int)) rfl;have c1':=HK1.o.cell 1 (v:=.int .u8 (y.toNat:Int)) rfl;have z1':=HK1.o.fz 1;clear c0 c1 z0 z1 e1;generalize w.setCell ⟨g,0,none⟩ (.int .u8 (z.toNat:Int))=W1 at *
 go_region
 go_wp2_with fail;have s2:qq W1 (W1.setCell ⟨g,1,none⟩ (.int .u8 (v.toNat:Int))) g 1 [.int .u8 (v.toNat:Int)]:=zm (HK1.o.there 1 1 sm);have k2:Blk (W1.setCell ⟨g,1,none⟩ (.int .u8 (v.toNat:Int))) g (flV (z,v)):=Blk.put (A:=[.int .u8 (z.toNat:Int)]) (M:=[bV y]) (D:=[]) HK1.o s2 rfl rfl;rw[<- HFS.o]at k2;refine b4t (v:=.tuple #[]) (by simp[results,results202,go_sem]) rfl ⟨rfl,k2.drew,(HT1.o.stored s2 (λq=>q rfl)).drew⟩
theorem ba0 {Q:Nat->Prop} {w:World} (A:Option Addr) (l:List UInt8) (c:Nat) (h:qf Q w A (bsV l)) (hm:l.length<=1100000) :
 Calls prog 95 #[.slice A l.length c] w λe w'=>e=.returned (.tuple #[bV (flL l).1,bV (flL l).2])/\Below w.1.size w w':=by
 have HM:∀W,Below w.1.size w W->Q_ (Calls prog 129 #[.int .u8 0,.int .u8 0,.slice A l.length c] W λe w'=>e=.returned (.tuple #[bV (flL l).1,bV (flL l).2])/\Below W.1.size W w'):=λW hW=>q_ (by
  replace h:=h.lt.below hW (λb q=>q.2);clear hW;generalize hL:l.length=n at *;have HL:=q_ hL;have HI:=q_ h;clear hL h;have HZ:Q_ (Blk (W.alloc (.cells #[.int .u8 0,.int .u8 0] 219)) W.1.size (flV (flL []))):=q_ (Blk.newL (qg W _ _) rfl);go_enter func129,ntmps129;go_wp2_with fail
  go_loopg [16] n (λg s16 wr=>∃k:Nat,k<=n/\n-k<=g/\s16=.int .i64 k/\Q_ (Blk wr W.1.size (flV (flL (l.take k))))/\Q_ (Below W.1.size W wr))
  case atStart=>exact⟨0,b0d _,by omega,rfl,HZ,qa _ _⟩
  case round=>
   obtain⟨k,hk,hg,rfl,HK,HB⟩:=hrel
   by_cases hlt:k<n
   ·have hkl:k<l.length:=by rw[HL.o];exact hlt
    obtain⟨b',o',rfl,hq,hc⟩:=HI.o k (bV (l[k]'hkl)) (v9 hkl);have HS:Q_ (flL (l.take (k+1))=flS (flL (l.take k)) l[k]):=q_ (by rw[o9 hkl,bfa]);have HA:=q_ (a48 l[k] HK.o);have hc':wr.cell? ⟨b',o'+k,none⟩=some (bV l[k]):=(HB.o.cell (p:=⟨b',o'+k,none⟩) (ab6 hc)).trans hc;unfold bV at hc';clear hc;generalize l[k]=x at *;have i1:(k:Int)<n:=by omega
    have i2:(0:Int) <=(k:Int):=o5 _;go_wp2_with fail;refine(HA.o).mono ?_;rintro e w1 ⟨rfl,hb,hk1⟩;have HK1:Q_ (Blk w1 W.1.size (flV (flL (l.take (k+1))))):=q_ (by rw[HS.o];exact hb);have HB1:Q_ (Below W.1.size W w1):=q_ (HB.o.trans (hk1.below (λj hj=>b09 hj)));clear hb hk1 hc';go_wp2_with fail
    go_roundg (n-(k+1))
    case measure=>omega
    case rel=>exact⟨k+1,by omega,by omega,by go_num,HK1,HB1⟩
   ·obtain rfl:k=n:=by omega
    have HK2:Q_ (Blk wr W.1.size (flV (flL l))):=q_ (by have:=HK.o;rwa [b1h (by rw[HL.o];exact a8 _)]at this);have c0:=HK2.o.cell 0 (v:=bV (flL l).1) rfl;have c1:=HK2.o.cell 1 (v:=bV (flL l).2) rfl;generalize hx:bV (flL l).1=x at c0;generalize hy:bV (flL l).2=y at c1;have HX:=q_ hx;have HY:=q_ hy;clear HK HK2 HZ hx hy;go_wp2_with fail
    go_quiet (fail)
    go_wp2_with fail
    go_ret2
    exact⟨by rw[HX.o,HY.o];rfl,aai HB.o _⟩)
 generalize bV (flL l).1=x at *;generalize bV (flL l).2=y at *;generalize l.length=n at *;clear h;go_enter func95,ntmps95;go_wp2_with (refine(HM _ (n9 _ _)).o.mono ?_;rintro e w' ⟨rfl,hb⟩;have HB:=q_ hb;clear hb)
 go_ret2
 exact⟨rfl,HB.o⟩
def a1e (s:List UInt8):Bool:=decide (flL (s.take (s.length-2))=(s.getD (s.length-2) 0,s.getD (s.length-1) 0))
def ava (s:List UInt8) (w:World) (e:Ending) (w':World):Prop:=
 if a1e s then ∃B d,e=.returned (.tuple #[.slice B (s.length-2) d,.bool true])/\qf (λb=>w.1.size<=b/\b<w'.1.size) w' B (bsV (s.take (s.length-2)))/\s.length-2<=d/\Below w.1.size w w'
 else e=.returned (.tuple #[.slice none 0 0,.bool false])/\Below w.1.size w w'
theorem bf3 (u v x y:UInt8) (W:World):(binOp .neq 219 (.agg #[.int .u8 (u.toNat:Int),.int .u8 (v.toNat:Int)]) (.agg #[.int .u8 (x.toNat:Int),.int .u8 (y.toNat:Int)])).run prog W=.ok (.bool (!decide ((u,v)=(x,y)))) W:=by
 have kv:∀x y:UInt8,KV 219 [.int .u8 (x.toNat:Int),.int .u8 (y.toNat:Int)] [.int .u8 (x.toNat:Int),.int .u8 (y.toNat:Int)]:=λx y=>
  ak5 underlying219 underlying5 kr dc (by decide +kernel) kr [(x.toNat:Int),(y.toNat:Int)] rfl (λn hn=>by
   simp only[b03,b2o,b4u]at hn;rcases hn with rfl|rfl<;>exact bop _)
 have h:=awk (m:=10) underlying219 kr dc (kv u v) (kv x y) W
 rw[show decide ((u,v)=(x,y))=decide (([.int .u8 (u.toNat:Int),.int .u8 (v.toNat:Int)]:List Lit)=[.int .u8 (x.toNat:Int),.int .u8 (y.toNat:Int)])from by
  apply decide_eq_decide.2;simp[b1y,Int.natCast_inj]]
 exact h
theorem az8 {Q:Nat->Prop} {w:World} (A:Option Addr) (s:List UInt8) (c:Nat) (h:qf Q w A (bsV s)) (h2:2<=s.length) (hm:s.length<=1100000) (hc:s.length<=c) :
 Calls prog 77 #[.slice A s.length c] w (ava s w):=by
 obtain⟨n,hn⟩:∃n,s.length=n+2:=⟨s.length-2,by omega⟩;obtain⟨b,off,rfl,-,-⟩:=h 0 (bV (s[0]'(by omega))) (v9 om);have htl:(s.take n).length=n:=by rw[l8];omega
 have hft:qf Q w (some ⟨b,off,none⟩) (bsV (s.take n)):=by have:=h.first n;rwa [ys]at this
 have HO:∀W,Below w.1.size w W->Q_ (Calls prog 95 #[.slice (some ⟨b,off,none⟩) n c] W λe w'=>e=.returned (.tuple #[bV (flL (s.take n)).1,bV (flL (s.take n)).2])/\Below W.1.size W w'):=λW hW=>q_ (by
  have:=ba0 (w:=W) (some ⟨b,off,none⟩) (s.take n) c (hft.lt.below hW (λb q=>q.2)) om
  rwa [htl]at this)
 have HC:∀W,Below w.1.size w W->Q_ (Calls prog 92 #[.slice (some ⟨b,off,none⟩) n c] W λe w'=>∃B d,e=.returned (.slice B n d)/\qf (λb=>W.1.size<=b/\b<w'.1.size) w' B (bsV (s.take n))/\n<=d/\Below W.1.size W w'):=λW hW=>q_ (by
  have:=ao4 (some ⟨b,off,none⟩) (s.take n) c W (hft.lt.below hW (λb q=>q.2)) om
  rwa [htl]at this)
 obtain⟨x,hx⟩:∃x,s[n]?=some x:=⟨_,d7 om⟩;obtain⟨y,hy⟩:∃y,s[n+1]?=some y:=⟨_,d7 om⟩;have g0:=h.lt n (bV x) (by unfold bsV;rw[b0l,hx];rfl);have g1:=h.lt (n+1) (bV y) (by unfold bsV;rw[b0l,hy];rfl)
 have ho:a1e s=decide (flL (s.take n)=(x,y)):=by
  unfold a1e;rw[show s.length-2=n from by omega,show s.length-1=n+1 from by omega,l9,l9,hx,hy];rfl
 unfold ava;rw[ho,show s.length-2=n from by omega];clear h2 hx hy;rw[hn]at hm hc ⊢;have HFT:=q_ hft;clear hn htl h ho hft;generalize s.take n=l at *;generalize flL l=p at *;obtain⟨u,v⟩:=p;obtain⟨b1,o1,e1,q1,d0⟩:=g0;injection e1 with e1;injection e1 with e1 e2;subst e1 e2
 obtain⟨b1,o1,e1,q2,d1⟩:=g1;injection e1 with e1;injection e1 with e1 e2;subst e1 e2
 have HE:∃bb,Q_ (decide ((u,v)=(x,y))=bb):=⟨_,rfl⟩;have HN:=λW=>bf3 u v x y W
 obtain⟨bb,HBB⟩:=HE;rw[HBB.o];simp only[HBB.o]at HN;dsimp only[bV]at *;have HD0:=q_ d0;have HD1:=q_ d1;have HQ1:=q_ q1.2;have f1:IntKind.i64.wrap (((n+2:Nat):Int)-2)=(n:Int):=by rw[b05 _ om];omega
 have f2:(((n+2:Nat):Int)-2)=(n:Int):=by omega
 have f3:(n:Int)<=c:=by omega
 have f4:(0:Int) <=(n:Int):=o5 _;have f5:(n:Int)<((n+2:Nat):Int):=by omega
 have f6:(n:Int)+1<((n+2:Nat):Int):=by omega
 have f7:IntKind.i64.wrap ((n:Int)+1)=(n:Int)+1:=b05 _ om;have f8:(0:Int) <=(n:Int)+1:=by omega
 clear d0 d1 q1 q2;generalize hN2:n+2=m at *;have HZ:∀W,Below (w.alloc (.cells #[.int .u8 0,.int .u8 0] 219)).1.size (w.alloc (.cells #[.int .u8 0,.int .u8 0] 219)) W->Q_ (Blk W w.1.size [.int .u8 0,.int .u8 0]):=λW hW=>q_ ((Blk.newL (qg w _ _) rfl).on hW)
 go_enter func77,ntmps77;go_wp2_with fail;refine(HO _ (qa _ _)).o.mono ?_;rintro e w1 ⟨rfl,hb⟩;have HB1:=q_ (qb (qa _ _) hb);have HZ1:=HZ _ hb;have z0:=HZ1.o.cell 0 (v:=.int .u8 0) rfl;have z1:=HZ1.o.cell 1 (v:=.int .u8 0) rfl;have y0:=HZ1.o.fz 0;have y1:=HZ1.o.fz 1;clear hb HO HZ;go_upto_region 6 with fail;have hs:qq w1 ((w1.setCell ⟨w.1.size,0,none⟩ (.int .u8 (u.toNat:Int))).setCell ⟨w.1.size,1,none⟩ (.int .u8 (v.toNat:Int))) w.1.size 0 [.int .u8 (u.toNat:Int),.int .u8 (v.toNat:Int)]:=qo (cs:=[.int .u8 (u.toNat:Int),.int .u8 (v.toNat:Int)]) (HZ1.o.there 0 2 (a8 _));have HK2:=q_ (HZ1.o.all hs rfl);have HB2:Q_ (Below w.1.size w ((w1.setCell ⟨w.1.size,0,none⟩ (.int .u8 (u.toNat:Int))).setCell ⟨w.1.size,1,none⟩ (.int .u8 (v.toNat:Int)))):=q_ (HB1.o.trans (hs.below (a8 _)));clear hs z0 z1 y0 y1 HZ1 HB1;generalize (w1.setCell ⟨w.1.size,0,none⟩ (.int .u8 (u.toNat:Int))).setCell ⟨w.1.size,1,none⟩ (.int .u8 (v.toNat:Int))=W2 at *
 try (apply b1q;intro K_ HK_)
 have hS0:Below W2.1.size W2 W2.drew:=(n9 _ _).drew;refine t6 (S:=λw'=>Below W2.1.size W2 w') kr hS0 (λhHeld0=>?_);have HL1:Q_ (b<W2.1.size):=q_ (i9 HQ1.o HB2.o.size);have d0:=q_ ((HB2.o.cell (p:=⟨b,off+n,none⟩) HQ1.o).trans HD0.o);have d1:=q_ ((HB2.o.cell (p:=⟨b,off +(n+1),none⟩) HQ1.o).trans HD1.o);refine tkQ (i:=0) (oi:=⟨some 20,_,_,_,_,_⟩) (v:=_) rfl (o4 (by rfl) 219 _ rfl w.1.size 0 rfl [.int .u8 (u.toNat:Int),.int .u8 (v.toNat:Int)] _ (λw' hSw=>(HK2.o.on hSw).rg) underlying219 rfl kr) ?_;go_frame;refine tkA 1 21 rfl ?_;go_frame;refine tkA 2 22 rfl ?_;go_frame;refine tkA 3 23 rfl ?_;go_frame;refine tkQ (i:=4) (oi:=⟨some 24,_,_,_,_,_⟩) (v:=?_) rfl (Or.inl ⟨by rfl,?_⟩) ?_;rotate_left
 ·intro w' hSw;have q:=(hSw.cell (p:=⟨b,off+n,none⟩) HL1.o).trans d0.o;go_simp
  try with_reducible rfl
 try go_frame
 refine tkA 5 25 rfl ?_;go_frame;refine tkA 6 26 rfl ?_;go_frame;refine tkA 7 27 rfl ?_;go_frame;refine tkA 8 28 rfl ?_;go_frame;refine tkQ (i:=9) (oi:=⟨some 29,_,_,_,_,_⟩) (v:=?_) rfl (Or.inl ⟨by rfl,?_⟩) ?_;rotate_left
 ·intro w' hSw;have q:=(hSw.cell (p:=⟨b,off +(n+1),none⟩) HL1.o).trans d1.o;go_simp
  try with_reducible rfl
 try go_frame
 refine tkA 10 30 rfl ?_;go_frame;refine tkQ (i:=11) (oi:=⟨some 31,_,_,_,_,_⟩) (v:=_) rfl (aat (by rfl) .neq 219 (.tmp 20) (.tmp 30) 219 rfl rfl rfl (λw=>by kernel_rfl) HN) ?_;go_frame;refine b0m kr ?_ _
 try go_frame
 clear hHeld0 hS0 HL1 d0 d1;have HB3:Q_ (Below w.1.size w W2.drew):=q_ HB2.o.drew;generalize W2.drew=W3 at *;cases bb
 ·go_wp2_with fail
  go_ret2
  exact⟨rfl,HB3.o⟩
 ·go_wp2_with (refine(HC _ HB3.o).o.mono ?_;rintro e w4 ⟨B,d,rfl,hf,hd,hb⟩;have HF:=q_ (o3 hf (o3 hd hb));clear hf hd hb)
  go_ret2
  exact⟨B,d,rfl,HF.o.1.less λb q=>⟨p9 HB3.o.size q.1,q.2⟩,HF.o.2.1,qb HB3.o HF.o.2.2⟩
theorem a0d (n:Nat) (w:World) (h:n<=100000):Calls prog 76 #[.int .i64 n] w λe w'=>e=.returned (.int .i64 (if n<=1016 then((n+8:Nat):Int)else 0))/\w=w':=by
 have HF:∀W,Q_ (Calls prog 94 #[.int .i64 n] W λe w'=>e=.returned (.bool (decide ((n:Int)<=1016)))/\W=w'):=λW=>q_ (by
  have h0:(0:Int) <=(n:Int):=o5 _;go_enter func94,ntmps94;go_wp2;go_ret;exact⟨rfl,rfl⟩)
 by_cases h1:n<=1016
 ·have e1:decide ((n:Int)<=1016)=true:=t8 om;simp only[e1]at HF;rw[if_pos h1];have e2:((n+8:Nat):Int)=6 +(n:Int)+2:=by omega
  rw[e2];clear e1 e2;go_enter func76,ntmps76;go_wp2_with (refine(HF _).o.mono ?_;rintro e w' ⟨rfl,rfl⟩);go_ret;exact⟨rfl,rfl⟩
 ·have e1:decide ((n:Int)<=1016)=false:=o7 om;simp only[e1]at HF;rw[if_neg h1];clear e1;go_enter func76,ntmps76;go_wp2_with (refine(HF _).o.mono ?_;rintro e w' ⟨rfl,rfl⟩);go_ret;exact⟨rfl,rfl⟩
def zy (l:List UInt8) (k:Nat):UInt8:=l.getD k 0
structure bie where
 e:Int
 n:Nat
 cls:Nat
 id:Nat
 pl:List UInt8
def aex (e:Int):bie:=⟨e,0,0,0,[]⟩
def abt (b:List UInt8):bie:=
 if vu b=false then aex 3 else if b.length<6 then aex 2 else
  if 1016<(zy b 4).toNat+256*(zy b 5).toNat then aex 7 else if b.length<(zy b 4).toNat+256*(zy b 5).toNat+8 then aex 2 else
   if a1e ((b.drop 2).take ((zy b 4).toNat+256*(zy b 5).toNat+6))then⟨0,(zy b 4).toNat+256*(zy b 5).toNat+8,(zy b 2).toNat,(zy b 3).toNat,(b.drop 6).take ((zy b 4).toNat+256*(zy b 5).toNat)⟩else aex 4
def au8 (f:bie) (w:World) (e:Ending) (w':World):Prop:=
 ∃A c,e=.returned (.tuple #[.agg #[.int .i64 f.cls,.int .i64 f.id,.slice A f.pl.length c],.int .i64 f.n,.int .i64 f.e])/\qf (λb=>w.1.size<=b/\b<w'.1.size) w' A (bsV f.pl)/\f.pl.length<=c/\Below w.1.size w w'
theorem aqg {E:Int} {w:World} {e:Ending} {w':World} (h:e=.returned (.tuple #[ae5,.int .i64 0,.int .i64 E])/\Below w.1.size w w'):au8 (aex E) w e w':=
 ⟨none,0,h.1,qf.nil _ _ _,a8 _,h.2⟩
theorem aik {w1 w:World} {b:Nat} {x y z:Value} (hk:Blk w1 b [x,y,z]) (p q r:Value) (hb:Below b w w1) :
 (loadVar 143 ⟨b,0,none⟩).run prog (((w1.setCell ⟨b,0,none⟩ p).setCell ⟨b,1,none⟩ q).setCell ⟨b,2,none⟩ r)=.ok (.agg #[p,q,r]) (((w1.setCell ⟨b,0,none⟩ p).setCell ⟨b,1,none⟩ q).setCell ⟨b,2,none⟩ r)/\Below b w (((w1.setCell ⟨b,0,none⟩ p).setCell ⟨b,1,none⟩ q).setCell ⟨b,2,none⟩ r)/\∀k,k≠b ->(((w1.setCell ⟨b,0,none⟩ p).setCell ⟨b,1,none⟩ q).setCell ⟨b,2,none⟩ r).heap[k]?=w1.heap[k]?:=by
 have hs:qq w1 (((w1.setCell ⟨b,0,none⟩ p).setCell ⟨b,1,none⟩ q).setCell ⟨b,2,none⟩ r) b 0 [p,q,r]:=qo (cs:=[p,q,r]) (hk.there 0 3 (a8 _));exact⟨(awb hk p q r).1,hb.trans (awb hk p q r).2,hs.far⟩
theorem boi (x:UInt8):jg [x]=x.toNat:=by simp[jg]
theorem bor (x y:UInt8):jg [x,y]=x.toNat+256*y.toNat:=by simp[jg]
theorem a0e {Q:Nat->Prop} {w:World} (A:Option Addr) (c:Nat) (l:List UInt8) (h:qf Q w A (bsV l)) (hm:l.length<=1100000) (hc:l.length<=c) :
 Calls prog 60 #[.slice A l.length c] w (au8 (abt l) w):=by
 by_cases h6:l.length<6
 ·have e:abt l=aex (if vu l then 2 else 3):=by
   unfold abt;cases hb:vu l
   ·rw[if_pos rfl];rfl
   ·rw[if_neg sm,if_pos h6];rfl
  rw[e];exact(asl A c l h h6 hc).mono λe w' q=>aqg q
 obtain⟨x0,x1,x2,x3,x4,x5,r,rfl⟩:∃x0 x1 x2 x3 x4 x5 r,l=x0::x1::x2::x3::x4::x5::r:=by
  rcases l with _|⟨x0,_|⟨x1,_|⟨x2,_|⟨x3,_|⟨x4,_|⟨x5,r⟩⟩⟩⟩⟩⟩<;>first|exact⟨_,_,_,_,_,_,_,rfl⟩|simp at h6
 obtain⟨b,off,rfl,-,-⟩:=h 0 (bV x0) rfl;have HB:∀W,Below w.1.size w W->Q_ (Calls prog 73 #[.slice (some ⟨b,off,none⟩) (x0::x1::x2::x3::x4::x5::r).length c] W λe w'=>e=.returned (.bool (vu (x0::x1::x2::x3::x4::x5::r)))/\Below W.1.size W w'):=λW hW=>q_ (ajb _ c _ (h.lt.below hW (λb q=>q.2)) (by unfold maxLen;omega) hc)
 have HN:∀W,Below w.1.size w W->Q_ (Calls prog 74 #[.slice (some ⟨b,off+2,none⟩) 4 (c-2)] W λe w'=>∃g,e=.returned (.pointer (some ⟨g,0,none⟩))/\RdI (λb=>W.1.size<=b/\b<w'.1.size) w' g (some [x2,x3,x4,x5])/\Below W.1.size W w'):=λW hW=>q_ (by
  have:=(h.lt.below hW (λb q=>q.2)).part 2;have:=this.first 4
  exact aj5 _ [x2,x3,x4,x5] (c-2) W this sm)
 have HO:∀m,m+8 <=(x0::x1::x2::x3::x4::x5::r).length->∀W,Below w.1.size w W->Q_ (Calls prog 77 #[.slice (some ⟨b,off+2,none⟩) (m+6) (c-2)] W (ava ((x2::x3::x4::x5::r).take (m+6)) W)):=λm hm8 W hW=>q_ (by
  have h1:=(h.lt.below hW (λb q=>q.2)).part 2;have h2:=h1.first (m+6)
  have e1:((x2::x3::x4::x5::r).take (m+6)).length=m+6:=by rw[l8];simp only[n6]at *;omega
  have:=az8 (w:=W) (some ⟨b,off+2,none⟩) ((x2::x3::x4::x5::r).take (m+6)) (c-2) (by rw[abs,ys]at h2;exact h2) om (by rw[e1];simp only[n6]at *;omega) (by rw[e1];simp only[n6]at *;omega)
  rwa [e1]at this)
 have hT:abt (x0::x1::x2::x3::x4::x5::r)=if vu (x0::x1::x2::x3::x4::x5::r)=false then aex 3 else
  if 1016<x4.toNat+256*x5.toNat then aex 7 else if(x0::x1::x2::x3::x4::x5::r).length<x4.toNat+256*x5.toNat+8 then aex 2 else
   if a1e ((x2::x3::x4::x5::r).take (x4.toNat+256*x5.toNat+6))then⟨0,x4.toNat+256*x5.toNat+8,x2.toNat,x3.toNat,r.take (x4.toNat+256*x5.toNat)⟩else aex 4:=by
  unfold abt;rw[if_neg (c:=List.length _<6) h6];rfl
 rw[hT];clear h hT;generalize hbb:vu (x0::x1::x2::x3::x4::x5::r)=bb at *;have hlr:(x0::x1::x2::x3::x4::x5::r).length=r.length+6:=rfl;generalize hL:(x0::x1::x2::x3::x4::x5::r).length=L at *;have f6:¬(L:Int)<6:=by omega
 have HLR:=q_ hlr;have HK:∀W,Below (w.alloc (.cells #[.int .i64 0,.int .i64 0,.slice none 0 0] 143)).1.size (w.alloc (.cells #[.int .i64 0,.int .i64 0,.slice none 0 0] 143)) W->Q_ (Blk W w.1.size [.int .i64 0,.int .i64 0,.slice none 0 0]):=λW hW=>q_ ((Blk.newL (qg w _ _) rfl).on hW)
 clear hbb hL hlr;cases bb
 ·rw[if_pos rfl];go_enter func60,ntmps60;go_wp2_with fail;refine(HB _ (qa _ _)).o.mono ?_;rintro e w1 ⟨rfl,hb⟩;have HK1:=HK _ hb;have HB1:=q_ (qb (qa w _) hb);have g0:=HK1.o.cell 0 rfl;have g1:=HK1.o.cell 1 rfl;have g2:=HK1.o.cell 2 rfl;have z0:=HK1.o.fz 0;have z1:=HK1.o.fz 1;have z2:=HK1.o.fz 2;clear hb HB HK HN HO;go_wp2_with fail;obtain⟨r1,r2,-⟩:=aik HK1.o (.int .i64 0) (.int .i64 0) (.slice none 0 0) HB1.o;exact b9 (v:=.tuple #[ae5,.int .i64 0,.int .i64 3]) (by rw[zq rfl];simp[asAddr,Result.andThen,r1,ae5]) rfl (aqg ⟨rfl,r2⟩)
 rw[if_neg sm];have hx4:=x4.toNat_lt;have hx5:=x5.toNat_lt;obtain⟨n,hn⟩:∃n,x4.toNat+256*x5.toNat=n:=⟨_,rfl⟩;have hU1:jg ([x2,x3,x4,x5].take 1)=x2.toNat:=boi x2;have hU2:jg ([x3,x4,x5].take 1)=x3.toNat:=boi x3;have hU3:jg ([x4,x5].take 2)=n:=by rw[<- hn];exact bor x4 x5
 have hx2:=x2.toNat_lt;have hx3:=x3.toNat_lt;have HU1:=fun(QQ:Nat->Prop) W a (q:RdI QQ W a (some [x2,x3,x4,x5]))=>q_ (acs 1 q dc dc sm)
 have HU2:=fun(QQ:Nat->Prop) W a (q:RdI QQ W a (some [x3,x4,x5]))=>q_ (acs 1 q dc dc sm)
 have HU3:=fun(QQ:Nat->Prop) W a (q:RdI QQ W a (some [x4,x5]))=>q_ (acs 2 q dc dc sm)
 rw[hn];simp only[hU1]at HU1;simp only[hU2]at HU2;simp only[hU3]at HU3;have hn9:n<=100000:=by omega
 have HSZ:=λW=>q_ (a0d n W hn9)
 clear hU1 hU2 hU3 hn hx4 hx5;generalize x2.toNat=X2 at *;generalize x3.toNat=X3 at *;have wX2:IntKind.i64.wrap (X2:Int)=(X2:Int):=b05 _ om;have wX3:IntKind.i64.wrap (X3:Int)=(X3:Int):=b05 _ om;have wn:IntKind.i64.wrap (n:Int)=(n:Int):=b05 _ om
 have HPL:Q_ (∀n,(((x2::x3::x4::x5::r).take (n+6)).take (n+4)).drop 4=r.take n):=q_ λn=>by
  rw[List.take_take,b1m om];rfl
 generalize hbl:(x2::x3::x4::x5::r)=BL at *;have f1:¬(L:Int)<6:=by omega
 have f2:(6:Int) <=(c:Int):=by omega
 have f3:(6:Int) <=(L:Int):=by omega
 have f4:(n:Int)<=100000:=by omega
 have f5:(0:Int) <=(n:Int):=o5 _;have HLB:Q_ (BL.length=L-2):=q_ (by rw[<- hbl];simp only[n6];have:=HLR.o;omega);clear hbl
 by_cases h7:1016<n
 ·have e7:(if n<=1016 then((n+8:Nat):Int)else 0)=0:=if_neg om;rw[if_pos h7];simp only[e7]at HSZ;clear e7;go_enter func60,ntmps60;go_wp2_with fail;refine(HB _ (qa _ _)).o.mono ?_;rintro e w1 ⟨rfl,hb⟩;have HK1:=HK _ hb;have HB1:=q_ (qb (qa w _) hb);clear hb HB HK HO;go_wp2_with fail;refine((HN _ HB1.o).o).mono ?_;rintro e w2 ⟨g,rfl,hr,hb⟩;have HR2:=q_ hr;have HK2:=q_ (HK1.o.on hb);have HB2:=q_ (qb HB1.o hb);have HGL:=q_ (i9 HK1.o.lt hr.1.1);clear hr hb HK1 HB1 HN;go_wp2_with fail;refine((HU1 _ _ _ HR2.o).o).mono ?_;rintro e w3 ⟨rfl,hr,hk⟩;have HR3:=q_ hr;have HS3:=q_ hk;clear hr hk HR2;go_wp2_with fail;refine((HU2 _ _ _ HR3.o).o).mono ?_;rintro e w4 ⟨rfl,hr,hk⟩;have HR4:=q_ hr;have HS4:=q_ (HS3.o.trans hk);clear hr hk HR3 HS3;go_wp2_with fail;refine((HU3 _ _ _ HR4.o).o).mono ?_;rintro e w5 ⟨rfl,hr,hk⟩;have HS5:=q_ (HS4.o.trans hk)
  have HK5:=q_ (HK2.o.kept (HS5.o.block _ (b09 HGL.o)) HS5.o.size);have HB5:Q_ (Below w.1.size w w5):=q_ (HB2.o.trans (HS5.o.below (λj hj=>b09 (b1b hj HGL.o))));clear hr hk HR4 HS4 HK2 HB2 HS5;have g0:=HK5.o.cell 0 rfl;have g1:=HK5.o.cell 1 rfl;have g2:=HK5.o.cell 2 rfl;have z0:=HK5.o.fz 0;have z1:=HK5.o.fz 1;have z2:=HK5.o.fz 2;go_wp2_with (refine(HSZ _).o.mono ?_;rintro e w' ⟨rfl,rfl⟩);obtain⟨r1,r2,-⟩:=aik HK5.o (.int .i64 0) (.int .i64 0) (.slice none 0 0) HB5.o;exact b9 (v:=.tuple #[ae5,.int .i64 0,.int .i64 7]) (by rw[zq rfl];simp[asAddr,Result.andThen,r1,ae5]) rfl (aqg ⟨rfl,r2⟩)
 rw[if_neg h7];have e7:(if n<=1016 then((n+8:Nat):Int)else 0)=((n+8:Nat):Int):=if_pos om;simp only[e7]at HSZ;clear e7;obtain⟨s,hs⟩:∃s,n+8=s:=⟨_,rfl⟩;rw[hs]at HSZ ⊢;have f8:((s:Int)==0)=false:=by rw[l7];omega
 by_cases h8:L<s
 ·have f9:(L:Int)<(s:Int):=by omega
  rw[if_pos h8];go_enter func60,ntmps60;go_wp2_with fail;refine(HB _ (qa _ _)).o.mono ?_;rintro e w1 ⟨rfl,hb⟩;have HK1:=HK _ hb;have HB1:=q_ (qb (qa w _) hb);clear hb HB HK HO;go_wp2_with fail;refine((HN _ HB1.o).o).mono ?_;rintro e w2 ⟨g,rfl,hr,hb⟩;have HR2:=q_ hr;have HK2:=q_ (HK1.o.on hb);have HB2:=q_ (qb HB1.o hb);have HGL:=q_ (i9 HK1.o.lt hr.1.1);clear hr hb HK1 HB1 HN;go_wp2_with fail;refine((HU1 _ _ _ HR2.o).o).mono ?_;rintro e w3 ⟨rfl,hr,hk⟩;have HR3:=q_ hr;have HS3:=q_ hk;clear hr hk HR2;go_wp2_with fail;refine((HU2 _ _ _ HR3.o).o).mono ?_;rintro e w4 ⟨rfl,hr,hk⟩;have HR4:=q_ hr;have HS4:=q_ (HS3.o.trans hk);clear hr hk HR3 HS3;go_wp2_with fail;refine((HU3 _ _ _ HR4.o).o).mono ?_;rintro e w5 ⟨rfl,hr,hk⟩;have HS5:=q_ (HS4.o.trans hk);have HK5:=q_ (HK2.o.kept (HS5.o.block _ (b09 HGL.o)) HS5.o.size)
  have HB5:Q_ (Below w.1.size w w5):=q_ (HB2.o.trans (HS5.o.below (λj hj=>b09 (b1b hj HGL.o))));clear hr hk HR4 HS4 HK2 HB2 HS5;have g0:=HK5.o.cell 0 rfl;have g1:=HK5.o.cell 1 rfl;have g2:=HK5.o.cell 2 rfl;have z0:=HK5.o.fz 0;have z1:=HK5.o.fz 1;have z2:=HK5.o.fz 2;go_wp2_with (refine(HSZ _).o.mono ?_;rintro e w' ⟨rfl,rfl⟩);obtain⟨r1,r2,-⟩:=aik HK5.o (.int .i64 0) (.int .i64 0) (.slice none 0 0) HB5.o;exact b9 (v:=.tuple #[ae5,.int .i64 0,.int .i64 2]) (by rw[zq rfl];simp[asAddr,Result.andThen,r1,ae5]) rfl (aqg ⟨rfl,r2⟩)
 rw[if_neg h8];have f9:(s:Int) <=(L:Int):=by omega
 have f10:(s:Int) <=(c:Int):=by omega
 have f11:(2:Int) <=(s:Int):=by omega
 have HO2:=HO n om;have hlt6:(BL.take (n+6)).length=n+6:=by rw[l8];have:=HLB.o;have:=HLR.o;omega
 have HOC:∀bb,a1e (BL.take (n+6))=bb->∀W,Below w.1.size w W->Q_ (Calls prog 77 #[.slice (some ⟨b,off+2,none⟩) (n+6) (c-2)] W λe w'=>if bb then ∃B d,e=.returned (.tuple #[.slice B (n+4) d,.bool true])/\qf (λb=>W.1.size<=b/\b<w'.1.size) w' B (bsV ((BL.take (n+6)).take (n+4)))/\n+4<=d/\Below W.1.size W w' else e=.returned (.tuple #[.slice none 0 0,.bool false])/\Below W.1.size W w'):=λbb hbb W hW=>q_ (by
  have:=(HO2 W hW).o;unfold ava at this;rw[hbb,hlt6]at this;exact this)
 have hcs:(s:Int)-2=(n:Int)+6:=by omega
 have hcs2:s-2=n+6:=by omega
 have HPN:=q_ (HPL.o n);obtain⟨bb,hbb⟩:∃bb,a1e (BL.take (n+6))=bb:=⟨_,rfl⟩;have HO3:=HOC bb hbb;have HPLL:Q_ (((BL.take (n+6)).take (n+4)).length=n+4):=q_ (by rw[l8,hlt6];omega);obtain⟨res,hres⟩:∃res,(if a1e (BL.take (n+6))=true then(⟨0,s,X2,X3,r.take n⟩:bie)else aex 4)=res:=⟨_,rfl⟩;rw[hres];rw[hbb]at hres;have HRES:=q_ hres;clear hres;have HRL:Q_ ((r.take n).length=n):=q_ (by rw[l8];have:=HLR.o;omega);clear HO HO2 HOC hbb hlt6 HPL;generalize (BL.take (n+6)).take (n+4)=PL at *;go_enter func60,ntmps60;go_wp2_with fail;refine(HB _ (qa _ _)).o.mono ?_;rintro e w1 ⟨rfl,hb⟩;have HK1:=HK _ hb;have HB1:=q_ (qb (qa w _) hb);clear hb HB HK;go_wp2_with fail;refine((HN _ HB1.o).o).mono ?_;rintro e w2 ⟨g,rfl,hr,hb⟩;have HR2:=q_ hr;have HK2:=q_ (HK1.o.on hb);have HB2:=q_ (qb HB1.o hb);have HGL:=q_ (i9 HK1.o.lt hr.1.1)
 clear hr hb HK1 HB1 HN;go_wp2_with fail;refine((HU1 _ _ _ HR2.o).o).mono ?_;rintro e w3 ⟨rfl,hr,hk⟩;have HR3:=q_ hr;have HS3:=q_ hk;clear hr hk HR2;go_wp2_with fail;refine((HU2 _ _ _ HR3.o).o).mono ?_;rintro e w4 ⟨rfl,hr,hk⟩;have HR4:=q_ hr;have HS4:=q_ (HS3.o.trans hk);clear hr hk HR3 HS3;go_wp2_with fail;refine((HU3 _ _ _ HR4.o).o).mono ?_;rintro e w5 ⟨rfl,hr,hk⟩;have HS5:=q_ (HS4.o.trans hk);have HK5:=q_ (HK2.o.kept (HS5.o.block _ (b09 HGL.o)) HS5.o.size);have HB5:Q_ (Below w.1.size w w5):=q_ (HB2.o.trans (HS5.o.below (λj hj=>b09 (b1b hj HGL.o))));clear hr hk HR4 HS4 HK2 HB2 HS5;have g0:=HK5.o.cell 0 rfl;have g1:=HK5.o.cell 1 rfl;have g2:=HK5.o.cell 2 rfl;have z0:=HK5.o.fz 0;have z1:=HK5.o.fz 1;have z2:=HK5.o.fz 2;go_wp2_with (refine(HSZ _).o.mono ?_;rintro e w' ⟨rfl,rfl⟩);refine(HO3 _ HB5.o).o.mono ?_
 rintro e w6 hq;cases bb
 ·have hre:=HRES.o;rw[if_neg sm]at hre;subst hre;obtain⟨rfl,hb⟩:=hq;have HK6:=q_ (HK5.o.on hb);have HB6:=q_ (qb HB5.o hb);clear hb HK5 HB5 g0 g1 g2 z0 z1 z2;have g0:=HK6.o.cell 0 rfl;have g1:=HK6.o.cell 1 rfl;have g2:=HK6.o.cell 2 rfl;have z0:=HK6.o.fz 0;have z1:=HK6.o.fz 1;have z2:=HK6.o.fz 2;go_wp2_with fail;obtain⟨r1,r2,-⟩:=aik HK6.o (.int .i64 0) (.int .i64 0) (.slice none 0 0) HB6.o;exact b9 (v:=.tuple #[ae5,.int .i64 0,.int .i64 4]) (by rw[zq rfl];simp[asAddr,Result.andThen,r1,ae5]) rfl (aqg ⟨rfl,r2⟩)
 ·have hre:=HRES.o;rw[if_pos rfl]at hre;subst hre;obtain⟨B,d,rfl,hf,hd,hb⟩:=hq;have hpl:=HPLL.o;obtain⟨bq,oq,rfl,-,-⟩:=hf 0 (bV (PL[0]'(by omega))) (v9 om);have HK6:=q_ (HK5.o.on hb);have HB6:=q_ (qb HB5.o hb);have HF6:=q_ (o3 hf (o3 hd HB5.o.size));have HKL:=q_ (i9 HK5.o.lt (a8 _));clear hb HK5 HB5 g0 g1 g2 z0 z1 z2 hf hpl;have g0:=HK6.o.cell 0 rfl;have g1:=HK6.o.cell 1 rfl;have g2:=HK6.o.cell 2 rfl;have z0:=HK6.o.fz 0;have z1:=HK6.o.fz 1;have z2:=HK6.o.fz 2;have f12:(4:Int) <=(n:Int)+4:=by omega
  have f13:(n:Int)+4 <=(d:Int):=by omega
  by_cases hd4:d=4
  ·obtain rfl:n=0:=by omega
   subst hd4;go_wp2_with fail;obtain⟨r1,r2,r3⟩:=aik HK6.o (.int .i64 X2) (.int .i64 X3) (.slice (some ⟨bq,oq,none⟩) 0 0) HB6.o;refine b9 (v:=.tuple #[.agg #[.int .i64 X2,.int .i64 X3,.slice (some ⟨bq,oq,none⟩) 0 0],.int .i64 s,.int .i64 0]) (by rw[zq rfl];simp[asAddr,Result.andThen];rw[r1]) rfl ⟨some ⟨bq,oq,none⟩,0,rfl,qf.nil _ _ _,a8 _,r2⟩
  ·have f14:¬(4:Int)=(d:Int):=by omega
   have f15:¬(4:Nat)=d:=by omega
   go_wp2_with fail;obtain⟨r1,r2,r3⟩:=aik HK6.o (.int .i64 X2) (.int .i64 X3) (.slice (some ⟨bq,oq+4,none⟩) n (d-4)) HB6.o;have hfl:=HF6.o.1.part 4;rw[abs,HPN.o]at hfl;refine b9 (v:=.tuple #[.agg #[.int .i64 X2,.int .i64 X3,.slice (some ⟨bq,oq+4,none⟩) n (d-4)],.int .i64 s,.int .i64 0]) (by rw[zq rfl];simp[asAddr,Result.andThen];rw[r1]) rfl ⟨some ⟨bq,oq+4,none⟩,d-4,by rw[HRL.o],?_,by rw[HRL.o];omega,r2⟩;refine(hfl.keep λk hk=>r3 k (λe=>?_)).less λk hk=>⟨p9 HF6.o.2.2 hk.1,by simpa using hk.2⟩
   have:=HKL.o;omega
theorem bkp (kd:Int) (w:World):(Instr.build 38 #[(0,.int .i64 kd)]).run prog w=.ok (.agg (ubZ kd).toArray) w:=by kernel_rfl
theorem alv {L:List Value} (h:L.length=48):(prog.info? 38).map (·.size)=some L.toArray.size:=by
 rw[o6,h];kernel_rfl
theorem bko (kd:Int):∀v∈ubZ kd,v.oneCell'=true:=by
 intro v hv;have h1:∀v∈ki,v.oneCell'=true:=by decide +kernel
 rcases b03.1 (show v∈.int .i64 kd::ki.tail from hv)with rfl|h
 ·rfl
 ·exact h1 v (List.mem_of_mem_tail h)
theorem ad3.ones {Q:Nat->Prop} {w:World} {L:List Value} {u:aes} (h:ad3 Q w L u):∀v∈L,v.oneCell'=true:=by
 obtain⟨P,ss,D,A,sp,rfl,h1,⟨_,_,rfl,-,-⟩,h3,h4,⟨_,_,rfl,-,-⟩⟩:=h;intro v hv;simp only[b1z,b03,b2o,b4u]at hv;rcases hv with rfl|hv|rfl|rfl|hv|hv|rfl|rfl
 ·rfl
 ·exact KV.ones (m:=10) kr h1 v hv
 ·rfl
 ·rfl
 ·exact KV.ones (m:=10) kr h3 v hv
 ·exact KV.ones (m:=10) kr h4 v hv
 ·rfl
 ·rfl
def bej (x:Int×aes) (w:World) (e:Ending) (w':World):Prop:=∃L,e=.returned (.tuple #[.agg L.toArray,.int .i64 x.1])/\ad3 (λb=>w.1.size<=b/\b<w'.1.size) w' L x.2/\Below w.1.size w w'
theorem ah8 {W:World} {b:Nat} {L:List Value} (h:Blk W b L) (hl:L.length=48):(loadVar 38 ⟨b,0,none⟩).run prog W=.ok (.agg L.toArray) W:=
 t9 (P:=prog) W b 0 38 L _ h.rg underlying38 sm (by rw[hl];kernel_rfl)
theorem alu {W W':World} {b:Nat} {L0 L:List Value} (h:Blk W b L0) (hs:qq W W' b 0 L.toArray.toList) (h1:L.length=L0.length):Blk W' b L:=h.all (by simpa using hs) h1
theorem afy {W:World} {b:Nat} {L0 L:List Value} (h:Blk W b L0) (h0:L0.length=48) (h1:L.length=48):W.there b 0 L.toArray.size:=by
 rw[o6,h1];exact h.there 0 48 om
theorem ayc {w:World} (c i n d:Nat) (A:Option Addr) (hnil:vl c i=.nilIface):Calls prog 61 #[.agg #[.int .i64 c,.int .i64 i,.slice A n d]] w (bej (6,aau) w):=by
 have HZ:=λW=>q_ (al5 W)
 have HB0:=λW=>q_ (ajv W)
 have HN:=λW=>q_ (alt c i W)
 rw[hnil]at HN;clear hnil;go_enter func61,ntmps61;go_upto_region 1 with(refine qc rfl 38 rfl aer (HZ _).o ?_;intro W1 hW1;have HG1:=q_ hW1;clear hW1)
 try go_frame
 have HX1:Q_ (Blk W1 w.1.size [.int .i64 c,.int .i64 i,.slice A n d]):=q_ ((Blk.newL (qg w _ _) rfl).on HG1.o.bel);have hsz:(w.alloc (.cells #[.int .i64 c,.int .i64 i,.slice A n d] 143)).1.size=w.1.size+1:=by simp
 have HR1:Q_ (Blk W1 (w.1.size+1) ki):=q_ (by have:=Blk.newL (L:=ki) HG1.o rfl;rwa [hsz]at this);have HB1:Q_ (Below w.1.size w W1):=q_ (qb (qa _ _) HG1.o.bel);clear hsz HG1;have x0:=HX1.o.cell 0 (v:=.int .i64 c) rfl;have x1:=HX1.o.cell 1 (v:=.int .i64 i) rfl;have HRS:Q_ (w.1.size<=w.1.size+1):=q_ (b2r _);generalize w.1.size+1=r at *
 go_wp2_with (first
  | (refine(HN _).o.mono ?_;rintro e w' ⟨rfl,rfl⟩)
  | refine zo rfl 38 rfl (HB0 _).o ?_
  | (refine qe rfl 38 _ _ rfl r 0 aer rfl rfl (HR1.o.there 0 48 (a8 _)) kr (by decide +kernel) ?_;intro W5 hs;have HR5:Q_ (Blk W5 r ki):=q_ (HR1.o.all hs rfl);have HB5:=q_ (HB1.o.trans (hs.below HRS.o));clear hs))
 have HLD:=q_ (ah8 HR5.o rfl);exact b9 (v:=.tuple #[.agg aer,.int .i64 6]) (by rw[zj rfl];simp[asAddr,Result.andThen];rw[HLD.o];rfl) rfl ⟨ki,rfl,am3 _ _ 0,HB5.o⟩
theorem aep {w:World} (c i n d:Nat) (A:Option Addr) (T fk ft:Nat) (kd E:Int) (u:aes) (hT:vl c i=.iface T (.agg #[]))
 (h1:∀(x:Value) (W:World),(method 526 T x "landfall/ubx.kind").run prog W=.ok (fk,x) W) (h2:∀(x:Value) (W:World),(callFunc fk #[x]).run prog W=.ok (.enter fk #[x]) W)
 (h3:∀(x:Value) (W:World),(method 526 T x "landfall/ubx.take").run prog W=.ok (ft,x) W) (h4:∀(x y z t:Value) (W:World),(callFunc ft #[x,y,z,t]).run prog W=.ok (.enter ft #[x,y,z,t]) W)
 (hk:∀W,Calls prog fk #[.agg #[]] W λe w'=>e=.returned (.int .i64 kd)/\Below W.1.size W w')
 (ht:∀W mb,Below w.1.size w W->Blk W mb (ubZ kd)->Calls prog ft #[.agg #[],.pointer (some ⟨mb,0,none⟩),.slice A n d,.int .i64 i] W (UTk mb E u W)) :
 Calls prog 61 #[.agg #[.int .i64 c,.int .i64 i,.slice A n d]] w (bej (if E=0 then(0,u)else(E,aau)) w):=by
 have HZ:=λW=>q_ (al5 W)
 have HB0:=λW=>q_ (ajv W)
 have HBK:=λW=>q_ (bkp kd W)
 have HN:=λW=>q_ (alt c i W)
 have HKD:=λW=>q_ (hk W)
 have HTK:=λW mb hb hm=>q_ (ht W mb hb hm)
 have HSK:=q_ (alv (L:=ubZ kd) rfl);have HOK:=q_ (kf (C:=(ubZ kd).toArray) (λv hv=>bko kd v (by simpa using hv)));obtain⟨res,hres⟩:∃res,(if E=0 then((0:Int),u)else(E,aau))=res:=⟨_,rfl⟩;rw[hres];have HRES:=q_ hres;rw[hT]at HN;clear hT hk ht hres;go_enter func61,ntmps61;go_upto_region 1 with(refine qc rfl 38 rfl aer (HZ _).o ?_;intro W1 hW1;have HG1:=q_ hW1;clear hW1)
 try go_frame
 have HX1:Q_ (Blk W1 w.1.size [.int .i64 c,.int .i64 i,.slice A n d]):=q_ ((Blk.newL (qg w _ _) rfl).on HG1.o.bel);have hsz:(w.alloc (.cells #[.int .i64 c,.int .i64 i,.slice A n d] 143)).1.size=w.1.size+1:=by simp
 have HR1:Q_ (Blk W1 (w.1.size+1) ki):=q_ (by have:=Blk.newL (L:=ki) HG1.o rfl;rwa [hsz]at this);have HB1:Q_ (Below w.1.size w W1):=q_ (qb (qa _ _) HG1.o.bel);clear hsz HG1;have x0:=HX1.o.cell 0 (v:=.int .i64 c) rfl;have x1:=HX1.o.cell 1 (v:=.int .i64 i) rfl;have HRS:Q_ (w.1.size<=w.1.size+1):=q_ (b2r _);generalize w.1.size+1=r at *;go_wp2_with (refine(HN _).o.mono ?_;rintro e w' ⟨rfl,rfl⟩);refine(HKD _).o.mono ?_;rintro e w2 ⟨rfl,hb⟩;have HX2:=q_ (HX1.o.on hb);have HR2:=q_ (HR1.o.on hb);have HB2:=q_ (qb HB1.o hb);clear hb HX1 HR1 HB1 x0 x1 h1 h2 HKD HN
 go_upto_region 5 with(first
  | refine zf (u:=.int .i64 kd) rfl 38 0 _ rfl rfl (HBK _).o ?_
  | (refine qc rfl 38 rfl aer (HZ _).o ?_;intro W3 hW3;have HM3:=q_ (Blk.newL (L:=ki) hW3 rfl);have HX3:=q_ (HX2.o.on hW3.bel);have HR3:=q_ (HR2.o.on hW3.bel);have HB3:=q_ (qb HB2.o hW3.bel);have HL3:=q_ hW3.sz;clear hW3)
  | (refine qe rfl 38 _ _ rfl w2.1.size 0 (ubZ kd).toArray rfl rfl (afy HM3.o rfl rfl) HSK.o HOK.o ?_;intro W4 hs;have HM4:Q_ (Blk W4 w2.1.size (ubZ kd)):=q_ (alu HM3.o hs rfl);have HX4:=q_ (HX3.o.far hs (b09 HX2.o.lt));have HR4:=q_ (HR3.o.far hs (b09 HR2.o.lt));have HB4:=q_ (HB3.o.trans (hs.below HB2.o.size));clear hs))
 try go_frame
 have HTX:=HTK _ _ HB4.o HM4.o;have x1:=HX4.o.cell 1 (v:=.int .i64 i) rfl;have x2:=HX4.o.cell 2 (v:=.slice A n d) rfl;have HW2:Q_ (w.1.size<w2.1.size/\r<w2.1.size/\w2.1.size<W4.1.size):=q_ ⟨HX2.o.lt,HR2.o.lt,HM4.o.lt⟩;clear HTK HX2 HR2 HX3 HR3 HM3 HB3 HL3 HX4;go_wp2_with fail;refine HTX.o.mono ?_;rintro e w5 ⟨rfl,hks,L,hL1,hL2,hL3⟩;have HM5:=q_ hL1;have HR5:=q_ (HR4.o.kept (hks.block r ⟨by have:=HW2.o;omega,by have:=HW2.o;omega⟩) hks.size);have HB5:Q_ (Below w.1.size w w5):=q_ (HB4.o.trans (hks.below (λj hj=>⟨by have:=HW2.o;omega,by have:=HW2.o;omega⟩)));have HLL:=q_ (o3 hL2 hL3);have HW5:Q_ (W4.1.size<=w5.1.size/\w.1.size<=W4.1.size):=q_ ⟨hks.size,by have:=HW2.o;omega⟩;clear hks hL1 hL2 hL3 x1 x2 HTX HR4 HB4 h3 h4 HM4
 by_cases hE:E=0
 ·subst hE;have HQ:=q_ (HLL.o.2 rfl);have hl:=HLL.o.1;have HSZ:=q_ (alv hl);have HON:=q_ (kf (C:=L.toArray) (λv hv=>HQ.o.ones v (by simpa using hv)));have HLn:=q_ hl;have hre:=HRES.o;rw[if_pos rfl]at hre;subst hre;clear hl HLL
  go_wp2_with (first
   | refine b0q rfl 38 _ rfl w2.1.size 0 rfl L _ HM5.o.rg underlying38 sm (by rw[HLn.o];kernel_rfl) ?_
   | (refine qe rfl 38 _ _ rfl r 0 L.toArray rfl rfl (afy HR5.o rfl HLn.o) HSZ.o HON.o ?_;intro W6 hs;have HR6:Q_ (Blk W6 r L):=q_ (alu HR5.o hs HLn.o);have HS6:=q_ hs;have HB6:=q_ (HB5.o.trans (hs.below HRS.o));clear hs))
  have HLD:=q_ (ah8 HR6.o HLn.o);refine b9 (v:=.tuple #[.agg L.toArray,.int .i64 0]) (by rw[zj rfl];simp[asAddr,Result.andThen];rw[HLD.o]) rfl ⟨L,rfl,?_,HB6.o⟩;refine(HQ.o.keep λk hk=>HS6.o.far k (by have:=HW2.o;have:=hk.1;omega)).less λk hk=>⟨p9 HW5.o.2 hk.1,by rw[HS6.o.sz];exact hk.2⟩
 ·have hE2:(E != 0)=true:=by rw[b0r];exact hE
  have hE3:(E==0)=false:=by rw[l7];exact hE
  have hre:=HRES.o;rw[if_neg hE]at hre;subst hre;clear hE HLL
  go_wp2_with (first
   | refine zo rfl 38 rfl (HB0 _).o ?_
   | (refine qe rfl 38 _ _ rfl r 0 aer rfl rfl (HR5.o.there 0 48 (a8 _)) kr (by decide +kernel) ?_;intro W6 hs;have HR6:Q_ (Blk W6 r ki):=q_ (HR5.o.all hs rfl);have HB6:=q_ (HB5.o.trans (hs.below HRS.o));clear hs))
  have HLD:=q_ (ah8 HR6.o rfl);exact b9 (v:=.tuple #[.agg aer,.int .i64 E]) (by rw[zj rfl];simp[asAddr,Result.andThen];rw[HLD.o];rfl) rfl ⟨ki,rfl,am3 _ _ 0,HB6.o⟩
def ajf (E:Int) (u:aes):Int×aes:=if E=0 then(0,u)else(E,aau)
def ai8 (c i:Nat) (b:List UInt8):Int×aes:=
 if c=1/\i=7 then ajf (ag8 b).1 {aau with kd:=1,P:=abw (ag8 b).2}
 else if c=1/\i=53 then ajf (ab7 b).1 {aau with kd:=2,tw:=(ab7 b).2.1,X:=(ab7 b).2.2.map abw}
 else if c=1/\i=4 then ajf (ahl b).1 {aau with kd:=3,D:=abw (ahl b).2}
 else if c=5 /\(i=0\/i=1)then ajf (af7 b).1 {aau with kd:=4,A:=.bool ((i:Int)==1)::abw (af7 b).2}
 else if c=6/\i=138 then ajf (af0 b).1 {aau with kd:=5,ly:=(af0 b).2.1,Y:=(af0 b).2.2.map λp=>abw (aqq p)}
 else(6,aau)
theorem a3k {Q0:Nat->Prop} {w:World} (c i d:Nat) (A:Option Addr) (b:List UInt8) (hB:qf Q0 w A (bsV b)) (hl:b.length<=1100000) (hd:b.length<=d) :
 Calls prog 61 #[.agg #[.int .i64 c,.int .i64 i,.slice A b.length d]] w (bej (ai8 c i b) w):=by
 have hBW:=λW (hW:Below w.1.size w W)=>hB.lt.below hW (λb q=>q.2)
 by_cases h1:c=1/\i=7
 ·rw[show ai8 c i b=ajf (ag8 b).1 {aau with kd:=1,P:=abw (ag8 b).2}from by unfold ai8;rw[if_pos h1]];exact aep c i _ d A _ _ _ 1 _ _ (by unfold vl;rw[if_pos h1]) bjk bir bjo biv a79 (λW mb hW hm=>a8d mb A d b _ hm (hBW W hW) hl)
 by_cases h2:c=1/\i=53
 ·rw[show ai8 c i b=ajf (ab7 b).1 {aau with kd:=2,tw:=(ab7 b).2.1,X:=(ab7 b).2.2.map abw}from by unfold ai8;rw[if_neg h1,if_pos h2]];exact aep c i _ d A _ _ _ 2 _ _ (by unfold vl;rw[if_neg h1,if_pos h2]) bfq bex bfr bey a3i (λW mb hW hm=>a3j mb A d b _ hm (hBW W hW) hl hd)
 by_cases h3:c=1/\i=4
 ·rw[show ai8 c i b=ajf (ahl b).1 {aau with kd:=3,D:=abw (ahl b).2}from by unfold ai8;rw[if_neg h1,if_neg h2,if_pos h3]];exact aep c i _ d A _ _ _ 3 _ _ (by unfold vl;rw[if_neg h1,if_neg h2,if_pos h3]) bjj biq bjn biu a78 (λW mb hW hm=>a8c mb A d b _ hm (hBW W hW) hl hd)
 by_cases h4:c=5 /\(i=0\/i=1)
 ·rw[show ai8 c i b=ajf (af7 b).1 {aau with kd:=4,A:=.bool ((i:Int)==1)::abw (af7 b).2}from by unfold ai8;rw[if_neg h1,if_neg h2,if_neg h3,if_pos h4]];exact aep c i _ d A _ _ _ 4 _ _ (by unfold vl;rw[if_neg h1,if_neg h2,if_neg h3,if_pos h4]) bji bip bjm bit a77 (λW mb hW hm=>a8b mb A d b _ hm (hBW W hW) hl hd)
 by_cases h5:c=6/\i=138
 ·rw[show ai8 c i b=ajf (af0 b).1 {aau with kd:=5,ly:=(af0 b).2.1,Y:=(af0 b).2.2.map λp=>abw (aqq p)}from by unfold ai8;rw[if_neg h1,if_neg h2,if_neg h3,if_neg h4,if_pos h5]];exact aep c i _ d A _ _ _ 5 _ _ (by unfold vl;rw[if_neg h1,if_neg h2,if_neg h3,if_neg h4,if_pos h5]) bjl bis bjp biw a8a (λW mb hW hm=>a8e mb A d b _ hm (hBW W hW) hl hd)
 ·rw[show ai8 c i b=(6,aau)from by unfold ai8;rw[if_neg h1,if_neg h2,if_neg h3,if_neg h4,if_neg h5]];exact ayc c i _ d A (by unfold vl;rw[if_neg h1,if_neg h2,if_neg h3,if_neg h4,if_neg h5])
def agy (b:List UInt8):Int×Nat×aes:=if(abt b).e=0 then((ai8 (abt b).cls (abt b).id (abt b).pl).1,(abt b).n,(ai8 (abt b).cls (abt b).id (abt b).pl).2)else((abt b).e,0,aau)
def a4g (x:Int×Nat×aes) (w:World) (e:Ending) (w':World):Prop:=∃L,e=.returned (.tuple #[.agg L.toArray,.int .i64 x.2.1,.int .i64 x.1])/\ad3 (λb=>w.1.size<=b/\b<w'.1.size) w' L x.2.2/\Below w.1.size w w'
theorem bjb (b:List UInt8):(abt b).pl.length<=b.length:=by
 unfold abt aex
 repeat' split
 all_goals first|exact b0d _|(dsimp only;rw[l8,n5];omega)
theorem as9 {Q:Nat->Prop} {w:World} (A:Option Addr) (c:Nat) (l:List UInt8) (h:qf Q w A (bsV l)) (hm:l.length<=1100000) (hc:l.length<=c) :
 Calls prog 42 #[.slice A l.length c] w (a4g (agy l) w):=by
 have HZ:=λW=>q_ (al5 W)
 have HB0:=λW=>q_ (ajv W)
 have HF:∀W,Below w.1.size w W->Q_ (Calls prog 60 #[.slice A l.length c] W (au8 (abt l) W)):=λW hW=>q_ (a0e A c l (h.lt.below hW (λb q=>q.2)) hm hc)
 have hpl:=bjb l;unfold agy;obtain⟨⟨E,n,c1,i1,pl⟩,hr⟩:∃r,abt l=r:=⟨_,rfl⟩;rw[hr]at HF hpl ⊢;unfold au8 at HF;dsimp only at *;have HPL:=q_ (p9 hpl hm);generalize l.length=L at *;clear h hr hpl
 by_cases hE:E=0
 ·subst hE;rw[if_pos rfl];have HT:=fun(QQ:Nat->Prop) W A d (q:qf QQ W A (bsV pl)) (qd:pl.length<=d)=>q_ (a3k c1 i1 d A pl q HPL.o qd)
  generalize ai8 c1 i1 pl=R at *;generalize pl.length=pn at *;go_enter func42,ntmps42;go_wp2_with (refine qc rfl 38 rfl aer (HZ _).o ?_;intro W1 hW1;have HR1:=q_ (Blk.newL (L:=ki) hW1 rfl);have HB1:=q_ hW1.bel;clear hW1);refine(HF _ HB1.o).o.mono ?_;rintro e w2 ⟨A2,c2,rfl,hf,hfl,hb⟩;have HR2:=q_ (HR1.o.on hb);have HB2:=q_ (qb HB1.o hb);have HT2:=HT _ (w2.alloc (.cells #[.int .i64 c1,.int .i64 i1,.slice A2 pn c2] 143)) A2 c2 (hf.below (qa _ _) (λb q=>q.2)) hfl;have HR3:Q_ (Blk (w2.alloc (.cells #[.int .i64 c1,.int .i64 i1,.slice A2 pn c2] 143)) w.1.size ki):=q_ (HR2.o.on (qa _ _));have HB3:Q_ (Below w.1.size w (w2.alloc (.cells #[.int .i64 c1,.int .i64 i1,.slice A2 pn c2] 143))):=q_ (qb HB2.o (qa _ _));have HZ3:=q_ HB3.o.size;clear hf hfl hb HT HF HR1 HB1 HR2 HB2;go_wp2_with fail;refine HT2.o.mono ?_;rintro e w4 ⟨L4,rfl,hq,hb⟩;have HR4:=q_ (HR3.o.on hb)
  have HB4:=q_ (qb HB3.o hb);have hl4:=hq.len;have HQ4:=q_ (hq.less λk hk=>(⟨p9 HB3.o.size hk.1,hk.2⟩:w.1.size<=k/\k<w4.1.size));have HSZ:=q_ (alv hl4);have HON:=q_ (kf (C:=L4.toArray) (λv hv=>hq.ones v (by simpa using hv)));have HLn:=q_ hl4;have HWL:=q_ (i9 HR3.o.lt hb.size);have HPR:Q_ (∀k,(w2.alloc (.cells #[.int .i64 c1,.int .i64 i1,.slice A2 pn c2] 143)).1.size<=k->k≠w.1.size):=q_ (λk hk e=>by have:=HR3.o.lt;omega);have HQ5:=q_ hq;clear hq hb hl4 HT2 HR3 HB3;obtain⟨r1,r2⟩:=R;dsimp only at *
  go_wp2_with (first
   | (refine qc rfl 38 rfl aer (HZ _).o ?_;intro W5 hW;have HP5:=q_ (Blk.newL (L:=ki) hW rfl);have HR5:=q_ (HR4.o.on hW.bel);have HB5:=q_ (qb HB4.o hW.bel);have HBE5:=q_ hW.bel;clear hW)
   | (refine qe rfl 38 _ _ rfl w4.1.size 0 L4.toArray rfl rfl (afy HP5.o rfl HLn.o) HSZ.o HON.o ?_;intro W6 hs;have HP6:Q_ (Blk W6 w4.1.size L4):=q_ (alu HP5.o hs HLn.o);have HR6:=q_ (HR5.o.far hs (b09 HR4.o.lt));have HB6:=q_ (HB5.o.trans (hs.below HB4.o.size));have HS6:=q_ hs;clear hs)
   | refine b0q rfl 38 _ rfl w4.1.size 0 rfl L4 _ HP6.o.rg underlying38 sm (by rw[HLn.o];kernel_rfl) ?_
   | (refine qe rfl 38 _ _ rfl w.1.size 0 L4.toArray rfl rfl (afy HR6.o rfl HLn.o) HSZ.o HON.o ?_;intro W7 hs;have HR7:Q_ (Blk W7 w.1.size L4):=q_ (alu HR6.o hs HLn.o);have HB7:=q_ (HB6.o.trans (hs.below (a8 _)));have HS7:=q_ hs;clear hs))
  have HLD:=q_ (ah8 HR7.o HLn.o);refine b9 (v:=.tuple #[.agg L4.toArray,.int .i64 n,.int .i64 r1]) (by rw[zq rfl];simp[asAddr,Result.andThen];rw[HLD.o]) rfl ⟨L4,rfl,?_,HB7.o⟩;have hz:w4.1.size<=W7.1.size:=by rw[HS7.o.sz,HS6.o.sz];exact HBE5.o.size
  refine(HQ5.o.keep λk hk=>?_).less λk hk=>⟨?_,i9 hk.2 hz⟩
  ·rw[HS7.o.far k (HPR.o k hk.1),HS6.o.far k (by have:=hk.2;omega),HBE5.o.block k hk.2]
  ·exact p9 HZ3.o hk.1
 ·have hE2:(E != 0)=true:=by rw[b0r];exact hE
  have hE3:(E==0)=false:=by rw[l7];exact hE
  rw[if_neg hE];clear hE HPL;generalize pl.length=pn at *;go_enter func42,ntmps42;go_wp2_with (refine qc rfl 38 rfl aer (HZ _).o ?_;intro W1 hW1;have HR1:=q_ (Blk.newL (L:=ki) hW1 rfl);have HB1:=q_ hW1.bel;clear hW1);refine(HF _ HB1.o).o.mono ?_;rintro e w2 ⟨A2,c2,rfl,hf,hfl,hb⟩;have HR3:Q_ (Blk (w2.alloc (.cells #[.int .i64 c1,.int .i64 i1,.slice A2 pn c2] 143)) w.1.size ki):=q_ ((HR1.o.on hb).on (qa _ _));have HB3:Q_ (Below w.1.size w (w2.alloc (.cells #[.int .i64 c1,.int .i64 i1,.slice A2 pn c2] 143))):=q_ (qb (qb HB1.o hb) (qa _ _));clear hf hfl hb HF HR1 HB1
  go_wp2_with (first
   | refine zo rfl 38 rfl (HB0 _).o ?_
   | (refine qe rfl 38 _ _ rfl w.1.size 0 aer rfl rfl (HR3.o.there 0 48 (a8 _)) kr (by decide +kernel) ?_;intro W6 hs;have HR6:Q_ (Blk W6 w.1.size ki):=q_ (HR3.o.all hs rfl);have HB6:=q_ (HB3.o.trans (hs.below (a8 _)));clear hs))
  have HLD:=q_ (ah8 HR6.o rfl);exact b9 (v:=.tuple #[.agg aer,.int .i64 0,.int .i64 E]) (by rw[zq rfl];simp[asAddr,Result.andThen];rw[HLD.o];rfl) rfl ⟨ki,rfl,am3 _ _ 0,HB6.o⟩
