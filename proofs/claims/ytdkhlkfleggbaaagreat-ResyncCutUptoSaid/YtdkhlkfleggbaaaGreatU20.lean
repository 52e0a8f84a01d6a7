/- Parts. -/
import Derived.Test.YtdkhlkfleggbaaaGreatU18
import Derived.Test.YtdkhlkfleggbaaaGreatU19
namespace Go.Proofs.YtdkhlkfleggbaaaGreat
set_option maxHeartbeats 16000000
set_option maxRecDepth 8000
open Lib (hid)
open Tryz
set_option linter.unusedVariables false
open Go.RowKit
def aho (s:Rd):Bool×Rd:=(decide ((qv s).1=⟨#[65]⟩),if(qv s).1 ≠⟨#[65]⟩ ∧(qv s).1 ≠⟨#[77]⟩then xt 3 (qv s).2 else(qv s).2)
def yt:Nat→Rd→List Int×Rd
 | 0,s=>([],s)
 | k+1,s=>(if(qs 1 3 0 1 255 s).1.1=true then(qs 1 3 0 1 255 s).1.2::(yt k (qs 1 3 0 1 255 s).2).1 else(yt k (qs 1 3 0 1 255 s).2).1,(yt k (qs 1 3 0 1 255 s).2).2)
structure a29 where
 a:Bool
 f:Int
 ids:List Int
 p0:Bool×Int
 p1:Bool×Int
 p2:Bool×Int
def yi:a29:=⟨false,0,[],(false,0),(false,0),(false,0)⟩
def aja (s:Rd):(Bool×Int)×Rd:=qs 1 3 2 0 99999 s
def a0z (s:Rd):a29×Rd:=
 (⟨(aho s).1,(zn 1 3 (aho s).2).1,(yt 12 (zn 1 3 (aho s).2).2).1,(aja (yt 12 (zn 1 3 (aho s).2).2).2).1,(aja (aja (yt 12 (zn 1 3 (aho s).2).2).2).2).1,(aja (aja (aja (yt 12 (zn 1 3 (aho s).2).2).2).2).2).1⟩,
  (aja (aja (aja (yt 12 (zn 1 3 (aho s).2).2).2).2).2).2)
def jy (R:List ByteArray):a29×Int:=if R.length≠17 then(yi,3)else if(a0z (0,R)).2.1=0 then((a0z (0,R)).1,0)else(yi,(a0z (0,R)).2.1)
theorem a90 {R:List ByteArray} {a:Bool} {f:Int} {ids:List Int} {d0 d1 d2:Bool×Int} {r1 r2 r3 r4 r5 r6:Rd} (hl:R.length=17) (h1:Hid (aho (0,R)=(a,r1))) (h2:Hid (zn 1 3 r1=(f,r2))) (h3:Hid (yt 12 r2=(ids,r3))) (h4:Hid (qs 1 3 2 0 99999 r3=(d0,r4))) (h5:Hid (qs 1 3 2 0 99999 r4=(d1,r5))) (h6:Hid (qs 1 3 2 0 99999 r5=(d2,r6))) :
 jy R=if r6.1=0 then(⟨a,f,ids,d0,d1,d2⟩,0)else(yi,r6.1):=by
 have hg:a0z (0,R)=(⟨a,f,ids,d0,d1,d2⟩,r6):=by
  unfold a0z aja;rw[h1.out];simp only;rw[h2.out];simp only;rw[h3.out];simp only;rw[h4.out];simp only;rw[h5.out];simp only;rw[h6.out]
 unfold jy;rw[if_neg (fun q=>q hl),hg]
theorem a5v {k:Nat} {s s':Rd} {b:Bool} {n:Int} (h:qs 1 3 0 1 255 s=((b,n),s')):yt (k+1) s=(if b=true then n::(yt k s').1 else(yt k s').1,(yt k s').2):=by
 simp only[yt,h]
theorem at0:∀(k:Nat) (s:Rd),(yt k s).1.length≤k
 | 0,s=>a8 _
 | k+1,s=>by
  have:=at0 k (qs 1 3 0 1 255 s).2;simp only[yt]
  split
  ·simp;omega
  ·omega
theorem be9 (t:ByteArray) (s1:Rd):((t.toList==[65])=true∧decide (t=⟨#[65]⟩)=true ∧(if t ≠⟨#[65]⟩∧t ≠⟨#[77]⟩then xt 3 s1 else s1)=s1) ∨
 ((t.toList==[65])=false∧decide (t=⟨#[65]⟩)=false ∧((t.toList==[77])=true ∧(if t ≠⟨#[65]⟩∧t ≠⟨#[77]⟩then xt 3 s1 else s1)=s1 ∨(t.toList==[77])=false ∧(if t ≠⟨#[65]⟩∧t ≠⟨#[77]⟩then xt 3 s1 else s1)=xt 3 s1)):=by
 have l65:(⟨#[65]⟩:ByteArray).toList=[65]:=by rw[b0x]
 have l77:(⟨#[77]⟩:ByteArray).toList=[77]:=by rw[b0x]
 have b65:(t.toList==[65])=decide (t=⟨#[65]⟩):=by rw[← afa,l65]
 have b77:(t.toList==[77])=decide (t=⟨#[77]⟩):=by rw[← afa,l77]
 rw[b65,b77]
 by_cases h:t=⟨#[65]⟩
 ·exact .inl ⟨p9 h,p9 h,if_neg (fun q=>q.1 h)⟩
 ·refine .inr ⟨o3 h,o3 h,?_⟩
  by_cases h2:t=⟨#[77]⟩
  ·exact .inl ⟨p9 h2,if_neg (fun q=>q.2 h2)⟩
  ·exact .inr ⟨o3 h2,if_pos ⟨h,h2⟩⟩
theorem a91 (w:World):Calls prog 169 #[] w fun e w'=>e=.returned (j7 1 3 0 1 255)∧Below w.1.size w w':=by
 go_enter func169,ntmps169;go_wp2;refine b9 (v:=j7 1 3 0 1 255) (by simp[results,results169,go_sem]) rfl ⟨rfl,qa _ _⟩
theorem ajw (w:World):Calls prog 170 #[] w fun e w'=>e=.returned (j7 1 3 2 0 99999)∧Below w.1.size w w':=by
 go_enter func170,ntmps170;go_wp2;refine b9 (v:=j7 1 3 2 0 99999) (by simp[results,results170,go_sem]) rfl ⟨rfl,qa _ _⟩
theorem ar8 {g:Nat} {s t:Rd} {b:Bool} {w:World} (ht:Hid (aho s=(b,t))) (hp:qz g s w):Calls prog 167 #[.pointer (some ⟨g,0,none⟩)] w (jv g (.bool b) t w):=by
 obtain⟨a,s1,ha⟩:∃a s1,Hid (qv s=(a,s1)):=⟨_,_,rfl⟩;have ht:=ht.out;unfold aho at ht;rw[ha.out]at ht;injection ht with e1 e2
 simp only at e1 e2;have HP:=hid hp;clear hp;rcases be9 a s1 with⟨k1,k2,k3⟩|⟨k1,k2,⟨k3,k4⟩|⟨k3,k4⟩⟩
 ·rw[k2]at e1;rw[k3]at e2;subst e1 e2;clear k2 k3;go_enter func167,ntmps167;go_wp2_with fail;refine(zc ha HP.out).mono ?_;rintro r w1 ⟨rfl,hx,hf⟩;have HX:=hid hx;have HF:=hid hf;clear hx hf HP;go_wp2_with fail;go_ret;exact⟨rfl,HX.out,HF.out⟩
 ·rw[k2]at e1;rw[k4]at e2;subst e1 e2;clear k2 k4;go_enter func167,ntmps167;go_wp2_with fail;refine(zc ha HP.out).mono ?_;rintro r w1 ⟨rfl,hx,hf⟩;have HX:=hid hx;have HF:=hid hf;clear hx hf HP;go_wp2_with fail;go_ret;exact⟨rfl,HX.out,HF.out⟩
 ·rw[k2]at e1;rw[k4]at e2;subst e1 e2;clear k2 k4;go_enter func167,ntmps167;go_wp2_with fail;refine(zc ha HP.out).mono ?_;rintro r w1 ⟨rfl,hx,hf⟩;have HX:=hid hx;have HF:=hid hf;clear hx hf HP;go_wp2_with fail;refine(xm rfl HX.out).mono ?_;rintro r w2 ⟨rfl,hx2,hf2⟩;have HX2:=hid hx2;have HF2:=hid (HF.out.step hf2);clear hx2 hf2;go_wp2_with fail;go_ret;exact⟨rfl,HX2.out,HF2.out⟩
theorem a4v {g:Nat} {s t:Rd} {n:Int} {w:World} (ht:Hid (zn 1 3 s=(n,t))) (hp:qz g s w):Calls prog 168 #[.pointer (some ⟨g,0,none⟩)] w (jv g (.int .i64 n) t w):=by
 obtain⟨a,s1,ha⟩:∃a s1,Hid (qv s=(a,s1)):=⟨_,_,rfl⟩;obtain⟨hw1,hw2,hw3⟩:=aj1 (lo:=1) (hi:=3) ha.out;have HP:=hid hp;have ht:=ht.out;clear hp;rcases apt a with⟨hb,h1⟩|⟨hz,h1,⟨h2,hb⟩|⟨h2,hb⟩|⟨h2,h3,hb,hv⟩⟩
 ·have e:=hw1 hb;rw[e]at ht;injection ht with e1 e2
  subst e1 e2;clear e hw1 hw2 hw3 hb;have i1:((a.size:Int)==1)=false:=by rw[l6];omega
  go_enter func168,ntmps168;go_wp2_with fail;refine(zc ha HP.out).mono ?_;rintro r w1 ⟨rfl,hx,hf⟩;have HX:=hid hx;have HF:=hid hf;clear hx hf HP;go_wp2_with fail;refine(xm rfl HX.out).mono ?_;rintro r w2 ⟨rfl,hx2,hf2⟩;have HX2:=hid hx2;have HF2:=hid (HF.out.step hf2);clear hx2 hf2;go_wp2_with fail;go_ret;exact⟨rfl,HX2.out,HF2.out⟩
 ·have e:=hw1 hb;rw[e]at ht;injection ht with e1 e2
  subst e1 e2;clear e hw1 hw2 hw3 hb;have i1:((a.size:Int)==1)=true:=by rw[b1o];omega
  have i2:((a[0].toNat:Nat):Int)<48:=by omega
  go_enter func168,ntmps168;go_wp2_with fail;refine(zc ha HP.out).mono ?_;rintro r w1 ⟨rfl,hx,hf⟩;have HX:=hid hx;have HF:=hid hf;clear hx hf HP;go_wp2_with fail;refine(xm rfl HX.out).mono ?_;rintro r w2 ⟨rfl,hx2,hf2⟩;have HX2:=hid hx2;have HF2:=hid (HF.out.step hf2);clear hx2 hf2;go_wp2_with fail;go_ret;exact⟨rfl,HX2.out,HF2.out⟩
 ·have e:=hw1 hb;rw[e]at ht;injection ht with e1 e2
  subst e1 e2;clear e hw1 hw2 hw3 hb;have i1:((a.size:Int)==1)=true:=by rw[b1o];omega
  have i2:(48:Int) ≤((a[0].toNat:Nat):Int):=by omega
  have i3:(57:Int)<((a[0].toNat:Nat):Int):=by omega
  go_enter func168,ntmps168;go_wp2_with fail;refine(zc ha HP.out).mono ?_;rintro r w1 ⟨rfl,hx,hf⟩;have HX:=hid hx;have HF:=hid hf;clear hx hf HP;go_wp2_with fail;refine(xm rfl HX.out).mono ?_;rintro r w2 ⟨rfl,hx2,hf2⟩;have HX2:=hid hx2;have HF2:=hid (HF.out.step hf2);clear hx2 hf2;go_wp2_with fail;go_ret;exact⟨rfl,HX2.out,HF2.out⟩
 ·have i1:((a.size:Int)==1)=true:=by rw[b1o];omega
  have i2:(48:Int) ≤((a[0].toNat:Nat):Int):=by omega
  have i3:((a[0].toNat:Nat):Int)≤57:=by omega
  rw[hv]at hw2 hw3
  by_cases hq:(a[0].toNat:Int)-48<1∨3<(a[0].toNat:Int)-48
  ·have e:=hw2 hb hq;rw[e]at ht;injection ht with e1 e2
   subst e1 e2;clear e hw1 hw2 hw3 hb hv
   by_cases hq1:(a[0].toNat:Int)<49
   ·clear hq;go_enter func168,ntmps168;go_wp2_with fail;refine(zc ha HP.out).mono ?_;rintro r w1 ⟨rfl,hx,hf⟩;have HX:=hid hx;have HF:=hid hf;clear hx hf HP;go_wp2_with fail;refine(xm rfl HX.out).mono ?_;rintro r w2 ⟨rfl,hx2,hf2⟩;have HX2:=hid hx2;have HF2:=hid (HF.out.step hf2);clear hx2 hf2;go_wp2_with fail;go_ret;exact⟨rfl,HX2.out,HF2.out⟩
   ·have q1:49 ≤(a[0].toNat:Int):=by omega
    have q2:51<(a[0].toNat:Int):=by omega
    clear hq hq1;go_enter func168,ntmps168;go_wp2_with fail;refine(zc ha HP.out).mono ?_;rintro r w1 ⟨rfl,hx,hf⟩;have HX:=hid hx;have HF:=hid hf;clear hx hf HP;go_wp2_with fail;refine(xm rfl HX.out).mono ?_;rintro r w2 ⟨rfl,hx2,hf2⟩;have HX2:=hid hx2;have HF2:=hid (HF.out.step hf2);clear hx2 hf2;go_wp2_with fail;go_ret;exact⟨rfl,HX2.out,HF2.out⟩
  ·have e:=hw3 hb hq;rw[e]at ht;injection ht with e1 e2
   subst e1 e2;have q1:49 ≤(a[0].toNat:Int):=by omega
   have q2:(a[0].toNat:Int)≤51:=by omega
   clear e hw1 hw2 hw3 hb hv hq;go_enter func168,ntmps168;go_wp2_with fail;refine(zc ha HP.out).mono ?_;rintro r w1 ⟨rfl,hx,hf⟩;have HX:=hid hx;have HF:=hid hf;clear hx hf HP;go_wp2_with fail;go_ret;exact⟨rfl,HX.out,HF.out⟩
abbrev kp (a:Bool) (f:Int) (A:Option Addr) (n c:Nat) (b0:Bool) (n0:Int) (b1:Bool) (n1:Int) (b2:Bool) (n2:Int):Array Value:=#[.bool a,.int .i64 f,.slice A n c,.bool b0,.int .i64 n0,.bool b1,.int .i64 n1,.bool b2,.int .i64 n2]
abbrev a9z (a:Bool) (f:Int) (A:Option Addr) (n c:Nat) (b0:Bool) (n0:Int) (b1:Bool) (n1:Int) (b2:Bool) (n2:Int):Value:=.agg (kp a f A n c b0 n0 b1 n1 b2 n2)
def ag7 (w:World) (B:Nat) (A:Option Addr) (l:List Int):Prop:=∀k (hk:k<l.length),∃b off,A=some ⟨b,off,none⟩∧b<B∧w.cell? ⟨b,off+k,none⟩=some (.int .i64 l[k])
theorem ag7.below {w w':World} {B B':Nat} {A:Option Addr} {l:List Int} (h:ag7 w B A l) (hb:Below B' w w') (hB:B≤B'):ag7 w' B A l:=fun k hk=>by
 obtain⟨b,off,h1,h2,h3⟩:=h k hk;exact⟨b,off,h1,h2,(hb.cell (p:=⟨b,off+k,none⟩) (by show b<B';omega)).trans h3⟩
theorem ag7.more {w:World} {B B':Nat} {A:Option Addr} {l:List Int} (h:ag7 w B A l) (hB:B≤B'):ag7 w B' A l:=fun k hk=>by
 obtain⟨b,off,h1,h2,h3⟩:=h k hk;exact⟨b,off,h1,by omega,h3⟩
def akg (x:a29×Int) (w:World) (r:Ending) (w':World):Prop:=
 ∃A n c,r=.returned (.tuple #[a9z x.1.a x.1.f A n c x.1.p0.1 x.1.p0.2 x.1.p1.1 x.1.p1.2 x.1.p2.1 x.1.p2.2,.int .i64 x.2])∧x.1.ids.length=n∧ag7 w' w'.1.size A x.1.ids∧Below w.1.size w w'
def ahi (D:List Int):Array Value:=((D.map (Value.int .i64))++List.replicate (12-D.length) (Value.int .i64 0)).toArray
theorem a96 (D:List Int) (h:D.length≤12):(ahi D).size=12:=by simp[ahi];omega
theorem bd7 (D:List Int) (n:Int) (h:D.length<12):(ahi D).setIfInBounds D.length (.int .i64 n)=ahi (D++[n]):=by
 obtain⟨k,hk⟩:∃k,12-D.length=k+1:=⟨11-D.length,by omega⟩;have hk2:12-(D.length+1)=k:=by omega
 unfold ahi;rw[b2v]
 congr 1
 rw[hk,b4e,List.set_append_right _ _ sm,d7,List.length_singleton,hk2];simp
theorem bd6 (D:List Int) (k:Nat) (h:k<D.length):(ahi D)[k]?=some (.int .i64 D[k]):=by
 unfold ahi;simp only[b16];rw[b0a (by simpa using h)];simp[h]
theorem a97 (D:List Int) (h:D.length<12):(ahi D)[D.length]?=some (.int .i64 0):=by
 unfold ahi;simp only[b16];rw[t8 sm,List.getElem?_replicate,if_pos (by simp;omega)]
theorem adf {w:World} {R b o o':Nat} {u:Value} (h:R≠b):(w.setCell ⟨R,o,none⟩ u).cell? ⟨b,o',none⟩=w.cell? ⟨b,o',none⟩:=a9 _ _ _ _ (fun q=>by injection q with q;exact h q)
theorem bh2 {w:World} {IB:Nat} {D:List Int} (h:∀j,w.cell? ⟨IB,j,none⟩=(ahi D)[j]?) (hz:IB<w.1.size):ag7 w w.1.size (some ⟨IB,0,none⟩) D:=fun k hk=>⟨IB,0,rfl,hz,by rw[b0e,h,bd6 D k hk]⟩
theorem am3 (A:Option Addr) (n c:Nat) (w:World) (h:((n:Int) != 17)=true):Calls prog 104 #[.slice A n c] w (akg (yi,3) w):=by
 go_enter func104,ntmps104;go_wp2;exact b9 (v:=.tuple #[a9z false 0 none 0 0 false 0 false 0 false 0,.int .i64 3]) (by simp[results,results104,go_sem]) rfl ⟨none,0,0,rfl,rfl,fun k hk=>absurd hk (b0v _),qa _ _⟩
theorem a4u (A:Option Addr) (n c:Nat) (R:List ByteArray) (w:World) (hl:R.length=n) (hA:A=none→c=0) (hs:vw w w.1.size A R) (hz:∀t∈R,t.size≤1000000) (hkn:Hid (n=17)) :
 Calls prog 104 #[.slice A n c] w (akg (jy R) w):=by
 obtain⟨a,r1,h1⟩:∃n u,Hid (aho (0,R)=(n,u)):=⟨_,_,rfl⟩;obtain⟨f,r2,h2⟩:∃n u,Hid (zn 1 3 r1=(n,u)):=⟨_,_,rfl⟩;obtain⟨ids,r3,h3⟩:∃n u,Hid (yt 12 r2=(n,u)):=⟨_,_,rfl⟩;obtain⟨b0,n0,r4,h4⟩:∃b n u,Hid (qs 1 3 2 0 99999 r3=((b,n),u)):=⟨_,_,_,rfl⟩;obtain⟨b1,n1,r5,h5⟩:∃b n u,Hid (qs 1 3 2 0 99999 r4=((b,n),u)):=⟨_,_,_,rfl⟩;obtain⟨b2,n2,r6,h6⟩:∃b n u,Hid (qs 1 3 2 0 99999 r5=((b,n),u)):=⟨_,_,_,rfl⟩;obtain⟨X,hX⟩:∃X,jy R=X:=⟨_,rfl⟩;have HT:Hid (X=if r6.1=0 then(⟨a,f,ids,(b0,n0),(b1,n1),(b2,n2)⟩,0)else(yi,r6.1)):=hX.symm.trans (a90 (by rw[hl];exact hkn.out) h1 h2 h3 h4 h5 h6);rw[hX];clear hX;have HB0:=hid (qa w (.cells (kp false 0 none 0 0 false 0 false 0 false 0) 51));have HL:=hid (akt (c:=c) hA ((hs.below HB0.out (a8 _)).more HB0.out.size) (by have:=hkn.out;omega) hz);rw[hl]at HL;have hR0:∀o,(w.alloc (.cells (kp false 0 none 0 0 false 0 false 0 false 0) 51)).cell? ⟨w.1.size,o,none⟩=(kp false 0 none 0 0 false 0 false 0 false 0)[o]?:=fun o=>b8 _ _ _ _ rfl
 have hR1:∀o,(w.alloc (.cells (kp false 0 none 0 0 false 0 false 0 false 0) 51)).frozen? ⟨w.1.size,o,none⟩=false:=fun o=>by rw[i9];exact qk _ _ _ (a8 _)
 have HR0:=hid hR0;have HR1:=hid hR1;have HZ0:Hid ((w.alloc (.cells (kp false 0 none 0 0 false 0 false 0 false 0) 51)).1.size=w.1.size+1):=by show _=_;simp
 have i17:((n:Int) != 17)=false:=by have:=hkn.out;rw[t7];omega
 clear hs hA hz hR0 hR1 hl;go_enter func104,ntmps104
 try dsimp only
 repeat (fail_if_success (show Code.wp _ (Code.seq (Code.region 1 _ _) _) _ _ _)
         first|go_values|go_skip|go_guarded|go_step|go_upon|go_back|(simp only[b2y,b2z]at *;go_simp)|(go_ite<;>go_prune<;>(try go_simp)))
 go_cut [] (fun wx=>wx=w.alloc (.cells (kp false 0 none 0 0 false 0 false 0 false 0) 51))
 case first=>
  go_wp2_with fail
  go_meet
  rfl
 case rest=>
 subst hcut;generalize hW0:w.alloc (.cells (kp false 0 none 0 0 false 0 false 0 false 0) 51)=W0 at *;clear hW0;go_wp2_with fail;refine HL.out.mono ?_;rintro r w1 ⟨g,rfl,hx1,hg1,hz1,hb1⟩;have HX1:=hid hx1;have HB1:=hid hb1;have HG1:=hid hg1;clear hx1 hb1 hg1 hz1 HL;go_wp2_with fail;refine(ar8 h1 HX1.out).mono ?_;rintro r w2 ⟨rfl,hx2,hf2⟩;have HX2:=hid hx2;have HF2:=hid hf2;clear hx2 hf2;go_wp2_with fail;refine(a4v h2 HX2.out).mono ?_;rintro r w3 ⟨rfl,hx3,hf3⟩;have HX3:=hid hx3;have HF3:=hid (HF2.out.step hf3);clear hx3 hf3 HX2 HF2;go_wp2_with fail;have hbm:=qa w3 (.cells (kp a f none 0 0 false 0 false 0 false 0) 51);have hzm:(w3.alloc (.cells (kp a f none 0 0 false 0 false 0 false 0) 51)).1.size=w3.1.size+1:=by simp
 have hbi:=qa (w3.alloc (.cells (kp a f none 0 0 false 0 false 0 false 0) 51)) (.cells #[.int .i64 0,.int .i64 0,.int .i64 0,.int .i64 0,.int .i64 0,.int .i64 0,.int .i64 0,.int .i64 0,.int .i64 0,.int .i64 0,.int .i64 0,.int .i64 0] 307)
 have T0:TkI (qz g r2) g (w3.1.size+1) (ahi []) ((w3.alloc (.cells (kp a f none 0 0 false 0 false 0 false 0) 51)).alloc (.cells #[.int .i64 0,.int .i64 0,.int .i64 0,.int .i64 0,.int .i64 0,.int .i64 0,.int .i64 0,.int .i64 0,.int .i64 0,.int .i64 0,.int .i64 0,.int .i64 0] 307)) ((w3.alloc (.cells (kp a f none 0 0 false 0 false 0 false 0) 51)).alloc (.cells #[.int .i64 0,.int .i64 0,.int .i64 0,.int .i64 0,.int .i64 0,.int .i64 0,.int .i64 0,.int .i64 0,.int .i64 0,.int .i64 0,.int .i64 0,.int .i64 0] 307)):=
  ⟨(HX3.out.keep hbm).keep hbi,fun j=>b8 _ _ _ _ hzm.symm,fun j=>by rw[i9];exact qk _ _ _ om,by have:=HX3.out.lt;omega,by simp,rfl,rfl,rfl,a8 _,fun _ _ _ _=>rfl⟩
 have HMB:Hid ((∀o,((w3.alloc (.cells (kp a f none 0 0 false 0 false 0 false 0) 51)).alloc (.cells #[.int .i64 0,.int .i64 0,.int .i64 0,.int .i64 0,.int .i64 0,.int .i64 0,.int .i64 0,.int .i64 0,.int .i64 0,.int .i64 0,.int .i64 0,.int .i64 0] 307)).cell? ⟨w3.1.size,o,none⟩=(kp a f none 0 0 false 0 false 0 false 0)[o]?) ∧(∀o,((w3.alloc (.cells (kp a f none 0 0 false 0 false 0 false 0) 51)).alloc (.cells #[.int .i64 0,.int .i64 0,.int .i64 0,.int .i64 0,.int .i64 0,.int .i64 0,.int .i64 0,.int .i64 0,.int .i64 0,.int .i64 0,.int .i64 0,.int .i64 0] 307)).frozen? ⟨w3.1.size,o,none⟩=false)):=
  ⟨fun o=>(n5 _ _ _ sm).trans (b8 _ _ _ _ rfl),fun o=>by rw[i9,i9];exact qk _ _ _ (a8 _)⟩
 have hz0:=HZ0.out;have hb1s:=HB1.out.size;have hf3s:=HF3.out.size;have hx3l:=HX3.out.lt;have hg1:=HG1.out
 have hbB:Below W0.1.size W0 ((w3.alloc (.cells (kp a f none 0 0 false 0 false 0 false 0) 51)).alloc (.cells #[.int .i64 0,.int .i64 0,.int .i64 0,.int .i64 0,.int .i64 0,.int .i64 0,.int .i64 0,.int .i64 0,.int .i64 0,.int .i64 0,.int .i64 0,.int .i64 0] 307)):=
  qb (b2k HB1.out (HF3.out.below om (fun k hk=>by simp[Value.ownBlock]at hk) om)) (qb hbm hbi)
 have HRW:Hid ((∀o,((w3.alloc (.cells (kp a f none 0 0 false 0 false 0 false 0) 51)).alloc (.cells #[.int .i64 0,.int .i64 0,.int .i64 0,.int .i64 0,.int .i64 0,.int .i64 0,.int .i64 0,.int .i64 0,.int .i64 0,.int .i64 0,.int .i64 0,.int .i64 0] 307)).cell? ⟨w.1.size,o,none⟩=(kp false 0 none 0 0 false 0 false 0 false 0)[o]?) ∧(∀o,((w3.alloc (.cells (kp a f none 0 0 false 0 false 0 false 0) 51)).alloc (.cells #[.int .i64 0,.int .i64 0,.int .i64 0,.int .i64 0,.int .i64 0,.int .i64 0,.int .i64 0,.int .i64 0,.int .i64 0,.int .i64 0,.int .i64 0,.int .i64 0] 307)).frozen? ⟨w.1.size,o,none⟩=false)∧Below w.1.size w ((w3.alloc (.cells (kp a f none 0 0 false 0 false 0 false 0) 51)).alloc (.cells #[.int .i64 0,.int .i64 0,.int .i64 0,.int .i64 0,.int .i64 0,.int .i64 0,.int .i64 0,.int .i64 0,.int .i64 0,.int .i64 0,.int .i64 0,.int .i64 0] 307))):=
  ⟨fun o=>((qy hbB).1 _ o om).trans (HR0.out o),fun o=>((qy hbB).2 _ o om).trans (HR1.out o),b2k HB0.out (hbB.mono om)⟩
 have HLT:Hid (w.1.size<g∧g<w3.1.size∧w3.1.size+1<((w3.alloc (.cells (kp a f none 0 0 false 0 false 0 false 0) 51)).alloc (.cells #[.int .i64 0,.int .i64 0,.int .i64 0,.int .i64 0,.int .i64 0,.int .i64 0,.int .i64 0,.int .i64 0,.int .i64 0,.int .i64 0,.int .i64 0,.int .i64 0] 307)).1.size):=⟨by omega,by omega,by simp⟩;have HI0:Hid ([] ++(yt 12 r2).1=ids ∧(yt 12 r2).2=r3∧TkI (qz g r2) g (w3.1.size+1) (ahi []) ((w3.alloc (.cells (kp a f none 0 0 false 0 false 0 false 0) 51)).alloc (.cells #[.int .i64 0,.int .i64 0,.int .i64 0,.int .i64 0,.int .i64 0,.int .i64 0,.int .i64 0,.int .i64 0,.int .i64 0,.int .i64 0,.int .i64 0,.int .i64 0] 307)) ((w3.alloc (.cells (kp a f none 0 0 false 0 false 0 false 0) 51)).alloc (.cells #[.int .i64 0,.int .i64 0,.int .i64 0,.int .i64 0,.int .i64 0,.int .i64 0,.int .i64 0,.int .i64 0,.int .i64 0,.int .i64 0,.int .i64 0,.int .i64 0] 307))):=⟨by rw[h3.out];rfl,by rw[h3.out],T0⟩
 clear hbm hzm hbi T0 hz0 hb1s hf3s hx3l hg1 hbB HX3 HF3 HB1 HG1 HR0 HR1 HZ0 HB0 HX1;generalize hW:(w3.alloc (.cells (kp a f none 0 0 false 0 false 0 false 0) 51)).alloc (.cells #[.int .i64 0,.int .i64 0,.int .i64 0,.int .i64 0,.int .i64 0,.int .i64 0,.int .i64 0,.int .i64 0,.int .i64 0,.int .i64 0,.int .i64 0,.int .i64 0] 307)=W at *;generalize hIB:w3.1.size+1=IB at *;generalize w3.1.size=MB at *;clear hW;have HIM:Hid (MB<IB):=by show _<_;omega
 clear hIB
 go_loopw [7,21] (fun nv iv wr=>∃(i:Nat) (D:List Int) (s:Rd),iv=.int .i64 (i:Int)∧nv=.int .i64 (D.length:Int)∧i≤12∧D.length≤i∧Hid (D ++(yt (12-i) s).1=ids ∧(yt (12-i) s).2=r3∧TkI (qz g s) g IB (ahi D) W wr)) (fun _ iv _=>12-(intOf iv).toNat)
 case atStart=>exact⟨0,[],r2,rfl,rfl,by omega,b0c _,HI0⟩
 case round=>
  clear HI0;obtain⟨i,D,s,rfl,rfl,hi,hDi,hI⟩:=hrel
  by_cases hlt:i<12
  ·obtain⟨b,n,s',e0⟩:∃b n u,Hid (qs 1 3 0 1 255 s=((b,n),u)):=⟨_,_,_,rfl⟩;have hst:=a5v (k:=11-i) e0.out;rw[show 11-i+1=12-i from by omega,show 11-i=12-(i+1)from by omega]at hst;have HST:=hid hst;clear hst;have i1:(i:Int)<12:=by omega
   have i2:(0:Int) ≤(i:Int):=by omega
   go_wp2_with fail;refine(a91 _).mono ?_;rintro r x1 ⟨rfl,hb⟩;have HT1:=hid (hI.out.2.2.keep (Y:=qz g s) (hI.out.2.2.x.keep hb) hb);clear hb;go_wp2_with fail;refine(ki e0 HT1.out.x).mono ?_;rintro r x2 ⟨rfl,hx,hf⟩;have HT2:=hid (HT1.out.frm (Y:=qz g s') hx hf);clear hx hf HT1;have hbn:=qa x2 (.cells #[.bool b,.int .i64 n] 42);have hT3:=HT2.out.keep (Y:=qz g s') (HT2.out.x.keep hbn) hbn;have hn0:(x2.alloc (.cells #[.bool b,.int .i64 n] 42)).cell? ⟨x2.1.size,0,none⟩=some (.bool b):=b8 _ _ _ _ rfl;have hn1:(x2.alloc (.cells #[.bool b,.int .i64 n] 42)).cell? ⟨x2.1.size,1,none⟩=some (.int .i64 n):=b8 _ _ _ _ rfl;have hc:=hT3.c D.length;rw[a97 D om]at hc;have hfz:=hT3.z D.length;have HT3:=hid hT3;have i3:(0:Int) ≤(D.length:Int):=by omega
   have i4:(D.length:Int)<12:=by omega
   clear hbn hT3;cases b with
   | false=>
    have HNX:Hid (D ++(yt (12-(i+1)) s').1=ids ∧(yt (12-(i+1)) s').2=r3∧TkI (qz g s') g IB (ahi D) W (x2.alloc (.cells #[.bool false,.int .i64 n] 42))):=by
     have q1:=hI.out.1;have q2:=hI.out.2.1;rw[HST.out]at q1 q2;exact⟨q1,q2,HT3.out⟩
    go_wp2_with fail
    go_roundw
    case rel=>exact⟨i+1,D,s',by go_num,rfl,by omega,by omega,HNX⟩
    case measure=>simp[intOf];omega
   | true=>
    have hp:=HT3.out.put (o:=D.length) (u:=.int .i64 n) (by rw[a96 D om];omega) (HT3.out.x.far (by have:=HLT.out;have:=HIM.out;omega):qz g s' _);rw[bd7 D n om]at hp
    have HNX:Hid ((D++[n]) ++(yt (12-(i+1)) s').1=ids ∧(yt (12-(i+1)) s').2=r3∧TkI (qz g s') g IB (ahi (D++[n])) W ((x2.alloc (.cells #[.bool true,.int .i64 n] 42)).setCell ⟨IB,D.length,none⟩ (.int .i64 n))):=by
     have q1:=hI.out.1;have q2:=hI.out.2.1;rw[HST.out]at q1 q2;refine⟨?_,q2,hp⟩;rw[← q1];simp
    clear hp;go_wp2_with fail
    go_roundw
    case rel=>exact⟨i+1,D++[n],s',by go_num,by simp,by omega,by simp;omega,HNX⟩
    case measure=>simp[intOf];omega
  ·obtain rfl:i=12:=by omega
   have hD:D=ids:=by have:=hI.out.1;simpa [yt]using this
   have hs3:s=r3:=by have:=hI.out.2.1;simpa [yt]using this
   subst hD hs3;have HTI:=hid hI.out.2.2;have i3:(0:Int) ≤(D.length:Int):=by omega
   have i4:(D.length:Int)≤12:=by omega
   have hT0:TkI (qz g s) g MB (kp a f none 0 0 false 0 false 0 false 0) wr wr:=⟨HTI.out.x,fun o=>(HTI.out.cell (by have:=HLT.out;have:=HIM.out;omega) (by have:=HLT.out;omega) (by have:=HIM.out;omega)).trans (HMB.out.1 o),fun o=>(HTI.out.frozen (by have:=HLT.out;have:=HIM.out;omega) (by have:=HLT.out;omega) (by have:=HIM.out;omega)).trans (HMB.out.2 o),HLT.out.2.1,by have:=HTI.out.mz;have:=HIM.out;omega,rfl,rfl,rfl,a8 _,fun _ _ _ _=>rfl⟩;have HIDS:Hid (∀j,wr.cell? ⟨IB,j,none⟩=(ahi D)[j]?):=HTI.out.c;have HIZ:Hid (IB<wr.1.size):=HTI.out.mz
   have HRWx:Hid ((∀o,wr.cell? ⟨w.1.size,o,none⟩=(kp false 0 none 0 0 false 0 false 0 false 0)[o]?) ∧(∀o,wr.frozen? ⟨w.1.size,o,none⟩=false)∧Below w.1.size w wr):=
    ⟨fun o=>(HTI.out.cell (by have:=HLT.out;have:=HIM.out;omega) (by have:=HLT.out;omega) (by have:=HLT.out;have:=HIM.out;omega)).trans (HRW.out.1 o),fun o=>(HTI.out.frozen (by have:=HLT.out;have:=HIM.out;omega) (by have:=HLT.out;omega) (by have:=HLT.out;have:=HIM.out;omega)).trans (HRW.out.2.1 o),b2k HRW.out.2.2 (HTI.out.below (by have:=HLT.out;omega) (by have:=HLT.out;have:=HIM.out;omega))⟩
   have m2:=hT0.c 2;have z2:=hT0.z 2;have HT0:=hid hT0;clear hT0 hI HRW HMB;go_wp2_with fail;have hp:=HT0.out.put (o:=2) (u:=.slice (some ⟨IB,0,none⟩) D.length D.length) sm (HT0.out.x.far HLT.out.2.1);have e:∀C:Array Value,C=kp a f (some ⟨IB,0,none⟩) D.length D.length false 0 false 0 false 0→TkI (qz g s) g MB C wr (wr.setCell ⟨MB,2,none⟩ (.slice (some ⟨IB,0,none⟩) D.length D.length)):=fun C hC=>by subst hC;exact hp
   have HT1:=hid (e _ rfl);clear e hp m2 z2 HT0;generalize wr.setCell ⟨MB,2,none⟩ (.slice (some ⟨IB,0,none⟩) D.length D.length)=y0 at *;refine(ajw _).mono ?_;rintro r x0 ⟨rfl,hb⟩;have HT2:=hid (HT1.out.keep (Y:=qz g s) (HT1.out.x.keep hb) hb);clear hb HT1;go_wp2_with fail;refine(ki h4 HT2.out.x).mono ?_;rintro r y1 ⟨rfl,hx,hf⟩;have HT1:=hid (HT2.out.frm hx hf);clear hx hf HT2;go_wp2_with fail;refine(ajw _).mono ?_;rintro r x1 ⟨rfl,hb⟩;have HT2:=hid (HT1.out.keep (Y:=qz g r4) (HT1.out.x.keep hb) hb);clear hb HT1;go_wp2_with fail;refine(ki h5 HT2.out.x).mono ?_;rintro r y2 ⟨rfl,hx,hf⟩;have HT1:=hid (HT2.out.frm hx hf);clear hx hf HT2;go_wp2_with fail;refine(ajw _).mono ?_;rintro r x2 ⟨rfl,hb⟩;have HT2:=hid (HT1.out.keep (Y:=qz g r5) (HT1.out.x.keep hb) hb);clear hb HT1;go_wp2_with fail;refine(ki h6 HT2.out.x).mono ?_;rintro r y3 ⟨rfl,hx,hf⟩;have HT1:=hid (HT2.out.frm hx hf)
   clear hx hf HT2;have hT4:=HT1.out;have m3:=hT4.c 3;have z3:=hT4.z 3;have m4:=hT4.c 4;have z4:=hT4.z 4;have m5:=hT4.c 5;have z5:=hT4.z 5;have m6:=hT4.c 6;have z6:=hT4.z 6;have m7:=hT4.c 7;have z7:=hT4.z 7;have m8:=hT4.c 8;have z8:=hT4.z 8;clear hT4;go_upto_region 16 with fail;have hx0:qz g r6 ((y3.setCell ⟨MB,3,none⟩ (.bool b0)).setCell ⟨MB,4,none⟩ (.int .i64 n0)):=((HT1.out.x).far (G:=MB) (o:=3) (u:=.bool b0) HLT.out.2.1).far (G:=MB) (o:=4) (u:=.int .i64 n0) HLT.out.2.1;have hs0:TkI (qz g r6) g MB (kp a f (some ⟨IB,0,none⟩) D.length D.length b0 n0 false 0 false 0) wr ((y3.setCell ⟨MB,3,none⟩ (.bool b0)).setCell ⟨MB,4,none⟩ (.int .i64 n0)):=(HT1.out).store (o:=3) rfl rfl (fun j=>by rcases j with _|_|_|_|_|_|_|_|_|j<;>simp) hx0;have hx1:qz g r6 ((((y3.setCell ⟨MB,3,none⟩ (.bool b0)).setCell ⟨MB,4,none⟩ (.int .i64 n0)).setCell ⟨MB,5,none⟩ (.bool b1)).setCell ⟨MB,6,none⟩ (.int .i64 n1)):=((hx0).far (G:=MB) (o:=5) (u:=.bool b1) HLT.out.2.1).far (G:=MB) (o:=6) (u:=.int .i64 n1) HLT.out.2.1
   have hs1:TkI (qz g r6) g MB (kp a f (some ⟨IB,0,none⟩) D.length D.length b0 n0 b1 n1 false 0) wr ((((y3.setCell ⟨MB,3,none⟩ (.bool b0)).setCell ⟨MB,4,none⟩ (.int .i64 n0)).setCell ⟨MB,5,none⟩ (.bool b1)).setCell ⟨MB,6,none⟩ (.int .i64 n1)):=(hs0).store (o:=5) rfl rfl (fun j=>by rcases j with _|_|_|_|_|_|_|_|_|j<;>simp) hx1;have hx2:qz g r6 ((((((y3.setCell ⟨MB,3,none⟩ (.bool b0)).setCell ⟨MB,4,none⟩ (.int .i64 n0)).setCell ⟨MB,5,none⟩ (.bool b1)).setCell ⟨MB,6,none⟩ (.int .i64 n1)).setCell ⟨MB,7,none⟩ (.bool b2)).setCell ⟨MB,8,none⟩ (.int .i64 n2)):=((hx1).far (G:=MB) (o:=7) (u:=.bool b2) HLT.out.2.1).far (G:=MB) (o:=8) (u:=.int .i64 n2) HLT.out.2.1;have hs2:TkI (qz g r6) g MB (kp a f (some ⟨IB,0,none⟩) D.length D.length b0 n0 b1 n1 b2 n2) wr ((((((y3.setCell ⟨MB,3,none⟩ (.bool b0)).setCell ⟨MB,4,none⟩ (.int .i64 n0)).setCell ⟨MB,5,none⟩ (.bool b1)).setCell ⟨MB,6,none⟩ (.int .i64 n1)).setCell ⟨MB,7,none⟩ (.bool b2)).setCell ⟨MB,8,none⟩ (.int .i64 n2)):=(hs1).store (o:=7) rfl rfl (fun j=>by rcases j with _|_|_|_|_|_|_|_|_|j<;>simp) hx2
   have HT5:=hid hs2;clear hs0 hs1 hs2 hx0 hx1 hx2 HT1 m3 m4 m5 m6 m7 m8 z3 z4 z5 z6 z7 z8;generalize ((((((y3.setCell ⟨MB,3,none⟩ (.bool b0)).setCell ⟨MB,4,none⟩ (.int .i64 n0)).setCell ⟨MB,5,none⟩ (.bool b1)).setCell ⟨MB,6,none⟩ (.int .i64 n1)).setCell ⟨MB,7,none⟩ (.bool b2)).setCell ⟨MB,8,none⟩ (.int .i64 n2))=y9 at *;have HER:=hid (apv HT5.out.x);obtain⟨E,hE⟩:∃E,r6.1=E:=⟨_,rfl⟩;rw[hE]at HER HT;clear hE;have hIDS:∀j,y9.cell? ⟨IB,j,none⟩=(ahi D)[j]?:=fun j=>(HT5.out.cell HIZ.out (by have:=HLT.out;have:=HIM.out;omega) (by have:=HIM.out;omega)).trans (HIDS.out j)
   have HID9:=hid hIDS;have HIZ9:Hid (IB<y9.1.size):=by show _<_;have:=HT5.out.size;have:=HIZ.out;omega
   have hr:∀j,y9.cell? ⟨w.1.size,j,none⟩=(kp false 0 none 0 0 false 0 false 0 false 0)[j]?:=fun j=>(HT5.out.cell (by have:=HIZ.out;have:=HLT.out;have:=HIM.out;omega) (by have:=HLT.out;omega) (by have:=HLT.out;omega)).trans (HRWx.out.1 j)
   have hf:∀j,y9.frozen? ⟨w.1.size,j,none⟩=false:=fun j=>(HT5.out.frozen (by have:=HIZ.out;have:=HLT.out;have:=HIM.out;omega) (by have:=HLT.out;omega) (by have:=HLT.out;omega)).trans (HRWx.out.2.1 j)
   have HB9:Hid (Below w.1.size w y9):=b2k HRWx.out.2.2 (HT5.out.below (by have:=HLT.out;omega) (by have:=HIZ.out;have:=HLT.out;have:=HIM.out;omega));have hm:=HT5.out.c;have HR:=hid (show AtC y9 w.1.size (kp false 0 none 0 0 false 0 false 0 false 0)from hr);have r_0:=hr 0;have r_1:=hr 1;have r_2:=hr 2;have r_3:=hr 3;have r_4:=hr 4;have r_5:=hr 5;have r_6:=hr 6;have r_7:=hr 7;have r_8:=hr 8;have f_0:=hf 0;have f_1:=hf 1;have f_2:=hf 2;have f_3:=hf 3;have f_4:=hf 4;have f_5:=hf 5;have f_6:=hf 6;have f_7:=hf 7;have f_8:=hf 8;have m_0:=hm 0;have m_1:=hm 1;have m_2:=hm 2;have m_3:=hm 3;have m_4:=hm 4;have m_5:=hm 5;have m_6:=hm 6;have m_7:=hm 7;have m_8:=hm 8;clear hr hf hm hIDS HT5 HIDS HRWx;go_wp2_with fail;refine HER.out.mono ?_;rintro r w' ⟨rfl,rfl⟩
   by_cases hE:E=0
   ·subst hE;have HX2:Hid (X=(⟨a,f,D,(b0,n0),(b1,n1),(b2,n2)⟩,0)):=HT.out.trans (if_pos rfl);have HNE:Hid (w.1.size≠IB):=by show _≠_;have:=HLT.out;have:=HIM.out;omega
    clear HT;have K:=(((((((((HR.out.set 0 (.bool a) sm).set 1 (.int .i64 f) sm).set 2 (.slice (some ⟨IB,0,none⟩) D.length D.length) sm).set 3 (.bool b0) sm).set 4 (.int .i64 n0) sm).set 5 (.bool b1) sm).set 6 (.int .i64 n1) sm).set 7 (.bool b2) sm).set 8 (.int .i64 n2) sm);have k0:=K 0;have k1:=K 1;have k2:=K 2;have k3:=K 3;have k4:=K 4;have k5:=K 5;have k6:=K 6;have k7:=K 7;have k8:=K 8;simp at k0 k1 k2 k3 k4 k5 k6 k7 k8;go_wp2_with fail;refine b9 (v:=.tuple #[a9z a f (some ⟨IB,0,none⟩) D.length D.length b0 n0 b1 n1 b2 n2,.int .i64 0]) (by simp[results,results104,go_sem,k0,k1,k2,k3,k4,k5,k6,k7,k8]) rfl ?_;rw[HX2.out];exact⟨some ⟨IB,0,none⟩,D.length,D.length,rfl,rfl,bh2 (fun k=>((adf HNE.out).trans (((adf HNE.out).trans (((adf HNE.out).trans (((adf HNE.out).trans (((adf HNE.out).trans (((adf HNE.out).trans (((adf HNE.out).trans (((adf HNE.out).trans (((adf HNE.out).trans (HID9.out k))))))))))))))))))) (by simpa using HIZ9.out),(qt (qt (qt (qt (qt (qt (qt (qt (qt HB9.out (a8 _)) (a8 _)) (a8 _)) (a8 _)) (a8 _)) (a8 _)) (a8 _)) (a8 _)) (a8 _))⟩
   ·have hne:(E != 0)=true:=by rw[b0g];exact hE
    have HX2:Hid (X=(yi,E)):=HT.out.trans (if_neg hE);clear hE HT;have K:=(((((((((HR.out.set 0 (.bool false) sm).set 1 (.int .i64 0) sm).set 2 (.slice none 0 0) sm).set 3 (.bool false) sm).set 4 (.int .i64 0) sm).set 5 (.bool false) sm).set 6 (.int .i64 0) sm).set 7 (.bool false) sm).set 8 (.int .i64 0) sm);have k0:=K 0;have k1:=K 1;have k2:=K 2;have k3:=K 3;have k4:=K 4;have k5:=K 5;have k6:=K 6;have k7:=K 7;have k8:=K 8;simp at k0 k1 k2 k3 k4 k5 k6 k7 k8;go_wp2_with fail;refine b9 (v:=.tuple #[a9z false 0 none 0 0 false 0 false 0 false 0,.int .i64 E]) (by simp[results,results104,go_sem,k0,k1,k2,k3,k4,k5,k6,k7,k8]) rfl ?_;rw[HX2.out];exact⟨none,0,0,rfl,rfl,fun k hk=>absurd hk (b0v _),(qt (qt (qt (qt (qt (qt (qt (qt (qt HB9.out (a8 _)) (a8 _)) (a8 _)) (a8 _)) (a8 _)) (a8 _)) (a8 _)) (a8 _)) (a8 _))⟩
abbrev abi (g:Nat):Obj:=.cells #[.pointer (some ⟨g,0,none⟩)] 286
abbrev bk3 (g:Nat):Value:=.agg #[.pointer (some ⟨g,0,none⟩)]
theorem ad0 {g:Nat} {s t:Rd} {a:ByteArray} {w:World} (ha:Hid (qv s=(a,t))) (hp:qz g s w):a.size≤1000000:=by
 have:=ha.out;unfold qv at this;injection this with e _
 rw[← e];exact ahh hp.choose_spec.2.2
theorem an7 (w:World) (g:Nat):(w.alloc (abi g)).cell? ⟨w.1.size,0,none⟩=some (.pointer (some ⟨g,0,none⟩)):=b8 _ _ _ _ rfl
theorem azw {g:Nat} {s t:Rd} {b:Bool} {h m c e:Int} {w:World} (ht:Hid (ai9 s=((b,h,m,c,e),t))) (hp:qz g s w):Calls prog 138 #[bk3 g] w (jv g (apo b h m c e) t w):=by
 obtain⟨a,s1,ha⟩:∃a s1,Hid (qv s=(a,s1)):=⟨_,_,rfl⟩;have hsm:=ad0 ha hp
 obtain⟨E,ht1,ht2⟩:∃E,Hid (aah a.data.toList=((b,h,m,c,e),E))∧Hid (xt E s1=t):=by
  have q:=ht.out;unfold ai9 at q;rw[ha.out]at q;injection q with q1 q2
  exact⟨_,b5f q1 rfl,q2⟩
 have hgl:=hp.lt;have hb0:=qa w (abi g);have hb1:=qa (w.alloc (abi g)) (aat false 0 0 0 0);have hz0:(w.alloc (abi g)).1.size=w.1.size+1:=by simp
 have HX0:=hid ((hp.keep hb0).keep hb1);have HF0:Hid (Frm g vi w ((w.alloc (abi g)).alloc (aat false 0 0 0 0))):=Frm.of_below (qb hb0 hb1);have p0:((w.alloc (abi g)).alloc (aat false 0 0 0 0)).cell? ⟨w.1.size,0,none⟩=some (.pointer (some ⟨g,0,none⟩)):=(n5 _ _ _ sm).trans (an7 w g);have HP0:=hid p0;have HR0:Hid (∀o,((w.alloc (abi g)).alloc (aat false 0 0 0 0)).cell? ⟨w.1.size+1,o,none⟩=(#[Value.bool false,.int .i64 0,.int .i64 0,.int .i64 0,.int .i64 0]:Array Value)[o]?):=fun o=>b8 _ _ _ _ hz0.symm
 have HRF:Hid (∀o,((w.alloc (abi g)).alloc (aat false 0 0 0 0)).frozen? ⟨w.1.size+1,o,none⟩=false):=fun o=>by rw[i9,i9];exact qk _ _ _ om
 have HZ:Hid (w.1.size+1<((w.alloc (abi g)).alloc (aat false 0 0 0 0)).1.size∧g<w.1.size):=⟨by simp,hgl⟩;clear hb0 hb1 hz0 hp hgl ht;go_enter func138,ntmps138;go_wp2_with fail;generalize hW0:(w.alloc (abi g)).alloc (aat false 0 0 0 0)=W0 at *;refine(zc ha HX0.out).mono ?_;rintro r w1 ⟨rfl,hx1,hf1⟩;have HX1:=hid hx1;have HF1:=hid hf1;clear hx1 hf1 hW0 HX0;go_wp2_with fail;refine(amx a w1 hsm).mono ?_;rw[ht1.out];rintro r w2 ⟨rfl,hb2⟩;dsimp only;have hbc:=qa w2 (aat b h m c e);have HX3:Hid (qz g s1 (w2.alloc (aat b h m c e))):=(HX1.out.keep hb2).keep hbc;have HF3:Hid (Frm g vi W0 (w2.alloc (aat b h m c e))):=HF1.out.step (Frm.of_below (qb hb2 hbc));have HC3:Hid (∀o,(w2.alloc (aat b h m c e)).cell? ⟨w2.1.size,o,none⟩=(#[Value.bool b,.int .i64 h,.int .i64 m,.int .i64 c,.int .i64 e]:Array Value)[o]?):=fun o=>b8 _ _ _ _ rfl
 have HZ3:Hid (w2.1.size<(w2.alloc (aat b h m c e)).1.size∧W0.1.size≤w2.1.size):=⟨by simp,by have:=HF1.out.size;have:=hb2.size;omega⟩;have p3:(w2.alloc (aat b h m c e)).cell? ⟨w.1.size,0,none⟩=some (.pointer (some ⟨g,0,none⟩)):=(qi HF3.out (by have:=HZ.out;omega) (by have:=HZ.out;omega) 0).trans HP0.out;clear hbc hb2 HX1 HF1 p0;go_wp2_with fail;generalize hW3:w2.alloc (aat b h m c e)=W3 at *;clear hW3 p3;refine(xm ht2 HX3.out).mono ?_;rintro r w4 ⟨rfl,hx4,hf4⟩;have HX4:=hid hx4;have HF4:=hid (HF3.out.step hf4);have hc4:∀o,w4.cell? ⟨w2.1.size,o,none⟩=(#[Value.bool b,.int .i64 h,.int .i64 m,.int .i64 c,.int .i64 e]:Array Value)[o]?:=fun o=>(qi hf4 HZ3.out.1 (by have:=HZ.out;have:=HZ3.out;omega) o).trans (HC3.out o)
 have hr4:∀o,w4.cell? ⟨w.1.size+1,o,none⟩=(#[Value.bool false,.int .i64 0,.int .i64 0,.int .i64 0,.int .i64 0]:Array Value)[o]?:=fun o=>(qi HF4.out HZ.out.1 (by have:=HZ.out;omega) o).trans (HR0.out o)
 have fz:∀o,w4.frozen? ⟨w.1.size+1,o,none⟩=false:=fun o=>(qx HF4.out HZ.out.1 (by have:=HZ.out;omega) o).trans (HRF.out o)
 have HF5:=hid (HF0.out.step HF4.out);have c0:=hc4 0;have c1:=hc4 1;have c2:=hc4 2;have c3:=hc4 3;have c4:=hc4 4;have r0:=hr4 0;have r1:=hr4 1;have r2:=hr4 2;have r3:=hr4 3;have r4:=hr4 4;have HOLD:Hid (∀o,o<5→∃v,w4.cell? ⟨w.1.size+1,o,none⟩=some v):=fun o ho=>by rw[hr4 o];rcases(by omega:o=0∨o=1∨o=2∨o=3∨o=4)with rfl|rfl|rfl|rfl|rfl<;>exact⟨_,rfl⟩
 clear hx4 hf4 hc4 hr4 HC3 HR0 HRF HF3 HX3 HF0 HF4;go_wp2_with fail;have hd:=a6f (W:=w4) (g:=w.1.size+1) (a:=.bool b) (b:=.int .i64 h) (c:=.int .i64 m) (d:=.int .i64 c) (e:=.int .i64 e) HOLD.out;have d0:=hd 0 om;have d1:=hd 1 om;have d2:=hd 2 om;have d3:=hd 3 om;have d4:=hd 4 om;simp at d0 d1 d2 d3 d4;have hG:g<w.1.size+1:=by have:=HZ.out.2;omega
 refine b9 (v:=apo b h m c e) (by simp[results,results138,go_sem,d0,d1,d2,d3,d4]) rfl ⟨rfl,?_,?_⟩
 ·exact((((HX4.out.far hG).far hG).far hG).far hG).far hG
 ·exact((((HF5.out.put (b2g _)).put (b2g _)).put (b2g _)).put (b2g _)).put (b2g _)
theorem avp {g:Nat} {s t:Rd} {n:Int} {w:World} (ht:Hid (zn 0 8 s=(n,t))) (hp:qz g s w):Calls prog 139 #[bk3 g] w (jv g (.int .i64 n) t w):=by
 obtain⟨a,s1,ha⟩:∃a s1,Hid (qv s=(a,s1)):=⟨_,_,rfl⟩;obtain⟨hw1,hw2,hw3⟩:=aj1 (lo:=0) (hi:=8) ha.out;have ht:=ht.out;have hgl:=hp.lt;have hb0:=qa w (abi g);have HP:=hid (hp.keep hb0);have HF0:Hid (Frm g vi w (w.alloc (abi g))):=Frm.of_below hb0;have p0:=an7 w g;have HP0:=hid p0;have HZ:Hid (g<w.1.size∧w.1.size<(w.alloc (abi g)).1.size):=⟨hgl,by simp⟩;clear hp hb0 hgl;rcases apt a with⟨hb,h1⟩|⟨hz,h1,⟨h2,hb⟩|⟨h2,hb⟩|⟨h2,h3,hb,hv⟩⟩
 ·have e:=hw1 hb;rw[e]at ht;injection ht with e1 e2
  subst e1 e2;clear e hw1 hw2 hw3 hb;have i1:((a.size:Int)==1)=false:=by rw[l6];omega
  go_enter func139,ntmps139;go_wp2_with fail;generalize hW0:w.alloc (abi g)=W0 at *;refine(zc ha HP.out).mono ?_;rintro r w1 ⟨rfl,hx,hf⟩;have HX:=hid hx;have HF:=hid (HF0.out.step hf);have p1:=(qi hf (b:=w.1.size) HZ.out.2 (by have:=HZ.out.1;omega) 0).trans HP0.out;clear hx hf HP HF0;go_wp2_with fail;refine(xm rfl HX.out).mono ?_;rintro r w2 ⟨rfl,hx2,hf2⟩;have HX2:=hid hx2;have HF2:=hid (HF.out.step hf2);clear hx2 hf2;go_wp2_with fail;go_ret;exact⟨rfl,HX2.out,HF2.out⟩
 ·have e:=hw1 hb;rw[e]at ht;injection ht with e1 e2
  subst e1 e2;clear e hw1 hw2 hw3 hb;have i1:((a.size:Int)==1)=true:=by rw[b1o];omega
  have i2:((a[0].toNat:Nat):Int)<48:=by omega
  go_enter func139,ntmps139;go_wp2_with fail;generalize hW0:w.alloc (abi g)=W0 at *;refine(zc ha HP.out).mono ?_;rintro r w1 ⟨rfl,hx,hf⟩;have HX:=hid hx;have HF:=hid (HF0.out.step hf);have p1:=(qi hf (b:=w.1.size) HZ.out.2 (by have:=HZ.out.1;omega) 0).trans HP0.out;clear hx hf HP HF0;go_wp2_with fail;refine(xm rfl HX.out).mono ?_;rintro r w2 ⟨rfl,hx2,hf2⟩;have HX2:=hid hx2;have HF2:=hid (HF.out.step hf2);clear hx2 hf2;go_wp2_with fail;go_ret;exact⟨rfl,HX2.out,HF2.out⟩
 ·have e:=hw1 hb;rw[e]at ht;injection ht with e1 e2
  subst e1 e2;clear e hw1 hw2 hw3 hb;have i1:((a.size:Int)==1)=true:=by rw[b1o];omega
  have i2:(48:Int) ≤((a[0].toNat:Nat):Int):=by omega
  have i3:(57:Int)<((a[0].toNat:Nat):Int):=by omega
  go_enter func139,ntmps139;go_wp2_with fail;generalize hW0:w.alloc (abi g)=W0 at *;refine(zc ha HP.out).mono ?_;rintro r w1 ⟨rfl,hx,hf⟩;have HX:=hid hx;have HF:=hid (HF0.out.step hf);have p1:=(qi hf (b:=w.1.size) HZ.out.2 (by have:=HZ.out.1;omega) 0).trans HP0.out;clear hx hf HP HF0;go_wp2_with fail;refine(xm rfl HX.out).mono ?_;rintro r w2 ⟨rfl,hx2,hf2⟩;have HX2:=hid hx2;have HF2:=hid (HF.out.step hf2);clear hx2 hf2;go_wp2_with fail;go_ret;exact⟨rfl,HX2.out,HF2.out⟩
 ·have i1:((a.size:Int)==1)=true:=by rw[b1o];omega
  have i2:(48:Int) ≤((a[0].toNat:Nat):Int):=by omega
  have i3:((a[0].toNat:Nat):Int)≤57:=by omega
  rw[hv]at hw2 hw3
  by_cases hq:(a[0].toNat:Int)-48<0∨8<(a[0].toNat:Int)-48
  ·have e:=hw2 hb hq;rw[e]at ht;injection ht with e1 e2
   subst e1 e2;have q2:56<(a[0].toNat:Int):=by omega
   clear e hw1 hw2 hw3 hb hv hq;go_enter func139,ntmps139;go_wp2_with fail;generalize hW0:w.alloc (abi g)=W0 at *;refine(zc ha HP.out).mono ?_;rintro r w1 ⟨rfl,hx,hf⟩;have HX:=hid hx;have HF:=hid (HF0.out.step hf);have p1:=(qi hf (b:=w.1.size) HZ.out.2 (by have:=HZ.out.1;omega) 0).trans HP0.out;clear hx hf HP HF0;go_wp2_with fail;refine(xm rfl HX.out).mono ?_;rintro r w2 ⟨rfl,hx2,hf2⟩;have HX2:=hid hx2;have HF2:=hid (HF.out.step hf2);clear hx2 hf2;go_wp2_with fail;go_ret;exact⟨rfl,HX2.out,HF2.out⟩
  ·have e:=hw3 hb hq;rw[e]at ht;injection ht with e1 e2
   subst e1 e2;have q2:(a[0].toNat:Int)≤56:=by omega
   clear e hw1 hw2 hw3 hb hv hq;go_enter func139,ntmps139;go_wp2_with fail;generalize hW0:w.alloc (abi g)=W0 at *;refine(zc ha HP.out).mono ?_;rintro r w1 ⟨rfl,hx,hf⟩;have HX:=hid hx;have HF:=hid (HF0.out.step hf);have p1:=(qi hf (b:=w.1.size) HZ.out.2 (by have:=HZ.out.1;omega) 0).trans HP0.out;clear hx hf HP HF0;go_wp2_with fail;go_ret;exact⟨rfl,HX.out,HF.out⟩
theorem am2 {g:Nat} {s t:Rd} {b:Bool} {n:Int} {w:World} (ht:Hid (vk ⟨#[77]⟩ b s=t)) (hp:qz g s w):Calls prog 143 #[bk3 g,jo b n] w (jv g (.tuple #[]) t w):=by
 obtain⟨a,s1,ha⟩:∃a s1,Hid (qv s=(a,s1)):=⟨_,_,rfl⟩
 have ht2:t=if a ≠⟨#[77]⟩ ∧(b=true∨a≠ByteArray.empty)then xt 3 s1 else s1:=by
  have q:=ht.out;unfold vk at q;rw[ha.out]at q;exact q.symm
 have hways:=auh a ⟨#[77]⟩ b s1;rw[← ht2,show (⟨#[77]⟩:ByteArray).toList=[77]by rw[b0x]]at hways;have hgl:=hp.lt;have hb0:=qa w (abi g);have hb1:=qa (w.alloc (abi g)) (.cells #[.bool b,.int .i64 n] 42);have hz0:(w.alloc (abi g)).1.size=w.1.size+1:=by simp
 have HP:=hid ((hp.keep hb0).keep hb1);have HF0:Hid (Frm g vi w ((w.alloc (abi g)).alloc (.cells #[.bool b,.int .i64 n] 42))):=Frm.of_below (qb hb0 hb1);have p0:((w.alloc (abi g)).alloc (.cells #[.bool b,.int .i64 n] 42)).cell? ⟨w.1.size,0,none⟩=some (.pointer (some ⟨g,0,none⟩)):=(n5 _ _ _ sm).trans (an7 w g);have HP0:=hid p0;have HN0:Hid (((w.alloc (abi g)).alloc (.cells #[.bool b,.int .i64 n] 42)).cell? ⟨w.1.size+1,0,none⟩=some (.bool b)):=b8 _ _ _ _ hz0.symm;have HZ:Hid (g<w.1.size∧w.1.size<((w.alloc (abi g)).alloc (.cells #[.bool b,.int .i64 n] 42)).1.size):=⟨hgl,by simp;omega⟩;have HZN:Hid (w.1.size+1<((w.alloc (abi g)).alloc (.cells #[.bool b,.int .i64 n] 42)).1.size):=by show _<_;simp
 clear hp hb0 hb1 hz0 hgl ht2 ht;rcases hways with⟨k1,hq⟩|⟨k1,kb,hq⟩|⟨k1,kb,k2,hq⟩|⟨k1,kb,k2,hq⟩
 ·subst hq;go_enter func143,ntmps143;go_wp2_with fail;generalize hW0:(w.alloc (abi g)).alloc (.cells #[.bool b,.int .i64 n] 42)=W0 at *;refine(zc ha HP.out).mono ?_;rintro r w1 ⟨rfl,hx,hf⟩;have HX:=hid hx;have HF:=hid (HF0.out.step hf);have p1:=(qi hf (b:=w.1.size) HZ.out.2 (by have:=HZ.out.1;omega) 0).trans HP0.out;have n1:=(qi hf (b:=w.1.size+1) HZN.out (by have:=HZ.out.1;omega) 0).trans HN0.out;clear hx hf HP HF0;go_wp2_with fail
  go_end0
  exact⟨rfl,HX.out,HF.out⟩
 ·subst kb hq;go_enter func143,ntmps143;go_wp2_with fail;generalize hW0:(w.alloc (abi g)).alloc (.cells #[.bool true,.int .i64 n] 42)=W0 at *;refine(zc ha HP.out).mono ?_;rintro r w1 ⟨rfl,hx,hf⟩;have HX:=hid hx;have HF:=hid (HF0.out.step hf);have p1:=(qi hf (b:=w.1.size) HZ.out.2 (by have:=HZ.out.1;omega) 0).trans HP0.out;have n1:=(qi hf (b:=w.1.size+1) HZN.out (by have:=HZ.out.1;omega) 0).trans HN0.out;clear hx hf HP HF0;go_wp2_with fail;refine(xm rfl HX.out).mono ?_;rintro r w2 ⟨rfl,hx2,hf2⟩;have HX2:=hid hx2;have HF2:=hid (HF.out.step hf2);clear hx2 hf2;go_wp2_with fail
  go_end0
  exact⟨rfl,HX2.out,HF2.out⟩
 ·subst kb hq;go_enter func143,ntmps143;go_wp2_with fail;generalize hW0:(w.alloc (abi g)).alloc (.cells #[.bool false,.int .i64 n] 42)=W0 at *;refine(zc ha HP.out).mono ?_;rintro r w1 ⟨rfl,hx,hf⟩;have HX:=hid hx;have HF:=hid (HF0.out.step hf);have p1:=(qi hf (b:=w.1.size) HZ.out.2 (by have:=HZ.out.1;omega) 0).trans HP0.out;have n1:=(qi hf (b:=w.1.size+1) HZN.out (by have:=HZ.out.1;omega) 0).trans HN0.out;clear hx hf HP HF0;go_wp2_with fail;refine(xm rfl HX.out).mono ?_;rintro r w2 ⟨rfl,hx2,hf2⟩;have HX2:=hid hx2;have HF2:=hid (HF.out.step hf2);clear hx2 hf2;go_wp2_with fail
  go_end0
  exact⟨rfl,HX2.out,HF2.out⟩
 ·subst kb hq;go_enter func143,ntmps143;go_wp2_with fail;generalize hW0:(w.alloc (abi g)).alloc (.cells #[.bool false,.int .i64 n] 42)=W0 at *;refine(zc ha HP.out).mono ?_;rintro r w1 ⟨rfl,hx,hf⟩;have HX:=hid hx;have HF:=hid (HF0.out.step hf);have p1:=(qi hf (b:=w.1.size) HZ.out.2 (by have:=HZ.out.1;omega) 0).trans HP0.out;have n1:=(qi hf (b:=w.1.size+1) HZN.out (by have:=HZ.out.1;omega) 0).trans HN0.out;clear hx hf HP HF0;go_wp2_with fail
  go_end0
  exact⟨rfl,HX.out,HF.out⟩
abbrev bmq (g:aun):Value:=bh1 g.1.1 g.1.2.1 g.1.2.2.1 g.1.2.2.2.1 g.1.2.2.2.2 g.2.1.1 g.2.1.2 g.2.2.1.1 g.2.2.1.2 g.2.2.2.1 g.2.2.2.2.1.1 g.2.2.2.2.1.2 g.2.2.2.2.2.1.1 g.2.2.2.2.2.1.2 g.2.2.2.2.2.2.1.1 g.2.2.2.2.2.2.1.2 g.2.2.2.2.2.2.2.1.1 g.2.2.2.2.2.2.2.1.2 g.2.2.2.2.2.2.2.2.1.1 g.2.2.2.2.2.2.2.2.1.2 g.2.2.2.2.2.2.2.2.2.1 g.2.2.2.2.2.2.2.2.2.2
def akf (x:aun×Int) (w:World) (r:Ending) (w':World):Prop:=r=.returned (.tuple #[bmq x.1,.int .i64 x.2])∧Below w.1.size w w'
theorem ahg:(prog.info? 44).map (·.size)=some 22:=by kernel_rfl
theorem a0w {w:World} {R:Nat} {C:Array Value} (h:AtC w R C):w.rangeAt R 0 C.toList:=fun j v hv=>by rw[b0e,h j];simpa using hv
theorem aao {w:World} {R:Nat} {C:Array Value} (h:AtC w R C) (hf:∀j,w.frozen? ⟨R,j,none⟩=false) {n:Nat} (hn:n=C.size):w.there R 0 n:=fun j hj=>by
 rw[b0e,h j,hf j];exact⟨by simp;omega,rfl⟩
theorem aaz {B R:Nat} {a:World} (hR:B≤R):∀(vs:List Value) (o:Nat) (w:World),Below B a w→Below B a (w.setCells R o vs)
 | [],_,_,h=>h
 | v::r,o,w,h=>by
  rw[World.setCells];exact aaz hR r (o+1) _ (qt h hR)
theorem ap1 {w:World} {b:Nat} {C:Array Value} (hC:C.size=22) (h:w.rangeAt b 0 C.toList):(loadVar 44 ⟨b,0,none⟩).run prog w=.ok (.agg C) w:=by
 have:=t6 (P:=prog) w b 0 44 C.toList _ h underlying44 rfl (by rw[ahg];simp[hC])
 simpa using this
theorem zf {g M:Nat} {s:Rd} {C:Array Value} {W w:World} (h:TkI (qz g s) g M C W w) (o:Nat) (u:Value) (ho:o<C.size):TkI (qz g s) g M (C.setIfInBounds o u) W (w.setCell ⟨M,o,none⟩ u):=h.put ho (h.x.far h.gm)
theorem aav {g M:Nat} {s:Rd} {C:Array Value} {W w:World} (h:TkI (qz g s) g M C W w) (C':Array Value) (e:C=C'):Hid (TkI (qz g s) g M C' W w):=by subst e;exact h
theorem a9x {R:List ByteArray} {cb:Bool} {ch:Int} {cm:Int} {cs:Int} {cc:Int} {lb:Bool} {ln:Int} {ob:Bool} {on:Int} {q:Int} {sb:Bool} {sn:Int} {hb:Bool} {hn:Int} {ab:Bool} {an:Int} {gb:Bool} {gn:Int} {eb:Bool} {en:Int} {tb:Bool} {tn:Int} {r1 r2 r3 r4 r5 r6 r7 r8 r9 r10 r11 r12:Rd} (hl:R.length=14) (h1:Hid (ai9 (0,R)=((cb,ch,cm,cs,cc),r1))) (h2:Hid (ac9 true r1=((lb,ln),r2))) (h3:Hid (ac9 false r2=((ob,on),r3))) (h4:Hid (zn 0 8 r3=(q,r4))) (h5:Hid (qs 1 2 0 0 99 r4=((sb,sn),r5))) (h6:Hid (qs 1 3 2 0 99999 r5=((hb,hn),r6))) (h7:Hid (qs 1 6 1 (-9999999) 9999999 r6=((ab,an),r7))) (h8:Hid (vk ⟨#[77]⟩ ab r7=r8)) (h9:Hid (qs 1 4 1 (-99999) 99999 r8=((gb,gn),r9))) (h10:Hid (vk ⟨#[77]⟩ gb r9=r10)) (h11:Hid (qs 1 4 1 0 99999 r10=((eb,en),r11))) (h12:Hid (qs 1 4 0 0 1023 r11=((tb,tn),r12))) :
 yf R=if r12.1=0 then(((cb,ch,cm,cs,cc),(lb,ln),(ob,on),q,(sb,sn),(hb,hn),(ab,an),(gb,gn),(eb,en),(tb,tn)),0)else(aab,r12.1):=by
 have c7:yc bku r6=((ab,an),r8):=by unfold yc bku;simp only;rw[h7.out];simp only;rw[h8.out]
 have c9:yc bk5 r8=((gb,gn),r10):=by unfold yc bk5;simp only;rw[h9.out];simp only;rw[h10.out]
 have hR:bd5 (0,R)=(((cb,ch,cm,cs,cc),(lb,ln),(ob,on),q,(sb,sn),(hb,hn),(ab,an),(gb,gn),(eb,en),(tb,tn)),r12):=by
  unfold bd5;simp only[ag2,h1.out,h2.out,h3.out,h4.out,h5.out,h6.out,c7,c9,h11.out,h12.out]
 unfold yf;rw[if_neg (fun q=>q hl),hR]
theorem a4r (A:Option Addr) (n c:Nat) (R:List ByteArray) (w:World) (hl:R.length=n) (hA:A=none→c=0) (hs:vw w w.1.size A R) (hz:∀t∈R,t.size≤1000000) (hkn:Hid (n=14)) :
 Calls prog 102 #[.slice A n c] w (akf (yf R) w):=by
 obtain⟨cb,ch,cm,cs,cc,r1,h1⟩:∃cb ch cm cs cc u,Hid (ai9 (0,R)=((cb,ch,cm,cs,cc),u)):=⟨_,_,_,_,_,_,rfl⟩;obtain⟨lb,ln,r2,h2⟩:∃lb ln u,Hid (ac9 true r1=((lb,ln),u)):=⟨_,_,_,rfl⟩;obtain⟨ob,on,r3,h3⟩:∃ob on u,Hid (ac9 false r2=((ob,on),u)):=⟨_,_,_,rfl⟩;obtain⟨q,r4,h4⟩:∃q u,Hid (zn 0 8 r3=(q,u)):=⟨_,_,rfl⟩;obtain⟨sb,sn,r5,h5⟩:∃sb sn u,Hid (qs 1 2 0 0 99 r4=((sb,sn),u)):=⟨_,_,_,rfl⟩;obtain⟨hb,hn,r6,h6⟩:∃hb hn u,Hid (qs 1 3 2 0 99999 r5=((hb,hn),u)):=⟨_,_,_,rfl⟩;obtain⟨ab,an,r7,h7⟩:∃ab an u,Hid (qs 1 6 1 (-9999999) 9999999 r6=((ab,an),u)):=⟨_,_,_,rfl⟩;obtain⟨r8,h8⟩:∃u,Hid (vk ⟨#[77]⟩ ab r7=u):=⟨_,rfl⟩;obtain⟨gb,gn,r9,h9⟩:∃gb gn u,Hid (qs 1 4 1 (-99999) 99999 r8=((gb,gn),u)):=⟨_,_,_,rfl⟩;obtain⟨r10,h10⟩:∃u,Hid (vk ⟨#[77]⟩ gb r9=u):=⟨_,rfl⟩;obtain⟨eb,en,r11,h11⟩:∃eb en u,Hid (qs 1 4 1 0 99999 r10=((eb,en),u)):=⟨_,_,_,rfl⟩
 obtain⟨tb,tn,r12,h12⟩:∃tb tn u,Hid (qs 1 4 0 0 1023 r11=((tb,tn),u)):=⟨_,_,_,rfl⟩;obtain⟨X,hX⟩:∃X,yf R=X:=⟨_,rfl⟩;have HT:Hid (X=if r12.1=0 then(((cb,ch,cm,cs,cc),(lb,ln),(ob,on),q,(sb,sn),(hb,hn),(ab,an),(gb,gn),(eb,en),(tb,tn)),0)else(aab,r12.1)):=hX.symm.trans (a9x (by rw[hl];exact hkn.out) h1 h2 h3 h4 h5 h6 h7 h8 h9 h10 h11 h12);rw[hX];clear hX;have HB0:=hid (qa w (.cells (kf false 0 0 0 0 false 0 false 0 0 false 0 false 0 false 0 false 0 false 0 false 0) 44));have HL:=hid (akt (c:=c) hA ((hs.below HB0.out (a8 _)).more HB0.out.size) (by have:=hkn.out;omega) hz);rw[hl]at HL;have hR0:∀o,(w.alloc (.cells (kf false 0 0 0 0 false 0 false 0 0 false 0 false 0 false 0 false 0 false 0 false 0) 44)).cell? ⟨w.1.size,o,none⟩=(kf false 0 0 0 0 false 0 false 0 0 false 0 false 0 false 0 false 0 false 0 false 0)[o]?:=fun o=>b8 _ _ _ _ rfl
 have hR1:∀o,(w.alloc (.cells (kf false 0 0 0 0 false 0 false 0 0 false 0 false 0 false 0 false 0 false 0 false 0) 44)).frozen? ⟨w.1.size,o,none⟩=false:=fun o=>by rw[i9];exact qk _ _ _ (a8 _)
 have HR0:=hid hR0;have HR1:=hid hR1;have HZ0:Hid ((w.alloc (.cells (kf false 0 0 0 0 false 0 false 0 0 false 0 false 0 false 0 false 0 false 0 false 0) 44)).1.size=w.1.size+1):=by show _=_;simp
 have i14:((n:Int) != 14)=false:=by have:=hkn.out;rw[t7];omega
 clear hs hA hz hR0 hR1 hl;go_enter func102,ntmps102
 try dsimp only
 repeat (fail_if_success (show Code.wp _ (Code.seq (Code.region 1 _ _) _) _ _ _)
         first|go_values|go_skip|go_guarded|go_step|go_upon|go_back|(simp only[b2y,b2z]at *;go_simp)|(go_ite<;>go_prune<;>(try go_simp)))
 go_cut [] (fun wx=>wx=w.alloc (.cells (kf false 0 0 0 0 false 0 false 0 0 false 0 false 0 false 0 false 0 false 0 false 0) 44))
 case first=>
  go_wp2_with fail
  go_meet
  rfl
 case rest=>
 subst hcut;generalize hW0:w.alloc (.cells (kf false 0 0 0 0 false 0 false 0 0 false 0 false 0 false 0 false 0 false 0 false 0) 44)=W0 at *;clear hW0;go_wp2_with fail;refine HL.out.mono ?_;rintro r w1 ⟨g,rfl,hx1,hg1,hz1,hb1⟩;have HX1:=hid hx1;have HB1:=hid hb1;have HG1:=hid hg1;clear hx1 hb1 hg1 hz1 HL;have p1:=an7 w1 g
 try dsimp only
 repeat (fail_if_success (show Code.wp _ (Code.seq (Code.region 5 _ _) _) _ _ _)
         first|go_values|go_skip|go_guarded|go_step|go_upon|go_back|(simp only[b2y,b2z]at *;go_simp)|(go_ite<;>go_prune<;>(try go_simp)))
 generalize hWP:w1.alloc (abi g)=WP at *
 go_quiet (fail)
 try dsimp only
 repeat (fail_if_success (show Code.wp _ (Code.seq (Code.region 5 _ _) _) _ _ _)
         first|go_values|go_skip|go_guarded|go_step|go_upon|go_back|(simp only[b2y,b2z]at *;go_simp)|(go_ite<;>go_prune<;>(try go_simp)))
 have hz0:=HZ0.out;have hg1:=HG1.out;have hb1s:=HB1.out.size;have hgl:=HX1.out.lt;have hbP:=qa w1 (abi g);have hzP:(w1.alloc (abi g)).1.size=w1.1.size+1:=by simp
 rw[hWP]at hbP hzP;have hbQ:Below w1.1.size w1 (WP.drewN nq):=aad hbP nq;have hzQ:(WP.drewN nq).1.size=w1.1.size+1:=hzP;have pQ:(WP.drewN nq).cell? ⟨w1.1.size,0,none⟩=some (.pointer (some ⟨g,0,none⟩)):=p1;generalize WP.drewN nq=WQ at *;have hbM:=qa WQ (.cells (kf false 0 0 0 0 false 0 false 0 0 false 0 false 0 false 0 false 0 false 0 false 0) 44)
 have T0:Hid (TkI (qz g (0,R)) g WQ.1.size (kf false 0 0 0 0 false 0 false 0 0 false 0 false 0 false 0 false 0 false 0 false 0) (WQ.alloc (.cells (kf false 0 0 0 0 false 0 false 0 0 false 0 false 0 false 0 false 0 false 0 false 0) 44)) (WQ.alloc (.cells (kf false 0 0 0 0 false 0 false 0 0 false 0 false 0 false 0 false 0 false 0 false 0) 44))):=
  ⟨(HX1.out.keep hbQ).keep hbM,fun j=>b8 _ _ _ _ rfl,fun j=>by rw[i9];exact qk _ _ _ (a8 _),by omega,by simp,rfl,rfl,rfl,a8 _,fun _ _ _ _=>rfl⟩
 have HPP:Hid ((WQ.alloc (.cells (kf false 0 0 0 0 false 0 false 0 0 false 0 false 0 false 0 false 0 false 0 false 0) 44)).cell? ⟨w1.1.size,0,none⟩=some (.pointer (some ⟨g,0,none⟩))):=(n5 _ _ _ (by show _<_;omega)).trans pQ;have hbB:Below W0.1.size W0 (WQ.alloc (.cells (kf false 0 0 0 0 false 0 false 0 0 false 0 false 0 false 0 false 0 false 0 false 0) 44)):=qb HB1.out (qb hbQ hbM)
 have HRW:Hid ((∀o,(WQ.alloc (.cells (kf false 0 0 0 0 false 0 false 0 0 false 0 false 0 false 0 false 0 false 0 false 0) 44)).cell? ⟨w.1.size,o,none⟩=(kf false 0 0 0 0 false 0 false 0 0 false 0 false 0 false 0 false 0 false 0 false 0)[o]?) ∧(∀o,(WQ.alloc (.cells (kf false 0 0 0 0 false 0 false 0 0 false 0 false 0 false 0 false 0 false 0 false 0) 44)).frozen? ⟨w.1.size,o,none⟩=false)∧Below w.1.size w (WQ.alloc (.cells (kf false 0 0 0 0 false 0 false 0 0 false 0 false 0 false 0 false 0 false 0 false 0) 44))):=
  ⟨fun o=>((qy hbB).1 _ o om).trans (HR0.out o),fun o=>((qy hbB).2 _ o om).trans (HR1.out o),b2k HB0.out (hbB.mono om)⟩
 have HLT:Hid (w.1.size<g∧g<w1.1.size∧w1.1.size<WQ.1.size∧WQ.1.size<(WQ.alloc (.cells (kf false 0 0 0 0 false 0 false 0 0 false 0 false 0 false 0 false 0 false 0 false 0) 44)).1.size):=⟨by omega,by omega,by omega,by simp⟩;clear hz0 hg1 hb1s hgl hbP hzP hbQ hzQ hbM hbB pQ p1 HX1 HB1 HG1 HR0 HR1 HZ0 HB0 hWP;go_upto_region 6 with fail;generalize hW:WQ.alloc (.cells (kf false 0 0 0 0 false 0 false 0 0 false 0 false 0 false 0 false 0 false 0 false 0) 44)=W at *;clear hW;generalize WQ.1.size=M at *;generalize w1.1.size=P at *;have HP:Hid (∀(X:World→Prop) C' wr,TkI X g M C' W wr→wr.cell? ⟨P,0,none⟩=some (.pointer (some ⟨g,0,none⟩))):=fun X C' wr hk=>(hk.cell (by have:=HLT.out;omega) (by have:=HLT.out;omega) (by have:=HLT.out;omega)).trans HPP.out
 have HT1:=T0;clear T0 HPP;have p_:=HP.out _ _ _ HT1.out;go_wp2_with fail;refine(azw h1 HT1.out.x).mono ?_;rintro r x1 ⟨rfl,hx,hf⟩;have HT2:=hid (HT1.out.frm hx hf);clear hx hf HT1;clear p_;have m0:=HT2.out.c 0;have z0:=HT2.out.z 0;have m1:=HT2.out.c 1;have z1:=HT2.out.z 1;have m2:=HT2.out.c 2;have z2:=HT2.out.z 2;have m3:=HT2.out.c 3;have z3:=HT2.out.z 3;have m4:=HT2.out.c 4;have z4:=HT2.out.z 4;go_upto_region 7 with fail;have HT1:=aav (zf (zf (zf (zf (zf HT2.out 0 (.bool cb) sm) 1 (.int .i64 ch) sm) 2 (.int .i64 cm) sm) 3 (.int .i64 cs) sm) 4 (.int .i64 cc) sm) (kf cb ch cm cs cc false 0 false 0 0 false 0 false 0 false 0 false 0 false 0 false 0) rfl;clear HT2 m0 z0 m1 z1 m2 z2 m3 z3 m4 z4;generalize (((((x1.setCell ⟨M,0,none⟩ (.bool cb)).setCell ⟨M,1,none⟩ (.int .i64 ch)).setCell ⟨M,2,none⟩ (.int .i64 cm)).setCell ⟨M,3,none⟩ (.int .i64 cs)).setCell ⟨M,4,none⟩ (.int .i64 cc))=y1 at *
 go_wp2_with fail;refine(avc h2 HT1.out.x).mono ?_;rintro r x2 ⟨rfl,hx,hf⟩;have HT2:=hid (HT1.out.frm hx hf);clear hx hf HT1;have m0:=HT2.out.c 5;have z0:=HT2.out.z 5;have m1:=HT2.out.c 6;have z1:=HT2.out.z 6;go_upto_region 8 with fail;have HT1:=aav (zf (zf HT2.out 5 (.bool lb) sm) 6 (.int .i64 ln) sm) (kf cb ch cm cs cc lb ln false 0 0 false 0 false 0 false 0 false 0 false 0 false 0) rfl;clear HT2 m0 z0 m1 z1;generalize ((x2.setCell ⟨M,5,none⟩ (.bool lb)).setCell ⟨M,6,none⟩ (.int .i64 ln))=y2 at *;go_wp2_with fail;refine(avc h3 HT1.out.x).mono ?_;rintro r x3 ⟨rfl,hx,hf⟩;have HT2:=hid (HT1.out.frm hx hf);clear hx hf HT1;have m0:=HT2.out.c 7;have z0:=HT2.out.z 7;have m1:=HT2.out.c 8;have z1:=HT2.out.z 8;go_upto_region 9 with fail;have HT1:=aav (zf (zf HT2.out 7 (.bool ob) sm) 8 (.int .i64 on) sm) (kf cb ch cm cs cc lb ln ob on 0 false 0 false 0 false 0 false 0 false 0 false 0) rfl
 clear HT2 m0 z0 m1 z1;generalize ((x3.setCell ⟨M,7,none⟩ (.bool ob)).setCell ⟨M,8,none⟩ (.int .i64 on))=y3 at *;have p_:=HP.out _ _ _ HT1.out;go_wp2_with fail;refine(avp h4 HT1.out.x).mono ?_;rintro r x4 ⟨rfl,hx,hf⟩;have HT2:=hid (HT1.out.frm hx hf);clear hx hf HT1;clear p_;have m0:=HT2.out.c 9;have z0:=HT2.out.z 9;go_upto_region 10 with fail;have HT1:=aav (zf HT2.out 9 (.int .i64 q) sm) (kf cb ch cm cs cc lb ln ob on q false 0 false 0 false 0 false 0 false 0 false 0) rfl;clear HT2 m0 z0;generalize (x4.setCell ⟨M,9,none⟩ (.int .i64 q))=y4 at *;go_wp2_with fail;refine(azv _).mono ?_;rintro r x_ ⟨rfl,hb⟩;have HT2:=hid (HT1.out.keep (Y:=qz g r4) (HT1.out.x.keep hb) hb);clear hb HT1;have HT1:=HT2;clear HT2;go_wp2_with fail;refine(ki h5 HT1.out.x).mono ?_;rintro r x5 ⟨rfl,hx,hf⟩;have HT2:=hid (HT1.out.frm hx hf);clear hx hf HT1;have m0:=HT2.out.c 10;have z0:=HT2.out.z 10
 have m1:=HT2.out.c 11;have z1:=HT2.out.z 11;go_upto_region 11 with fail;have HT1:=aav (zf (zf HT2.out 10 (.bool sb) sm) 11 (.int .i64 sn) sm) (kf cb ch cm cs cc lb ln ob on q sb sn false 0 false 0 false 0 false 0 false 0) rfl;clear HT2 m0 z0 m1 z1;generalize ((x5.setCell ⟨M,10,none⟩ (.bool sb)).setCell ⟨M,11,none⟩ (.int .i64 sn))=y5 at *;go_wp2_with fail;refine(azu _).mono ?_;rintro r x_ ⟨rfl,hb⟩;have HT2:=hid (HT1.out.keep (Y:=qz g r5) (HT1.out.x.keep hb) hb);clear hb HT1;have HT1:=HT2;clear HT2;go_wp2_with fail;refine(ki h6 HT1.out.x).mono ?_;rintro r x6 ⟨rfl,hx,hf⟩;have HT2:=hid (HT1.out.frm hx hf);clear hx hf HT1;have m0:=HT2.out.c 12;have z0:=HT2.out.z 12;have m1:=HT2.out.c 13;have z1:=HT2.out.z 13;go_upto_region 12 with fail;have HT1:=aav (zf (zf HT2.out 12 (.bool hb) sm) 13 (.int .i64 hn) sm) (kf cb ch cm cs cc lb ln ob on q sb sn hb hn false 0 false 0 false 0 false 0) rfl
 clear HT2 m0 z0 m1 z1;generalize ((x6.setCell ⟨M,12,none⟩ (.bool hb)).setCell ⟨M,13,none⟩ (.int .i64 hn))=y6 at *;go_wp2_with fail;refine(a4t _).mono ?_;rintro r x_ ⟨rfl,hb⟩;have HT2:=hid (HT1.out.keep (Y:=qz g r6) (HT1.out.x.keep hb) hb);clear hb HT1;have HT1:=HT2;clear HT2;go_wp2_with fail;refine(ki h7 HT1.out.x).mono ?_;rintro r x7 ⟨rfl,hx,hf⟩;have HT2:=hid (HT1.out.frm hx hf);clear hx hf HT1;have m0:=HT2.out.c 14;have z0:=HT2.out.z 14;have m1:=HT2.out.c 15;have z1:=HT2.out.z 15;go_upto_region 13 with fail;have HT1:=aav (zf (zf HT2.out 14 (.bool ab) sm) 15 (.int .i64 an) sm) (kf cb ch cm cs cc lb ln ob on q sb sn hb hn ab an false 0 false 0 false 0) rfl;clear HT2 m0 z0 m1 z1;generalize ((x7.setCell ⟨M,14,none⟩ (.bool ab)).setCell ⟨M,15,none⟩ (.int .i64 an))=y7 at *;have p_:=HP.out _ _ _ HT1.out;have m_0:=HT1.out.c 14;have m_1:=HT1.out.c 15;go_wp2_with fail;refine(am2 h8 HT1.out.x).mono ?_
 rintro r x8 ⟨rfl,hx,hf⟩;have HT2:=hid (HT1.out.frm hx hf);clear hx hf HT1;clear p_;clear m_0 m_1;have HT1:=HT2;clear HT2;go_upto_region 14 with fail;go_wp2_with fail;refine(avq _).mono ?_;rintro r x_ ⟨rfl,hb⟩;have HT2:=hid (HT1.out.keep (Y:=qz g r8) (HT1.out.x.keep hb) hb);clear hb HT1;have HT1:=HT2;clear HT2;go_wp2_with fail;refine(ki h9 HT1.out.x).mono ?_;rintro r x9 ⟨rfl,hx,hf⟩;have HT2:=hid (HT1.out.frm hx hf);clear hx hf HT1;have m0:=HT2.out.c 16;have z0:=HT2.out.z 16;have m1:=HT2.out.c 17;have z1:=HT2.out.z 17;go_upto_region 15 with fail;have HT1:=aav (zf (zf HT2.out 16 (.bool gb) sm) 17 (.int .i64 gn) sm) (kf cb ch cm cs cc lb ln ob on q sb sn hb hn ab an gb gn false 0 false 0) rfl;clear HT2 m0 z0 m1 z1;generalize ((x9.setCell ⟨M,16,none⟩ (.bool gb)).setCell ⟨M,17,none⟩ (.int .i64 gn))=y9 at *;have p_:=HP.out _ _ _ HT1.out;have m_0:=HT1.out.c 16;have m_1:=HT1.out.c 17
 go_wp2_with fail;refine(am2 h10 HT1.out.x).mono ?_;rintro r x10 ⟨rfl,hx,hf⟩;have HT2:=hid (HT1.out.frm hx hf);clear hx hf HT1;clear p_;clear m_0 m_1;have HT1:=HT2;clear HT2;go_upto_region 16 with fail;go_wp2_with fail;refine(a4s _).mono ?_;rintro r x_ ⟨rfl,hb⟩;have HT2:=hid (HT1.out.keep (Y:=qz g r10) (HT1.out.x.keep hb) hb);clear hb HT1;have HT1:=HT2;clear HT2;go_wp2_with fail;refine(ki h11 HT1.out.x).mono ?_;rintro r x11 ⟨rfl,hx,hf⟩;have HT2:=hid (HT1.out.frm hx hf);clear hx hf HT1;have m0:=HT2.out.c 18;have z0:=HT2.out.z 18;have m1:=HT2.out.c 19;have z1:=HT2.out.z 19;go_upto_region 17 with fail;have HT1:=aav (zf (zf HT2.out 18 (.bool eb) sm) 19 (.int .i64 en) sm) (kf cb ch cm cs cc lb ln ob on q sb sn hb hn ab an gb gn eb en false 0) rfl;clear HT2 m0 z0 m1 z1;generalize ((x11.setCell ⟨M,18,none⟩ (.bool eb)).setCell ⟨M,19,none⟩ (.int .i64 en))=y11 at *;go_wp2_with fail
 refine(a9y _).mono ?_;rintro r x_ ⟨rfl,hb⟩;have HT2:=hid (HT1.out.keep (Y:=qz g r11) (HT1.out.x.keep hb) hb);clear hb HT1;have HT1:=HT2;clear HT2;go_wp2_with fail;refine(ki h12 HT1.out.x).mono ?_;rintro r x12 ⟨rfl,hx,hf⟩;have HT2:=hid (HT1.out.frm hx hf);clear hx hf HT1;have m0:=HT2.out.c 20;have z0:=HT2.out.z 20;have m1:=HT2.out.c 21;have z1:=HT2.out.z 21;go_upto_region 18 with fail;have HT1:=aav (zf (zf HT2.out 20 (.bool tb) sm) 21 (.int .i64 tn) sm) (kf cb ch cm cs cc lb ln ob on q sb sn hb hn ab an gb gn eb en tb tn) rfl;clear HT2 m0 z0 m1 z1;generalize ((x12.setCell ⟨M,20,none⟩ (.bool tb)).setCell ⟨M,21,none⟩ (.int .i64 tn))=y12 at *;generalize y12=y9 at *;obtain⟨E,hE⟩:∃E,r12.1=E:=⟨_,rfl⟩;have HER:=hid (apv HT1.out.x);rw[hE]at HER HT;clear hE;have p_:=HP.out _ _ _ HT1.out;have hr:∀j,y9.cell? ⟨w.1.size,j,none⟩=(kf false 0 0 0 0 false 0 false 0 0 false 0 false 0 false 0 false 0 false 0 false 0)[j]?:=fun j=>(HT1.out.cell (by have:=HLT.out;omega) (by have:=HLT.out;omega) (by have:=HLT.out;omega)).trans (HRW.out.1 j)
 have hf:∀j,y9.frozen? ⟨w.1.size,j,none⟩=false:=fun j=>(HT1.out.frozen (by have:=HLT.out;omega) (by have:=HLT.out;omega) (by have:=HLT.out;omega)).trans (HRW.out.2.1 j)
 have HB9:Hid (Below w.1.size w y9):=b2k HRW.out.2.2 (HT1.out.below (by have:=HLT.out;omega) (by have:=HLT.out;omega));have hm:=HT1.out.c;have HR:=hid (show AtC y9 w.1.size (kf false 0 0 0 0 false 0 false 0 0 false 0 false 0 false 0 false 0 false 0 false 0)from hr);have HRF:=hid hf;have HRM:=hid (a0w (show AtC y9 M (kf cb ch cm cs cc lb ln ob on q sb sn hb hn ab an gb gn eb en tb tn)from hm));clear HT1 HRW HP hr hf hm;go_wp2_with fail;refine HER.out.mono ?_;rintro r w' ⟨rfl,rfl⟩;clear p_
 by_cases hE:E=0
 ·subst hE;have HX2:Hid (X=(((cb,ch,cm,cs,cc),(lb,ln),(ob,on),q,(sb,sn),(hb,hn),(ab,an),(gb,gn),(eb,en),(tb,tn)),0)):=HT.out.trans (if_pos rfl);clear HT;go_upto_region 21 with fail
  try (apply b1e;intro K_ HK_)
  apply b2n;refine b0i rfl _ _ rfl M 0 rfl (kf cb ch cm cs cc lb ln ob on q sb sn hb hn ab an gb gn eb en tb tn).toList _ HRM.out underlying44 rfl ahg ?_;refine b2w rfl _ _ _ rfl w.1.size 0 (kf cb ch cm cs cc lb ln ob on q sb sn hb hn ab an gb gn eb en tb tn) rfl rfl (aao HR.out HRF.out rfl) ahg (by simp[Value.oneCell']) ?_;have hY:=b1m y9 w.1.size 0 (kf cb ch cm cs cc lb ln ob on q sb sn hb hn ab an gb gn eb en tb tn).toList (aao HR.out HRF.out rfl);have HBK:=hid (aaz (a8 _) (kf cb ch cm cs cc lb ln ob on q sb sn hb hn ab an gb gn eb en tb tn).toList 0 y9 HB9.out);have hld:=ap1 (C:=kf cb ch cm cs cc lb ln ob on q sb sn hb hn ab an gb gn eb en tb tn) rfl hY;clear hY HR HRF HB9;generalize World.setCells y9 w.1.size 0 (kf cb ch cm cs cc lb ln ob on q sb sn hb hn ab an gb gn eb en tb tn).toList=Y at *;have HLD:=hid hld;clear hld
  go_wp2_with fail;refine b9 (v:=.tuple #[bh1 cb ch cm cs cc lb ln ob on q sb sn hb hn ab an gb gn eb en tb tn,.int .i64 0]) (by rw[b1g rfl];simp[asAddr,Result.andThen,HLD.out]) rfl ?_;rw[HX2.out];exact⟨rfl,HBK.out⟩
 ·have hne:(E != 0)=true:=by rw[b0g];exact hE
  have HX2:Hid (X=(aab,E)):=HT.out.trans (if_neg hE);clear hE HT;go_upto_region 20 with fail
  try (apply b1e;intro K_ HK_)
  apply b2n;go_step;go_step;go_step;go_step;go_step;go_step;refine b2w rfl _ _ _ rfl w.1.size 0 (kf false 0 0 0 0 false 0 false 0 0 false 0 false 0 false 0 false 0 false 0 false 0) rfl rfl (aao HR.out HRF.out rfl) ahg (by simp[Value.oneCell']) ?_;have hY:=b1m y9 w.1.size 0 (kf false 0 0 0 0 false 0 false 0 0 false 0 false 0 false 0 false 0 false 0 false 0).toList (aao HR.out HRF.out rfl);have HBK:=hid (aaz (a8 _) (kf false 0 0 0 0 false 0 false 0 0 false 0 false 0 false 0 false 0 false 0 false 0).toList 0 y9 HB9.out);have hld:=ap1 (C:=kf false 0 0 0 0 false 0 false 0 0 false 0 false 0 false 0 false 0 false 0 false 0) rfl hY;clear hY HR HRF HB9;generalize World.setCells y9 w.1.size 0 (kf false 0 0 0 0 false 0 false 0 0 false 0 false 0 false 0 false 0 false 0 false 0).toList=Y at *;have HLD:=hid hld;clear hld;go_wp2_with fail;refine b9 (v:=.tuple #[bh1 false 0 0 0 0 false 0 false 0 0 false 0 false 0 false 0 false 0 false 0 false 0,.int .i64 E]) (by rw[b1g rfl];simp[asAddr,Result.andThen,HLD.out]) rfl ?_
  rw[HX2.out];exact⟨rfl,HBK.out⟩
theorem am1 (A:Option Addr) (n c:Nat) (w:World) (h:((n:Int) != 14)=true):Calls prog 102 #[.slice A n c] w (akf (aab,3) w):=by
 have HB9:=hid (qa w (.cells (kf false 0 0 0 0 false 0 false 0 0 false 0 false 0 false 0 false 0 false 0 false 0) 44));have HR:Hid (AtC (w.alloc (.cells (kf false 0 0 0 0 false 0 false 0 0 false 0 false 0 false 0 false 0 false 0 false 0) 44)) w.1.size (kf false 0 0 0 0 false 0 false 0 0 false 0 false 0 false 0 false 0 false 0 false 0)):=fun o=>b8 _ _ _ _ rfl
 have HRF:Hid (∀o,(w.alloc (.cells (kf false 0 0 0 0 false 0 false 0 0 false 0 false 0 false 0 false 0 false 0 false 0) 44)).frozen? ⟨w.1.size,o,none⟩=false):=fun o=>by rw[i9];exact qk _ _ _ (a8 _)
 go_enter func102,ntmps102
 try dsimp only
 repeat (fail_if_success (show Code.wp _ (Code.seq (Code.region 1 _ _) _) _ _ _)
         first|go_values|go_skip|go_guarded|go_step|go_upon|go_back|(simp only[b2y,b2z]at *;go_simp)|(go_ite<;>go_prune<;>(try go_simp)))
 generalize hW0:w.alloc (.cells (kf false 0 0 0 0 false 0 false 0 0 false 0 false 0 false 0 false 0 false 0 false 0) 44)=W0 at *;clear hW0;go_upto_region 2 with fail
 try (apply b1e;intro K_ HK_)
 apply b2n;go_step;go_step;go_step;refine b2w rfl _ _ _ rfl w.1.size 0 (kf false 0 0 0 0 false 0 false 0 0 false 0 false 0 false 0 false 0 false 0 false 0) rfl rfl (aao HR.out HRF.out rfl) ahg (by simp[Value.oneCell']) ?_;have hY:=b1m W0 w.1.size 0 (kf false 0 0 0 0 false 0 false 0 0 false 0 false 0 false 0 false 0 false 0 false 0).toList (aao HR.out HRF.out rfl);have HBK:=hid (aaz (a8 _) (kf false 0 0 0 0 false 0 false 0 0 false 0 false 0 false 0 false 0 false 0 false 0).toList 0 W0 HB9.out);have hld:=ap1 (C:=kf false 0 0 0 0 false 0 false 0 0 false 0 false 0 false 0 false 0 false 0 false 0) rfl hY;clear hY HR HRF HB9;generalize World.setCells W0 w.1.size 0 (kf false 0 0 0 0 false 0 false 0 0 false 0 false 0 false 0 false 0 false 0 false 0).toList=Y at *;have HLD:=hid hld;clear hld;go_wp2_with fail;refine b9 (v:=.tuple #[bh1 false 0 0 0 0 false 0 false 0 0 false 0 false 0 false 0 false 0 false 0 false 0,.int .i64 3]) (by rw[b1g rfl];simp[asAddr,Result.andThen,HLD.out]) rfl ?_
 exact⟨rfl,HBK.out⟩
theorem azt (A:Option Addr) (R:List ByteArray) (c:Nat) (w:World) (hA:A=none→c=0) (hs:vw w w.1.size A R) (hz:∀t∈R,t.size≤1000000):Calls prog 102 #[.slice A R.length c] w (akf (yf R) w):=by
 by_cases h:R.length=14
 ·exact a4r A R.length c R w rfl hA hs hz h
 ·rw[show yf R=(aab,3)from if_pos h];exact am1 A R.length c w (by rw[b0g];omega)
theorem av9 (A B:Option Addr) (n c d:Nat) (L:List Int) (w:World) (hn:Hid (L.length=n)) (hA:Hid (ag7 w w.1.size A L)) (hB:Hid (ag7 w w.1.size B L)) (h0:n≤1000000) :
 Calls prog 51 #[.slice A n c,.slice B n d] w fun e w'=>e=.returned (.bool true)∧Below w.1.size w w':=by
 have hb:((n:Int) != (n:Int))=false:=by rw[t7]
 go_enter func51,ntmps51;go_wp2
 go_loopw [5] (fun i wr=>∃k nq:Nat,k≤n∧i=.int .i64 k∧wr=w.drewN nq) (fun i _=>n-(intOf i).toNat)
 case atStart=>exact⟨0,0,b0c _,rfl,rfl⟩
 case round=>
  obtain⟨k,nq,hk,rfl,rfl⟩:=hrel
  by_cases hlt:k<n
  ·have hkl:k<L.length:=by rw[hn.out];exact hlt
   obtain⟨b1,o1,hA1,hb1,hc1⟩:=hA.out k hkl;obtain⟨b2,o2,hA2,hb2,hc2⟩:=hB.out k hkl;subst hA1 hA2;generalize L[k]=v at *;have hv:(v != v)=false:=by rw[t7]
   have i1:(0:Int) ≤(k:Int):=n8 _;have i2:(k:Int)<(n:Int):=by omega
   clear hkl;go_wp2_with fail
   go_quiet (fail)
   go_wp2_with fail
   go_roundw
   case rel=>exact⟨k+1,_,by omega,by go_num,rfl⟩
   case measure=>simp[intOf];omega
  ·go_wp2_with fail;go_ret;exact⟨by rfl,aad (n6 _ _) _⟩
theorem awa (a:Bool) (f:Int) (b0:Bool) (n0:Int) (b1:Bool) (n1:Int) (b2:Bool) (n2:Int) (A B:Option Addr) (n c d:Nat) (L:List Int) (w:World) (hn:Hid (L.length=n)) (hA:Hid (ag7 w w.1.size A L)) (hB:Hid (ag7 w w.1.size B L)) (h0:n≤1000000) :
 Calls prog 49 #[a9z a f A n c b0 n0 b1 n1 b2 n2,a9z a f B n d b0 n0 b1 n1 b2 n2] w fun e w'=>e=.returned (.bool true)∧Below w.1.size w w':=by
 have hbb:Below w.1.size w ((w.alloc (.cells (kp a f A n c b0 n0 b1 n1 b2 n2) 51)).alloc (.cells (kp a f B n d b0 n0 b1 n1 b2 n2) 51)):=qb (qa _ _) (qa _ _)
 have HV:Hid (Calls prog 51 #[.slice A n c,.slice B n d] ((w.alloc (.cells (kp a f A n c b0 n0 b1 n1 b2 n2) 51)).alloc (.cells (kp a f B n d b0 n0 b1 n1 b2 n2) 51)) fun e w'=>e=.returned (.bool true)∧Below ((w.alloc (.cells (kp a f A n c b0 n0 b1 n1 b2 n2) 51)).alloc (.cells (kp a f B n d b0 n0 b1 n1 b2 n2) 51)).1.size ((w.alloc (.cells (kp a f A n c b0 n0 b1 n1 b2 n2) 51)).alloc (.cells (kp a f B n d b0 n0 b1 n1 b2 n2) 51)) w'):=
  av9 A B n c d L _ hn ((hA.out.below hbb (a8 _)).more hbb.size) ((hB.out.below hbb (a8 _)).more hbb.size) h0
 have HB:=hid hbb;have HC1:Hid (∀o,((w.alloc (.cells (kp a f A n c b0 n0 b1 n1 b2 n2) 51)).alloc (.cells (kp a f B n d b0 n0 b1 n1 b2 n2) 51)).cell? ⟨w.1.size,o,none⟩=(kp a f A n c b0 n0 b1 n1 b2 n2)[o]?):=fun o=>(n5 _ _ _ sm).trans (b8 _ _ _ _ rfl)
 have HC2:Hid (∀o,((w.alloc (.cells (kp a f A n c b0 n0 b1 n1 b2 n2) 51)).alloc (.cells (kp a f B n d b0 n0 b1 n1 b2 n2) 51)).cell? ⟨w.1.size+1,o,none⟩=(kp a f B n d b0 n0 b1 n1 b2 n2)[o]?):=fun o=>b8 _ _ _ _ sm
 have HZ:Hid (((w.alloc (.cells (kp a f A n c b0 n0 b1 n1 b2 n2) 51)).alloc (.cells (kp a f B n d b0 n0 b1 n1 b2 n2) 51)).1.size=w.1.size+2):=by show _=_;simp
 have hv:(f==f)=true:=by simp
 have hv0:(n0==n0)=true:=by simp
 have hv1:(n1==n1)=true:=by simp
 have hv2:(n2==n2)=true:=by simp
 clear hA hB hbb;go_enter func49,ntmps49;go_wp2_with fail;refine HV.out.mono ?_;rintro r w1 ⟨rfl,hb1⟩;have hz:=HZ.out;have HC1':Hid (∀o,w1.cell? ⟨w.1.size,o,none⟩=(kp a f A n c b0 n0 b1 n1 b2 n2)[o]?):=fun o=>((qy hb1).1 _ o om).trans (HC1.out o)
 have HC2':Hid (∀o,w1.cell? ⟨w.1.size+1,o,none⟩=(kp a f B n d b0 n0 b1 n1 b2 n2)[o]?):=fun o=>((qy hb1).1 _ o om).trans (HC2.out o)
 have HB1:=hid (qb HB.out hb1);clear hz hb1 HC1 HC2 HB HV HZ;have x3:=HC1'.out 3;have y3:=HC2'.out 3;have x4:=HC1'.out 4;have y4:=HC2'.out 4;have x5:=HC1'.out 5;have y5:=HC2'.out 5;have x6:=HC1'.out 6;have y6:=HC2'.out 6;have x7:=HC1'.out 7;have y7:=HC2'.out 7;have x8:=HC1'.out 8;have y8:=HC2'.out 8;go_wp2_with fail;go_ret;exact⟨by first|rfl|simp,HB1.out⟩
theorem az0 (A:Option Addr) (R:List ByteArray) (c:Nat) (w:World) (hA:A=none→c=0) (hs:vw w w.1.size A R) (hz:∀t∈R,t.size≤1000000):Calls prog 104 #[.slice A R.length c] w (akg (jy R) w):=by
 by_cases h:R.length=17
 ·exact a4u A R.length c R w rfl hA hs hz h
 ·have:jy R=(yi,3):=by unfold jy;rw[if_pos h]
  rw[this];exact am3 A R.length c w (by rw[b0g];omega)
theorem a15 (R:List ByteArray):(jy R).1.ids.length≤12:=by
 unfold jy
 split
 ·exact b0c _
 ·split
  ·exact at0 12 _
  ·exact b0c _
