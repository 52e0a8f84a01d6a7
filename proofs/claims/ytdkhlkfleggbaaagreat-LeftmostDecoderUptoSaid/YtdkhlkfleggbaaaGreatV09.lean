/- Parts. -/
import Derived.Test.YtdkhlkfleggbaaaGreatV00
import Derived.Lib.TrimByte
import Derived.Deep.RegionHeld3
namespace Go.Proofs.YtdkhlkfleggbaaaGreat
set_option maxHeartbeats 2000000
set_option maxRecDepth 8000
open Tryz
set_option linter.unusedVariables false
open Go.RowKit
def kt (k:Nat):Int:=((10^k:Nat):Int)
theorem bdi:kt 0=1:=rfl
theorem auz (k:Nat):kt (k+1)=kt k*10:=by unfold kt;rw[b22];omega
theorem ah5 (k:Nat):1<=kt k:=by
 unfold kt;have:0<10^k:=b3x dc;omega
theorem a9j {k n:Nat} (h:k<=n):kt k<=kt n:=by
 unfold kt;have:10^k<=10^n:=b06 dc h;omega
theorem bkm:kt 18=1000000000000000000:=by decide
theorem bkl:kt 17=100000000000000000:=by decide
theorem ax7 (n:Nat) (w:World) (hn:n<=18) :
 Calls prog 232 #[.int .i64 (n:Int)] w λe w'=>e=.returned (.int .i64 (kt n))/\w=w':=by
 go_enter func232,ntmps232;go_wp2
 go_loop [3,5] (λp i=>∃k:Nat,k<=n/\i=.int .i64 k/\p=.int .i64 (kt k)) (λ_ i=>n-(intOf i).toNat)
 case atStart=>exact⟨0,b0d _,rfl,rfl⟩
 case round=>
  obtain⟨k,hk,rfl,rfl⟩:=hrel
  by_cases hlt:k<n
  ·have h1:=ah5 k;have h2:=a9j (show k<=17 by omega);rw[bkl]at h2;have h3:=q_ (auz k);generalize kt k=T at *;go_wp2
   go_round
   case rel=>exact⟨k+1,by omega,by go_num,by rw[h3.o]⟩
   case measure=>simp[intOf];omega
  ·obtain rfl:k=n:=by omega
   go_wp2;go_ret;exact⟨rfl,rfl⟩
abbrev j9 (W M F L H:Int):Value:=.agg #[.int .i64 W,.int .i64 M,.int .i64 F,.int .i64 L,.int .i64 H]
def abq (W M F L H:Int):Bool:=decide (1<=W/\W<=M/\M<=12/\0<=F/\F<=6/\L<=H/\-kt (M+F).toNat<L/\H<kt (M+F).toNat)
theorem bec (W M F L H:Int) (w:World) (h:W<1\/1<=W/\M<W\/1<=W/\W<=M/\12<M) :
 Calls prog 222 #[j9 W M F L H] w λe w'=>e=.returned (.bool false)/\Below w.1.size w w':=by
 rcases h with h|⟨h0,h⟩|⟨h0,h1,h⟩
 all_goals
  go_enter func222,ntmps222;go_wp2;go_ret;exact⟨rfl,qa _ _⟩
theorem a9w (W M F L H:Int) (w:World) (h0:1<=W) (h1:W<=M) (h2:M<=12) (h:F<0\/0<=F/\6<F\/0<=F/\F<=6/\H<L) :
 Calls prog 222 #[j9 W M F L H] w λe w'=>e=.returned (.bool false)/\Below w.1.size w w':=by
 rcases h with h|⟨h3,h⟩|⟨h3,h4,h⟩
 all_goals
  go_enter func222,ntmps222;go_wp2;go_ret;exact⟨rfl,qa _ _⟩
theorem a9v (W L H:Int) (m f:Nat) (w:World) (h0:1<=W) (h1:W <=(m:Int)) (h2:m<=12) (h3:f<=6) (h4:L<=H) :
 Calls prog 222 #[j9 W m f L H] w λe w'=>e=.returned (.bool (decide (-kt (m+f)<L/\H<kt (m+f))))/\Below w.1.size w w':=by
 have HT:=λW=>q_ (ax7 (m+f) W om)
 rw[b5j]at HT;have t1:=ah5 (m+f);have t2:=a9j (show m+f<=18 by omega);rw[bkm]at t2;generalize kt (m+f)=T at *
 by_cases h5:-T<L
 ·have e:decide (-T<L/\H<T)=decide (H<T):=by simp[h5]
  rw[e];clear e;go_enter func222,ntmps222;go_wp2_with fail;refine(HT _).o.mono ?_;rintro e w' ⟨rfl,rfl⟩;go_wp2_with fail;go_ret;exact⟨rfl,qa _ _⟩
 ·have e:decide (-T<L/\H<T)=false:=by simp[h5]
  rw[e];clear e;go_enter func222,ntmps222;go_wp2_with fail;refine(HT _).o.mono ?_;rintro e w' ⟨rfl,rfl⟩;go_wp2_with fail;go_ret;exact⟨rfl,qa _ _⟩
theorem a9u (W M F L H:Int) (w:World):Calls prog 222 #[j9 W M F L H] w λe w'=>e=.returned (.bool (abq W M F L H))/\Below w.1.size w w':=by
 by_cases h:1<=W/\W<=M/\M<=12
 ·obtain⟨h0,h1,h2⟩:=h
  by_cases h:0<=F/\F<=6/\L<=H
  ·obtain⟨h3,h4,h5⟩:=h;obtain⟨m,rfl⟩:=b2n (show 0<=M by omega);obtain⟨f,rfl⟩:=b2n h3
   have e:abq W m f L H=decide (-kt (m+f)<L/\H<kt (m+f)):=by
    unfold abq;rw[show ((m:Int) +(f:Int)).toNat=m+f from by omega];simp only[h0,h1,h2,h3,h4,h5,true_and]
   rw[e];exact a9v W L H m f w h0 h1 om om h5
  ·have e:abq W M F L H=false:=by
    unfold abq;rw[decide_eq_false_iff_not];rintro⟨_,_,_,a,b,c,_⟩;exact h ⟨a,b,c⟩
   rw[e];exact a9w W M F L H w h0 h1 h2 om
 ·have e:abq W M F L H=false:=by
   unfold abq;rw[decide_eq_false_iff_not];rintro⟨a,b,c,_⟩;exact h ⟨a,b,c⟩
  rw[e];exact bec W M F L H w om
abbrev jo (b:Bool) (n:Int):Value:=.agg #[.bool b,.int .i64 n]
def aa5 (b:Bool) (n lo hi:Int):Bool:=if b then decide (lo<=n/\n<=hi)else decide (n=0)
theorem az4 (b:Bool) (n lo hi:Int) (w:World):Calls prog 224 #[jo b n,.int .i64 lo,.int .i64 hi] w λe w'=>e=.returned (.bool (aa5 b n lo hi))/\Below w.1.size w w':=by
 cases b with
 | false=>
  by_cases h:n=0
  ·subst h;have e:aa5 false 0 lo hi=true:=by unfold aa5;simp
   rw[e];clear e;go_enter func224,ntmps224;go_wp2;go_ret;exact⟨rfl,qa _ _⟩
  ·have e:aa5 false n lo hi=false:=by unfold aa5;simp[h]
   rw[e];clear e;go_enter func224,ntmps224;go_wp2;go_ret;exact⟨rfl,qa _ _⟩
 | true=>
  by_cases h:lo<=n
  ·have e:aa5 true n lo hi=decide (n<=hi):=by unfold aa5;rw[if_pos rfl];simp[h]
   rw[e];clear e;go_enter func224,ntmps224;go_wp2;go_ret;exact⟨rfl,qa _ _⟩
  ·have e:aa5 true n lo hi=false:=by unfold aa5;rw[if_pos rfl];simp[h]
   rw[e];clear e;go_enter func224,ntmps224;go_wp2;go_ret;exact⟨rfl,qa _ _⟩
def agh:Nat->Nat->Nat->List UInt8
 | 0,_,_=>[]
 | f+1,n,l=>if 0<n\/0<l then agh f (n / 10) (l-1)++[UInt8.ofNat (48+n%10)]else []
def agi (n l:Nat):List UInt8:=agh 20 n l
theorem ats (f:Nat):agh f 0 0=[]:=by cases f<;>simp[agh]
theorem amc (f n l:Nat) (h:0<n\/0<l):agh (f+1) n l=agh f (n / 10) (l-1)++[UInt8.ofNat (48+n%10)]:=by rw[agh,if_pos h]
def toB (l:List UInt8):ByteArray:=⟨l.toArray⟩
theorem a3g (l:List UInt8):(toB l).data.toList=l:=by simp[toB]
theorem bhe (l:List UInt8):(toB l).size=l.length:=by show l.toArray.size=_;simp
theorem bhs (l:List UInt8) (c:UInt8):Lib.trimRightB (l++[c]) c=Lib.trimRightB l c:=by simp[Lib.trimRightB]
theorem bht (l:List UInt8) (x c:UInt8) (h:x≠c):Lib.trimRightB (l++[x]) c=l++[x]:=by simp[Lib.trimRightB,h]
theorem a76 (s:ByteArray):s.toList.length=s.size:=by rw[b07];simp
theorem za {s:ByteArray} (h:0<s.size):s.toList.isEmpty=false /\(s.toList==[])=false:=by
 have hl:=a76 s;cases hs:s.toList with
 | nil=>rw[hs]at hl;simp at hl;omega
 | cons a l=>exact⟨rfl,rfl⟩
theorem azw (f:Nat):∀n l,n<10^f->l<=f->agh (f+1) n l=agh f n l:=by
 induction f with
 | zero=>
  intro n l h1 h2;have:n<1:=h1;rw[show n=0 from by omega,show l=0 from by omega];rfl
 | succ f ih=>
  intro n l h1 h2
  by_cases h:0<n\/0<l
  ·rw[amc (f+1) n l h,amc f n l h,ih (n / 10) (l-1) (by rw[b22]at h1;omega) om]
  ·rw[show n=0 from by omega,show l=0 from by omega,ats,ats]
theorem att (n l:Nat) (hn:n<=1000000000000000000) (hl:l<=18) (h:0<n\/0<l):agi n l=agi (n / 10) (l-1)++[UInt8.ofNat (48+n%10)]:=by
 unfold agi
 rw [amc 19 n l h, <- azw 19 (n / 10) (l - 1) (by have:(10:Nat)^19=10000000000000000000:=by decide
                                                  omega) om]
theorem a1d (m:Nat) (h:m<10):UInt8.ofNat (48+m)=48↔m=0:=by
 constructor
 ·intro k;have:=congrArg UInt8.toNat k;simp at this;omega
 ·rintro rfl;rfl
def art (r f:Nat):List UInt8:=if r=0 then []else Lib.trimRightB (46::agi r f) 48
theorem bdn (r f:Nat) (hr:0<r) (h:r%10=0) (hm:r<=1000000000000000000) (hf:f<=18):Lib.trimRightB (46::agi r f) 48=Lib.trimRightB (46::agi (r / 10) (f-1)) 48:=by
 rw[att r f hm hf (.inl hr),(a1d (r%10) om).2 h,<- b0u,bhs]
theorem bdo (r f:Nat) (hr:0<r) (h:r%10≠0) (hm:r<=1000000000000000000) (hf:f<=18):Lib.trimRightB (46::agi r f) 48=46::agi r f:=by
 rw[att r f hm hf (.inl hr),<- b0u,bht _ _ _ (λk=>h ((a1d (r%10) om).1 k))]
def aj6 (n whole f:Nat):List UInt8:=agi (n / 10^f) whole++art (n%10^f) f
def awv (b:Bool) (n W M F L H:Int):ByteArray×Int:=
 if abq W M F L H=false then(ByteArray.empty,1)
 else if aa5 b n L H=false then(ByteArray.empty,5)
 else if b=false then(ByteArray.empty,0)
 else if n<0 then(toB (45::aj6 (-n).toNat W.toNat F.toNat),0)else(toB (aj6 n.toNat W.toNat F.toNat),0)
def isD (c:UInt8):Bool:=decide (48<=c.toNat/\c.toNat<=57)
def js (l:List UInt8):Nat:=(l.takeWhile isD).length
theorem biy:∀(l:List UInt8) (k:Nat),(∀j (h:j<l.length),j<k->isD l[j]=true)->k<=l.length ->(∀h:k<l.length,isD l[k]=false)->js l=k:=by
 intro l
 induction l with
 | nil=>intro k _ h _;simp at h;subst h;rfl
 | cons c l ih=>
  intro k h1 h2 h3;cases k with
  | zero=>
   have:=h3 sm;unfold js;rw[b4o,if_neg (by simpa using this)];rfl
  | succ k=>
   have hc:=h1 0 sm om;unfold js;rw[b4o,if_pos (by simpa using hc),n6];have:=ih k (λj hj hk=>h1 (j+1) (by simpa using hj) om) (by simpa using h2) (λhk=>h3 (by simpa using hk));unfold js at this;rw[this]
def aac (l:List UInt8):Nat:=l.foldl (λn c=>10*n +(c.toNat-48)) 0
theorem ai1 (l:List UInt8) (c:UInt8):aac (l++[c])=10*aac l +(c.toNat-48):=by simp[aac]
theorem ai0 (l:List UInt8) (h:∀c∈l,isD c=true):aac l<10^l.length:=by
 have key:∀r:List UInt8,(∀c∈r,isD c=true)->aac r.reverse<10^r.length:=by
  intro r
  induction r with
  | nil=>intro _;decide
  | cons c r ih=>
   intro hr;have h1:=ih (λx hx=>hr x (by simp[hx]));have h2:=b1g (hr c sm);rw[b44,ai1,n6,b22];omega
 have:=key l.reverse (λc hc=>h c (by simpa using hc));rw[List.reverse_reverse,b3i]at this;exact this
def yv (l:List UInt8) (least most frac:Nat):Option Nat:=
 if js l<least\/most<js l then none
 else if js l=l.length then some (aac l*10^frac)
 else if l[js l]?≠some 46\/js (l.drop (js l+1))<1\/frac<js (l.drop (js l+1))\/js l+1+js (l.drop (js l+1))≠l.length then none
 else some (aac (l.take (js l))*10^frac+aac (l.drop (js l+1))*10^(frac-js (l.drop (js l+1))))
theorem aop (l:List UInt8):js l<=l.length:=by
 unfold js;exact(List.takeWhile_prefix isD).length_le
theorem bdx:∀l:List UInt8,∀c∈l.takeWhile isD,isD c=true:=by
 intro l
 induction l with
 | nil=>intro c h;simp at h
 | cons x l ih=>
  intro c h;rw[b4o]at h
  split at h
  ·rename_i hx;rcases b03.1 h with rfl|h
   ·exact hx
   ·exact ih c h
  ·simp at h
theorem ab4 (l:List UInt8):∀c∈l.take (js l),isD c=true:=by
 intro c hc
 have:l.take (js l)=l.takeWhile isD:=by
  unfold js;exact(List.prefix_iff_eq_take.1 (List.takeWhile_prefix isD)).symm
 rw[this]at hc;exact bdx l c hc
theorem ke (k:Nat):kt k=((10^k:Nat):Int):=rfl
theorem am4 {l:List UInt8} {n:Nat} (h:∀c∈l,isD c=true) (hn:l.length+n<=18):(aac l:Int)*kt n<=1000000000000000000/\0 <=(aac l:Int)*kt n:=by
 have h1:=ai0 l h;have h2:aac l*10^n<10^l.length*10^n:=b4p h1 (b3x dc);rw[<- b3z]at h2;have h3:(10:Nat)^(l.length+n)<=10^18:=b06 dc hn;have e:(10:Nat)^18=1000000000000000000:=by decide
 rw[ke,<- b2a];omega
def ahf (W:World) (gs gn ga:Nat) (s:ByteArray) (nv:Int) (a:Nat):Prop:=
 W.cell? ⟨gs,0,none⟩=some (.string s)/\W.cell? ⟨gn,0,none⟩=some (.int .i64 nv)/\W.cell? ⟨ga,0,none⟩=some (.int .i64 (a:Int))/\W.frozen? ⟨gn,0,none⟩=false/\W.frozen? ⟨ga,0,none⟩=false
def ju (s:ByteArray) (a:Nat) (nv:Int) (k:Nat):Int:=nv*kt k +(aac ((s.data.toList.drop a).take k):Int)
theorem bdd (s:ByteArray) (a:Nat) (nv:Int):ju s a nv 0=nv:=by
 unfold ju;rw[bdi,b2b];show nv*1+0=nv;omega
theorem bdc (s:ByteArray) (a:Nat) (nv:Int) (k:Nat) (h:a+k<s.size) (hd:isD s[a+k]=true):ju s a nv (k+1)=10*ju s a nv k +((s[a+k].toNat:Int)-48):=by
 unfold ju
 have hl : k < (s.data.toList.drop a).length := by rw[n5];have:s.data.toList.length=s.size:=by simp
                                                   omega
 have he:(s.data.toList.drop a)[k]=s[a+k]:=by rw[b38];rfl
 have h2:=b1g hd;rw[o9 hl,ai1,he,auz,<- Int.mul_assoc];omega
def ay0 (s:ByteArray) (a most:Nat) (nv:Int) (gs gn ga B:Nat) (W:World) (e:Ending) (w':World):Prop:=
 ∃(K:Nat) (nv2:Int),K=min (js (s.data.toList.drop a)) (most+1)/\e=.returned (.int .i64 (K:Int))/\ahf w' gs gn ga s nv2 (a+K)/\Below B W w'/\w'.1.size=W.1.size /\(K<=most->nv2=ju s a nv K)
def a8x (s:ByteArray) (a most:Nat) (nv:Int) (gs gn ga B:Nat) (W:World) (v:Value) (wr:World):Prop:=
 ∃(k:Nat) (nv2:Int),v=.int .i64 (k:Int)/\k<=most+1/\a+k<=s.size/\Q_ (∀j,j<k->∃h:a+j<s.size,isD s[a+j]=true)/\Q_ (ahf wr gs gn ga s nv2 (a+k))/\Q_ (Below B W wr)/\Q_ (wr.1.size=W.1.size)/\Q_ (k<=most->nv2=ju s a nv k)
theorem a56 {s:ByteArray} {a most:Nat} {nv:Int} {gs gn ga B:Nat} {W wr:World} {k:Nat} {nv2:Int}
 (hm:most<=12) (hd1:gs≠gn) (hd2:gs≠ga) (hd3:gn≠ga) (hB1:B<=gn) (hB2:B<=ga)
 (HB:∀k,k<=most->0<=ju s a nv k/\ju s a nv k<=9000000000000000000)
 (hkm:k<=most) (hlt:a+k<s.size) (hd:isD s[a+k]=true) (hall:∀j,j<k->∃h:a+j<s.size,isD s[a+j]=true)
 (hst:ahf wr gs gn ga s nv2 (a+k)) (hb:Below B W wr) (hz:wr.1.size=W.1.size) (hex:k<=most->nv2=ju s a nv k) :
 a8x s a most nv gs gn ga B W (.int .i64 ((k:Int)+1)) ((wr.setCell ⟨gn,0,none⟩ (.int .i64 (wrap64 (wrap64 (10*nv2) +(((s[a+k]'hlt).toNat:Int)-48))))).setCell ⟨ga,0,none⟩ (.int .i64 (((a+k:Nat):Int)+1))).drew:=by
 obtain⟨c1,c2,c3,z1,z2⟩:=hst;refine⟨k+1,wrap64 (wrap64 (10*nv2) +(((s[a+k]'hlt).toNat:Int)-48)),by rw[b5j];rfl,by omega,by omega,q_ ?_,q_ ⟨?_,?_,?_,?_,?_⟩,q_ ?_,q_ ?_,q_ ?_⟩
 ·intro j hj;rcases b08 j k with h|h
  ·exact hall j h
  ·obtain rfl:j=k:=by omega
   exact⟨hlt,hd⟩
 ·show ((wr.setCell _ _).setCell _ _).cell? _=_;rw[a9 _ _ _ _ (λe=>by injection e with e;exact hd2 e.symm),a9 _ _ _ _ (λe=>by injection e with e;exact hd1 e.symm)];exact c1
 ·show ((wr.setCell _ _).setCell _ _).cell? _=_;rw[a9 _ _ _ _ (λe=>by injection e with e;exact hd3 e.symm),b0x _ _ _ c2]
 ·show ((wr.setCell _ _).setCell _ _).cell? _=_;have h0:(wr.setCell ⟨gn,0,none⟩ (.int .i64 (wrap64 (wrap64 (10*nv2) +(((s[a+k]'hlt).toNat:Int)-48))))).cell? ⟨ga,0,none⟩=_:=(a9 _ _ _ _ (λe=>by injection e with e;exact hd3 e)).trans c3;rw[b0x _ _ _ h0];rw[show ((a +(k+1):Nat):Int)=((a+k:Nat):Int)+1 from by omega]
 ·show ((wr.setCell _ _).setCell _ _).frozen? _=_
  simpa using z1
 ·show ((wr.setCell _ _).setCell _ _).frozen? _=_
  simpa using z2
 ·exact acf ((hb.setCell hB1 _).setCell hB2 _)
 ·show ((wr.setCell _ _).setCell _ _).1.size=_
  simpa using hz
 ·intro hk1;have e1:=hex om;have b1:=HB k om;have b2:=HB (k+1) hk1;have e2:=bdc s a nv k hlt hd;have e3:=b1g hd;subst e1;rw[e2]at b2 ⊢;have q1:wrap64 (10*ju s a nv k)=10*ju s a nv k:=b39 _ om;rw[q1,b39 _ om]
theorem bix:∀(l:List UInt8) (k:Nat),(∀j (h:j<l.length),j<k->isD l[j]=true)->k<=l.length->k<=js l:=by
 intro l
 induction l with
 | nil=>intro k _ h;exact p9 h (b0d _)
 | cons c l ih=>
  intro k h1 h2;cases k with
  | zero=>exact b0d _
  | succ k=>
   have h0:isD c=true:=h1 0 sm om;have h3:=ih k (λj hj hk=>h1 (j+1) (by simpa using hj) om) (by simpa using h2);unfold js at h3 ⊢;rw[List.takeWhile_cons_of_pos h0,n6];omega
theorem aqn {s:ByteArray} {a most:Nat} {nv:Int} {gs gn ga B:Nat} {W wr:World} {k:Nat} {nv2:Int}
 (hak:a+k<=s.size) (hstop:k=most+1\/¬a+k<s.size\/∃h:a+k<s.size,isD s[a+k]=false) (hk:k<=most+1) (hall:∀j,j<k->∃h:a+j<s.size,isD s[a+j]=true)
 (hst:ahf wr gs gn ga s nv2 (a+k)) (hb:Below B W wr) (hz:wr.1.size=W.1.size) (hex:k<=most->nv2=ju s a nv k) :
 ay0 s a most nv gs gn ga B W (.returned (.int .i64 (k:Int))) wr:=by
 refine⟨k,nv2,?_,rfl,hst,hb,hz,hex⟩;have hsz:s.data.toList.length=s.size:=by simp
 have hlen:(s.data.toList.drop a).length=s.size-a:=by rw[n5,hsz]
 have hg:∀j (h:j<(s.data.toList.drop a).length) (h2:a+j<s.size),(s.data.toList.drop a)[j]=s[a+j]:=λj h h2=>by rw[b38];rfl
 have hle:k<=js (s.data.toList.drop a):=bix _ _ (λj hj hk=>by
  obtain⟨h,e⟩:=hall j hk;rw[hg j hj h];exact e) om
 rcases hstop with h|h|⟨h,e⟩
 ·omega
 ·have:=aop (s.data.toList.drop a);omega
 ·have:js (s.data.toList.drop a)=k:=biy _ k (λj hj hk=>by
   obtain⟨h,e⟩:=hall j hk;rw[hg j hj h];exact e) om (λh'=>by rw[hg k h' h];exact e)
  omega
theorem aea (s:ByteArray) (a most:Nat) (nv:Int) (gs gn ga B:Nat) (W:World) (hs:s.size<=1100000) (ha:a<=s.size) (hm:most<=12)
 (hst:ahf W gs gn ga s nv a) (hd1:gs≠gn) (hd2:gs≠ga) (hd3:gn≠ga) (hB1:B<=gn) (hB2:B<=ga)
 (HB:Q_ (∀k,k<=most->0<=ju s a nv k/\ju s a nv k<=9000000000000000000)) :
 Calls prog 233 #[.int .i64 (most:Int),.pointer (some ⟨ga,0,none⟩),.pointer (some ⟨gs,0,none⟩),.pointer (some ⟨gn,0,none⟩)] W (ay0 s a most nv gs gn ga B W):=by
 have HST:=q_ hst;clear hst;go_enter func233,ntmps233;go_wp2
 go_loopw [6] (λv wr=>a8x s a most nv gs gn ga B W v wr) (λv _=>most+1-(intOf v).toNat)
 case atStart=>exact⟨0,nv,rfl,b0d _,ha,λj h=>absurd h (b04 _),HST,q_ (n9 _ _),rfl,λ_=>(bdd s a nv).symm⟩
 case round=>
  obtain⟨k,nv2,rfl,hk,hak,hall,hst,hb,hz,hex⟩:=hrel;obtain⟨c1,c2,c3,z1,z2⟩:=hst.o
  by_cases hlt:a+k<s.size
  ·have i1:((a+k:Nat):Int)<(s.size:Int):=by omega
   have i2:(0:Int) <=((a+k:Nat):Int):=o5 _;have i3:((a+k:Nat):Int).toNat=a+k:=by omega
   by_cases hd:isD s[a+k]=true
   ·have hdd:=b1g hd;have h48:(48:Int) <=((s[a+k]'hlt).toNat:Int):=by omega
    have h57:((s[a+k]'hlt).toNat:Int)<=57:=by omega
    by_cases hkm:k<=most
    ·have HN:=q_ (a56 hm hd1 hd2 hd3 hB1 hB2 HB.o hkm hlt hd hall.o hst.o hb.o hz.o hex.o);clear hall hst hb hz hex;generalize hA:a+k=A at *;go_wp2
     go_region_with (fail)
     all_goals go_wp2
     all_goals go_roundw
     all_goals first|exact HN.o|(show most+1-((k:Int)+1).toNat<most+1-(k:Int).toNat;omega)
    ·have HO:=q_ (aqn hak (.inl om) hk hall.o hst.o hb.o hz.o hex.o);have hkm2:(most:Int)<(k:Int):=by omega
     clear hall hst hb hz hex hkm;generalize hA:a+k=A at *;go_wp2;go_ret;exact HO.o
   ·have HO:=q_ (aqn hak (.inr (.inr ⟨hlt,by simpa using hd⟩)) hk hall.o hst.o hb.o hz.o hex.o);have hdd:¬(48 <=(s[a+k]'hlt).toNat /\(s[a+k]'hlt).toNat<=57):=λh=>hd (t8 h)
    clear hall hst hb hz hex hd
    by_cases h1:48 <=(s[a+k]'hlt).toNat
    ·have h48:(48:Int) <=((s[a+k]'hlt).toNat:Int):=by omega
     have h57:(57:Int)<((s[a+k]'hlt).toNat:Int):=by omega
     generalize hA:a+k=A at *;go_wp2;go_ret;exact HO.o
    ·have h48:((s[a+k]'hlt).toNat:Int)<(48:Int):=by omega
     generalize hA:a+k=A at *;go_wp2;go_ret;exact HO.o
  ·have HO:=q_ (aqn hak (.inr (.inl hlt)) hk hall.o hst.o hb.o hz.o hex.o);have i1:(s.size:Int) <=((a+k:Nat):Int):=by omega
   clear hall hst hb hz hex;generalize hA:a+k=A at *;go_wp2;go_ret;exact HO.o
theorem bhx (l:List UInt8):aac l+29<=29*10^l.length:=by
 have key:∀r:List UInt8,aac r.reverse+29<=29*10^r.length:=by
  intro r
  induction r with
  | nil=>decide
  | cons c r ih=>
   have h2:=c.toNat_lt;rw[b44,ai1,n6,b22];omega
 have:=key l.reverse;rw[List.reverse_reverse,b3i]at this;exact this
theorem ab1 (s:ByteArray) (a:Nat) (nv:Int) (most n:Nat) (h0:0<=nv) (h1:nv<kt n) (h2:n+most<=18) (h3:most<=12):∀k,k<=most->0<=ju s a nv k/\ju s a nv k<=9000000000000000000:=by
 intro k hk;unfold ju;have e1:=ah5 k;have e2:nv*kt k<=kt n*kt k:=Int.mul_le_mul_of_nonneg_right om om
 have e3:kt n*kt k<=1000000000000000000:=by
  rw[ke,ke,<- b2a,<- b3z];have:(10:Nat)^(n+k)<=10^18:=b06 dc om;have e:(10:Nat)^18=1000000000000000000:=by decide
  omega
 have e4:0<=nv*kt k:=Int.mul_nonneg h0 om;have e5:=bhx ((s.data.toList.drop a).take k);have e6:(10:Nat)^((s.data.toList.drop a).take k).length<=10^12:=b06 dc (by rw[l8];omega);have e:(10:Nat)^12=1000000000000:=by decide
 omega
theorem a1m {P:Program} {f:FuncId} {args:Array Value} {w:World} {n:Nat} {v:Value}
 (h:Calls P f args (w.drewN n) λe w'=>e=.returned v/\w.drewN n=w'):Calls P f args (w.drewN n) λe w''=>e=.returned v/\∃m,w''=w.drewN m:=
 h.mono λ_ _ ⟨he,hm⟩=>⟨he,n,hm.symm⟩
theorem qk (w:World) (n o:Nat) (h:w.1.size<=n):w.frozen? ⟨n,o,none⟩=false:=by
 unfold World.frozen?;rw[Array.getElem?_eq_none h]
theorem aeb (s:ByteArray) (w:World):ahf (((w.alloc (.cells #[.string s] 9)).alloc (.cells #[.int .i64 0] 2)).alloc (.cells #[.int .i64 0] 3)) w.1.size (w.1.size+1) (w.1.size+1+1) s 0 0:=by
 have n1:(w.alloc (.cells #[.string s] 9)).1.size=w.1.size+1:=by simp
 have n2:((w.alloc (.cells #[.string s] 9)).alloc (.cells #[.int .i64 0] 2)).1.size=w.1.size+1+1:=by simp
 refine⟨?_,?_,?_,?_,?_⟩
 ·rw[n7 _ _ _ om,n7 _ _ _ om,b8 _ _ _ _ rfl];rfl
 ·rw[n7 _ _ _ om,b8 _ _ _ _ n1.symm];rfl
 ·rw[b8 _ _ _ _ n2.symm];rfl
 ·rw[l6,l6,l6];exact qk _ _ _ om
 ·rw[l6,l6,l6];exact qk _ _ _ om
theorem a6k (s:ByteArray) (l m f:Nat) (w:World) (hs:s.size<=1100000) (hm:m<=12) (hf:f<=6) (g:js s.data.toList<l\/m<js s.data.toList) :
 Calls prog 223 #[.string s,.int .i64 (l:Int),.int .i64 (m:Int),.int .i64 (f:Int)] w λe w'=>e=.returned (.tuple #[.int .i64 0,.bool false])/\Below w.1.size w w':=by
 have HB:Q_ (∀k,k<=m->0<=ju s 0 0 k/\ju s 0 0 k<=9000000000000000000):=ab1 s 0 0 m 0 dc dc om hm;have HX:=λW gs gn ga B h1 h2 h3 h4 h5 h6=>aea s 0 m 0 gs gn ga B W hs (b0d _) hm h1 h2 h3 h4 h5 h6 HB
 go_enter func223,ntmps223;go_wp2_with fail;refine(HX _ w.1.size (w.1.size+1) (w.1.size+1+1) w.1.size (aeb s w) om om om om om).mono ?_;rintro e w1 ⟨K,nv2,hK,rfl,hst,hb,hz,hex⟩;have b1:=q_ (((((n9 w.1.size w).alloc (a8 _) _).alloc sm _).alloc (by simp;omega) _).trans hb);rw[b2k]at hK;clear hst hb hz hex HX HB
 by_cases h:(K:Int)<(l:Int)
 ·go_wp2_with fail
  go_ret2
  exact⟨rfl,b1.o⟩
 ·have h2:(m:Int)<(K:Int):=by omega
  have h1:(l:Int) <=(K:Int):=by omega
  clear hK g h;go_wp2_with fail
  go_ret2
  exact⟨rfl,b1.o⟩
theorem bbz (s:ByteArray) (l m f:Nat) (w:World) (hs:s.size<=1100000) (hm:m<=12) (hf:f<=6) (g:¬(js s.data.toList<l\/m<js s.data.toList)) (g2:js s.data.toList=s.data.toList.length) :
 Calls prog 223 #[.string s,.int .i64 (l:Int),.int .i64 (m:Int),.int .i64 (f:Int)] w λe w'=>e=.returned (.tuple #[.int .i64 ((aac s.data.toList:Int)*kt f),.bool true])/\Below w.1.size w w':=by
 have HB:Q_ (∀k,k<=m->0<=ju s 0 0 k/\ju s 0 0 k<=9000000000000000000):=ab1 s 0 0 m 0 dc dc om hm;have HX:=λW gs gn ga B h1 h2 h3 h4 h5 h6=>aea s 0 m 0 gs gn ga B W hs (b0d _) hm h1 h2 h3 h4 h5 h6 HB
 have hA:=ab4 s.data.toList;rw[g2,b0v]at hA;have hz:s.data.toList.length=s.size:=by simp
 have HT:=λW=>q_ (ax7 f W om)
 have hv:=am4 hA (n:=f) om;have hv0:(0:Int) <=(aac s.data.toList:Int):=by omega
 have hv1:(aac s.data.toList:Int)<kt 12:=by
  have h1:=ai0 s.data.toList hA;have h2:(10:Nat)^s.data.toList.length<=10^12:=b06 dc om;rw[ke];omega
 rw[show kt 12=1000000000000 from by decide]at hv1
 have hsum:ju s 0 0 s.size=(aac s.data.toList:Int):=by
  unfold ju;rw[b2k,<- hz,b0v];omega
 obtain⟨V,hVe⟩:∃V,(aac s.data.toList:Int)=V:=⟨_,rfl⟩;have t1:=ah5 f;obtain⟨T,hTe⟩:∃T,kt f=T:=⟨_,rfl⟩;rw[hVe]at hv0 hv1 hsum;rw[hVe,hTe]at hv;rw[hTe]at t1;simp only[hTe]at HT;rw[hVe,hTe];clear hVe hTe;go_enter func223,ntmps223;go_wp2_with fail;refine(HX _ w.1.size (w.1.size+1) (w.1.size+1+1) w.1.size (aeb s w) om om om om om).mono ?_;rintro e w1 ⟨K,nv2,hK,rfl,hst,hb,hz1,hex⟩;have b1:=q_ (((((n9 w.1.size w).alloc (a8 _) _).alloc sm _).alloc (by simp;omega) _).trans hb);rw[b2k]at hK;obtain rfl:K=s.size:=by omega
 obtain rfl:V=nv2:=by rw[hex om,hsum]
 obtain⟨c1,c2,c3,-,-⟩:=hst;have h1:(l:Int) <=(s.size:Int):=by omega
 have h2:(s.size:Int) <=(m:Int):=by omega
 rw[b0j]at c3;clear hK hex hsum HX HB hA g g2 hz hb hz1;have hw:IntKind.i64.wrap (V*T)=V*T:=b05 _ om;have hw2:wrap64 (V*T)=V*T:=b39 _ om;have hf0:(0:Int) <=(f:Int):=by omega
 have hf6:(f:Int)<=6:=by omega
 have hw3:IntKind.i64.wrap ((f:Int)-0)=(f:Int):=by rw[b05 _ om];omega
 have hw4:IntKind.i64.wrap (f:Int)=(f:Int):=by rw[b05 _ om]
 go_wp2_with fail
 go_quiet ((go_at_call 232;exact a1m (HT _).o))
 go_wp2_with fail
 go_ret2
 exact⟨rfl,aai b1.o _⟩
theorem a1g (s:ByteArray) (a l m f:Nat) (w:World) (hs:s.size<=1100000) (hm:m<=12) (hf:f<=6) (ha:js s.data.toList=a) (h1:(l:Int) <=(a:Int)) (h2:(a:Int) <=(m:Int)) (hlt:a<s.size) (hc:(((s[a]'hlt).toNat:Int) != 46)=true) :
 Calls prog 223 #[.string s,.int .i64 (l:Int),.int .i64 (m:Int),.int .i64 (f:Int)] w λe w'=>e=.returned (.tuple #[.int .i64 0,.bool false])/\Below w.1.size w w':=by
 have HB:Q_ (∀k,k<=m->0<=ju s 0 0 k/\ju s 0 0 k<=9000000000000000000):=ab1 s 0 0 m 0 dc dc om hm;have HX:=λW gs gn ga B h1 h2 h3 h4 h5 h6=>aea s 0 m 0 gs gn ga B W hs (b0d _) hm h1 h2 h3 h4 h5 h6 HB
 go_enter func223,ntmps223;go_wp2_with fail;refine(HX _ w.1.size (w.1.size+1) (w.1.size+1+1) w.1.size (aeb s w) om om om om om).mono ?_;rintro e w1 ⟨K,nv2,hK,rfl,hst,hb,hz1,hex⟩;have b1:=q_ (((((n9 w.1.size w).alloc (a8 _) _).alloc sm _).alloc (by simp;omega) _).trans hb);rw[b2k,ha]at hK;obtain rfl:K=a:=by omega
 obtain⟨c1,c2,c3,-,-⟩:=hst;rw[b0j]at c3;have i1:(K:Int)<(s.size:Int):=by omega
 have i2:(0:Int) <=(K:Int):=o5 _;have i3:(K:Int).toNat=K:=by omega
 clear hK hex HX HB ha hb hz1;go_wp2_with fail
 go_ret2
 exact⟨rfl,b1.o⟩
theorem aqm {s:ByteArray} {gs gn ga:Nat} {w1:World} {nv:Int} {a:Nat} (h:ahf w1 gs gn ga s nv a) (hd2:gs≠ga) (hd3:gn≠ga):ahf (w1.setCell ⟨ga,0,none⟩ (.int .i64 ((a:Int)+1))) gs gn ga s nv (a+1):=by
 obtain⟨c1,c2,c3,z1,z2⟩:=h;refine⟨?_,?_,?_,?_,?_⟩
 ·rw[a9 _ _ _ _ (λe=>by injection e with e;exact hd2 e.symm)];exact c1
 ·rw[a9 _ _ _ _ (λe=>by injection e with e;exact hd3 e.symm)];exact c2
 ·rw[b0x _ _ _ c3];rw[show ((a+1:Nat):Int)=(a:Int)+1 from by omega]
 ·simpa using z1
 ·simpa using z2
theorem awq (s:ByteArray) (a b l m f:Nat) (w:World) (hs:s.size<=1100000) (hm:m<=12) (hf:f<=6) (ha:js s.data.toList=a) (h1:(l:Int) <=(a:Int)) (h2:(a:Int) <=(m:Int)) (hlt:a<s.size) (hc:(((s[a]'hlt).toNat:Int) != 46)=false) (hbe:js (s.data.toList.drop (a+1))=b)
 (g:b<1\/f<b\/a+1+b≠s.size) :
 Calls prog 223 #[.string s,.int .i64 (l:Int),.int .i64 (m:Int),.int .i64 (f:Int)] w λe w'=>e=.returned (.tuple #[.int .i64 0,.bool false])/\Below w.1.size w w':=by
 have HB:Q_ (∀k,k<=m->0<=ju s 0 0 k/\ju s 0 0 k<=9000000000000000000):=ab1 s 0 0 m 0 dc dc om hm;have HX:=λW gs gn ga B h1 h2 h3 h4 h5 h6=>aea s 0 m 0 gs gn ga B W hs (b0d _) hm h1 h2 h3 h4 h5 h6 HB
 have hA:=ab4 s.data.toList;rw[ha]at hA
 have hV:ju s 0 0 a=(aac (s.data.toList.take a):Int):=by
  unfold ju;rw[b2k];omega
 have hV0:0<=ju s 0 0 a:=by rw[hV];omega
 have hV1:ju s 0 0 a<kt 12:=by
  have e1:=ai0 _ hA;have e2:(10:Nat)^(s.data.toList.take a).length<=10^12:=b06 dc (by rw[l8];omega);rw[hV,ke];omega
 have HB2:Q_ (∀k,k<=f->0<=ju s (a+1) (ju s 0 0 a) k/\ju s (a+1) (ju s 0 0 a) k<=9000000000000000000):=ab1 s (a+1) _ f 12 hV0 hV1 om om;have hblen:=aop (s.data.toList.drop (a+1));rw[hbe,n5,show s.data.toList.length=s.size from by simp]at hblen;obtain⟨V,hVe⟩:∃V,ju s 0 0 a=V:=⟨_,rfl⟩;rw[hVe]at HB2;have HVE:=q_ hVe;clear hV hV0 hV1 hA hVe;have HX2:=λW gs gn ga B h1 h2 h3 h4 h5 h6=>aea s (a+1) f V gs gn ga B W hs om om h1 h2 h3 h4 h5 h6 HB2
 go_enter func223,ntmps223;go_wp2_with fail;refine(HX _ w.1.size (w.1.size+1) (w.1.size+1+1) w.1.size (aeb s w) om om om om om).mono ?_;rintro e w1 ⟨K,nv2,hK,rfl,hst,hb,hz1,hex⟩;have b1:=q_ (((((n9 w.1.size w).alloc (a8 _) _).alloc sm _).alloc (by simp;omega) _).trans hb);rw[b2k,ha]at hK;obtain rfl:K=a:=by omega
 obtain rfl:nv2=V:=(hex om).trans HVE.o;rw[b0j]at hst;have hst2:=q_ (aqm hst om om);obtain⟨c1,c2,c3,-,z3⟩:=hst;have i1:(K:Int)<(s.size:Int):=by omega
 have i2:(0:Int) <=(K:Int):=o5 _;have i3:(K:Int).toNat=K:=by omega
 clear hK hex HX HB ha hb hz1;go_wp2_with fail;refine(HX2 _ w.1.size (w.1.size+1) (w.1.size+1+1) w.1.size hst2.o om om om om om).mono ?_;rintro e w2 ⟨K2,nv3,hK2,rfl,hst3,hb2,hz2,hex2⟩;have b2:=q_ ((b1.o.setCell (show w.1.size<=w.1.size+1+1 by omega) _).trans hb2);obtain⟨d1,d2,d3,-,-⟩:=hst3;rw[hbe]at hK2;clear hex2 HX2 HB2 hb2 hz2 hst2 hbe c1 c2 c3 z3
 by_cases k1:(K2:Int)<1
 ·go_wp2_with fail
  go_ret2
  exact⟨rfl,b2.o⟩
 ·by_cases k2:(f:Int)<(K2:Int)
  ·have k3:(1:Int) <=(K2:Int):=by omega
   clear hK2 g k1;go_wp2_with fail
   go_ret2
   exact⟨rfl,b2.o⟩
  ·have k3:(1:Int) <=(K2:Int):=by omega
   have k4:(K2:Int) <=(f:Int):=by omega
   have k5:((K+1+K2:Nat):Int)<(s.size:Int):=by omega
   clear hK2 g k1 k2;generalize K+1+K2=Z at *;go_wp2_with fail
   go_ret2
   exact⟨rfl,b2.o⟩
theorem a6j (s:ByteArray) (a b l m f:Nat) (w:World) (hs:s.size<=1100000) (hm:m<=12) (hf:f<=6) (ha:js s.data.toList=a) (h1:(l:Int) <=(a:Int)) (h2:(a:Int) <=(m:Int)) (hlt:a<s.size) (hc:(((s[a]'hlt).toNat:Int) != 46)=false) (hbe:js (s.data.toList.drop (a+1))=b)
 (g1:(1:Int) <=(b:Int)) (g2:b<=f) (g3:a+1+b=s.size) :
 Calls prog 223 #[.string s,.int .i64 (l:Int),.int .i64 (m:Int),.int .i64 (f:Int)] w λe w'=>e=.returned (.tuple #[.int .i64 ((aac (s.data.toList.take a):Int)*kt f +(aac (s.data.toList.drop (a+1)):Int)*kt (f-b)),.bool true])/\Below w.1.size w w':=by
 have HB:Q_ (∀k,k<=m->0<=ju s 0 0 k/\ju s 0 0 k<=9000000000000000000):=ab1 s 0 0 m 0 dc dc om hm;have HX:=λW gs gn ga B h1 h2 h3 h4 h5 h6=>aea s 0 m 0 gs gn ga B W hs (b0d _) hm h1 h2 h3 h4 h5 h6 HB
 have HT:=λW=>q_ (ax7 (f-b) W om)
 have hA:=ab4 s.data.toList;rw[ha]at hA
 have hV:ju s 0 0 a=(aac (s.data.toList.take a):Int):=by
  unfold ju;rw[b2k];omega
 have hV0:0<=ju s 0 0 a:=by rw[hV];omega
 have hV1:ju s 0 0 a<kt 12:=by
  have e1:=ai0 _ hA;have e2:(10:Nat)^(s.data.toList.take a).length<=10^12:=b06 dc (by rw[l8];omega);rw[hV,ke];omega
 have HB2:Q_ (∀k,k<=f->0<=ju s (a+1) (ju s 0 0 a) k/\ju s (a+1) (ju s 0 0 a) k<=9000000000000000000):=ab1 s (a+1) _ f 12 hV0 hV1 om om;have hB:=ab4 (s.data.toList.drop (a+1));have hlen:(s.data.toList.drop (a+1)).length=b:=by rw[n5,show s.data.toList.length=s.size from by simp];omega
 rw[hbe,<- hlen,b0v]at hB
 have hsum:ju s (a+1) (ju s 0 0 a) b*kt (f-b)=(aac (s.data.toList.take a):Int)*kt f +(aac (s.data.toList.drop (a+1)):Int)*kt (f-b):=by
  rw[show ju s (a+1) (ju s 0 0 a) b=ju s 0 0 a*kt b +(aac (s.data.toList.drop (a+1)):Int)from by
   unfold ju;rw[show (s.data.toList.drop (a+1)).take b=s.data.toList.drop (a+1)from by rw[<- hlen,b0v]],hV,Int.add_mul,Int.mul_assoc]
  rw[show kt b*kt (f-b)=kt f from by
   rw[ke,ke,ke,<- b2a,<- b3z,show b +(f-b)=f from by omega]]
 have v1:=am4 hA (n:=f) (by rw[l8];omega);have v2:=am4 hB (n:=f-b) om;have hR:0<=ju s (a+1) (ju s 0 0 a) b*kt (f-b)/\ju s (a+1) (ju s 0 0 a) b*kt (f-b)<=2000000000000000000:=by rw[hsum];omega
 rw[<- hsum];have hS0:=(HB2.o b g2);obtain⟨S,hSe⟩:∃S,ju s (a+1) (ju s 0 0 a) b=S:=⟨_,rfl⟩;rw[hSe]at hR hS0 ⊢;have HSE:=q_ hSe;obtain⟨V,hVe⟩:∃V,ju s 0 0 a=V:=⟨_,rfl⟩;rw[hVe]at HB2 HSE;have HVE:=q_ hVe;obtain⟨T,hTe⟩:∃T,kt (f-b)=T:=⟨_,rfl⟩;have t1:=ah5 (f-b);simp only[hTe,show ((f-b:Nat):Int)=(f:Int)-(b:Int)from by omega]at HT;rw[hTe]at hR t1 ⊢;clear hV hV0 hV1 hA hVe hSe hTe v1 v2 hsum hB hlen;have HX2:=λW gs gn ga B h1 h2 h3 h4 h5 h6=>aea s (a+1) f V gs gn ga B W hs om om h1 h2 h3 h4 h5 h6 HB2
 go_enter func223,ntmps223;go_wp2_with fail;refine(HX _ w.1.size (w.1.size+1) (w.1.size+1+1) w.1.size (aeb s w) om om om om om).mono ?_;rintro e w1 ⟨K,nv2,hK,rfl,hst,hb,hz1,hex⟩;have b1:=q_ (((((n9 w.1.size w).alloc (a8 _) _).alloc sm _).alloc (by simp;omega) _).trans hb);rw[b2k,ha]at hK;obtain rfl:a=K:=by omega
 obtain rfl:V=nv2:=((hex om).trans HVE.o).symm;rw[b0j]at hst;have hst2:=q_ (aqm hst om om);obtain⟨c1,c2,c3,-,z3⟩:=hst;have i1:(a:Int)<(s.size:Int):=by omega
 have i2:(0:Int) <=(a:Int):=o5 _;have i3:(a:Int).toNat=a:=by omega
 clear hK hex HX HB ha hb hz1;go_wp2_with fail;refine(HX2 _ w.1.size (w.1.size+1) (w.1.size+1+1) w.1.size hst2.o om om om om om).mono ?_;rintro e w2 ⟨K2,nv3,hK2,rfl,hst3,hb2,hz2,hex2⟩;have b2:=q_ ((b1.o.setCell (show w.1.size<=w.1.size+1+1 by omega) _).trans hb2);rw[hbe]at hK2;obtain rfl:b=K2:=by omega
 obtain rfl:S=nv3:=((hex2 om).trans HSE.o).symm;obtain⟨d1,d2,d3,-,-⟩:=hst3;have k4:(b:Int) <=(f:Int):=by omega
 rw[g3]at d3;clear hex2 HX2 HB2 hb2 hz2 hst2 hbe c1 c2 c3 z3 hK2 HSE HVE;have hf6:(f:Int)<=6:=by omega
 have hw:IntKind.i64.wrap (S*T)=S*T:=b05 _ om;have hw2:wrap64 (S*T)=S*T:=b39 _ om;have hw3:IntKind.i64.wrap ((f:Int)-(b:Int))=(f:Int)-(b:Int):=b05 _ om;go_wp2_with fail
 go_quiet ((go_at_call 232;exact a1m (HT _).o))
 go_wp2_with fail
 go_ret2
 exact⟨rfl,aai b2.o _⟩
theorem amo (s:ByteArray) (l m f:Nat) (w:World) (hs:s.size<=1100000) (hm:m<=12) (hf:f<=6) :
 Calls prog 223 #[.string s,.int .i64 (l:Int),.int .i64 (m:Int),.int .i64 (f:Int)] w λe w'=>e=.returned (.tuple #[.int .i64 (((yv s.data.toList l m f).getD 0:Nat):Int),.bool (yv s.data.toList l m f).isSome])/\Below w.1.size w w':=by
 have hz:s.data.toList.length=s.size:=by simp
 unfold yv
 by_cases g1:js s.data.toList<l\/m<js s.data.toList
 ·rw[if_pos g1];exact a6k s l m f w hs hm hf g1
 rw[if_neg g1]
 by_cases g2:js s.data.toList=s.data.toList.length
 ·rw[if_pos g2];have h:=bbz s l m f w hs hm hf g1 g2;rw[ke,<- b2a]at h;exact h
 rw[if_neg g2];have hle:=aop s.data.toList;obtain⟨a,ha⟩:∃a,js s.data.toList=a:=⟨_,rfl⟩;rw[ha]at g1 g2 hle ⊢;have hlt:a<s.size:=by omega
 obtain⟨b,hbe⟩:∃b,js (s.data.toList.drop (a+1))=b:=⟨_,rfl⟩;rw[hbe]
 have h46:s.data.toList[a]?=some 46 ↔((s[a]'hlt).toNat:Int)=46:=by
  rw[d7 om];constructor
  ·intro k;injection k with k
   have k2:s[a]=46:=k;rw[k2];rfl
  ·intro k;have k2:s[a]=46:=b1y.1 (by have e:(46:UInt8).toNat=46:=rfl;omega);exact congrArg some k2
 by_cases g3:s.data.toList[a]?≠some 46\/b<1\/f<b\/a+1+b≠s.data.toList.length
 ·rw[if_pos g3]
  by_cases k46:((s[a]'hlt).toNat:Int)=46
  ·refine awq s a b l m f w hs hm hf ha om om hlt (by rw[b0b];exact k46) hbe ?_;rcases g3 with g|g|g|g
   ·exact absurd (h46.2 k46) g
   ·exact .inl g
   ·exact .inr (.inl g)
   ·exact .inr (.inr om)
  ·exact a1g s a l m f w hs hm hf ha om om hlt (by rw[b0r];exact k46)
 ·rw[if_neg g3];have g4:s.data.toList[a]?=some 46:=b25.1 λk=>g3 (.inl k)
  have h:=a6j s a b l m f w hs hm hf ha om om hlt (by rw[b0b];exact h46.1 g4) hbe om om om;rw[ke,ke,<- b2a,<- b2a,<- b5j]at h;exact h
theorem ayd {w w':World} {n:Nat} (h:Below (w.drewN n).1.size (w.drewN n) w'):Below w.1.size w w':=⟨h.os,h.tape,h.output,h.size,h.block⟩
theorem zi (w:World) (g:Nat) (v0 v1 o0 o1:Value) (h0:w.cell? ⟨g,0,none⟩=some o0) (h1:w.cell? ⟨g,1,none⟩=some o1) :
 ((w.setCell ⟨g,0,none⟩ v0).setCell ⟨g,1,none⟩ v1).cell? ⟨g,0,none⟩=some v0 /\((w.setCell ⟨g,0,none⟩ v0).setCell ⟨g,1,none⟩ v1).cell? ⟨g,1,none⟩=some v1:=by
 have n01:(⟨g,1,none⟩:Addr) ≠⟨g,0,none⟩:=by simp
 refine⟨?_,?_⟩
 ·rw[a9 _ _ _ _ n01];exact b0x _ _ _ h0
 ·exact b0x _ _ _ ((a9 _ _ _ _ (λe=>n01 e.symm)).trans h1)
theorem beh (s:ByteArray) (W M F L H:Int) (w:World) (hs:s.size<=1100000) (HR:∀W',Q_ (Calls prog 222 #[j9 W M F L H] W' λe w'=>e=.returned (.bool false)/\Below W'.1.size W' w')) :
 Calls prog 206 #[.string s,j9 W M F L H] w λe w'=>e=.returned (.tuple #[jo false 0,.int .i64 1])/\Below w.1.size w w':=by
 go_enter func206,ntmps206;go_wp2_with fail;refine((HR _).o).mono ?_;rintro e w1 ⟨rfl,hb1⟩;obtain⟨c1,f1⟩:=qy hb1;have hz:=hb1.size;simp at hz;have hz1:w.1.size<w1.1.size:=by omega
 have hz4:w.1.size+1<w1.1.size:=by omega
 have b1:=q_ (qb (qb (qa w _) (qa _ _)) hb1);have q0:w1.cell? ⟨w.1.size+1,0,none⟩=some (.bool false):=(c1 (w.1.size+1) 0 sm).trans (by simp[b8]);have q1:w1.cell? ⟨w.1.size+1,1,none⟩=some (.int .i64 0):=(c1 (w.1.size+1) 1 sm).trans (by simp[b8]);go_wp2_with fail;obtain⟨p0,p1⟩:=zi w1 (w.1.size+1) (.bool false) (.int .i64 0) _ _ q0 q1;refine b9 (v:=.tuple #[jo false 0,.int .i64 1]) (by simp[results,results206,go_sem,p0,p1]) rfl ⟨rfl,?_⟩;exact(b0n (b0n b1.o (p:=⟨w.1.size+1,0,none⟩) (by show w.1.size<=w.1.size+1;omega) _) (p:=⟨w.1.size+1,1,none⟩) (by show w.1.size<=w.1.size+1;omega) _)
theorem a4d (s:ByteArray) (W M F L H:Int) (w:World) (hs:s.size<=1100000) (HR:∀W',Q_ (Calls prog 222 #[j9 W M F L H] W' λe w'=>e=.returned (.bool true)/\Below W'.1.size W' w')) (h0:s.size=0) :
 Calls prog 206 #[.string s,j9 W M F L H] w λe w'=>e=.returned (.tuple #[jo false 0,.int .i64 0])/\Below w.1.size w w':=by
 obtain rfl:s=⟨#[]⟩:=b33 (b2t h0);go_enter func206,ntmps206;go_wp2_with fail;refine((HR _).o).mono ?_;rintro e w1 ⟨rfl,hb1⟩;obtain⟨c1,f1⟩:=qy hb1;have hz:=hb1.size;simp at hz;have hz1:w.1.size<w1.1.size:=by omega
 have hz4:w.1.size+1<w1.1.size:=by omega
 have b1:=q_ (qb (qb (qa w _) (qa _ _)) hb1);have q0:w1.cell? ⟨w.1.size+1,0,none⟩=some (.bool false):=(c1 (w.1.size+1) 0 sm).trans (by simp[b8]);have q1:w1.cell? ⟨w.1.size+1,1,none⟩=some (.int .i64 0):=(c1 (w.1.size+1) 1 sm).trans (by simp[b8]);go_wp2_with fail;obtain⟨p0,p1⟩:=zi w1 (w.1.size+1) (.bool false) (.int .i64 0) _ _ q0 q1;refine b9 (v:=.tuple #[jo false 0,.int .i64 0]) (by simp[results,results206,go_sem,p0,p1]) rfl ⟨rfl,?_⟩;exact(b0n (b0n b1.o (p:=⟨w.1.size+1,0,none⟩) (by show w.1.size<=w.1.size+1;omega) _) (p:=⟨w.1.size+1,1,none⟩) (by show w.1.size<=w.1.size+1;omega) _)
theorem asd (s:ByteArray) (W M F L H:Int) (n:Int) (w:World) (hs:s.size<=1100000) (h0:0<s.size) (hc:(((s[0]'h0).toNat:Int)==45)=false) (HR:∀W',Q_ (Calls prog 222 #[j9 W M F L H] W' λe w'=>e=.returned (.bool true)/\Below W'.1.size W' w')) (HP:∀W',Q_ (Calls prog 223 #[.string s,.int .i64 1,.int .i64 M,.int .i64 F] W' λe w'=>e=.returned (.tuple #[.int .i64 n,.bool false])/\Below W'.1.size W' w')) :
 Calls prog 206 #[.string s,j9 W M F L H] w λe w'=>e=.returned (.tuple #[jo false 0,.int .i64 3])/\Below w.1.size w w':=by
 have i1:(0:Int)<(s.size:Int):=by omega
 have i2:(1:Int) <=(s.size:Int):=by omega
 obtain⟨hne1,hne2⟩:=za h0;go_enter func206,ntmps206;go_wp2_with fail;refine((HR _).o).mono ?_;rintro e w1 ⟨rfl,hb1⟩;obtain⟨c1,f1⟩:=qy hb1;have hz:=hb1.size;simp at hz;have hz1:w.1.size<w1.1.size:=by omega
 have hz4:w.1.size+1<w1.1.size:=by omega
 have b1:=q_ (qb (qb (qa w _) (qa _ _)) hb1);have q0:w1.cell? ⟨w.1.size+1,0,none⟩=some (.bool false):=(c1 (w.1.size+1) 0 sm).trans (by simp[b8]);have q1:w1.cell? ⟨w.1.size+1,1,none⟩=some (.int .i64 0):=(c1 (w.1.size+1) 1 sm).trans (by simp[b8]);go_wp2_with fail;refine((HP _).o).mono ?_;rintro e w2 ⟨rfl,hb2⟩;obtain⟨c2,f2⟩:=qy hb2;have hz5:=hb2.size;have hz6:w.1.size<w2.1.size:=by omega
 have hz7:w.1.size+1<w2.1.size:=by omega
 have b2:=q_ (qb b1.o hb2);replace q0:=(c2 _ 0 hz4).trans q0;replace q1:=(c2 _ 1 hz4).trans q1;go_wp2_with fail;obtain⟨p0,p1⟩:=zi w2 (w.1.size+1) (.bool false) (.int .i64 0) _ _ q0 q1;refine b9 (v:=.tuple #[jo false 0,.int .i64 3]) (by simp[results,results206,go_sem,p0,p1]) rfl ⟨rfl,?_⟩;exact(b0n (b0n b2.o (p:=⟨w.1.size+1,0,none⟩) (by show w.1.size<=w.1.size+1;omega) _) (p:=⟨w.1.size+1,1,none⟩) (by show w.1.size<=w.1.size+1;omega) _)
theorem ape (s:ByteArray) (W M F L H:Int) (n:Int) (w:World) (hs:s.size<=1100000) (h0:0<s.size) (hc:(((s[0]'h0).toNat:Int)==45)=false) (HR:∀W',Q_ (Calls prog 222 #[j9 W M F L H] W' λe w'=>e=.returned (.bool true)/\Below W'.1.size W' w')) (HP:∀W',Q_ (Calls prog 223 #[.string s,.int .i64 1,.int .i64 M,.int .i64 F] W' λe w'=>e=.returned (.tuple #[.int .i64 n,.bool true])/\Below W'.1.size W' w')) (hn0:0<=n) (hn:n<=2000000000000000000) (HF:∀W',Q_ (Calls prog 224 #[jo true n,.int .i64 L,.int .i64 H] W' λe w'=>e=.returned (.bool false)/\Below W'.1.size W' w')) :
 Calls prog 206 #[.string s,j9 W M F L H] w λe w'=>e=.returned (.tuple #[jo false 0,.int .i64 5])/\Below w.1.size w w':=by
 have i1:(0:Int)<(s.size:Int):=by omega
 have i2:(1:Int) <=(s.size:Int):=by omega
 obtain⟨hne1,hne2⟩:=za h0;have e1:(1:Int)*n=n:=b30 n;have e2:(-1:Int)*n=-n:=by rw[b5n,b30]
 go_enter func206,ntmps206;go_wp2_with fail;refine((HR _).o).mono ?_;rintro e w1 ⟨rfl,hb1⟩;obtain⟨c1,f1⟩:=qy hb1;have hz:=hb1.size;simp at hz;have hz1:w.1.size<w1.1.size:=by omega
 have hz4:w.1.size+1<w1.1.size:=by omega
 have b1:=q_ (qb (qb (qa w _) (qa _ _)) hb1);have q0:w1.cell? ⟨w.1.size+1,0,none⟩=some (.bool false):=(c1 (w.1.size+1) 0 sm).trans (by simp[b8]);have q1:w1.cell? ⟨w.1.size+1,1,none⟩=some (.int .i64 0):=(c1 (w.1.size+1) 1 sm).trans (by simp[b8]);go_wp2_with fail;refine((HP _).o).mono ?_;rintro e w2 ⟨rfl,hb2⟩;obtain⟨c2,f2⟩:=qy hb2;have hz5:=hb2.size;have hz6:w.1.size<w2.1.size:=by omega
 have hz7:w.1.size+1<w2.1.size:=by omega
 have b2:=q_ (qb b1.o hb2);replace q0:=(c2 _ 0 hz4).trans q0;replace q1:=(c2 _ 1 hz4).trans q1;go_wp2_with fail;refine((HF _).o).mono ?_;rintro e w3 ⟨rfl,hb3⟩;obtain⟨c3,f3⟩:=qy hb3;have hz8:=hb3.size;simp at hz8;have hz9:w2.1.size<w3.1.size:=by omega
 have hz10:w.1.size+1<w3.1.size:=by omega
 have b3:=q_ (qb (qb b2.o (qa _ _)) hb3);replace q0:=(c3 (w.1.size+1) 0 (by simp;omega)).trans ((n7 _ _ _ om).trans q0);replace q1:=(c3 (w.1.size+1) 1 (by simp;omega)).trans ((n7 _ _ _ om).trans q1);go_wp2_with fail;obtain⟨p0,p1⟩:=zi w3 (w.1.size+1) (.bool false) (.int .i64 0) _ _ q0 q1;refine b9 (v:=.tuple #[jo false 0,.int .i64 5]) (by simp[results,results206,go_sem,p0,p1]) rfl ⟨rfl,?_⟩;exact(b0n (b0n b3.o (p:=⟨w.1.size+1,0,none⟩) (by show w.1.size<=w.1.size+1;omega) _) (p:=⟨w.1.size+1,1,none⟩) (by show w.1.size<=w.1.size+1;omega) _)
theorem ay4 (s:ByteArray) (W M F L H:Int) (n:Int) (w:World) (hs:s.size<=1100000) (h0:0<s.size) (hc:(((s[0]'h0).toNat:Int)==45)=false) (HR:∀W',Q_ (Calls prog 222 #[j9 W M F L H] W' λe w'=>e=.returned (.bool true)/\Below W'.1.size W' w')) (HP:∀W',Q_ (Calls prog 223 #[.string s,.int .i64 1,.int .i64 M,.int .i64 F] W' λe w'=>e=.returned (.tuple #[.int .i64 n,.bool true])/\Below W'.1.size W' w')) (hn0:0<=n) (hn:n<=2000000000000000000) (HF:∀W',Q_ (Calls prog 224 #[jo true n,.int .i64 L,.int .i64 H] W' λe w'=>e=.returned (.bool true)/\Below W'.1.size W' w')) :
 Calls prog 206 #[.string s,j9 W M F L H] w λe w'=>e=.returned (.tuple #[jo true n,.int .i64 0])/\Below w.1.size w w':=by
 have i1:(0:Int)<(s.size:Int):=by omega
 have i2:(1:Int) <=(s.size:Int):=by omega
 obtain⟨hne1,hne2⟩:=za h0;have e1:(1:Int)*n=n:=b30 n;have e2:(-1:Int)*n=-n:=by rw[b5n,b30]
 go_enter func206,ntmps206;go_wp2_with fail;refine((HR _).o).mono ?_;rintro e w1 ⟨rfl,hb1⟩;obtain⟨c1,f1⟩:=qy hb1;have hz:=hb1.size;simp at hz;have hz1:w.1.size<w1.1.size:=by omega
 have hz4:w.1.size+1<w1.1.size:=by omega
 have b1:=q_ (qb (qb (qa w _) (qa _ _)) hb1);have q0:w1.cell? ⟨w.1.size+1,0,none⟩=some (.bool false):=(c1 (w.1.size+1) 0 sm).trans (by simp[b8]);have q1:w1.cell? ⟨w.1.size+1,1,none⟩=some (.int .i64 0):=(c1 (w.1.size+1) 1 sm).trans (by simp[b8]);go_wp2_with fail;refine((HP _).o).mono ?_;rintro e w2 ⟨rfl,hb2⟩;obtain⟨c2,f2⟩:=qy hb2;have hz5:=hb2.size;have hz6:w.1.size<w2.1.size:=by omega
 have hz7:w.1.size+1<w2.1.size:=by omega
 have b2:=q_ (qb b1.o hb2);replace q0:=(c2 _ 0 hz4).trans q0;replace q1:=(c2 _ 1 hz4).trans q1;go_wp2_with fail;refine((HF _).o).mono ?_;rintro e w3 ⟨rfl,hb3⟩;obtain⟨c3,f3⟩:=qy hb3;have hz8:=hb3.size;simp at hz8;have hz9:w2.1.size<w3.1.size:=by omega
 have hz10:w.1.size+1<w3.1.size:=by omega
 have b3:=q_ (qb (qb b2.o (qa _ _)) hb3);replace q0:=(c3 (w.1.size+1) 0 (by simp;omega)).trans ((n7 _ _ _ om).trans q0);replace q1:=(c3 (w.1.size+1) 1 (by simp;omega)).trans ((n7 _ _ _ om).trans q1);go_wp2_with fail;obtain⟨p0,p1⟩:=zi w3 (w.1.size+1) (.bool true) (.int .i64 n) _ _ q0 q1;refine b9 (v:=.tuple #[jo true n,.int .i64 0]) (by simp[results,results206,go_sem,p0,p1]) rfl ⟨rfl,?_⟩;exact(b0n (b0n b3.o (p:=⟨w.1.size+1,0,none⟩) (by show w.1.size<=w.1.size+1;omega) _) (p:=⟨w.1.size+1,1,none⟩) (by show w.1.size<=w.1.size+1;omega) _)
theorem asc (s:ByteArray) (W M F L H:Int) (n:Int) (w:World) (hs:s.size<=1100000) (h0:0<s.size) (hc:(((s[0]'h0).toNat:Int)==45)=true) (HR:∀W',Q_ (Calls prog 222 #[j9 W M F L H] W' λe w'=>e=.returned (.bool true)/\Below W'.1.size W' w')) (HP:∀W',Q_ (Calls prog 223 #[.string (s.extract 1 s.size),.int .i64 1,.int .i64 M,.int .i64 F] W' λe w'=>e=.returned (.tuple #[.int .i64 n,.bool false])/\Below W'.1.size W' w')) :
 Calls prog 206 #[.string s,j9 W M F L H] w λe w'=>e=.returned (.tuple #[jo false 0,.int .i64 3])/\Below w.1.size w w':=by
 have i1:(0:Int)<(s.size:Int):=by omega
 have i2:(1:Int) <=(s.size:Int):=by omega
 obtain⟨hne1,hne2⟩:=za h0;go_enter func206,ntmps206;go_wp2_with fail;refine((HR _).o).mono ?_;rintro e w1 ⟨rfl,hb1⟩;obtain⟨c1,f1⟩:=qy hb1;have hz:=hb1.size;simp at hz;have hz1:w.1.size<w1.1.size:=by omega
 have hz4:w.1.size+1<w1.1.size:=by omega
 have b1:=q_ (qb (qb (qa w _) (qa _ _)) hb1);have q0:w1.cell? ⟨w.1.size+1,0,none⟩=some (.bool false):=(c1 (w.1.size+1) 0 sm).trans (by simp[b8]);have q1:w1.cell? ⟨w.1.size+1,1,none⟩=some (.int .i64 0):=(c1 (w.1.size+1) 1 sm).trans (by simp[b8]);go_wp2_with fail
 go_quiet (fail)
 go_wp2_with fail;refine(HP _).o.mono ?_;rintro e w2 ⟨rfl,hb2⟩;replace hb2:=ayd hb2;obtain⟨c2,f2⟩:=qy hb2;have hz5:=hb2.size;have hz6:w.1.size<w2.1.size:=by omega
 have hz7:w.1.size+1<w2.1.size:=by omega
 have b2:=q_ (qb b1.o hb2);replace q0:=(c2 _ 0 hz4).trans q0;replace q1:=(c2 _ 1 hz4).trans q1;go_wp2_with fail;obtain⟨p0,p1⟩:=zi w2 (w.1.size+1) (.bool false) (.int .i64 0) _ _ q0 q1;refine b9 (v:=.tuple #[jo false 0,.int .i64 3]) (by simp[results,results206,go_sem,p0,p1]) rfl ⟨rfl,?_⟩;exact(b0n (b0n b2.o (p:=⟨w.1.size+1,0,none⟩) (by show w.1.size<=w.1.size+1;omega) _) (p:=⟨w.1.size+1,1,none⟩) (by show w.1.size<=w.1.size+1;omega) _)
theorem apd (s:ByteArray) (W M F L H:Int) (n:Int) (w:World) (hs:s.size<=1100000) (h0:0<s.size) (hc:(((s[0]'h0).toNat:Int)==45)=true) (HR:∀W',Q_ (Calls prog 222 #[j9 W M F L H] W' λe w'=>e=.returned (.bool true)/\Below W'.1.size W' w')) (HP:∀W',Q_ (Calls prog 223 #[.string (s.extract 1 s.size),.int .i64 1,.int .i64 M,.int .i64 F] W' λe w'=>e=.returned (.tuple #[.int .i64 n,.bool true])/\Below W'.1.size W' w')) (hn0:0<=n) (hn:n<=2000000000000000000) (HF:∀W',Q_ (Calls prog 224 #[jo true (-n),.int .i64 L,.int .i64 H] W' λe w'=>e=.returned (.bool false)/\Below W'.1.size W' w')) :
 Calls prog 206 #[.string s,j9 W M F L H] w λe w'=>e=.returned (.tuple #[jo false 0,.int .i64 5])/\Below w.1.size w w':=by
 have i1:(0:Int)<(s.size:Int):=by omega
 have i2:(1:Int) <=(s.size:Int):=by omega
 obtain⟨hne1,hne2⟩:=za h0;have e1:(1:Int)*n=n:=b30 n;have e2:(-1:Int)*n=-n:=by rw[b5n,b30]
 go_enter func206,ntmps206;go_wp2_with fail;refine((HR _).o).mono ?_;rintro e w1 ⟨rfl,hb1⟩;obtain⟨c1,f1⟩:=qy hb1;have hz:=hb1.size;simp at hz;have hz1:w.1.size<w1.1.size:=by omega
 have hz4:w.1.size+1<w1.1.size:=by omega
 have b1:=q_ (qb (qb (qa w _) (qa _ _)) hb1);have q0:w1.cell? ⟨w.1.size+1,0,none⟩=some (.bool false):=(c1 (w.1.size+1) 0 sm).trans (by simp[b8]);have q1:w1.cell? ⟨w.1.size+1,1,none⟩=some (.int .i64 0):=(c1 (w.1.size+1) 1 sm).trans (by simp[b8]);go_wp2_with fail
 go_quiet (fail)
 go_wp2_with fail;refine(HP _).o.mono ?_;rintro e w2 ⟨rfl,hb2⟩;replace hb2:=ayd hb2;obtain⟨c2,f2⟩:=qy hb2;have hz5:=hb2.size;have hz6:w.1.size<w2.1.size:=by omega
 have hz7:w.1.size+1<w2.1.size:=by omega
 have b2:=q_ (qb b1.o hb2);replace q0:=(c2 _ 0 hz4).trans q0;replace q1:=(c2 _ 1 hz4).trans q1;go_wp2_with fail;refine((HF _).o).mono ?_;rintro e w3 ⟨rfl,hb3⟩;obtain⟨c3,f3⟩:=qy hb3;have hz8:=hb3.size;simp at hz8;have hz9:w2.1.size<w3.1.size:=by omega
 have hz10:w.1.size+1<w3.1.size:=by omega
 have b3:=q_ (qb (qb b2.o (qa _ _)) hb3);replace q0:=(c3 (w.1.size+1) 0 (by simp;omega)).trans ((n7 _ _ _ om).trans q0);replace q1:=(c3 (w.1.size+1) 1 (by simp;omega)).trans ((n7 _ _ _ om).trans q1);go_wp2_with fail;obtain⟨p0,p1⟩:=zi w3 (w.1.size+1) (.bool false) (.int .i64 0) _ _ q0 q1;refine b9 (v:=.tuple #[jo false 0,.int .i64 5]) (by simp[results,results206,go_sem,p0,p1]) rfl ⟨rfl,?_⟩;exact(b0n (b0n b3.o (p:=⟨w.1.size+1,0,none⟩) (by show w.1.size<=w.1.size+1;omega) _) (p:=⟨w.1.size+1,1,none⟩) (by show w.1.size<=w.1.size+1;omega) _)
theorem ay3 (s:ByteArray) (W M F L H:Int) (n:Int) (w:World) (hs:s.size<=1100000) (h0:0<s.size) (hc:(((s[0]'h0).toNat:Int)==45)=true) (HR:∀W',Q_ (Calls prog 222 #[j9 W M F L H] W' λe w'=>e=.returned (.bool true)/\Below W'.1.size W' w')) (HP:∀W',Q_ (Calls prog 223 #[.string (s.extract 1 s.size),.int .i64 1,.int .i64 M,.int .i64 F] W' λe w'=>e=.returned (.tuple #[.int .i64 n,.bool true])/\Below W'.1.size W' w')) (hn0:0<=n) (hn:n<=2000000000000000000) (HF:∀W',Q_ (Calls prog 224 #[jo true (-n),.int .i64 L,.int .i64 H] W' λe w'=>e=.returned (.bool true)/\Below W'.1.size W' w')) :
 Calls prog 206 #[.string s,j9 W M F L H] w λe w'=>e=.returned (.tuple #[jo true (-n),.int .i64 0])/\Below w.1.size w w':=by
 have i1:(0:Int)<(s.size:Int):=by omega
 have i2:(1:Int) <=(s.size:Int):=by omega
 obtain⟨hne1,hne2⟩:=za h0;have e1:(1:Int)*n=n:=b30 n;have e2:(-1:Int)*n=-n:=by rw[b5n,b30]
 go_enter func206,ntmps206;go_wp2_with fail;refine((HR _).o).mono ?_;rintro e w1 ⟨rfl,hb1⟩;obtain⟨c1,f1⟩:=qy hb1;have hz:=hb1.size;simp at hz;have hz1:w.1.size<w1.1.size:=by omega
 have hz4:w.1.size+1<w1.1.size:=by omega
 have b1:=q_ (qb (qb (qa w _) (qa _ _)) hb1);have q0:w1.cell? ⟨w.1.size+1,0,none⟩=some (.bool false):=(c1 (w.1.size+1) 0 sm).trans (by simp[b8]);have q1:w1.cell? ⟨w.1.size+1,1,none⟩=some (.int .i64 0):=(c1 (w.1.size+1) 1 sm).trans (by simp[b8]);go_wp2_with fail
 go_quiet (fail)
 go_wp2_with fail;refine(HP _).o.mono ?_;rintro e w2 ⟨rfl,hb2⟩;replace hb2:=ayd hb2;obtain⟨c2,f2⟩:=qy hb2;have hz5:=hb2.size;have hz6:w.1.size<w2.1.size:=by omega
 have hz7:w.1.size+1<w2.1.size:=by omega
 have b2:=q_ (qb b1.o hb2);replace q0:=(c2 _ 0 hz4).trans q0;replace q1:=(c2 _ 1 hz4).trans q1;go_wp2_with fail;refine((HF _).o).mono ?_;rintro e w3 ⟨rfl,hb3⟩;obtain⟨c3,f3⟩:=qy hb3;have hz8:=hb3.size;simp at hz8;have hz9:w2.1.size<w3.1.size:=by omega
 have hz10:w.1.size+1<w3.1.size:=by omega
 have b3:=q_ (qb (qb b2.o (qa _ _)) hb3);replace q0:=(c3 (w.1.size+1) 0 (by simp;omega)).trans ((n7 _ _ _ om).trans q0);replace q1:=(c3 (w.1.size+1) 1 (by simp;omega)).trans ((n7 _ _ _ om).trans q1);go_wp2_with fail;obtain⟨p0,p1⟩:=zi w3 (w.1.size+1) (.bool true) (.int .i64 (-n)) _ _ q0 q1;refine b9 (v:=.tuple #[jo true (-n),.int .i64 0]) (by simp[results,results206,go_sem,p0,p1]) rfl ⟨rfl,?_⟩;exact(b0n (b0n b3.o (p:=⟨w.1.size+1,0,none⟩) (by show w.1.size<=w.1.size+1;omega) _) (p:=⟨w.1.size+1,1,none⟩) (by show w.1.size<=w.1.size+1;omega) _)
def ai5 (l:List UInt8):Bool:=l.head?==some 45
def afk (l:List UInt8):List UInt8:=if ai5 l then l.drop 1 else l
def j4 (l:List UInt8) (W M F L H:Int):Bool×Int×Int:=
 if abq W M F L H=false then(false,0,1)
 else if l=[]then(false,0,0)
 else match yv (afk l) 1 M.toNat F.toNat with
 | none=>(false,0,3)
 | some n=>if aa5 true (if ai5 l then -(n:Int)else(n:Int)) L H then(true,(if ai5 l then -(n:Int)else(n:Int)),0)else(false,0,5)
theorem amn {l:List UInt8} {a m f n:Nat} (h:yv l a m f=some n) (hm:m+f<=18):n<=2000000000000000000:=by
 unfold yv at h;have hA:=ab4 l
 split at h
 ·cases h
 rename_i g1
 split at h
 ·rename_i g2;injection h with h
  rw[g2,b0v]at hA;have v:=am4 hA (n:=f) om;rw[ke,<- b2a]at v;omega
 split at h
 ·cases h
 rename_i g3;injection h with h
 have hB:=ab4 (l.drop (js l+1));have e1:js (l.drop (js l+1))=(l.drop (js l+1)).length:=by rw[n5];omega
 rw[e1,b0v]at hB;have v1:=am4 hA (n:=f) (by rw[l8];omega);have v2:=am4 hB (n:=f-js (l.drop (js l+1))) om;rw[ke,<- b2a]at v1 v2;omega
theorem arj {s:ByteArray} (h:s.data.toList≠[]):0<s.size:=by
 rcases b4x s.size with h0|h0
 ·exact absurd (b0k (by simpa using h0)) h
 ·exact h0
theorem ael {s:ByteArray} (h:s.data.toList=[]):s.size=0:=by
 have:s.data.toList.length=0:=by rw[h];rfl
 simpa using this
theorem bbp {s:ByteArray} (h0:0<s.size) (h:ai5 s.data.toList=true):(((s[0]'h0).toNat:Int)==45)=true:=by
 unfold ai5 at h;have e:s.data.toList.head?=some s[0]:=by rw[List.head?_eq_getElem?,d7 (by simpa using h0)];rfl
 rw[e]at h;have h2:s[0]=45:=by simpa using h
 rw[h2];rfl
theorem a55 {s:ByteArray} (h0:0<s.size) (h:ai5 s.data.toList=false):(((s[0]'h0).toNat:Int)==45)=false:=by
 unfold ai5 at h;have e:s.data.toList.head?=some s[0]:=by rw[List.head?_eq_getElem?,d7 (by simpa using h0)];rfl
 rw[e]at h;have h2:s[0]≠45:=by simpa using h
 rw[l7];intro k;exact h2 (b1y.1 (by have e:(45:UInt8).toNat=45:=rfl;omega))
theorem a4c (s:ByteArray) (W M F L H:Int) (w:World) (hs:s.size<=1100000) :
 Calls prog 206 #[.string s,j9 W M F L H] w λe w'=>e=.returned (.tuple #[jo (j4 s.data.toList W M F L H).1 (j4 s.data.toList W M F L H).2.1,.int .i64 (j4 s.data.toList W M F L H).2.2])/\Below w.1.size w w':=by
 unfold j4;have HR:=λW'=>q_ (a9u W M F L H W')
 by_cases hr:abq W M F L H=false
 ·rw[if_pos hr];rw[hr]at HR;exact beh s W M F L H w hs HR
 rw[if_neg hr];have hr':abq W M F L H=true:=by simpa using hr
 rw[hr']at HR;have hb:=b1g hr'
 by_cases h0:s.data.toList=[]
 ·rw[if_pos h0];exact a4d s W M F L H w hs HR (ael h0)
 rw[if_neg h0];have hp:=arj h0;obtain⟨m,rfl⟩:=b2n (show 0<=M by omega);obtain⟨f,rfl⟩:=b2n (show 0<=F by omega);rw[b1v,b1v];cases hn:ai5 s.data.toList with
 | false=>
  have hc:=a55 hp hn;have hbody:afk s.data.toList=s.data.toList:=by unfold afk;rw[hn];rfl
  have HP:=λW'=>q_ (amo s 1 m f W' hs om om)
  rw[hbody];cases hq:yv s.data.toList 1 m f with
  | none=>
   simp only[hq]at HP;exact asd s W m f L H 0 w hs hp hc HR HP
  | some n=>
   simp only[hq]at HP;have hle:=amn hq om;have HF:=λW'=>q_ (az4 true (n:Int) L H W')
   cases hf:aa5 true (n:Int) L H with
   | false=>rw[hf]at HF;simp only[b2w,b4v,hf];exact ape s W m f L H n w hs hp hc HR HP om om HF
   | true=>rw[hf]at HF;simp only[b2w,b4v,hf,b5p];exact ay4 s W m f L H n w hs hp hc HR HP om om HF
 | true=>
  have hc:=bbp hp hn;have hbody:afk s.data.toList=(s.extract 1 s.size).data.toList:=by unfold afk;rw[hn,if_pos rfl,Lib.extract_from]
  have HP:=λW'=>q_ (amo (s.extract 1 s.size) 1 m f W' (by rw[b00];omega) om om)
  rw[hbody];cases hq:yv (s.extract 1 s.size).data.toList 1 m f with
  | none=>
   simp only[hq]at HP;exact asc s W m f L H 0 w hs hp hc HR HP
  | some n=>
   simp only[hq]at HP;have hle:=amn hq om;have HF:=λW'=>q_ (az4 true (-(n:Int)) L H W')
   cases hf:aa5 true (-(n:Int)) L H with
   | false=>rw[hf]at HF;simp only[b2w,b4v,hf,b5p];exact apd s W m f L H n w hs hp hc HR HP om om HF
   | true=>rw[hf]at HF;simp only[hf,b5p];exact ay3 s W m f L H n w hs hp hc HR HP om om HF
theorem aqd {v L H:Int} (h:aa5 true v L H=true):L<=v/\v<=H:=by
 unfold aa5 at h;rw[if_pos rfl]at h;exact b1g h
def aqc (lat:Bool):Int:=if lat then 540000000 else 1080000000
def jh (lat:Bool):ByteArray:=if lat then⟨#[78,83]⟩else⟨#[69,87]⟩
def ajm (lat neg:Bool):ByteArray:=if lat then(if neg then⟨#[83]⟩else⟨#[78]⟩)else(if neg then⟨#[87]⟩else⟨#[69]⟩)
theorem ae2 (lat:Bool):(jh lat).extract 0 1=ajm lat false:=by cases lat<;>rfl
theorem aek (lat:Bool):(jh lat).extract 1 2=ajm lat true:=by cases lat<;>rfl
theorem bg3 {fn:Func} {t u v:Tmp} (h:fn.results=#[.tmp t,.tmp u,.tmp v]) (tmps:Array Value) (P:Program) (w:World) :
 (results fn tmps).run P w=.ok (.tuple #[tmps.getD t undef,tmps.getD u undef,tmps.getD v undef]) w:=by
 simp[results,h]
theorem abv (lat:Bool) (w:World):Calls prog 225 #[.bool lat] w λe w'=>e=.returned (.tuple #[.int .i64 (if lat then 90 else 180),.int .i64 (if lat then 2 else 3),.string (jh lat)])/\w=w':=by
 cases lat
 all_goals
  go_enter func225,ntmps225;go_wp2
  try simp only[Exit.inBlock,Exit.then]
  refine b9 (bg3 rfl _ _ _) rfl ?_;exact⟨rfl,rfl⟩
