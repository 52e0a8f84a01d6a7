/- Parts. -/
import Derived.Test.YtdkhlkfleggbaaaGreatU00
import Derived.Lib.TrimByte
import Derived.Deep.RegionHeld3
namespace Go.Proofs.YtdkhlkfleggbaaaGreat
set_option maxHeartbeats 2000000
set_option maxRecDepth 8000
open Lib (hid)
open Tryz
set_option linter.unusedVariables false
open Go.RowKit
def ko (k:Nat):Int:=((10^k:Nat):Int)
theorem bca:ko 0=1:=rfl
theorem aue (k:Nat):ko (k+1)=ko k*10:=by unfold ko;rw[b2o];omega
theorem ahz (k:Nat):1≤ko k:=by
 unfold ko;have:0<10^k:=b3n dc;omega
theorem a8d {k n:Nat} (h:k≤n):ko k≤ko n:=by
 unfold ko;have:10^k≤10^n:=b0w dc h;omega
theorem bjc:ko 18=1000000000000000000:=by decide
theorem bjb:ko 17=100000000000000000:=by decide
theorem axj (n:Nat) (w:World) (hn:n≤18) :
 Calls prog 232 #[.int .i64 (n:Int)] w fun e w'=>e=.returned (.int .i64 (ko n))∧w=w':=by
 go_enter func232,ntmps232;go_wp2
 go_loop [3,5] (fun p i=>∃k:Nat,k≤n∧i=.int .i64 k∧p=.int .i64 (ko k)) (fun _ i=>n-(intOf i).toNat)
 case atStart=>exact⟨0,b0c _,rfl,rfl⟩
 case round=>
  obtain⟨k,hk,rfl,rfl⟩:=hrel
  by_cases hlt:k<n
  ·have h1:=ahz k;have h2:=a8d (show k≤17 by omega);rw[bjb]at h2;have h3:=hid (aue k);generalize ko k=T at *;go_wp2
   go_round
   case rel=>exact⟨k+1,by omega,by go_num,by rw[h3.out]⟩
   case measure=>simp[intOf];omega
  ·obtain rfl:k=n:=by omega
   go_wp2;go_ret;exact⟨rfl,rfl⟩
abbrev j7 (W M F L H:Int):Value:=.agg #[.int .i64 W,.int .i64 M,.int .i64 F,.int .i64 L,.int .i64 H]
def abm (W M F L H:Int):Bool:=decide (1≤W∧W≤M∧M≤12∧0≤F∧F≤6∧L≤H∧-ko (M+F).toNat<L∧H<ko (M+F).toNat)
theorem bc4 (W M F L H:Int) (w:World) (h:W<1∨1≤W∧M<W∨1≤W∧W≤M∧12<M) :
 Calls prog 222 #[j7 W M F L H] w fun e w'=>e=.returned (.bool false)∧Below w.1.size w w':=by
 rcases h with h|⟨h0,h⟩|⟨h0,h1,h⟩
 all_goals
  go_enter func222,ntmps222;go_wp2;go_ret;exact⟨rfl,qa _ _⟩
theorem a8o (W M F L H:Int) (w:World) (h0:1≤W) (h1:W≤M) (h2:M≤12) (h:F<0∨0≤F∧6<F∨0≤F∧F≤6∧H<L) :
 Calls prog 222 #[j7 W M F L H] w fun e w'=>e=.returned (.bool false)∧Below w.1.size w w':=by
 rcases h with h|⟨h3,h⟩|⟨h3,h4,h⟩
 all_goals
  go_enter func222,ntmps222;go_wp2;go_ret;exact⟨rfl,qa _ _⟩
theorem a8n (W L H:Int) (m f:Nat) (w:World) (h0:1≤W) (h1:W ≤(m:Int)) (h2:m≤12) (h3:f≤6) (h4:L≤H) :
 Calls prog 222 #[j7 W m f L H] w fun e w'=>e=.returned (.bool (decide (-ko (m+f)<L∧H<ko (m+f))))∧Below w.1.size w w':=by
 have HT:=fun W=>hid (axj (m+f) W om)
 rw[b5b]at HT;have t1:=ahz (m+f);have t2:=a8d (show m+f≤18 by omega);rw[bjc]at t2;generalize ko (m+f)=T at *
 by_cases h5:-T<L
 ·have e:decide (-T<L∧H<T)=decide (H<T):=by simp[h5]
  rw[e];clear e;go_enter func222,ntmps222;go_wp2_with fail;refine(HT _).out.mono ?_;rintro e w' ⟨rfl,rfl⟩;go_wp2_with fail;go_ret;exact⟨rfl,qa _ _⟩
 ·have e:decide (-T<L∧H<T)=false:=by simp[h5]
  rw[e];clear e;go_enter func222,ntmps222;go_wp2_with fail;refine(HT _).out.mono ?_;rintro e w' ⟨rfl,rfl⟩;go_wp2_with fail;go_ret;exact⟨rfl,qa _ _⟩
theorem a8m (W M F L H:Int) (w:World):Calls prog 222 #[j7 W M F L H] w fun e w'=>e=.returned (.bool (abm W M F L H))∧Below w.1.size w w':=by
 by_cases h:1≤W∧W≤M∧M≤12
 ·obtain⟨h0,h1,h2⟩:=h
  by_cases h:0≤F∧F≤6∧L≤H
  ·obtain⟨h3,h4,h5⟩:=h;obtain⟨m,rfl⟩:=b19 (show 0≤M by omega);obtain⟨f,rfl⟩:=b19 h3
   have e:abm W m f L H=decide (-ko (m+f)<L∧H<ko (m+f)):=by
    unfold abm;rw[show ((m:Int) +(f:Int)).toNat=m+f from by omega];simp only[h0,h1,h2,h3,h4,h5,true_and]
   rw[e];exact a8n W L H m f w h0 h1 om om h5
  ·have e:abm W M F L H=false:=by
    unfold abm;rw[decide_eq_false_iff_not];rintro⟨_,_,_,a,b,c,_⟩;exact h ⟨a,b,c⟩
   rw[e];exact a8o W M F L H w h0 h1 h2 om
 ·have e:abm W M F L H=false:=by
   unfold abm;rw[decide_eq_false_iff_not];rintro⟨a,b,c,_⟩;exact h ⟨a,b,c⟩
  rw[e];exact bc4 W M F L H w om
abbrev jo (b:Bool) (n:Int):Value:=.agg #[.bool b,.int .i64 n]
def aa2 (b:Bool) (n lo hi:Int):Bool:=if b then decide (lo≤n∧n≤hi)else decide (n=0)
theorem aze (b:Bool) (n lo hi:Int) (w:World):Calls prog 224 #[jo b n,.int .i64 lo,.int .i64 hi] w fun e w'=>e=.returned (.bool (aa2 b n lo hi))∧Below w.1.size w w':=by
 cases b with
 | false=>
  by_cases h:n=0
  ·subst h;have e:aa2 false 0 lo hi=true:=by unfold aa2;simp
   rw[e];clear e;go_enter func224,ntmps224;go_wp2;go_ret;exact⟨rfl,qa _ _⟩
  ·have e:aa2 false n lo hi=false:=by unfold aa2;simp[h]
   rw[e];clear e;go_enter func224,ntmps224;go_wp2;go_ret;exact⟨rfl,qa _ _⟩
 | true=>
  by_cases h:lo≤n
  ·have e:aa2 true n lo hi=decide (n≤hi):=by unfold aa2;rw[if_pos rfl];simp[h]
   rw[e];clear e;go_enter func224,ntmps224;go_wp2;go_ret;exact⟨rfl,qa _ _⟩
  ·have e:aa2 true n lo hi=false:=by unfold aa2;rw[if_pos rfl];simp[h]
   rw[e];clear e;go_enter func224,ntmps224;go_wp2;go_ret;exact⟨rfl,qa _ _⟩
def af5:Nat→Nat→Nat→List UInt8
 | 0,_,_=>[]
 | f+1,n,l=>if 0<n∨0<l then af5 f (n / 10) (l-1)++[UInt8.ofNat (48+n%10)]else []
def af6 (n l:Nat):List UInt8:=af5 20 n l
theorem ata (f:Nat):af5 f 0 0=[]:=by cases f<;>simp[af5]
theorem alw (f n l:Nat) (h:0<n∨0<l):af5 (f+1) n l=af5 f (n / 10) (l-1)++[UInt8.ofNat (48+n%10)]:=by rw[af5,if_pos h]
def toB (l:List UInt8):ByteArray:=⟨l.toArray⟩
theorem a2i (l:List UInt8):(toB l).data.toList=l:=by simp[toB]
theorem bf8 (l:List UInt8):(toB l).size=l.length:=by show l.toArray.size=_;simp
theorem bgi (l:List UInt8) (c:UInt8):Lib.trimRightB (l++[c]) c=Lib.trimRightB l c:=by simp[Lib.trimRightB]
theorem bgj (l:List UInt8) (x c:UInt8) (h:x≠c):Lib.trimRightB (l++[x]) c=l++[x]:=by simp[Lib.trimRightB,h]
theorem a60 (s:ByteArray):s.toList.length=s.size:=by rw[b0x];simp
theorem q8 {s:ByteArray} (h:0<s.size):s.toList.isEmpty=false ∧(s.toList==[])=false:=by
 have hl:=a60 s;cases hs:s.toList with
 | nil=>rw[hs]at hl;simp at hl;omega
 | cons a l=>exact⟨rfl,rfl⟩
theorem ay6 (f:Nat):∀n l,n<10^f→l≤f→af5 (f+1) n l=af5 f n l:=by
 induction f with
 | zero=>
  intro n l h1 h2;have:n<1:=h1;rw[show n=0 from by omega,show l=0 from by omega];rfl
 | succ f ih=>
  intro n l h1 h2
  by_cases h:0<n∨0<l
  ·rw[alw (f+1) n l h,alw f n l h,ih (n / 10) (l-1) (by rw[b2o]at h1;omega) om]
  ·rw[show n=0 from by omega,show l=0 from by omega,ata,ata]
theorem atb (n l:Nat) (hn:n≤1000000000000000000) (hl:l≤18) (h:0<n∨0<l):af6 n l=af6 (n / 10) (l-1)++[UInt8.ofNat (48+n%10)]:=by
 unfold af6
 rw [alw 19 n l h, ← ay6 19 (n / 10) (l - 1) (by have:(10:Nat)^19=10000000000000000000:=by decide
                                                 omega) om]
theorem a0j (m:Nat) (h:m<10):UInt8.ofNat (48+m)=48↔m=0:=by
 constructor
 ·intro k;have:=congrArg UInt8.toNat k;simp at this;omega
 ·rintro rfl;rfl
def arf (r f:Nat):List UInt8:=if r=0 then []else Lib.trimRightB (46::af6 r f) 48
theorem bcf (r f:Nat) (hr:0<r) (h:r%10=0) (hm:r≤1000000000000000000) (hf:f≤18):Lib.trimRightB (46::af6 r f) 48=Lib.trimRightB (46::af6 (r / 10) (f-1)) 48:=by
 rw[atb r f hm hf (.inl hr),(a0j (r%10) om).2 h,← b02,bgi]
theorem bcg (r f:Nat) (hr:0<r) (h:r%10≠0) (hm:r≤1000000000000000000) (hf:f≤18):Lib.trimRightB (46::af6 r f) 48=46::af6 r f:=by
 rw[atb r f hm hf (.inl hr),← b02,bgj _ _ _ (fun k=>h ((a0j (r%10) om).1 k))]
def ajz (n whole f:Nat):List UInt8:=af6 (n / 10^f) whole++arf (n%10^f) f
def av6 (b:Bool) (n W M F L H:Int):ByteArray×Int:=
 if abm W M F L H=false then(ByteArray.empty,1)
 else if aa2 b n L H=false then(ByteArray.empty,5)
 else if b=false then(ByteArray.empty,0)
 else if n<0 then(toB (45::ajz (-n).toNat W.toNat F.toNat),0)else(toB (ajz n.toNat W.toNat F.toNat),0)
def isD (c:UInt8):Bool:=decide (48≤c.toNat∧c.toNat≤57)
def jr (l:List UInt8):Nat:=(l.takeWhile isD).length
theorem bhp:∀(l:List UInt8) (k:Nat),(∀j (h:j<l.length),j<k→isD l[j]=true)→k≤l.length →(∀h:k<l.length,isD l[k]=false)→jr l=k:=by
 intro l
 induction l with
 | nil=>intro k _ h _;simp at h;subst h;rfl
 | cons c l ih=>
  intro k h1 h2 h3;cases k with
  | zero=>
   have:=h3 sm;unfold jr;rw[b4i,if_neg (by simpa using this)];rfl
  | succ k=>
   have hc:=h1 0 sm om;unfold jr;rw[b4i,if_pos (by simpa using hc),n7];have:=ih k (fun j hj hk=>h1 (j+1) (by simpa using hj) om) (by simpa using h2) (fun hk=>h3 (by simpa using hk));unfold jr at this;rw[this]
def yw (l:List UInt8):Nat:=l.foldl (fun n c=>10*n +(c.toNat-48)) 0
theorem aiu (l:List UInt8) (c:UInt8):yw (l++[c])=10*yw l +(c.toNat-48):=by simp[yw]
theorem ait (l:List UInt8) (h:∀c∈l,isD c=true):yw l<10^l.length:=by
 have key:∀r:List UInt8,(∀c∈r,isD c=true)→yw r.reverse<10^r.length:=by
  intro r
  induction r with
  | nil=>intro _;decide
  | cons c r ih=>
   intro hr;have h1:=ih (fun x hx=>hr x (by simp[hx]));have h2:=b07 (hr c sm);rw[b4v,aiu,n7,b2o];omega
 have:=key l.reverse (fun c hc=>h c (by simpa using hc));rw[List.reverse_reverse,b29]at this;exact this
def yq (l:List UInt8) (least most frac:Nat):Option Nat:=
 if jr l<least∨most<jr l then none
 else if jr l=l.length then some (yw l*10^frac)
 else if l[jr l]?≠some 46∨jr (l.drop (jr l+1))<1∨frac<jr (l.drop (jr l+1))∨jr l+1+jr (l.drop (jr l+1))≠l.length then none
 else some (yw (l.take (jr l))*10^frac+yw (l.drop (jr l+1))*10^(frac-jr (l.drop (jr l+1))))
theorem an8 (l:List UInt8):jr l≤l.length:=by
 unfold jr;exact(List.takeWhile_prefix isD).length_le
theorem bcq:∀l:List UInt8,∀c∈l.takeWhile isD,isD c=true:=by
 intro l
 induction l with
 | nil=>intro c h;simp at h
 | cons x l ih=>
  intro c h;rw[b4i]at h
  split at h
  ·rename_i hx;rcases b0z.1 h with rfl|h
   ·exact hx
   ·exact ih c h
  ·simp at h
theorem ab2 (l:List UInt8):∀c∈l.take (jr l),isD c=true:=by
 intro c hc
 have:l.take (jr l)=l.takeWhile isD:=by
  unfold jr;exact(List.prefix_iff_eq_take.1 (List.takeWhile_prefix isD)).symm
 rw[this]at hc;exact bcq l c hc
theorem j9 (k:Nat):ko k=((10^k:Nat):Int):=rfl
theorem amm {l:List UInt8} {n:Nat} (h:∀c∈l,isD c=true) (hn:l.length+n≤18):(yw l:Int)*ko n≤1000000000000000000∧0 ≤(yw l:Int)*ko n:=by
 have h1:=ait l h;have h2:yw l*10^n<10^l.length*10^n:=b4j h1 (b3n dc);rw[← b3p]at h2;have h3:(10:Nat)^(l.length+n)≤10^18:=b0w dc hn;have e:(10:Nat)^18=1000000000000000000:=by decide
 rw[j9,← b1z];omega
def ag8 (W:World) (gs gn ga:Nat) (s:ByteArray) (nv:Int) (a:Nat):Prop:=
 W.cell? ⟨gs,0,none⟩=some (.string s)∧W.cell? ⟨gn,0,none⟩=some (.int .i64 nv)∧W.cell? ⟨ga,0,none⟩=some (.int .i64 (a:Int))∧W.frozen? ⟨gn,0,none⟩=false∧W.frozen? ⟨ga,0,none⟩=false
def ju (s:ByteArray) (a:Nat) (nv:Int) (k:Nat):Int:=nv*ko k +(yw ((s.data.toList.drop a).take k):Int)
theorem bb5 (s:ByteArray) (a:Nat) (nv:Int):ju s a nv 0=nv:=by
 unfold ju;rw[bca,b10];show nv*1+0=nv;omega
theorem bb4 (s:ByteArray) (a:Nat) (nv:Int) (k:Nat) (h:a+k<s.size) (hd:isD s[a+k]=true):ju s a nv (k+1)=10*ju s a nv k +((s[a+k].toNat:Int)-48):=by
 unfold ju
 have hl : k < (s.data.toList.drop a).length := by rw[l8];have:s.data.toList.length=s.size:=by simp
                                                   omega
 have he:(s.data.toList.drop a)[k]=s[a+k]:=by rw[b31];rfl
 have h2:=b07 hd;rw[o5 hl,aiu,he,aue,← Int.mul_assoc];omega
def ayb (s:ByteArray) (a most:Nat) (nv:Int) (gs gn ga B:Nat) (W:World) (e:Ending) (w':World):Prop:=
 ∃(K:Nat) (nv2:Int),K=min (jr (s.data.toList.drop a)) (most+1)∧e=.returned (.int .i64 (K:Int))∧ag8 w' gs gn ga s nv2 (a+K)∧Below B W w'∧w'.1.size=W.1.size ∧(K≤most→nv2=ju s a nv K)
def a7q (s:ByteArray) (a most:Nat) (nv:Int) (gs gn ga B:Nat) (W:World) (v:Value) (wr:World):Prop:=
 ∃(k:Nat) (nv2:Int),v=.int .i64 (k:Int)∧k≤most+1∧a+k≤s.size∧Hid (∀j,j<k→∃h:a+j<s.size,isD s[a+j]=true)∧Hid (ag8 wr gs gn ga s nv2 (a+k))∧Hid (Below B W wr)∧Hid (wr.1.size=W.1.size)∧Hid (k≤most→nv2=ju s a nv k)
theorem a46 {s:ByteArray} {a most:Nat} {nv:Int} {gs gn ga B:Nat} {W wr:World} {k:Nat} {nv2:Int}
 (hm:most≤12) (hd1:gs≠gn) (hd2:gs≠ga) (hd3:gn≠ga) (hB1:B≤gn) (hB2:B≤ga)
 (HB:∀k,k≤most→0≤ju s a nv k∧ju s a nv k≤9000000000000000000)
 (hkm:k≤most) (hlt:a+k<s.size) (hd:isD s[a+k]=true) (hall:∀j,j<k→∃h:a+j<s.size,isD s[a+j]=true)
 (hst:ag8 wr gs gn ga s nv2 (a+k)) (hb:Below B W wr) (hz:wr.1.size=W.1.size) (hex:k≤most→nv2=ju s a nv k) :
 a7q s a most nv gs gn ga B W (.int .i64 ((k:Int)+1)) ((wr.setCell ⟨gn,0,none⟩ (.int .i64 (wrap64 (wrap64 (10*nv2) +(((s[a+k]'hlt).toNat:Int)-48))))).setCell ⟨ga,0,none⟩ (.int .i64 (((a+k:Nat):Int)+1))).drew:=by
 obtain⟨c1,c2,c3,z1,z2⟩:=hst;refine⟨k+1,wrap64 (wrap64 (10*nv2) +(((s[a+k]'hlt).toNat:Int)-48)),by rw[b5b];rfl,by omega,by omega,hid ?_,hid ⟨?_,?_,?_,?_,?_⟩,hid ?_,hid ?_,hid ?_⟩
 ·intro j hj;rcases b01 j k with h|h
  ·exact hall j h
  ·obtain rfl:j=k:=by omega
   exact⟨hlt,hd⟩
 ·show ((wr.setCell _ _).setCell _ _).cell? _=_;rw[a9 _ _ _ _ (fun e=>by injection e with e;exact hd2 e.symm),a9 _ _ _ _ (fun e=>by injection e with e;exact hd1 e.symm)];exact c1
 ·show ((wr.setCell _ _).setCell _ _).cell? _=_;rw[a9 _ _ _ _ (fun e=>by injection e with e;exact hd3 e.symm),b0t _ _ _ c2]
 ·show ((wr.setCell _ _).setCell _ _).cell? _=_;have h0:(wr.setCell ⟨gn,0,none⟩ (.int .i64 (wrap64 (wrap64 (10*nv2) +(((s[a+k]'hlt).toNat:Int)-48))))).cell? ⟨ga,0,none⟩=_:=(a9 _ _ _ _ (fun e=>by injection e with e;exact hd3 e)).trans c3;rw[b0t _ _ _ h0];rw[show ((a +(k+1):Nat):Int)=((a+k:Nat):Int)+1 from by omega]
 ·show ((wr.setCell _ _).setCell _ _).frozen? _=_
  simpa using z1
 ·show ((wr.setCell _ _).setCell _ _).frozen? _=_
  simpa using z2
 ·exact aca ((hb.setCell hB1 _).setCell hB2 _)
 ·show ((wr.setCell _ _).setCell _ _).1.size=_
  simpa using hz
 ·intro hk1;have e1:=hex om;have b1:=HB k om;have b2:=HB (k+1) hk1;have e2:=bb4 s a nv k hlt hd;have e3:=b07 hd;subst e1;rw[e2]at b2 ⊢;have q1:wrap64 (10*ju s a nv k)=10*ju s a nv k:=b32 _ om;rw[q1,b32 _ om]
theorem bho:∀(l:List UInt8) (k:Nat),(∀j (h:j<l.length),j<k→isD l[j]=true)→k≤l.length→k≤jr l:=by
 intro l
 induction l with
 | nil=>intro k _ h;exact o8 h (b0c _)
 | cons c l ih=>
  intro k h1 h2;cases k with
  | zero=>exact b0c _
  | succ k=>
   have h0:isD c=true:=h1 0 sm om;have h3:=ih k (fun j hj hk=>h1 (j+1) (by simpa using hj) om) (by simpa using h2);unfold jr at h3 ⊢;rw[List.takeWhile_cons_of_pos h0,n7];omega
theorem ap9 {s:ByteArray} {a most:Nat} {nv:Int} {gs gn ga B:Nat} {W wr:World} {k:Nat} {nv2:Int}
 (hak:a+k≤s.size) (hstop:k=most+1∨¬a+k<s.size∨∃h:a+k<s.size,isD s[a+k]=false) (hk:k≤most+1) (hall:∀j,j<k→∃h:a+j<s.size,isD s[a+j]=true)
 (hst:ag8 wr gs gn ga s nv2 (a+k)) (hb:Below B W wr) (hz:wr.1.size=W.1.size) (hex:k≤most→nv2=ju s a nv k) :
 ayb s a most nv gs gn ga B W (.returned (.int .i64 (k:Int))) wr:=by
 refine⟨k,nv2,?_,rfl,hst,hb,hz,hex⟩;have hsz:s.data.toList.length=s.size:=by simp
 have hlen:(s.data.toList.drop a).length=s.size-a:=by rw[l8,hsz]
 have hg:∀j (h:j<(s.data.toList.drop a).length) (h2:a+j<s.size),(s.data.toList.drop a)[j]=s[a+j]:=fun j h h2=>by rw[b31];rfl
 have hle:k≤jr (s.data.toList.drop a):=bho _ _ (fun j hj hk=>by
  obtain⟨h,e⟩:=hall j hk;rw[hg j hj h];exact e) om
 rcases hstop with h|h|⟨h,e⟩
 ·omega
 ·have:=an8 (s.data.toList.drop a);omega
 ·have:jr (s.data.toList.drop a)=k:=bhp _ k (fun j hj hk=>by
   obtain⟨h,e⟩:=hall j hk;rw[hg j hj h];exact e) om (fun h'=>by rw[hg k h' h];exact e)
  omega
theorem ad3 (s:ByteArray) (a most:Nat) (nv:Int) (gs gn ga B:Nat) (W:World) (hs:s.size≤1000000) (ha:a≤s.size) (hm:most≤12)
 (hst:ag8 W gs gn ga s nv a) (hd1:gs≠gn) (hd2:gs≠ga) (hd3:gn≠ga) (hB1:B≤gn) (hB2:B≤ga)
 (HB:Hid (∀k,k≤most→0≤ju s a nv k∧ju s a nv k≤9000000000000000000)) :
 Calls prog 233 #[.int .i64 (most:Int),.pointer (some ⟨ga,0,none⟩),.pointer (some ⟨gs,0,none⟩),.pointer (some ⟨gn,0,none⟩)] W (ayb s a most nv gs gn ga B W):=by
 have HST:=hid hst;clear hst;go_enter func233,ntmps233;go_wp2
 go_loopw [6] (fun v wr=>a7q s a most nv gs gn ga B W v wr) (fun v _=>most+1-(intOf v).toNat)
 case atStart=>exact⟨0,nv,rfl,b0c _,ha,fun j h=>absurd h (b0v _),HST,hid (n6 _ _),rfl,fun _=>(bb5 s a nv).symm⟩
 case round=>
  obtain⟨k,nv2,rfl,hk,hak,hall,hst,hb,hz,hex⟩:=hrel;obtain⟨c1,c2,c3,z1,z2⟩:=hst.out
  by_cases hlt:a+k<s.size
  ·have i1:((a+k:Nat):Int)<(s.size:Int):=by omega
   have i2:(0:Int) ≤((a+k:Nat):Int):=n8 _;have i3:((a+k:Nat):Int).toNat=a+k:=by omega
   by_cases hd:isD s[a+k]=true
   ·have hdd:=b07 hd;have h48:(48:Int) ≤((s[a+k]'hlt).toNat:Int):=by omega
    have h57:((s[a+k]'hlt).toNat:Int)≤57:=by omega
    by_cases hkm:k≤most
    ·have HN:=hid (a46 hm hd1 hd2 hd3 hB1 hB2 HB.out hkm hlt hd hall.out hst.out hb.out hz.out hex.out);clear hall hst hb hz hex;generalize hA:a+k=A at *;go_wp2
     go_region_with (fail)
     all_goals go_wp2
     all_goals go_roundw
     all_goals first|exact HN.out|(show most+1-((k:Int)+1).toNat<most+1-(k:Int).toNat;omega)
    ·have HO:=hid (ap9 hak (.inl om) hk hall.out hst.out hb.out hz.out hex.out);have hkm2:(most:Int)<(k:Int):=by omega
     clear hall hst hb hz hex hkm;generalize hA:a+k=A at *;go_wp2;go_ret;exact HO.out
   ·have HO:=hid (ap9 hak (.inr (.inr ⟨hlt,by simpa using hd⟩)) hk hall.out hst.out hb.out hz.out hex.out);have hdd:¬(48 ≤(s[a+k]'hlt).toNat ∧(s[a+k]'hlt).toNat≤57):=fun h=>hd (p9 h)
    clear hall hst hb hz hex hd
    by_cases h1:48 ≤(s[a+k]'hlt).toNat
    ·have h48:(48:Int) ≤((s[a+k]'hlt).toNat:Int):=by omega
     have h57:(57:Int)<((s[a+k]'hlt).toNat:Int):=by omega
     generalize hA:a+k=A at *;go_wp2;go_ret;exact HO.out
    ·have h48:((s[a+k]'hlt).toNat:Int)<(48:Int):=by omega
     generalize hA:a+k=A at *;go_wp2;go_ret;exact HO.out
  ·have HO:=hid (ap9 hak (.inr (.inl hlt)) hk hall.out hst.out hb.out hz.out hex.out);have i1:(s.size:Int) ≤((a+k:Nat):Int):=by omega
   clear hall hst hb hz hex;generalize hA:a+k=A at *;go_wp2;go_ret;exact HO.out
theorem bgn (l:List UInt8):yw l+29≤29*10^l.length:=by
 have key:∀r:List UInt8,yw r.reverse+29≤29*10^r.length:=by
  intro r
  induction r with
  | nil=>decide
  | cons c r ih=>
   have h2:=c.toNat_lt;rw[b4v,aiu,n7,b2o];omega
 have:=key l.reverse;rw[List.reverse_reverse,b29]at this;exact this
theorem abz (s:ByteArray) (a:Nat) (nv:Int) (most n:Nat) (h0:0≤nv) (h1:nv<ko n) (h2:n+most≤18) (h3:most≤12):∀k,k≤most→0≤ju s a nv k∧ju s a nv k≤9000000000000000000:=by
 intro k hk;unfold ju;have e1:=ahz k;have e2:nv*ko k≤ko n*ko k:=Int.mul_le_mul_of_nonneg_right om om
 have e3:ko n*ko k≤1000000000000000000:=by
  rw[j9,j9,← b1z,← b3p];have:(10:Nat)^(n+k)≤10^18:=b0w dc om;have e:(10:Nat)^18=1000000000000000000:=by decide
  omega
 have e4:0≤nv*ko k:=Int.mul_nonneg h0 om;have e5:=bgn ((s.data.toList.drop a).take k);have e6:(10:Nat)^((s.data.toList.drop a).take k).length≤10^12:=b0w dc (by rw[l7];omega);have e:(10:Nat)^12=1000000000000:=by decide
 omega
theorem a0s {P:Program} {f:FuncId} {args:Array Value} {w:World} {n:Nat} {v:Value}
 (h:Calls P f args (w.drewN n) fun e w'=>e=.returned v∧w.drewN n=w'):Calls P f args (w.drewN n) fun e w''=>e=.returned v∧∃m,w''=w.drewN m:=
 h.mono fun _ _ ⟨he,hm⟩=>⟨he,n,hm.symm⟩
theorem qk (w:World) (n o:Nat) (h:w.1.size≤n):w.frozen? ⟨n,o,none⟩=false:=by
 unfold World.frozen?;rw[Array.getElem?_eq_none h]
theorem ad4 (s:ByteArray) (w:World):ag8 (((w.alloc (.cells #[.string s] 9)).alloc (.cells #[.int .i64 0] 2)).alloc (.cells #[.int .i64 0] 3)) w.1.size (w.1.size+1) (w.1.size+1+1) s 0 0:=by
 have n1:(w.alloc (.cells #[.string s] 9)).1.size=w.1.size+1:=by simp
 have n2:((w.alloc (.cells #[.string s] 9)).alloc (.cells #[.int .i64 0] 2)).1.size=w.1.size+1+1:=by simp
 refine⟨?_,?_,?_,?_,?_⟩
 ·rw[n5 _ _ _ om,n5 _ _ _ om,b8 _ _ _ _ rfl];rfl
 ·rw[n5 _ _ _ om,b8 _ _ _ _ n1.symm];rfl
 ·rw[b8 _ _ _ _ n2.symm];rfl
 ·rw[i9,i9,i9];exact qk _ _ _ om
 ·rw[i9,i9,i9];exact qk _ _ _ om
theorem a5h (s:ByteArray) (l m f:Nat) (w:World) (hs:s.size≤1000000) (hm:m≤12) (hf:f≤6) (g:jr s.data.toList<l∨m<jr s.data.toList) :
 Calls prog 223 #[.string s,.int .i64 (l:Int),.int .i64 (m:Int),.int .i64 (f:Int)] w fun e w'=>e=.returned (.tuple #[.int .i64 0,.bool false])∧Below w.1.size w w':=by
 have HB:Hid (∀k,k≤m→0≤ju s 0 0 k∧ju s 0 0 k≤9000000000000000000):=abz s 0 0 m 0 dc dc om hm;have HX:=fun W gs gn ga B h1 h2 h3 h4 h5 h6=>ad3 s 0 m 0 gs gn ga B W hs (b0c _) hm h1 h2 h3 h4 h5 h6 HB
 go_enter func223,ntmps223;go_wp2_with fail;refine(HX _ w.1.size (w.1.size+1) (w.1.size+1+1) w.1.size (ad4 s w) om om om om om).mono ?_;rintro e w1 ⟨K,nv2,hK,rfl,hst,hb,hz,hex⟩;have b1:=hid (((((n6 w.1.size w).alloc (a8 _) _).alloc sm _).alloc (by simp;omega) _).trans hb);rw[b17]at hK;clear hst hb hz hex HX HB
 by_cases h:(K:Int)<(l:Int)
 ·go_wp2_with fail
  go_ret2
  exact⟨rfl,b1.out⟩
 ·have h2:(m:Int)<(K:Int):=by omega
  have h1:(l:Int) ≤(K:Int):=by omega
  clear hK g h;go_wp2_with fail
  go_ret2
  exact⟨rfl,b1.out⟩
theorem bap (s:ByteArray) (l m f:Nat) (w:World) (hs:s.size≤1000000) (hm:m≤12) (hf:f≤6) (g:¬(jr s.data.toList<l∨m<jr s.data.toList)) (g2:jr s.data.toList=s.data.toList.length) :
 Calls prog 223 #[.string s,.int .i64 (l:Int),.int .i64 (m:Int),.int .i64 (f:Int)] w fun e w'=>e=.returned (.tuple #[.int .i64 ((yw s.data.toList:Int)*ko f),.bool true])∧Below w.1.size w w':=by
 have HB:Hid (∀k,k≤m→0≤ju s 0 0 k∧ju s 0 0 k≤9000000000000000000):=abz s 0 0 m 0 dc dc om hm;have HX:=fun W gs gn ga B h1 h2 h3 h4 h5 h6=>ad3 s 0 m 0 gs gn ga B W hs (b0c _) hm h1 h2 h3 h4 h5 h6 HB
 have hA:=ab2 s.data.toList;rw[g2,b0o]at hA;have hz:s.data.toList.length=s.size:=by simp
 have HT:=fun W=>hid (axj f W om)
 have hv:=amm hA (n:=f) om;have hv0:(0:Int) ≤(yw s.data.toList:Int):=by omega
 have hv1:(yw s.data.toList:Int)<ko 12:=by
  have h1:=ait s.data.toList hA;have h2:(10:Nat)^s.data.toList.length≤10^12:=b0w dc om;rw[j9];omega
 rw[show ko 12=1000000000000 from by decide]at hv1
 have hsum:ju s 0 0 s.size=(yw s.data.toList:Int):=by
  unfold ju;rw[b17,← hz,b0o];omega
 obtain⟨V,hVe⟩:∃V,(yw s.data.toList:Int)=V:=⟨_,rfl⟩;have t1:=ahz f;obtain⟨T,hTe⟩:∃T,ko f=T:=⟨_,rfl⟩;rw[hVe]at hv0 hv1 hsum;rw[hVe,hTe]at hv;rw[hTe]at t1;simp only[hTe]at HT;rw[hVe,hTe];clear hVe hTe;go_enter func223,ntmps223;go_wp2_with fail;refine(HX _ w.1.size (w.1.size+1) (w.1.size+1+1) w.1.size (ad4 s w) om om om om om).mono ?_;rintro e w1 ⟨K,nv2,hK,rfl,hst,hb,hz1,hex⟩;have b1:=hid (((((n6 w.1.size w).alloc (a8 _) _).alloc sm _).alloc (by simp;omega) _).trans hb);rw[b17]at hK;obtain rfl:K=s.size:=by omega
 obtain rfl:V=nv2:=by rw[hex om,hsum]
 obtain⟨c1,c2,c3,-,-⟩:=hst;have h1:(l:Int) ≤(s.size:Int):=by omega
 have h2:(s.size:Int) ≤(m:Int):=by omega
 rw[b0e]at c3;clear hK hex hsum HX HB hA g g2 hz hb hz1;have hw:IntKind.i64.wrap (V*T)=V*T:=b00 _ om;have hw2:wrap64 (V*T)=V*T:=b32 _ om;have hf0:(0:Int) ≤(f:Int):=by omega
 have hf6:(f:Int)≤6:=by omega
 have hw3:IntKind.i64.wrap ((f:Int)-0)=(f:Int):=by rw[b00 _ om];omega
 have hw4:IntKind.i64.wrap (f:Int)=(f:Int):=by rw[b00 _ om]
 go_wp2_with fail
 go_quiet ((go_at_call 232;exact a0s (HT _).out))
 go_wp2_with fail
 go_ret2
 exact⟨rfl,aad b1.out _⟩
theorem a0m (s:ByteArray) (a l m f:Nat) (w:World) (hs:s.size≤1000000) (hm:m≤12) (hf:f≤6) (ha:jr s.data.toList=a) (h1:(l:Int) ≤(a:Int)) (h2:(a:Int) ≤(m:Int)) (hlt:a<s.size) (hc:(((s[a]'hlt).toNat:Int) != 46)=true) :
 Calls prog 223 #[.string s,.int .i64 (l:Int),.int .i64 (m:Int),.int .i64 (f:Int)] w fun e w'=>e=.returned (.tuple #[.int .i64 0,.bool false])∧Below w.1.size w w':=by
 have HB:Hid (∀k,k≤m→0≤ju s 0 0 k∧ju s 0 0 k≤9000000000000000000):=abz s 0 0 m 0 dc dc om hm;have HX:=fun W gs gn ga B h1 h2 h3 h4 h5 h6=>ad3 s 0 m 0 gs gn ga B W hs (b0c _) hm h1 h2 h3 h4 h5 h6 HB
 go_enter func223,ntmps223;go_wp2_with fail;refine(HX _ w.1.size (w.1.size+1) (w.1.size+1+1) w.1.size (ad4 s w) om om om om om).mono ?_;rintro e w1 ⟨K,nv2,hK,rfl,hst,hb,hz1,hex⟩;have b1:=hid (((((n6 w.1.size w).alloc (a8 _) _).alloc sm _).alloc (by simp;omega) _).trans hb);rw[b17,ha]at hK;obtain rfl:K=a:=by omega
 obtain⟨c1,c2,c3,-,-⟩:=hst;rw[b0e]at c3;have i1:(K:Int)<(s.size:Int):=by omega
 have i2:(0:Int) ≤(K:Int):=n8 _;have i3:(K:Int).toNat=K:=by omega
 clear hK hex HX HB ha hb hz1;go_wp2_with fail
 go_ret2
 exact⟨rfl,b1.out⟩
theorem ap8 {s:ByteArray} {gs gn ga:Nat} {w1:World} {nv:Int} {a:Nat} (h:ag8 w1 gs gn ga s nv a) (hd2:gs≠ga) (hd3:gn≠ga):ag8 (w1.setCell ⟨ga,0,none⟩ (.int .i64 ((a:Int)+1))) gs gn ga s nv (a+1):=by
 obtain⟨c1,c2,c3,z1,z2⟩:=h;refine⟨?_,?_,?_,?_,?_⟩
 ·rw[a9 _ _ _ _ (fun e=>by injection e with e;exact hd2 e.symm)];exact c1
 ·rw[a9 _ _ _ _ (fun e=>by injection e with e;exact hd3 e.symm)];exact c2
 ·rw[b0t _ _ _ c3];rw[show ((a+1:Nat):Int)=(a:Int)+1 from by omega]
 ·simpa using z1
 ·simpa using z2
theorem av1 (s:ByteArray) (a b l m f:Nat) (w:World) (hs:s.size≤1000000) (hm:m≤12) (hf:f≤6) (ha:jr s.data.toList=a) (h1:(l:Int) ≤(a:Int)) (h2:(a:Int) ≤(m:Int)) (hlt:a<s.size) (hc:(((s[a]'hlt).toNat:Int) != 46)=false) (hbe:jr (s.data.toList.drop (a+1))=b)
 (g:b<1∨f<b∨a+1+b≠s.size) :
 Calls prog 223 #[.string s,.int .i64 (l:Int),.int .i64 (m:Int),.int .i64 (f:Int)] w fun e w'=>e=.returned (.tuple #[.int .i64 0,.bool false])∧Below w.1.size w w':=by
 have HB:Hid (∀k,k≤m→0≤ju s 0 0 k∧ju s 0 0 k≤9000000000000000000):=abz s 0 0 m 0 dc dc om hm;have HX:=fun W gs gn ga B h1 h2 h3 h4 h5 h6=>ad3 s 0 m 0 gs gn ga B W hs (b0c _) hm h1 h2 h3 h4 h5 h6 HB
 have hA:=ab2 s.data.toList;rw[ha]at hA
 have hV:ju s 0 0 a=(yw (s.data.toList.take a):Int):=by
  unfold ju;rw[b17];omega
 have hV0:0≤ju s 0 0 a:=by rw[hV];omega
 have hV1:ju s 0 0 a<ko 12:=by
  have e1:=ait _ hA;have e2:(10:Nat)^(s.data.toList.take a).length≤10^12:=b0w dc (by rw[l7];omega);rw[hV,j9];omega
 have HB2:Hid (∀k,k≤f→0≤ju s (a+1) (ju s 0 0 a) k∧ju s (a+1) (ju s 0 0 a) k≤9000000000000000000):=abz s (a+1) _ f 12 hV0 hV1 om om;have hblen:=an8 (s.data.toList.drop (a+1));rw[hbe,l8,show s.data.toList.length=s.size from by simp]at hblen;obtain⟨V,hVe⟩:∃V,ju s 0 0 a=V:=⟨_,rfl⟩;rw[hVe]at HB2;have HVE:=hid hVe;clear hV hV0 hV1 hA hVe;have HX2:=fun W gs gn ga B h1 h2 h3 h4 h5 h6=>ad3 s (a+1) f V gs gn ga B W hs om om h1 h2 h3 h4 h5 h6 HB2
 go_enter func223,ntmps223;go_wp2_with fail;refine(HX _ w.1.size (w.1.size+1) (w.1.size+1+1) w.1.size (ad4 s w) om om om om om).mono ?_;rintro e w1 ⟨K,nv2,hK,rfl,hst,hb,hz1,hex⟩;have b1:=hid (((((n6 w.1.size w).alloc (a8 _) _).alloc sm _).alloc (by simp;omega) _).trans hb);rw[b17,ha]at hK;obtain rfl:K=a:=by omega
 obtain rfl:nv2=V:=(hex om).trans HVE.out;rw[b0e]at hst;have hst2:=hid (ap8 hst om om);obtain⟨c1,c2,c3,-,z3⟩:=hst;have i1:(K:Int)<(s.size:Int):=by omega
 have i2:(0:Int) ≤(K:Int):=n8 _;have i3:(K:Int).toNat=K:=by omega
 clear hK hex HX HB ha hb hz1;go_wp2_with fail;refine(HX2 _ w.1.size (w.1.size+1) (w.1.size+1+1) w.1.size hst2.out om om om om om).mono ?_;rintro e w2 ⟨K2,nv3,hK2,rfl,hst3,hb2,hz2,hex2⟩;have b2:=hid ((b1.out.setCell (show w.1.size≤w.1.size+1+1 by omega) _).trans hb2);obtain⟨d1,d2,d3,-,-⟩:=hst3;rw[hbe]at hK2;clear hex2 HX2 HB2 hb2 hz2 hst2 hbe c1 c2 c3 z3
 by_cases k1:(K2:Int)<1
 ·go_wp2_with fail
  go_ret2
  exact⟨rfl,b2.out⟩
 ·by_cases k2:(f:Int)<(K2:Int)
  ·have k3:(1:Int) ≤(K2:Int):=by omega
   clear hK2 g k1;go_wp2_with fail
   go_ret2
   exact⟨rfl,b2.out⟩
  ·have k3:(1:Int) ≤(K2:Int):=by omega
   have k4:(K2:Int) ≤(f:Int):=by omega
   have k5:((K+1+K2:Nat):Int)<(s.size:Int):=by omega
   clear hK2 g k1 k2;generalize K+1+K2=Z at *;go_wp2_with fail
   go_ret2
   exact⟨rfl,b2.out⟩
theorem a5g (s:ByteArray) (a b l m f:Nat) (w:World) (hs:s.size≤1000000) (hm:m≤12) (hf:f≤6) (ha:jr s.data.toList=a) (h1:(l:Int) ≤(a:Int)) (h2:(a:Int) ≤(m:Int)) (hlt:a<s.size) (hc:(((s[a]'hlt).toNat:Int) != 46)=false) (hbe:jr (s.data.toList.drop (a+1))=b)
 (g1:(1:Int) ≤(b:Int)) (g2:b≤f) (g3:a+1+b=s.size) :
 Calls prog 223 #[.string s,.int .i64 (l:Int),.int .i64 (m:Int),.int .i64 (f:Int)] w fun e w'=>e=.returned (.tuple #[.int .i64 ((yw (s.data.toList.take a):Int)*ko f +(yw (s.data.toList.drop (a+1)):Int)*ko (f-b)),.bool true])∧Below w.1.size w w':=by
 have HB:Hid (∀k,k≤m→0≤ju s 0 0 k∧ju s 0 0 k≤9000000000000000000):=abz s 0 0 m 0 dc dc om hm;have HX:=fun W gs gn ga B h1 h2 h3 h4 h5 h6=>ad3 s 0 m 0 gs gn ga B W hs (b0c _) hm h1 h2 h3 h4 h5 h6 HB
 have HT:=fun W=>hid (axj (f-b) W om)
 have hA:=ab2 s.data.toList;rw[ha]at hA
 have hV:ju s 0 0 a=(yw (s.data.toList.take a):Int):=by
  unfold ju;rw[b17];omega
 have hV0:0≤ju s 0 0 a:=by rw[hV];omega
 have hV1:ju s 0 0 a<ko 12:=by
  have e1:=ait _ hA;have e2:(10:Nat)^(s.data.toList.take a).length≤10^12:=b0w dc (by rw[l7];omega);rw[hV,j9];omega
 have HB2:Hid (∀k,k≤f→0≤ju s (a+1) (ju s 0 0 a) k∧ju s (a+1) (ju s 0 0 a) k≤9000000000000000000):=abz s (a+1) _ f 12 hV0 hV1 om om;have hB:=ab2 (s.data.toList.drop (a+1));have hlen:(s.data.toList.drop (a+1)).length=b:=by rw[l8,show s.data.toList.length=s.size from by simp];omega
 rw[hbe,← hlen,b0o]at hB
 have hsum:ju s (a+1) (ju s 0 0 a) b*ko (f-b)=(yw (s.data.toList.take a):Int)*ko f +(yw (s.data.toList.drop (a+1)):Int)*ko (f-b):=by
  rw[show ju s (a+1) (ju s 0 0 a) b=ju s 0 0 a*ko b +(yw (s.data.toList.drop (a+1)):Int)from by
   unfold ju;rw[show (s.data.toList.drop (a+1)).take b=s.data.toList.drop (a+1)from by rw[← hlen,b0o]],hV,Int.add_mul,Int.mul_assoc]
  rw[show ko b*ko (f-b)=ko f from by
   rw[j9,j9,j9,← b1z,← b3p,show b +(f-b)=f from by omega]]
 have v1:=amm hA (n:=f) (by rw[l7];omega);have v2:=amm hB (n:=f-b) om;have hR:0≤ju s (a+1) (ju s 0 0 a) b*ko (f-b)∧ju s (a+1) (ju s 0 0 a) b*ko (f-b)≤2000000000000000000:=by rw[hsum];omega
 rw[← hsum];have hS0:=(HB2.out b g2);obtain⟨S,hSe⟩:∃S,ju s (a+1) (ju s 0 0 a) b=S:=⟨_,rfl⟩;rw[hSe]at hR hS0 ⊢;have HSE:=hid hSe;obtain⟨V,hVe⟩:∃V,ju s 0 0 a=V:=⟨_,rfl⟩;rw[hVe]at HB2 HSE;have HVE:=hid hVe;obtain⟨T,hTe⟩:∃T,ko (f-b)=T:=⟨_,rfl⟩;have t1:=ahz (f-b);simp only[hTe,show ((f-b:Nat):Int)=(f:Int)-(b:Int)from by omega]at HT;rw[hTe]at hR t1 ⊢;clear hV hV0 hV1 hA hVe hSe hTe v1 v2 hsum hB hlen;have HX2:=fun W gs gn ga B h1 h2 h3 h4 h5 h6=>ad3 s (a+1) f V gs gn ga B W hs om om h1 h2 h3 h4 h5 h6 HB2
 go_enter func223,ntmps223;go_wp2_with fail;refine(HX _ w.1.size (w.1.size+1) (w.1.size+1+1) w.1.size (ad4 s w) om om om om om).mono ?_;rintro e w1 ⟨K,nv2,hK,rfl,hst,hb,hz1,hex⟩;have b1:=hid (((((n6 w.1.size w).alloc (a8 _) _).alloc sm _).alloc (by simp;omega) _).trans hb);rw[b17,ha]at hK;obtain rfl:a=K:=by omega
 obtain rfl:V=nv2:=((hex om).trans HVE.out).symm;rw[b0e]at hst;have hst2:=hid (ap8 hst om om);obtain⟨c1,c2,c3,-,z3⟩:=hst;have i1:(a:Int)<(s.size:Int):=by omega
 have i2:(0:Int) ≤(a:Int):=n8 _;have i3:(a:Int).toNat=a:=by omega
 clear hK hex HX HB ha hb hz1;go_wp2_with fail;refine(HX2 _ w.1.size (w.1.size+1) (w.1.size+1+1) w.1.size hst2.out om om om om om).mono ?_;rintro e w2 ⟨K2,nv3,hK2,rfl,hst3,hb2,hz2,hex2⟩;have b2:=hid ((b1.out.setCell (show w.1.size≤w.1.size+1+1 by omega) _).trans hb2);rw[hbe]at hK2;obtain rfl:b=K2:=by omega
 obtain rfl:S=nv3:=((hex2 om).trans HSE.out).symm;obtain⟨d1,d2,d3,-,-⟩:=hst3;have k4:(b:Int) ≤(f:Int):=by omega
 rw[g3]at d3;clear hex2 HX2 HB2 hb2 hz2 hst2 hbe c1 c2 c3 z3 hK2 HSE HVE;have hf6:(f:Int)≤6:=by omega
 have hw:IntKind.i64.wrap (S*T)=S*T:=b00 _ om;have hw2:wrap64 (S*T)=S*T:=b32 _ om;have hw3:IntKind.i64.wrap ((f:Int)-(b:Int))=(f:Int)-(b:Int):=b00 _ om;go_wp2_with fail
 go_quiet ((go_at_call 232;exact a0s (HT _).out))
 go_wp2_with fail
 go_ret2
 exact⟨rfl,aad b2.out _⟩
theorem al7 (s:ByteArray) (l m f:Nat) (w:World) (hs:s.size≤1000000) (hm:m≤12) (hf:f≤6) :
 Calls prog 223 #[.string s,.int .i64 (l:Int),.int .i64 (m:Int),.int .i64 (f:Int)] w fun e w'=>e=.returned (.tuple #[.int .i64 (((yq s.data.toList l m f).getD 0:Nat):Int),.bool (yq s.data.toList l m f).isSome])∧Below w.1.size w w':=by
 have hz:s.data.toList.length=s.size:=by simp
 unfold yq
 by_cases g1:jr s.data.toList<l∨m<jr s.data.toList
 ·rw[if_pos g1];exact a5h s l m f w hs hm hf g1
 rw[if_neg g1]
 by_cases g2:jr s.data.toList=s.data.toList.length
 ·rw[if_pos g2];have h:=bap s l m f w hs hm hf g1 g2;rw[j9,← b1z]at h;exact h
 rw[if_neg g2];have hle:=an8 s.data.toList;obtain⟨a,ha⟩:∃a,jr s.data.toList=a:=⟨_,rfl⟩;rw[ha]at g1 g2 hle ⊢;have hlt:a<s.size:=by omega
 obtain⟨b,hbe⟩:∃b,jr (s.data.toList.drop (a+1))=b:=⟨_,rfl⟩;rw[hbe]
 have h46:s.data.toList[a]?=some 46 ↔((s[a]'hlt).toNat:Int)=46:=by
  rw[c8 om];constructor
  ·intro k;injection k with k
   have k2:s[a]=46:=k;rw[k2];rfl
  ·intro k;have k2:s[a]=46:=b1p.1 (by have e:(46:UInt8).toNat=46:=rfl;omega);exact congrArg some k2
 by_cases g3:s.data.toList[a]?≠some 46∨b<1∨f<b∨a+1+b≠s.data.toList.length
 ·rw[if_pos g3]
  by_cases k46:((s[a]'hlt).toNat:Int)=46
  ·refine av1 s a b l m f w hs hm hf ha om om hlt (by rw[t7];exact k46) hbe ?_;rcases g3 with g|g|g|g
   ·exact absurd (h46.2 k46) g
   ·exact .inl g
   ·exact .inr (.inl g)
   ·exact .inr (.inr om)
  ·exact a0m s a l m f w hs hm hf ha om om hlt (by rw[b0g];exact k46)
 ·rw[if_neg g3];have g4:s.data.toList[a]?=some 46:=b2s.1 fun k=>g3 (.inl k)
  have h:=a5g s a b l m f w hs hm hf ha om om hlt (by rw[t7];exact h46.1 g4) hbe om om om;rw[j9,j9,← b1z,← b1z,← b5b]at h;exact h
theorem axq {w w':World} {n:Nat} (h:Below (w.drewN n).1.size (w.drewN n) w'):Below w.1.size w w':=⟨h.os,h.tape,h.output,h.size,h.block⟩
theorem zj (w:World) (g:Nat) (v0 v1 o0 o1:Value) (h0:w.cell? ⟨g,0,none⟩=some o0) (h1:w.cell? ⟨g,1,none⟩=some o1) :
 ((w.setCell ⟨g,0,none⟩ v0).setCell ⟨g,1,none⟩ v1).cell? ⟨g,0,none⟩=some v0 ∧((w.setCell ⟨g,0,none⟩ v0).setCell ⟨g,1,none⟩ v1).cell? ⟨g,1,none⟩=some v1:=by
 have n01:(⟨g,1,none⟩:Addr) ≠⟨g,0,none⟩:=by simp
 refine⟨?_,?_⟩
 ·rw[a9 _ _ _ _ n01];exact b0t _ _ _ h0
 ·exact b0t _ _ _ ((a9 _ _ _ _ (fun e=>n01 e.symm)).trans h1)
theorem bc8 (s:ByteArray) (W M F L H:Int) (w:World) (hs:s.size≤1000000) (HR:∀W',Hid (Calls prog 222 #[j7 W M F L H] W' fun e w'=>e=.returned (.bool false)∧Below W'.1.size W' w')) :
 Calls prog 206 #[.string s,j7 W M F L H] w fun e w'=>e=.returned (.tuple #[jo false 0,.int .i64 1])∧Below w.1.size w w':=by
 go_enter func206,ntmps206;go_wp2_with fail;refine((HR _).out).mono ?_;rintro e w1 ⟨rfl,hb1⟩;obtain⟨c1,f1⟩:=qy hb1;have hz:=hb1.size;simp at hz;have hz1:w.1.size<w1.1.size:=by omega
 have hz4:w.1.size+1<w1.1.size:=by omega
 have b1:=hid (qb (qb (qa w _) (qa _ _)) hb1);have q0:w1.cell? ⟨w.1.size+1,0,none⟩=some (.bool false):=(c1 (w.1.size+1) 0 sm).trans (by simp[b8]);have q1:w1.cell? ⟨w.1.size+1,1,none⟩=some (.int .i64 0):=(c1 (w.1.size+1) 1 sm).trans (by simp[b8]);go_wp2_with fail;obtain⟨p0,p1⟩:=zj w1 (w.1.size+1) (.bool false) (.int .i64 0) _ _ q0 q1;refine b9 (v:=.tuple #[jo false 0,.int .i64 1]) (by simp[results,results206,go_sem,p0,p1]) rfl ⟨rfl,?_⟩;exact(b0h (b0h b1.out (p:=⟨w.1.size+1,0,none⟩) (by show w.1.size≤w.1.size+1;omega) _) (p:=⟨w.1.size+1,1,none⟩) (by show w.1.size≤w.1.size+1;omega) _)
theorem a3g (s:ByteArray) (W M F L H:Int) (w:World) (hs:s.size≤1000000) (HR:∀W',Hid (Calls prog 222 #[j7 W M F L H] W' fun e w'=>e=.returned (.bool true)∧Below W'.1.size W' w')) (h0:s.size=0) :
 Calls prog 206 #[.string s,j7 W M F L H] w fun e w'=>e=.returned (.tuple #[jo false 0,.int .i64 0])∧Below w.1.size w w':=by
 obtain rfl:s=⟨#[]⟩:=b3w (b2j h0);go_enter func206,ntmps206;go_wp2_with fail;refine((HR _).out).mono ?_;rintro e w1 ⟨rfl,hb1⟩;obtain⟨c1,f1⟩:=qy hb1;have hz:=hb1.size;simp at hz;have hz1:w.1.size<w1.1.size:=by omega
 have hz4:w.1.size+1<w1.1.size:=by omega
 have b1:=hid (qb (qb (qa w _) (qa _ _)) hb1);have q0:w1.cell? ⟨w.1.size+1,0,none⟩=some (.bool false):=(c1 (w.1.size+1) 0 sm).trans (by simp[b8]);have q1:w1.cell? ⟨w.1.size+1,1,none⟩=some (.int .i64 0):=(c1 (w.1.size+1) 1 sm).trans (by simp[b8]);go_wp2_with fail;obtain⟨p0,p1⟩:=zj w1 (w.1.size+1) (.bool false) (.int .i64 0) _ _ q0 q1;refine b9 (v:=.tuple #[jo false 0,.int .i64 0]) (by simp[results,results206,go_sem,p0,p1]) rfl ⟨rfl,?_⟩;exact(b0h (b0h b1.out (p:=⟨w.1.size+1,0,none⟩) (by show w.1.size≤w.1.size+1;omega) _) (p:=⟨w.1.size+1,1,none⟩) (by show w.1.size≤w.1.size+1;omega) _)
theorem ar1 (s:ByteArray) (W M F L H:Int) (n:Int) (w:World) (hs:s.size≤1000000) (h0:0<s.size) (hc:(((s[0]'h0).toNat:Int)==45)=false) (HR:∀W',Hid (Calls prog 222 #[j7 W M F L H] W' fun e w'=>e=.returned (.bool true)∧Below W'.1.size W' w')) (HP:∀W',Hid (Calls prog 223 #[.string s,.int .i64 1,.int .i64 M,.int .i64 F] W' fun e w'=>e=.returned (.tuple #[.int .i64 n,.bool false])∧Below W'.1.size W' w')) :
 Calls prog 206 #[.string s,j7 W M F L H] w fun e w'=>e=.returned (.tuple #[jo false 0,.int .i64 3])∧Below w.1.size w w':=by
 have i1:(0:Int)<(s.size:Int):=by omega
 have i2:(1:Int) ≤(s.size:Int):=by omega
 obtain⟨hne1,hne2⟩:=q8 h0;go_enter func206,ntmps206;go_wp2_with fail;refine((HR _).out).mono ?_;rintro e w1 ⟨rfl,hb1⟩;obtain⟨c1,f1⟩:=qy hb1;have hz:=hb1.size;simp at hz;have hz1:w.1.size<w1.1.size:=by omega
 have hz4:w.1.size+1<w1.1.size:=by omega
 have b1:=hid (qb (qb (qa w _) (qa _ _)) hb1);have q0:w1.cell? ⟨w.1.size+1,0,none⟩=some (.bool false):=(c1 (w.1.size+1) 0 sm).trans (by simp[b8]);have q1:w1.cell? ⟨w.1.size+1,1,none⟩=some (.int .i64 0):=(c1 (w.1.size+1) 1 sm).trans (by simp[b8]);go_wp2_with fail;refine((HP _).out).mono ?_;rintro e w2 ⟨rfl,hb2⟩;obtain⟨c2,f2⟩:=qy hb2;have hz5:=hb2.size;have hz6:w.1.size<w2.1.size:=by omega
 have hz7:w.1.size+1<w2.1.size:=by omega
 have b2:=hid (qb b1.out hb2);replace q0:=(c2 _ 0 hz4).trans q0;replace q1:=(c2 _ 1 hz4).trans q1;go_wp2_with fail;obtain⟨p0,p1⟩:=zj w2 (w.1.size+1) (.bool false) (.int .i64 0) _ _ q0 q1;refine b9 (v:=.tuple #[jo false 0,.int .i64 3]) (by simp[results,results206,go_sem,p0,p1]) rfl ⟨rfl,?_⟩;exact(b0h (b0h b2.out (p:=⟨w.1.size+1,0,none⟩) (by show w.1.size≤w.1.size+1;omega) _) (p:=⟨w.1.size+1,1,none⟩) (by show w.1.size≤w.1.size+1;omega) _)
theorem aox (s:ByteArray) (W M F L H:Int) (n:Int) (w:World) (hs:s.size≤1000000) (h0:0<s.size) (hc:(((s[0]'h0).toNat:Int)==45)=false) (HR:∀W',Hid (Calls prog 222 #[j7 W M F L H] W' fun e w'=>e=.returned (.bool true)∧Below W'.1.size W' w')) (HP:∀W',Hid (Calls prog 223 #[.string s,.int .i64 1,.int .i64 M,.int .i64 F] W' fun e w'=>e=.returned (.tuple #[.int .i64 n,.bool true])∧Below W'.1.size W' w')) (hn0:0≤n) (hn:n≤2000000000000000000) (HF:∀W',Hid (Calls prog 224 #[jo true n,.int .i64 L,.int .i64 H] W' fun e w'=>e=.returned (.bool false)∧Below W'.1.size W' w')) :
 Calls prog 206 #[.string s,j7 W M F L H] w fun e w'=>e=.returned (.tuple #[jo false 0,.int .i64 5])∧Below w.1.size w w':=by
 have i1:(0:Int)<(s.size:Int):=by omega
 have i2:(1:Int) ≤(s.size:Int):=by omega
 obtain⟨hne1,hne2⟩:=q8 h0;have e1:(1:Int)*n=n:=b3q n;have e2:(-1:Int)*n=-n:=by rw[b5g,b3q]
 go_enter func206,ntmps206;go_wp2_with fail;refine((HR _).out).mono ?_;rintro e w1 ⟨rfl,hb1⟩;obtain⟨c1,f1⟩:=qy hb1;have hz:=hb1.size;simp at hz;have hz1:w.1.size<w1.1.size:=by omega
 have hz4:w.1.size+1<w1.1.size:=by omega
 have b1:=hid (qb (qb (qa w _) (qa _ _)) hb1);have q0:w1.cell? ⟨w.1.size+1,0,none⟩=some (.bool false):=(c1 (w.1.size+1) 0 sm).trans (by simp[b8]);have q1:w1.cell? ⟨w.1.size+1,1,none⟩=some (.int .i64 0):=(c1 (w.1.size+1) 1 sm).trans (by simp[b8]);go_wp2_with fail;refine((HP _).out).mono ?_;rintro e w2 ⟨rfl,hb2⟩;obtain⟨c2,f2⟩:=qy hb2;have hz5:=hb2.size;have hz6:w.1.size<w2.1.size:=by omega
 have hz7:w.1.size+1<w2.1.size:=by omega
 have b2:=hid (qb b1.out hb2);replace q0:=(c2 _ 0 hz4).trans q0;replace q1:=(c2 _ 1 hz4).trans q1;go_wp2_with fail;refine((HF _).out).mono ?_;rintro e w3 ⟨rfl,hb3⟩;obtain⟨c3,f3⟩:=qy hb3;have hz8:=hb3.size;simp at hz8;have hz9:w2.1.size<w3.1.size:=by omega
 have hz10:w.1.size+1<w3.1.size:=by omega
 have b3:=hid (qb (qb b2.out (qa _ _)) hb3);replace q0:=(c3 (w.1.size+1) 0 (by simp;omega)).trans ((n5 _ _ _ om).trans q0);replace q1:=(c3 (w.1.size+1) 1 (by simp;omega)).trans ((n5 _ _ _ om).trans q1);go_wp2_with fail;obtain⟨p0,p1⟩:=zj w3 (w.1.size+1) (.bool false) (.int .i64 0) _ _ q0 q1;refine b9 (v:=.tuple #[jo false 0,.int .i64 5]) (by simp[results,results206,go_sem,p0,p1]) rfl ⟨rfl,?_⟩;exact(b0h (b0h b3.out (p:=⟨w.1.size+1,0,none⟩) (by show w.1.size≤w.1.size+1;omega) _) (p:=⟨w.1.size+1,1,none⟩) (by show w.1.size≤w.1.size+1;omega) _)
theorem ayf (s:ByteArray) (W M F L H:Int) (n:Int) (w:World) (hs:s.size≤1000000) (h0:0<s.size) (hc:(((s[0]'h0).toNat:Int)==45)=false) (HR:∀W',Hid (Calls prog 222 #[j7 W M F L H] W' fun e w'=>e=.returned (.bool true)∧Below W'.1.size W' w')) (HP:∀W',Hid (Calls prog 223 #[.string s,.int .i64 1,.int .i64 M,.int .i64 F] W' fun e w'=>e=.returned (.tuple #[.int .i64 n,.bool true])∧Below W'.1.size W' w')) (hn0:0≤n) (hn:n≤2000000000000000000) (HF:∀W',Hid (Calls prog 224 #[jo true n,.int .i64 L,.int .i64 H] W' fun e w'=>e=.returned (.bool true)∧Below W'.1.size W' w')) :
 Calls prog 206 #[.string s,j7 W M F L H] w fun e w'=>e=.returned (.tuple #[jo true n,.int .i64 0])∧Below w.1.size w w':=by
 have i1:(0:Int)<(s.size:Int):=by omega
 have i2:(1:Int) ≤(s.size:Int):=by omega
 obtain⟨hne1,hne2⟩:=q8 h0;have e1:(1:Int)*n=n:=b3q n;have e2:(-1:Int)*n=-n:=by rw[b5g,b3q]
 go_enter func206,ntmps206;go_wp2_with fail;refine((HR _).out).mono ?_;rintro e w1 ⟨rfl,hb1⟩;obtain⟨c1,f1⟩:=qy hb1;have hz:=hb1.size;simp at hz;have hz1:w.1.size<w1.1.size:=by omega
 have hz4:w.1.size+1<w1.1.size:=by omega
 have b1:=hid (qb (qb (qa w _) (qa _ _)) hb1);have q0:w1.cell? ⟨w.1.size+1,0,none⟩=some (.bool false):=(c1 (w.1.size+1) 0 sm).trans (by simp[b8]);have q1:w1.cell? ⟨w.1.size+1,1,none⟩=some (.int .i64 0):=(c1 (w.1.size+1) 1 sm).trans (by simp[b8]);go_wp2_with fail;refine((HP _).out).mono ?_;rintro e w2 ⟨rfl,hb2⟩;obtain⟨c2,f2⟩:=qy hb2;have hz5:=hb2.size;have hz6:w.1.size<w2.1.size:=by omega
 have hz7:w.1.size+1<w2.1.size:=by omega
 have b2:=hid (qb b1.out hb2);replace q0:=(c2 _ 0 hz4).trans q0;replace q1:=(c2 _ 1 hz4).trans q1;go_wp2_with fail;refine((HF _).out).mono ?_;rintro e w3 ⟨rfl,hb3⟩;obtain⟨c3,f3⟩:=qy hb3;have hz8:=hb3.size;simp at hz8;have hz9:w2.1.size<w3.1.size:=by omega
 have hz10:w.1.size+1<w3.1.size:=by omega
 have b3:=hid (qb (qb b2.out (qa _ _)) hb3);replace q0:=(c3 (w.1.size+1) 0 (by simp;omega)).trans ((n5 _ _ _ om).trans q0);replace q1:=(c3 (w.1.size+1) 1 (by simp;omega)).trans ((n5 _ _ _ om).trans q1);go_wp2_with fail;obtain⟨p0,p1⟩:=zj w3 (w.1.size+1) (.bool true) (.int .i64 n) _ _ q0 q1;refine b9 (v:=.tuple #[jo true n,.int .i64 0]) (by simp[results,results206,go_sem,p0,p1]) rfl ⟨rfl,?_⟩;exact(b0h (b0h b3.out (p:=⟨w.1.size+1,0,none⟩) (by show w.1.size≤w.1.size+1;omega) _) (p:=⟨w.1.size+1,1,none⟩) (by show w.1.size≤w.1.size+1;omega) _)
theorem ar0 (s:ByteArray) (W M F L H:Int) (n:Int) (w:World) (hs:s.size≤1000000) (h0:0<s.size) (hc:(((s[0]'h0).toNat:Int)==45)=true) (HR:∀W',Hid (Calls prog 222 #[j7 W M F L H] W' fun e w'=>e=.returned (.bool true)∧Below W'.1.size W' w')) (HP:∀W',Hid (Calls prog 223 #[.string (s.extract 1 s.size),.int .i64 1,.int .i64 M,.int .i64 F] W' fun e w'=>e=.returned (.tuple #[.int .i64 n,.bool false])∧Below W'.1.size W' w')) :
 Calls prog 206 #[.string s,j7 W M F L H] w fun e w'=>e=.returned (.tuple #[jo false 0,.int .i64 3])∧Below w.1.size w w':=by
 have i1:(0:Int)<(s.size:Int):=by omega
 have i2:(1:Int) ≤(s.size:Int):=by omega
 obtain⟨hne1,hne2⟩:=q8 h0;go_enter func206,ntmps206;go_wp2_with fail;refine((HR _).out).mono ?_;rintro e w1 ⟨rfl,hb1⟩;obtain⟨c1,f1⟩:=qy hb1;have hz:=hb1.size;simp at hz;have hz1:w.1.size<w1.1.size:=by omega
 have hz4:w.1.size+1<w1.1.size:=by omega
 have b1:=hid (qb (qb (qa w _) (qa _ _)) hb1);have q0:w1.cell? ⟨w.1.size+1,0,none⟩=some (.bool false):=(c1 (w.1.size+1) 0 sm).trans (by simp[b8]);have q1:w1.cell? ⟨w.1.size+1,1,none⟩=some (.int .i64 0):=(c1 (w.1.size+1) 1 sm).trans (by simp[b8]);go_wp2_with fail
 go_quiet (fail)
 go_wp2_with fail;refine(HP _).out.mono ?_;rintro e w2 ⟨rfl,hb2⟩;replace hb2:=axq hb2;obtain⟨c2,f2⟩:=qy hb2;have hz5:=hb2.size;have hz6:w.1.size<w2.1.size:=by omega
 have hz7:w.1.size+1<w2.1.size:=by omega
 have b2:=hid (qb b1.out hb2);replace q0:=(c2 _ 0 hz4).trans q0;replace q1:=(c2 _ 1 hz4).trans q1;go_wp2_with fail;obtain⟨p0,p1⟩:=zj w2 (w.1.size+1) (.bool false) (.int .i64 0) _ _ q0 q1;refine b9 (v:=.tuple #[jo false 0,.int .i64 3]) (by simp[results,results206,go_sem,p0,p1]) rfl ⟨rfl,?_⟩;exact(b0h (b0h b2.out (p:=⟨w.1.size+1,0,none⟩) (by show w.1.size≤w.1.size+1;omega) _) (p:=⟨w.1.size+1,1,none⟩) (by show w.1.size≤w.1.size+1;omega) _)
theorem aow (s:ByteArray) (W M F L H:Int) (n:Int) (w:World) (hs:s.size≤1000000) (h0:0<s.size) (hc:(((s[0]'h0).toNat:Int)==45)=true) (HR:∀W',Hid (Calls prog 222 #[j7 W M F L H] W' fun e w'=>e=.returned (.bool true)∧Below W'.1.size W' w')) (HP:∀W',Hid (Calls prog 223 #[.string (s.extract 1 s.size),.int .i64 1,.int .i64 M,.int .i64 F] W' fun e w'=>e=.returned (.tuple #[.int .i64 n,.bool true])∧Below W'.1.size W' w')) (hn0:0≤n) (hn:n≤2000000000000000000) (HF:∀W',Hid (Calls prog 224 #[jo true (-n),.int .i64 L,.int .i64 H] W' fun e w'=>e=.returned (.bool false)∧Below W'.1.size W' w')) :
 Calls prog 206 #[.string s,j7 W M F L H] w fun e w'=>e=.returned (.tuple #[jo false 0,.int .i64 5])∧Below w.1.size w w':=by
 have i1:(0:Int)<(s.size:Int):=by omega
 have i2:(1:Int) ≤(s.size:Int):=by omega
 obtain⟨hne1,hne2⟩:=q8 h0;have e1:(1:Int)*n=n:=b3q n;have e2:(-1:Int)*n=-n:=by rw[b5g,b3q]
 go_enter func206,ntmps206;go_wp2_with fail;refine((HR _).out).mono ?_;rintro e w1 ⟨rfl,hb1⟩;obtain⟨c1,f1⟩:=qy hb1;have hz:=hb1.size;simp at hz;have hz1:w.1.size<w1.1.size:=by omega
 have hz4:w.1.size+1<w1.1.size:=by omega
 have b1:=hid (qb (qb (qa w _) (qa _ _)) hb1);have q0:w1.cell? ⟨w.1.size+1,0,none⟩=some (.bool false):=(c1 (w.1.size+1) 0 sm).trans (by simp[b8]);have q1:w1.cell? ⟨w.1.size+1,1,none⟩=some (.int .i64 0):=(c1 (w.1.size+1) 1 sm).trans (by simp[b8]);go_wp2_with fail
 go_quiet (fail)
 go_wp2_with fail;refine(HP _).out.mono ?_;rintro e w2 ⟨rfl,hb2⟩;replace hb2:=axq hb2;obtain⟨c2,f2⟩:=qy hb2;have hz5:=hb2.size;have hz6:w.1.size<w2.1.size:=by omega
 have hz7:w.1.size+1<w2.1.size:=by omega
 have b2:=hid (qb b1.out hb2);replace q0:=(c2 _ 0 hz4).trans q0;replace q1:=(c2 _ 1 hz4).trans q1;go_wp2_with fail;refine((HF _).out).mono ?_;rintro e w3 ⟨rfl,hb3⟩;obtain⟨c3,f3⟩:=qy hb3;have hz8:=hb3.size;simp at hz8;have hz9:w2.1.size<w3.1.size:=by omega
 have hz10:w.1.size+1<w3.1.size:=by omega
 have b3:=hid (qb (qb b2.out (qa _ _)) hb3);replace q0:=(c3 (w.1.size+1) 0 (by simp;omega)).trans ((n5 _ _ _ om).trans q0);replace q1:=(c3 (w.1.size+1) 1 (by simp;omega)).trans ((n5 _ _ _ om).trans q1);go_wp2_with fail;obtain⟨p0,p1⟩:=zj w3 (w.1.size+1) (.bool false) (.int .i64 0) _ _ q0 q1;refine b9 (v:=.tuple #[jo false 0,.int .i64 5]) (by simp[results,results206,go_sem,p0,p1]) rfl ⟨rfl,?_⟩;exact(b0h (b0h b3.out (p:=⟨w.1.size+1,0,none⟩) (by show w.1.size≤w.1.size+1;omega) _) (p:=⟨w.1.size+1,1,none⟩) (by show w.1.size≤w.1.size+1;omega) _)
theorem aye (s:ByteArray) (W M F L H:Int) (n:Int) (w:World) (hs:s.size≤1000000) (h0:0<s.size) (hc:(((s[0]'h0).toNat:Int)==45)=true) (HR:∀W',Hid (Calls prog 222 #[j7 W M F L H] W' fun e w'=>e=.returned (.bool true)∧Below W'.1.size W' w')) (HP:∀W',Hid (Calls prog 223 #[.string (s.extract 1 s.size),.int .i64 1,.int .i64 M,.int .i64 F] W' fun e w'=>e=.returned (.tuple #[.int .i64 n,.bool true])∧Below W'.1.size W' w')) (hn0:0≤n) (hn:n≤2000000000000000000) (HF:∀W',Hid (Calls prog 224 #[jo true (-n),.int .i64 L,.int .i64 H] W' fun e w'=>e=.returned (.bool true)∧Below W'.1.size W' w')) :
 Calls prog 206 #[.string s,j7 W M F L H] w fun e w'=>e=.returned (.tuple #[jo true (-n),.int .i64 0])∧Below w.1.size w w':=by
 have i1:(0:Int)<(s.size:Int):=by omega
 have i2:(1:Int) ≤(s.size:Int):=by omega
 obtain⟨hne1,hne2⟩:=q8 h0;have e1:(1:Int)*n=n:=b3q n;have e2:(-1:Int)*n=-n:=by rw[b5g,b3q]
 go_enter func206,ntmps206;go_wp2_with fail;refine((HR _).out).mono ?_;rintro e w1 ⟨rfl,hb1⟩;obtain⟨c1,f1⟩:=qy hb1;have hz:=hb1.size;simp at hz;have hz1:w.1.size<w1.1.size:=by omega
 have hz4:w.1.size+1<w1.1.size:=by omega
 have b1:=hid (qb (qb (qa w _) (qa _ _)) hb1);have q0:w1.cell? ⟨w.1.size+1,0,none⟩=some (.bool false):=(c1 (w.1.size+1) 0 sm).trans (by simp[b8]);have q1:w1.cell? ⟨w.1.size+1,1,none⟩=some (.int .i64 0):=(c1 (w.1.size+1) 1 sm).trans (by simp[b8]);go_wp2_with fail
 go_quiet (fail)
 go_wp2_with fail;refine(HP _).out.mono ?_;rintro e w2 ⟨rfl,hb2⟩;replace hb2:=axq hb2;obtain⟨c2,f2⟩:=qy hb2;have hz5:=hb2.size;have hz6:w.1.size<w2.1.size:=by omega
 have hz7:w.1.size+1<w2.1.size:=by omega
 have b2:=hid (qb b1.out hb2);replace q0:=(c2 _ 0 hz4).trans q0;replace q1:=(c2 _ 1 hz4).trans q1;go_wp2_with fail;refine((HF _).out).mono ?_;rintro e w3 ⟨rfl,hb3⟩;obtain⟨c3,f3⟩:=qy hb3;have hz8:=hb3.size;simp at hz8;have hz9:w2.1.size<w3.1.size:=by omega
 have hz10:w.1.size+1<w3.1.size:=by omega
 have b3:=hid (qb (qb b2.out (qa _ _)) hb3);replace q0:=(c3 (w.1.size+1) 0 (by simp;omega)).trans ((n5 _ _ _ om).trans q0);replace q1:=(c3 (w.1.size+1) 1 (by simp;omega)).trans ((n5 _ _ _ om).trans q1);go_wp2_with fail;obtain⟨p0,p1⟩:=zj w3 (w.1.size+1) (.bool true) (.int .i64 (-n)) _ _ q0 q1;refine b9 (v:=.tuple #[jo true (-n),.int .i64 0]) (by simp[results,results206,go_sem,p0,p1]) rfl ⟨rfl,?_⟩;exact(b0h (b0h b3.out (p:=⟨w.1.size+1,0,none⟩) (by show w.1.size≤w.1.size+1;omega) _) (p:=⟨w.1.size+1,1,none⟩) (by show w.1.size≤w.1.size+1;omega) _)
def aix (l:List UInt8):Bool:=l.head?==some 45
def afb (l:List UInt8):List UInt8:=if aix l then l.drop 1 else l
def jz (l:List UInt8) (W M F L H:Int):Bool×Int×Int:=
 if abm W M F L H=false then(false,0,1)
 else if l=[]then(false,0,0)
 else match yq (afb l) 1 M.toNat F.toNat with
 | none=>(false,0,3)
 | some n=>if aa2 true (if aix l then -(n:Int)else(n:Int)) L H then(true,(if aix l then -(n:Int)else(n:Int)),0)else(false,0,5)
theorem al6 {l:List UInt8} {a m f n:Nat} (h:yq l a m f=some n) (hm:m+f≤18):n≤2000000000000000000:=by
 unfold yq at h;have hA:=ab2 l
 split at h
 ·cases h
 rename_i g1
 split at h
 ·rename_i g2;injection h with h
  rw[g2,b0o]at hA;have v:=amm hA (n:=f) om;rw[j9,← b1z]at v;omega
 split at h
 ·cases h
 rename_i g3;injection h with h
 have hB:=ab2 (l.drop (jr l+1));have e1:jr (l.drop (jr l+1))=(l.drop (jr l+1)).length:=by rw[l8];omega
 rw[e1,b0o]at hB;have v1:=amm hA (n:=f) (by rw[l7];omega);have v2:=amm hB (n:=f-jr (l.drop (jr l+1))) om;rw[j9,← b1z]at v1 v2;omega
theorem aq6 {s:ByteArray} (h:s.data.toList≠[]):0<s.size:=by
 rcases b4q s.size with h0|h0
 ·exact absurd (b0f (by simpa using h0)) h
 ·exact h0
theorem aef {s:ByteArray} (h:s.data.toList=[]):s.size=0:=by
 have:s.data.toList.length=0:=by rw[h];rfl
 simpa using this
theorem baf {s:ByteArray} (h0:0<s.size) (h:aix s.data.toList=true):(((s[0]'h0).toNat:Int)==45)=true:=by
 unfold aix at h;have e:s.data.toList.head?=some s[0]:=by rw[List.head?_eq_getElem?,c8 (by simpa using h0)];rfl
 rw[e]at h;have h2:s[0]=45:=by simpa using h
 rw[h2];rfl
theorem a45 {s:ByteArray} (h0:0<s.size) (h:aix s.data.toList=false):(((s[0]'h0).toNat:Int)==45)=false:=by
 unfold aix at h;have e:s.data.toList.head?=some s[0]:=by rw[List.head?_eq_getElem?,c8 (by simpa using h0)];rfl
 rw[e]at h;have h2:s[0]≠45:=by simpa using h
 rw[l6];intro k;exact h2 (b1p.1 (by have e:(45:UInt8).toNat=45:=rfl;omega))
theorem a3f (s:ByteArray) (W M F L H:Int) (w:World) (hs:s.size≤1000000) :
 Calls prog 206 #[.string s,j7 W M F L H] w fun e w'=>e=.returned (.tuple #[jo (jz s.data.toList W M F L H).1 (jz s.data.toList W M F L H).2.1,.int .i64 (jz s.data.toList W M F L H).2.2])∧Below w.1.size w w':=by
 unfold jz;have HR:=fun W'=>hid (a8m W M F L H W')
 by_cases hr:abm W M F L H=false
 ·rw[if_pos hr];rw[hr]at HR;exact bc8 s W M F L H w hs HR
 rw[if_neg hr];have hr':abm W M F L H=true:=by simpa using hr
 rw[hr']at HR;have hb:=b07 hr'
 by_cases h0:s.data.toList=[]
 ·rw[if_pos h0];exact a3g s W M F L H w hs HR (aef h0)
 rw[if_neg h0];have hp:=aq6 h0;obtain⟨m,rfl⟩:=b19 (show 0≤M by omega);obtain⟨f,rfl⟩:=b19 (show 0≤F by omega);rw[b1n,b1n];cases hn:aix s.data.toList with
 | false=>
  have hc:=a45 hp hn;have hbody:afb s.data.toList=s.data.toList:=by unfold afb;rw[hn];rfl
  have HP:=fun W'=>hid (al7 s 1 m f W' hs om om)
  rw[hbody];cases hq:yq s.data.toList 1 m f with
  | none=>
   simp only[hq]at HP;exact ar1 s W m f L H 0 w hs hp hc HR HP
  | some n=>
   simp only[hq]at HP;have hle:=al6 hq om;have HF:=fun W'=>hid (aze true (n:Int) L H W')
   cases hf:aa2 true (n:Int) L H with
   | false=>rw[hf]at HF;simp only[b22,b4z,hf];exact aox s W m f L H n w hs hp hc HR HP om om HF
   | true=>rw[hf]at HF;simp only[b22,b4z,hf,if_true];exact ayf s W m f L H n w hs hp hc HR HP om om HF
 | true=>
  have hc:=baf hp hn;have hbody:afb s.data.toList=(s.extract 1 s.size).data.toList:=by unfold afb;rw[hn,if_pos rfl,Lib.extract_from]
  have HP:=fun W'=>hid (al7 (s.extract 1 s.size) 1 m f W' (by rw[b0u];omega) om om)
  rw[hbody];cases hq:yq (s.extract 1 s.size).data.toList 1 m f with
  | none=>
   simp only[hq]at HP;exact ar0 s W m f L H 0 w hs hp hc HR HP
  | some n=>
   simp only[hq]at HP;have hle:=al6 hq om;have HF:=fun W'=>hid (aze true (-(n:Int)) L H W')
   cases hf:aa2 true (-(n:Int)) L H with
   | false=>rw[hf]at HF;simp only[b22,b4z,hf,if_true];exact aow s W m f L H n w hs hp hc HR HP om om HF
   | true=>rw[hf]at HF;simp only[hf,if_true];exact aye s W m f L H n w hs hp hc HR HP om om HF
theorem apx {v L H:Int} (h:aa2 true v L H=true):L≤v∧v≤H:=by
 unfold aa2 at h;rw[if_pos rfl]at h;exact b07 h
def aae (c:UInt8):Bool:=decide (48≤c.toNat) && decide (c.toNat≤57)
def asa (a b:UInt8):Int:=10*((a.toNat:Int)-48) +((b.toNat:Int)-48)
def ab0:List UInt8→Option (Int×Int×Int)
 | [a,b,c,d,e,f]=>if aae a && aae b && aae c && aae d && aae e && aae f then some (asa a b,asa c d,asa e f)else none
 | _=>none
def aeo:List UInt8→Option Int
 | []=>some 0
 | [p,a]=>if p=46∧aae a=true then some (10*((a.toNat:Int)-48))else none
 | [p,a,b]=>if p=46∧aae a=true∧aae b=true then some (asa a b)else none
 | _=>none
abbrev Clk:=Bool×Int×Int×Int×Int
abbrev Dat:=Bool×Int×Int×Int
def zC:Clk:=(false,0,0,0,0)
def zD:Dat:=(false,0,0,0)
def ans (c:Clk):Bool:=if c.1=true then decide (0≤c.2.1∧c.2.1≤23∧0≤c.2.2.1∧c.2.2.1≤59∧0≤c.2.2.2.1∧c.2.2.2.1≤59∧0≤c.2.2.2.2∧c.2.2.2.2≤99)else decide (c.2.1=0∧c.2.2.1=0∧c.2.2.2.1=0∧c.2.2.2.2=0)
def aah (l:List UInt8):Clk×Int:=
 if l=[]then(zC,0)else match ab0 (l.take 6),aeo (l.drop 6)with
 | some (h,m,s),some c=>if ans (true,h,m,s,c)=true then((true,h,m,s,c),0)else(zC,5)
 | _,_=>(zC,3)
def ak2 (y:Int):Int:=if y%4=0 then 1 else 0
def ady (m y:Int):Int:=if m<1∨12<m∨y<2000∨2099<y then 0 else if m=2 then 28+ak2 y else if m=4∨m=6∨m=9∨m=11 then 30 else 31
def axg (m:Int):Int:=if m=1 then 0 else if m=2 then 31 else if m=3 then 59 else if m=4 then 90 else if m=5 then 120 else if m=6 then 151 else if m=7 then 181 else if m=8 then 212 else if m=9 then 243 else if m=10 then 273 else if m=11 then 304 else if m=12 then 334 else 365
def afx (m y:Int):Int:=axg m+if 2<m then ak2 y else 0
def ar5 (d:Dat):Bool:=if d.1=true then decide (1≤d.2.1∧d.2.1≤ady d.2.2.1 d.2.2.2)else decide (d.2.1=0∧d.2.2.1=0∧d.2.2.2=0)
def ach (l:List UInt8):Dat×Int:=
 if l=[]then(zD,0)else match ab0 l with
 | some (a,b,c)=>if ar5 (true,a,b,2000+c)=true then((true,a,b,2000+c),0)else(zD,5)
 | none=>(zD,3)
theorem a3m {m y:Int} (h1:1≤m) (h2:m≤12) (h3:2000≤y) (h4:y≤2099):afx (m+1) y=afx m y+ady m y:=by
 unfold afx ady axg;rw[if_neg om];rcases(by omega:m=1∨m=2∨m=3∨m=4∨m=5∨m=6∨m=7∨m=8∨m=9∨m=10∨m=11∨m=12)with rfl|rfl|rfl|rfl|rfl|rfl|rfl|rfl|rfl|rfl|rfl|rfl<;>simp<;>omega
theorem avv (y:Int):ak2 y=0∨ak2 y=1:=by unfold ak2;split<;>simp
theorem bht (m y:Int):0≤ady m y∧ady m y≤31:=by
 have:=avv y;unfold ady
 split
 ·omega
 ·split
  ·omega
  ·split<;>omega
theorem b_f {a b:UInt8} (ha:aae a=true) (hb:aae b=true):0≤asa a b∧asa a b≤99:=by
 unfold aae at ha hb;simp only[b0d,b1b]at ha hb;unfold asa;omega
