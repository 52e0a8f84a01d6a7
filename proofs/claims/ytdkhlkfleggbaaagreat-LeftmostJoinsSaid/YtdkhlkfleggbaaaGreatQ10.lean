/- Parts. -/
import Derived.Test.YtdkhlkfleggbaaaGreatQ00
import Derived.Lib.TrimByte
import Derived.Deep.RegionHeld3
namespace Go.Proofs.YtdkhlkfleggbaaaGreat
set_option maxHeartbeats 2000000
set_option maxRecDepth 8000
open Lib (hid)
open Tryz
set_option linter.unusedVariables false
open Go.RowKit
abbrev jo (b:Bool) (n:Int):Value:=.agg #[.bool b,.int .i64 n]
def aaz (b:Bool) (n lo hi:Int):Bool:=if b then decide (lo≤n∧n≤hi)else decide (n=0)
theorem ayv (b:Bool) (n lo hi:Int) (w:World):Calls prog 224 #[jo b n,.int .i64 lo,.int .i64 hi] w fun e w'=>e=.returned (.bool (aaz b n lo hi))∧Below w.1.size w w':=by
 cases b with
 | false=>
  by_cases h:n=0
  ·subst h;have e:aaz false 0 lo hi=true:=by unfold aaz;simp
   rw[e];clear e;go_enter func224,ntmps224;go_wp2;go_ret;exact⟨rfl,qa _ _⟩
  ·have e:aaz false n lo hi=false:=by unfold aaz;simp[h]
   rw[e];clear e;go_enter func224,ntmps224;go_wp2;go_ret;exact⟨rfl,qa _ _⟩
 | true=>
  by_cases h:lo≤n
  ·have e:aaz true n lo hi=decide (n≤hi):=by unfold aaz;rw[if_pos rfl];simp[h]
   rw[e];clear e;go_enter func224,ntmps224;go_wp2;go_ret;exact⟨rfl,qa _ _⟩
  ·have e:aaz true n lo hi=false:=by unfold aaz;rw[if_pos rfl];simp[h]
   rw[e];clear e;go_enter func224,ntmps224;go_wp2;go_ret;exact⟨rfl,qa _ _⟩
def af7:Nat→Nat→Nat→List UInt8
 | 0,_,_=>[]
 | f+1,n,l=>if 0<n∨0<l then af7 f (n / 10) (l-1)++[UInt8.ofNat (48+n%10)]else []
def af8 (n l:Nat):List UInt8:=af7 20 n l
theorem asy (f:Nat):af7 f 0 0=[]:=by cases f<;>simp[af7]
theorem alj (f n l:Nat) (h:0<n∨0<l):af7 (f+1) n l=af7 f (n / 10) (l-1)++[UInt8.ofNat (48+n%10)]:=by rw[af7,if_pos h]
def toB (l:List UInt8):ByteArray:=⟨l.toArray⟩
theorem a11 (l:List UInt8):(toB l).data.toList=l:=by simp[toB]
theorem bfd (l:List UInt8):(toB l).size=l.length:=by show l.toArray.size=_;simp
theorem bfs (l:List UInt8) (c:UInt8):Lib.trimRightB (l++[c]) c=Lib.trimRightB l c:=by simp[Lib.trimRightB]
theorem bft (l:List UInt8) (x c:UInt8) (h:x≠c):Lib.trimRightB (l++[x]) c=l++[x]:=by simp[Lib.trimRightB,h]
theorem a6b (s:ByteArray):s.toList.length=s.size:=by rw[ByteArray.toList_eq];simp
theorem q9 {s:ByteArray} (h:0<s.size):s.toList.isEmpty=false ∧(s.toList==[])=false:=by
 have hl:=a6b s;cases hs:s.toList with
 | nil=>rw[hs]at hl;simp at hl;omega
 | cons a l=>exact⟨rfl,rfl⟩
theorem ayn (f:Nat):∀n l,n<10^f→l≤f→af7 (f+1) n l=af7 f n l:=by
 induction f with
 | zero=>
  intro n l h1 h2;have:n<1:=h1;rw[show n=0 from by omega,show l=0 from by omega];rfl
 | succ f ih=>
  intro n l h1 h2
  by_cases h:0<n∨0<l
  ·rw[alj (f+1) n l h,alj f n l h,ih (n / 10) (l-1) (by rw[Nat.pow_succ]at h1;omega) om]
  ·rw[show n=0 from by omega,show l=0 from by omega,asy,asy]
theorem asz (n l:Nat) (hn:n≤1000000000000000000) (hl:l≤18) (h:0<n∨0<l):af8 n l=af8 (n / 10) (l-1)++[UInt8.ofNat (48+n%10)]:=by
 unfold af8
 rw [alj 19 n l h, ← ayn 19 (n / 10) (l - 1) (by have:(10:Nat)^19=10000000000000000000:=by decide
                                                 omega) om]
theorem az1 (m:Nat) (h:m<10):UInt8.ofNat (48+m)=48↔m=0:=by
 constructor
 ·intro k;have:=congrArg UInt8.toNat k;simp at this;omega
 ·rintro rfl;rfl
def aq3 (r f:Nat):List UInt8:=if r=0 then []else Lib.trimRightB (46::af8 r f) 48
theorem bbn (r f:Nat) (hr:0<r) (h:r%10=0) (hm:r≤1000000000000000000) (hf:f≤18):Lib.trimRightB (46::af8 r f) 48=Lib.trimRightB (46::af8 (r / 10) (f-1)) 48:=by
 rw[asz r f hm hf (.inl hr),(az1 (r%10) om).2 h,← List.cons_append,bfs]
theorem bbo (r f:Nat) (hr:0<r) (h:r%10≠0) (hm:r≤1000000000000000000) (hf:f≤18):Lib.trimRightB (46::af8 r f) 48=46::af8 r f:=by
 rw[asz r f hm hf (.inl hr),← List.cons_append,bft _ _ _ (fun k=>h ((az1 (r%10) om).1 k))]
def ajj (n whole f:Nat):List UInt8:=af8 (n / 10^f) whole++aq3 (n%10^f) f
def avs (b:Bool) (n W M F L H:Int):ByteArray×Int:=
 if abi W M F L H=false then(ByteArray.empty,1)
 else if aaz b n L H=false then(ByteArray.empty,5)
 else if b=false then(ByteArray.empty,0)
 else if n<0 then(toB (45::ajj (-n).toNat W.toNat F.toNat),0)else(toB (ajj n.toNat W.toNat F.toNat),0)
def isD (c:UInt8):Bool:=decide (48≤c.toNat∧c.toNat≤57)
def js (l:List UInt8):Nat:=(l.takeWhile isD).length
theorem bgt:∀(l:List UInt8) (k:Nat),(∀j (h:j<l.length),j<k→isD l[j]=true)→k≤l.length →(∀h:k<l.length,isD l[k]=false)→js l=k:=by
 intro l
 induction l with
 | nil=>intro k _ h _;simp at h;subst h;rfl
 | cons c l ih=>
  intro k h1 h2 h3;cases k with
  | zero=>
   have:=h3 sm;unfold js;rw[List.takeWhile_cons,if_neg (by simpa using this)];rfl
  | succ k=>
   have hc:=h1 0 sm om;unfold js;rw[List.takeWhile_cons,if_pos (by simpa using hc),List.length_cons];have:=ih k (fun j hj hk=>h1 (j+1) (by simpa using hj) om) (by simpa using h2) (fun hk=>h3 (by simpa using hk));unfold js at this;rw[this]
def yu (l:List UInt8):Nat:=l.foldl (fun n c=>10*n +(c.toNat-48)) 0
theorem aie (l:List UInt8) (c:UInt8):yu (l++[c])=10*yu l +(c.toNat-48):=by simp[yu]
theorem aid (l:List UInt8) (h:∀c∈l,isD c=true):yu l<10^l.length:=by
 have key:∀r:List UInt8,(∀c∈r,isD c=true)→yu r.reverse<10^r.length:=by
  intro r
  induction r with
  | nil=>intro _;decide
  | cons c r ih=>
   intro hr;have h1:=ih (fun x hx=>hr x (by simp[hx]));have h2:=of_decide_eq_true (hr c sm);rw[List.reverse_cons,aie,List.length_cons,Nat.pow_succ];omega
 have:=key l.reverse (fun c hc=>h c (by simpa using hc));rw[List.reverse_reverse,List.length_reverse]at this;exact this
def yo (l:List UInt8) (least most frac:Nat):Option Nat:=
 if js l<least∨most<js l then none
 else if js l=l.length then some (yu l*10^frac)
 else if l[js l]?≠some 46∨js (l.drop (js l+1))<1∨frac<js (l.drop (js l+1))∨js l+1+js (l.drop (js l+1))≠l.length then none
 else some (yu (l.take (js l))*10^frac+yu (l.drop (js l+1))*10^(frac-js (l.drop (js l+1))))
theorem anx (l:List UInt8):js l≤l.length:=by
 unfold js;exact(List.takeWhile_prefix isD).length_le
theorem bbz:∀l:List UInt8,∀c∈l.takeWhile isD,isD c=true:=by
 intro l
 induction l with
 | nil=>intro c h;simp at h
 | cons x l ih=>
  intro c h;rw[List.takeWhile_cons]at h
  split at h
  ·rename_i hx;rcases List.mem_cons.1 h with rfl|h
   ·exact hx
   ·exact ih c h
  ·simp at h
theorem abx (l:List UInt8):∀c∈l.take (js l),isD c=true:=by
 intro c hc
 have:l.take (js l)=l.takeWhile isD:=by
  unfold js;exact(List.prefix_iff_eq_take.1 (List.takeWhile_prefix isD)).symm
 rw[this]at hc;exact bbz l c hc
theorem j9 (k:Nat):kq k=((10^k:Nat):Int):=rfl
theorem amc {l:List UInt8} {n:Nat} (h:∀c∈l,isD c=true) (hn:l.length+n≤18):(yu l:Int)*kq n≤1000000000000000000∧0 ≤(yu l:Int)*kq n:=by
 have h1:=aid l h;have h2:yu l*10^n<10^l.length*10^n:=Nat.mul_lt_mul_of_pos_right h1 (Nat.pow_pos dc);rw[← Nat.pow_add]at h2;have h3:(10:Nat)^(l.length+n)≤10^18:=Nat.pow_le_pow_right dc hn;have e:(10:Nat)^18=1000000000000000000:=by decide
 rw[j9,← Int.natCast_mul];omega
def ag0 (W:World) (gs gn ga:Nat) (s:ByteArray) (nv:Int) (a:Nat):Prop:=
 W.cell? ⟨gs,0,none⟩=some (.string s)∧W.cell? ⟨gn,0,none⟩=some (.int .i64 nv)∧W.cell? ⟨ga,0,none⟩=some (.int .i64 (a:Int))∧W.frozen? ⟨gn,0,none⟩=false∧W.frozen? ⟨ga,0,none⟩=false
def ju (s:ByteArray) (a:Nat) (nv:Int) (k:Nat):Int:=nv*kq k +(yu ((s.data.toList.drop a).take k):Int)
theorem bbd (s:ByteArray) (a:Nat) (nv:Int):ju s a nv 0=nv:=by
 unfold ju;rw[bbi,List.take_zero];show nv*1+0=nv;omega
theorem bbc (s:ByteArray) (a:Nat) (nv:Int) (k:Nat) (h:a+k<s.size) (hd:isD s[a+k]=true):ju s a nv (k+1)=10*ju s a nv k +((s[a+k].toNat:Int)-48):=by
 unfold ju
 have hl : k < (s.data.toList.drop a).length := by rw[List.length_drop];have:s.data.toList.length=s.size:=by simp
                                                   omega
 have he:(s.data.toList.drop a)[k]=s[a+k]:=by rw[List.getElem_drop];rfl
 have h2:=of_decide_eq_true hd;rw[List.take_succ_eq_append_getElem hl,aie,he,at0,← Int.mul_assoc];omega
def axs (s:ByteArray) (a most:Nat) (nv:Int) (gs gn ga B:Nat) (W:World) (e:Ending) (w':World):Prop:=
 ∃(K:Nat) (nv2:Int),K=min (js (s.data.toList.drop a)) (most+1)∧e=.returned (.int .i64 (K:Int))∧ag0 w' gs gn ga s nv2 (a+K)∧Below B W w'∧w'.1.size=W.1.size ∧(K≤most→nv2=ju s a nv K)
def a6z (s:ByteArray) (a most:Nat) (nv:Int) (gs gn ga B:Nat) (W:World) (v:Value) (wr:World):Prop:=
 ∃(k:Nat) (nv2:Int),v=.int .i64 (k:Int)∧k≤most+1∧a+k≤s.size∧Hid (∀j,j<k→∃h:a+j<s.size,isD s[a+j]=true)∧Hid (ag0 wr gs gn ga s nv2 (a+k))∧Hid (Below B W wr)∧Hid (wr.1.size=W.1.size)∧Hid (k≤most→nv2=ju s a nv k)
theorem a4g {s:ByteArray} {a most:Nat} {nv:Int} {gs gn ga B:Nat} {W wr:World} {k:Nat} {nv2:Int}
 (hm:most≤12) (hd1:gs≠gn) (hd2:gs≠ga) (hd3:gn≠ga) (hB1:B≤gn) (hB2:B≤ga)
 (HB:∀k,k≤most→0≤ju s a nv k∧ju s a nv k≤9000000000000000000)
 (hkm:k≤most) (hlt:a+k<s.size) (hd:isD s[a+k]=true) (hall:∀j,j<k→∃h:a+j<s.size,isD s[a+j]=true)
 (hst:ag0 wr gs gn ga s nv2 (a+k)) (hb:Below B W wr) (hz:wr.1.size=W.1.size) (hex:k≤most→nv2=ju s a nv k) :
 a6z s a most nv gs gn ga B W (.int .i64 ((k:Int)+1)) ((wr.setCell ⟨gn,0,none⟩ (.int .i64 (wrap64 (wrap64 (10*nv2) +(((s[a+k]'hlt).toNat:Int)-48))))).setCell ⟨ga,0,none⟩ (.int .i64 (((a+k:Nat):Int)+1))).drew:=by
 obtain⟨c1,c2,c3,z1,z2⟩:=hst;refine⟨k+1,wrap64 (wrap64 (10*nv2) +(((s[a+k]'hlt).toNat:Int)-48)),by rw[Int.natCast_add];rfl,by omega,by omega,hid ?_,hid ⟨?_,?_,?_,?_,?_⟩,hid ?_,hid ?_,hid ?_⟩
 ·intro j hj;rcases Nat.lt_or_ge j k with h|h
  ·exact hall j h
  ·obtain rfl:j=k:=by omega
   exact⟨hlt,hd⟩
 ·show ((wr.setCell _ _).setCell _ _).cell? _=_;rw[World.cell?_setCell_other _ _ _ _ (fun e=>by injection e with e;exact hd2 e.symm),World.cell?_setCell_other _ _ _ _ (fun e=>by injection e with e;exact hd1 e.symm)];exact c1
 ·show ((wr.setCell _ _).setCell _ _).cell? _=_;rw[World.cell?_setCell_other _ _ _ _ (fun e=>by injection e with e;exact hd3 e.symm),World.cell?_setCell_same _ _ _ c2]
 ·show ((wr.setCell _ _).setCell _ _).cell? _=_;have h0:(wr.setCell ⟨gn,0,none⟩ (.int .i64 (wrap64 (wrap64 (10*nv2) +(((s[a+k]'hlt).toNat:Int)-48))))).cell? ⟨ga,0,none⟩=_:=(World.cell?_setCell_other _ _ _ _ (fun e=>by injection e with e;exact hd3 e)).trans c3;rw[World.cell?_setCell_same _ _ _ h0];rw[show ((a +(k+1):Nat):Int)=((a+k:Nat):Int)+1 from by omega]
 ·show ((wr.setCell _ _).setCell _ _).frozen? _=_
  simpa using z1
 ·show ((wr.setCell _ _).setCell _ _).frozen? _=_
  simpa using z2
 ·exact ab7 ((hb.setCell hB1 _).setCell hB2 _)
 ·show ((wr.setCell _ _).setCell _ _).1.size=_
  simpa using hz
 ·intro hk1;have e1:=hex om;have b1:=HB k om;have b2:=HB (k+1) hk1;have e2:=bbc s a nv k hlt hd;have e3:=of_decide_eq_true hd;subst e1;rw[e2]at b2 ⊢;have q1:wrap64 (10*ju s a nv k)=10*ju s a nv k:=IntWalk.wrap64_in _ om;rw[q1,IntWalk.wrap64_in _ om]
theorem bgs:∀(l:List UInt8) (k:Nat),(∀j (h:j<l.length),j<k→isD l[j]=true)→k≤l.length→k≤js l:=by
 intro l
 induction l with
 | nil=>intro k _ h;exact Nat.le_trans h (Nat.zero_le _)
 | cons c l ih=>
  intro k h1 h2;cases k with
  | zero=>exact Nat.zero_le _
  | succ k=>
   have h0:isD c=true:=h1 0 sm om;have h3:=ih k (fun j hj hk=>h1 (j+1) (by simpa using hj) om) (by simpa using h2);unfold js at h3 ⊢;rw[List.takeWhile_cons_of_pos h0,List.length_cons];omega
theorem apz {s:ByteArray} {a most:Nat} {nv:Int} {gs gn ga B:Nat} {W wr:World} {k:Nat} {nv2:Int}
 (hak:a+k≤s.size) (hstop:k=most+1∨¬a+k<s.size∨∃h:a+k<s.size,isD s[a+k]=false) (hk:k≤most+1) (hall:∀j,j<k→∃h:a+j<s.size,isD s[a+j]=true)
 (hst:ag0 wr gs gn ga s nv2 (a+k)) (hb:Below B W wr) (hz:wr.1.size=W.1.size) (hex:k≤most→nv2=ju s a nv k) :
 axs s a most nv gs gn ga B W (.returned (.int .i64 (k:Int))) wr:=by
 refine⟨k,nv2,?_,rfl,hst,hb,hz,hex⟩;have hsz:s.data.toList.length=s.size:=by simp
 have hlen:(s.data.toList.drop a).length=s.size-a:=by rw[List.length_drop,hsz]
 have hg:∀j (h:j<(s.data.toList.drop a).length) (h2:a+j<s.size),(s.data.toList.drop a)[j]=s[a+j]:=fun j h h2=>by rw[List.getElem_drop];rfl
 have hle:k≤js (s.data.toList.drop a):=bgs _ _ (fun j hj hk=>by
  obtain⟨h,e⟩:=hall j hk;rw[hg j hj h];exact e) om
 rcases hstop with h|h|⟨h,e⟩
 ·omega
 ·have:=anx (s.data.toList.drop a);omega
 ·have:js (s.data.toList.drop a)=k:=bgt _ k (fun j hj hk=>by
   obtain⟨h,e⟩:=hall j hk;rw[hg j hj h];exact e) om (fun h'=>by rw[hg k h' h];exact e)
  omega
theorem ad5 (s:ByteArray) (a most:Nat) (nv:Int) (gs gn ga B:Nat) (W:World) (hs:s.size≤1000000) (ha:a≤s.size) (hm:most≤12)
 (hst:ag0 W gs gn ga s nv a) (hd1:gs≠gn) (hd2:gs≠ga) (hd3:gn≠ga) (hB1:B≤gn) (hB2:B≤ga)
 (HB:Hid (∀k,k≤most→0≤ju s a nv k∧ju s a nv k≤9000000000000000000)) :
 Calls prog 233 #[.int .i64 (most:Int),.pointer (some ⟨ga,0,none⟩),.pointer (some ⟨gs,0,none⟩),.pointer (some ⟨gn,0,none⟩)] W (axs s a most nv gs gn ga B W):=by
 have HST:=hid hst;clear hst;go_enter func233,ntmps233;go_wp2
 go_loopw [6] (fun v wr=>a6z s a most nv gs gn ga B W v wr) (fun v _=>most+1-(intOf v).toNat)
 case atStart=>exact⟨0,nv,rfl,Nat.zero_le _,ha,fun j h=>absurd h (Nat.not_lt_zero _),HST,hid (Below.refl _ _),rfl,fun _=>(bbd s a nv).symm⟩
 case round=>
  obtain⟨k,nv2,rfl,hk,hak,hall,hst,hb,hz,hex⟩:=hrel;obtain⟨c1,c2,c3,z1,z2⟩:=hst.out
  by_cases hlt:a+k<s.size
  ·have i1:((a+k:Nat):Int)<(s.size:Int):=by omega
   have i2:(0:Int) ≤((a+k:Nat):Int):=Int.natCast_nonneg _;have i3:((a+k:Nat):Int).toNat=a+k:=by omega
   by_cases hd:isD s[a+k]=true
   ·have hdd:=of_decide_eq_true hd;have h48:(48:Int) ≤((s[a+k]'hlt).toNat:Int):=by omega
    have h57:((s[a+k]'hlt).toNat:Int)≤57:=by omega
    by_cases hkm:k≤most
    ·have HN:=hid (a4g hm hd1 hd2 hd3 hB1 hB2 HB.out hkm hlt hd hall.out hst.out hb.out hz.out hex.out);clear hall hst hb hz hex;generalize hA:a+k=A at *;go_wp2
     go_region_with (fail)
     all_goals go_wp2
     all_goals go_roundw
     all_goals first|exact HN.out|(show most+1-((k:Int)+1).toNat<most+1-(k:Int).toNat;omega)
    ·have HO:=hid (apz hak (.inl om) hk hall.out hst.out hb.out hz.out hex.out);have hkm2:(most:Int)<(k:Int):=by omega
     clear hall hst hb hz hex hkm;generalize hA:a+k=A at *;go_wp2;go_ret;exact HO.out
   ·have HO:=hid (apz hak (.inr (.inr ⟨hlt,by simpa using hd⟩)) hk hall.out hst.out hb.out hz.out hex.out);have hdd:¬(48 ≤(s[a+k]'hlt).toNat ∧(s[a+k]'hlt).toNat≤57):=fun h=>hd (decide_eq_true h)
    clear hall hst hb hz hex hd
    by_cases h1:48 ≤(s[a+k]'hlt).toNat
    ·have h48:(48:Int) ≤((s[a+k]'hlt).toNat:Int):=by omega
     have h57:(57:Int)<((s[a+k]'hlt).toNat:Int):=by omega
     generalize hA:a+k=A at *;go_wp2;go_ret;exact HO.out
    ·have h48:((s[a+k]'hlt).toNat:Int)<(48:Int):=by omega
     generalize hA:a+k=A at *;go_wp2;go_ret;exact HO.out
  ·have HO:=hid (apz hak (.inr (.inl hlt)) hk hall.out hst.out hb.out hz.out hex.out);have i1:(s.size:Int) ≤((a+k:Nat):Int):=by omega
   clear hall hst hb hz hex;generalize hA:a+k=A at *;go_wp2;go_ret;exact HO.out
theorem bfw (l:List UInt8):yu l+29≤29*10^l.length:=by
 have key:∀r:List UInt8,yu r.reverse+29≤29*10^r.length:=by
  intro r
  induction r with
  | nil=>decide
  | cons c r ih=>
   have h2:=c.toNat_lt;rw[List.reverse_cons,aie,List.length_cons,Nat.pow_succ];omega
 have:=key l.reverse;rw[List.reverse_reverse,List.length_reverse]at this;exact this
theorem abt (s:ByteArray) (a:Nat) (nv:Int) (most n:Nat) (h0:0≤nv) (h1:nv<kq n) (h2:n+most≤18) (h3:most≤12):∀k,k≤most→0≤ju s a nv k∧ju s a nv k≤9000000000000000000:=by
 intro k hk;unfold ju;have e1:=ahn k;have e2:nv*kq k≤kq n*kq k:=Int.mul_le_mul_of_nonneg_right om om
 have e3:kq n*kq k≤1000000000000000000:=by
  rw[j9,j9,← Int.natCast_mul,← Nat.pow_add];have:(10:Nat)^(n+k)≤10^18:=Nat.pow_le_pow_right dc om;have e:(10:Nat)^18=1000000000000000000:=by decide
  omega
 have e4:0≤nv*kq k:=Int.mul_nonneg h0 om;have e5:=bfw ((s.data.toList.drop a).take k);have e6:(10:Nat)^((s.data.toList.drop a).take k).length≤10^12:=Nat.pow_le_pow_right dc (by rw[List.length_take];omega);have e:(10:Nat)^12=1000000000000:=by decide
 omega
theorem a0a {P:Program} {f:FuncId} {args:Array Value} {w:World} {n:Nat} {v:Value}
 (h:Calls P f args (w.drewN n) fun e w'=>e=.returned v∧w.drewN n=w'):Calls P f args (w.drewN n) fun e w''=>e=.returned v∧∃m,w''=w.drewN m:=
 h.mono fun _ _ ⟨he,hm⟩=>⟨he,n,hm.symm⟩
theorem qj (w:World) (n o:Nat) (h:w.1.size≤n):w.frozen? ⟨n,o,none⟩=false:=by
 unfold World.frozen?;rw[Array.getElem?_eq_none h]
theorem ad6 (s:ByteArray) (w:World):ag0 (((w.alloc (.cells #[.string s] 9)).alloc (.cells #[.int .i64 0] 2)).alloc (.cells #[.int .i64 0] 3)) w.1.size (w.1.size+1) (w.1.size+1+1) s 0 0:=by
 have n1:(w.alloc (.cells #[.string s] 9)).1.size=w.1.size+1:=by simp
 have n2:((w.alloc (.cells #[.string s] 9)).alloc (.cells #[.int .i64 0] 2)).1.size=w.1.size+1+1:=by simp
 refine⟨?_,?_,?_,?_,?_⟩
 ·rw[World.cell?_alloc_past _ _ _ om,World.cell?_alloc_past _ _ _ om,World.cell?_alloc_at _ _ _ _ rfl];rfl
 ·rw[World.cell?_alloc_past _ _ _ om,World.cell?_alloc_at _ _ _ _ n1.symm];rfl
 ·rw[World.cell?_alloc_at _ _ _ _ n2.symm];rfl
 ·rw[frozen?_alloc_cells,frozen?_alloc_cells,frozen?_alloc_cells];exact qj _ _ _ om
 ·rw[frozen?_alloc_cells,frozen?_alloc_cells,frozen?_alloc_cells];exact qj _ _ _ om
theorem a4s (s:ByteArray) (l m f:Nat) (w:World) (hs:s.size≤1000000) (hm:m≤12) (hf:f≤6) (g:js s.data.toList<l∨m<js s.data.toList) :
 Calls prog 223 #[.string s,.int .i64 (l:Int),.int .i64 (m:Int),.int .i64 (f:Int)] w fun e w'=>e=.returned (.tuple #[.int .i64 0,.bool false])∧Below w.1.size w w':=by
 have HB:Hid (∀k,k≤m→0≤ju s 0 0 k∧ju s 0 0 k≤9000000000000000000):=abt s 0 0 m 0 dc dc om hm;have HX:=fun W gs gn ga B h1 h2 h3 h4 h5 h6=>ad5 s 0 m 0 gs gn ga B W hs (Nat.zero_le _) hm h1 h2 h3 h4 h5 h6 HB
 go_enter func223,ntmps223;go_wp2_with fail;refine(HX _ w.1.size (w.1.size+1) (w.1.size+1+1) w.1.size (ad6 s w) om om om om om).mono ?_;rintro e w1 ⟨K,nv2,hK,rfl,hst,hb,hz,hex⟩;have b1:=hid (((((Below.refl w.1.size w).alloc (Nat.le_refl _) _).alloc sm _).alloc (by simp;omega) _).trans hb);rw[List.drop_zero]at hK;clear hst hb hz hex HX HB
 by_cases h:(K:Int)<(l:Int)
 ·go_wp2_with fail
  go_ret2
  exact⟨rfl,b1.out⟩
 ·have h2:(m:Int)<(K:Int):=by omega
  have h1:(l:Int) ≤(K:Int):=by omega
  clear hK g h;go_wp2_with fail
  go_ret2
  exact⟨rfl,b1.out⟩
theorem a9z (s:ByteArray) (l m f:Nat) (w:World) (hs:s.size≤1000000) (hm:m≤12) (hf:f≤6) (g:¬(js s.data.toList<l∨m<js s.data.toList)) (g2:js s.data.toList=s.data.toList.length) :
 Calls prog 223 #[.string s,.int .i64 (l:Int),.int .i64 (m:Int),.int .i64 (f:Int)] w fun e w'=>e=.returned (.tuple #[.int .i64 ((yu s.data.toList:Int)*kq f),.bool true])∧Below w.1.size w w':=by
 have HB:Hid (∀k,k≤m→0≤ju s 0 0 k∧ju s 0 0 k≤9000000000000000000):=abt s 0 0 m 0 dc dc om hm;have HX:=fun W gs gn ga B h1 h2 h3 h4 h5 h6=>ad5 s 0 m 0 gs gn ga B W hs (Nat.zero_le _) hm h1 h2 h3 h4 h5 h6 HB
 have hA:=abx s.data.toList;rw[g2,List.take_length]at hA;have hz:s.data.toList.length=s.size:=by simp
 have HT:=fun W=>hid (aw3 f W om)
 have hv:=amc hA (n:=f) om;have hv0:(0:Int) ≤(yu s.data.toList:Int):=by omega
 have hv1:(yu s.data.toList:Int)<kq 12:=by
  have h1:=aid s.data.toList hA;have h2:(10:Nat)^s.data.toList.length≤10^12:=Nat.pow_le_pow_right dc om;rw[j9];omega
 rw[show kq 12=1000000000000 from by decide]at hv1
 have hsum:ju s 0 0 s.size=(yu s.data.toList:Int):=by
  unfold ju;rw[List.drop_zero,← hz,List.take_length];omega
 obtain⟨V,hVe⟩:∃V,(yu s.data.toList:Int)=V:=⟨_,rfl⟩;have t1:=ahn f;obtain⟨T,hTe⟩:∃T,kq f=T:=⟨_,rfl⟩;rw[hVe]at hv0 hv1 hsum;rw[hVe,hTe]at hv;rw[hTe]at t1;simp only[hTe]at HT;rw[hVe,hTe];clear hVe hTe;go_enter func223,ntmps223;go_wp2_with fail;refine(HX _ w.1.size (w.1.size+1) (w.1.size+1+1) w.1.size (ad6 s w) om om om om om).mono ?_;rintro e w1 ⟨K,nv2,hK,rfl,hst,hb,hz1,hex⟩;have b1:=hid (((((Below.refl w.1.size w).alloc (Nat.le_refl _) _).alloc sm _).alloc (by simp;omega) _).trans hb);rw[List.drop_zero]at hK;obtain rfl:K=s.size:=by omega
 obtain rfl:V=nv2:=by rw[hex om,hsum]
 obtain⟨c1,c2,c3,-,-⟩:=hst;have h1:(l:Int) ≤(s.size:Int):=by omega
 have h2:(s.size:Int) ≤(m:Int):=by omega
 rw[Nat.zero_add]at c3;clear hK hex hsum HX HB hA g g2 hz hb hz1;have hw:IntKind.i64.wrap (V*T)=V*T:=IntWalk.i64_in _ om;have hw2:wrap64 (V*T)=V*T:=IntWalk.wrap64_in _ om;have hf0:(0:Int) ≤(f:Int):=by omega
 have hf6:(f:Int)≤6:=by omega
 have hw3:IntKind.i64.wrap ((f:Int)-0)=(f:Int):=by rw[IntWalk.i64_in _ om];omega
 have hw4:IntKind.i64.wrap (f:Int)=(f:Int):=by rw[IntWalk.i64_in _ om]
 go_wp2_with fail
 go_quiet ((go_at_call 232;exact a0a (HT _).out))
 go_wp2_with fail
 go_ret2
 exact⟨rfl,aab b1.out _⟩
theorem az4 (s:ByteArray) (a l m f:Nat) (w:World) (hs:s.size≤1000000) (hm:m≤12) (hf:f≤6) (ha:js s.data.toList=a) (h1:(l:Int) ≤(a:Int)) (h2:(a:Int) ≤(m:Int)) (hlt:a<s.size) (hc:(((s[a]'hlt).toNat:Int) != 46)=true) :
 Calls prog 223 #[.string s,.int .i64 (l:Int),.int .i64 (m:Int),.int .i64 (f:Int)] w fun e w'=>e=.returned (.tuple #[.int .i64 0,.bool false])∧Below w.1.size w w':=by
 have HB:Hid (∀k,k≤m→0≤ju s 0 0 k∧ju s 0 0 k≤9000000000000000000):=abt s 0 0 m 0 dc dc om hm;have HX:=fun W gs gn ga B h1 h2 h3 h4 h5 h6=>ad5 s 0 m 0 gs gn ga B W hs (Nat.zero_le _) hm h1 h2 h3 h4 h5 h6 HB
 go_enter func223,ntmps223;go_wp2_with fail;refine(HX _ w.1.size (w.1.size+1) (w.1.size+1+1) w.1.size (ad6 s w) om om om om om).mono ?_;rintro e w1 ⟨K,nv2,hK,rfl,hst,hb,hz1,hex⟩;have b1:=hid (((((Below.refl w.1.size w).alloc (Nat.le_refl _) _).alloc sm _).alloc (by simp;omega) _).trans hb);rw[List.drop_zero,ha]at hK;obtain rfl:K=a:=by omega
 obtain⟨c1,c2,c3,-,-⟩:=hst;rw[Nat.zero_add]at c3;have i1:(K:Int)<(s.size:Int):=by omega
 have i2:(0:Int) ≤(K:Int):=Int.natCast_nonneg _;have i3:(K:Int).toNat=K:=by omega
 clear hK hex HX HB ha hb hz1;go_wp2_with fail
 go_ret2
 exact⟨rfl,b1.out⟩
theorem apy {s:ByteArray} {gs gn ga:Nat} {w1:World} {nv:Int} {a:Nat} (h:ag0 w1 gs gn ga s nv a) (hd2:gs≠ga) (hd3:gn≠ga):ag0 (w1.setCell ⟨ga,0,none⟩ (.int .i64 ((a:Int)+1))) gs gn ga s nv (a+1):=by
 obtain⟨c1,c2,c3,z1,z2⟩:=h;refine⟨?_,?_,?_,?_,?_⟩
 ·rw[World.cell?_setCell_other _ _ _ _ (fun e=>by injection e with e;exact hd2 e.symm)];exact c1
 ·rw[World.cell?_setCell_other _ _ _ _ (fun e=>by injection e with e;exact hd3 e.symm)];exact c2
 ·rw[World.cell?_setCell_same _ _ _ c3];rw[show ((a+1:Nat):Int)=(a:Int)+1 from by omega]
 ·simpa using z1
 ·simpa using z2
theorem avn (s:ByteArray) (a b l m f:Nat) (w:World) (hs:s.size≤1000000) (hm:m≤12) (hf:f≤6) (ha:js s.data.toList=a) (h1:(l:Int) ≤(a:Int)) (h2:(a:Int) ≤(m:Int)) (hlt:a<s.size) (hc:(((s[a]'hlt).toNat:Int) != 46)=false) (hbe:js (s.data.toList.drop (a+1))=b)
 (g:b<1∨f<b∨a+1+b≠s.size) :
 Calls prog 223 #[.string s,.int .i64 (l:Int),.int .i64 (m:Int),.int .i64 (f:Int)] w fun e w'=>e=.returned (.tuple #[.int .i64 0,.bool false])∧Below w.1.size w w':=by
 have HB:Hid (∀k,k≤m→0≤ju s 0 0 k∧ju s 0 0 k≤9000000000000000000):=abt s 0 0 m 0 dc dc om hm;have HX:=fun W gs gn ga B h1 h2 h3 h4 h5 h6=>ad5 s 0 m 0 gs gn ga B W hs (Nat.zero_le _) hm h1 h2 h3 h4 h5 h6 HB
 have hA:=abx s.data.toList;rw[ha]at hA
 have hV:ju s 0 0 a=(yu (s.data.toList.take a):Int):=by
  unfold ju;rw[List.drop_zero];omega
 have hV0:0≤ju s 0 0 a:=by rw[hV];omega
 have hV1:ju s 0 0 a<kq 12:=by
  have e1:=aid _ hA;have e2:(10:Nat)^(s.data.toList.take a).length≤10^12:=Nat.pow_le_pow_right dc (by rw[List.length_take];omega);rw[hV,j9];omega
 have HB2:Hid (∀k,k≤f→0≤ju s (a+1) (ju s 0 0 a) k∧ju s (a+1) (ju s 0 0 a) k≤9000000000000000000):=abt s (a+1) _ f 12 hV0 hV1 om om;have hblen:=anx (s.data.toList.drop (a+1));rw[hbe,List.length_drop,show s.data.toList.length=s.size from by simp]at hblen;obtain⟨V,hVe⟩:∃V,ju s 0 0 a=V:=⟨_,rfl⟩;rw[hVe]at HB2;have HVE:=hid hVe;clear hV hV0 hV1 hA hVe;have HX2:=fun W gs gn ga B h1 h2 h3 h4 h5 h6=>ad5 s (a+1) f V gs gn ga B W hs om om h1 h2 h3 h4 h5 h6 HB2
 go_enter func223,ntmps223;go_wp2_with fail;refine(HX _ w.1.size (w.1.size+1) (w.1.size+1+1) w.1.size (ad6 s w) om om om om om).mono ?_;rintro e w1 ⟨K,nv2,hK,rfl,hst,hb,hz1,hex⟩;have b1:=hid (((((Below.refl w.1.size w).alloc (Nat.le_refl _) _).alloc sm _).alloc (by simp;omega) _).trans hb);rw[List.drop_zero,ha]at hK;obtain rfl:K=a:=by omega
 obtain rfl:nv2=V:=(hex om).trans HVE.out;rw[Nat.zero_add]at hst;have hst2:=hid (apy hst om om);obtain⟨c1,c2,c3,-,z3⟩:=hst;have i1:(K:Int)<(s.size:Int):=by omega
 have i2:(0:Int) ≤(K:Int):=Int.natCast_nonneg _;have i3:(K:Int).toNat=K:=by omega
 clear hK hex HX HB ha hb hz1;go_wp2_with fail;refine(HX2 _ w.1.size (w.1.size+1) (w.1.size+1+1) w.1.size hst2.out om om om om om).mono ?_;rintro e w2 ⟨K2,nv3,hK2,rfl,hst3,hb2,hz2,hex2⟩;have b2:=hid ((b1.out.setCell (show w.1.size≤w.1.size+1+1 by omega) _).trans hb2);obtain⟨d1,d2,d3,-,-⟩:=hst3;rw[hbe]at hK2;clear hex2 HX2 HB2 hb2 hz2 hst2 hbe c1 c2 c3 z3
 by_cases k1:(K2:Int)<1
 ·go_wp2_with fail
  go_ret2
  exact⟨rfl,b2.out⟩
 ·by_cases k2:(f:Int)<(K2:Int)
  ·have k3:(1:Int) ≤(K2:Int):=by omega
   clear hK2 g k1;go_wp2_with fail
   go_ret2
   exact⟨rfl,b2.out⟩
  ·have k3:(1:Int) ≤(K2:Int):=by omega
   have k4:(K2:Int) ≤(f:Int):=by omega
   have k5:((K+1+K2:Nat):Int)<(s.size:Int):=by omega
   clear hK2 g k1 k2;generalize K+1+K2=Z at *;go_wp2_with fail
   go_ret2
   exact⟨rfl,b2.out⟩
theorem a4r (s:ByteArray) (a b l m f:Nat) (w:World) (hs:s.size≤1000000) (hm:m≤12) (hf:f≤6) (ha:js s.data.toList=a) (h1:(l:Int) ≤(a:Int)) (h2:(a:Int) ≤(m:Int)) (hlt:a<s.size) (hc:(((s[a]'hlt).toNat:Int) != 46)=false) (hbe:js (s.data.toList.drop (a+1))=b)
 (g1:(1:Int) ≤(b:Int)) (g2:b≤f) (g3:a+1+b=s.size) :
 Calls prog 223 #[.string s,.int .i64 (l:Int),.int .i64 (m:Int),.int .i64 (f:Int)] w fun e w'=>e=.returned (.tuple #[.int .i64 ((yu (s.data.toList.take a):Int)*kq f +(yu (s.data.toList.drop (a+1)):Int)*kq (f-b)),.bool true])∧Below w.1.size w w':=by
 have HB:Hid (∀k,k≤m→0≤ju s 0 0 k∧ju s 0 0 k≤9000000000000000000):=abt s 0 0 m 0 dc dc om hm;have HX:=fun W gs gn ga B h1 h2 h3 h4 h5 h6=>ad5 s 0 m 0 gs gn ga B W hs (Nat.zero_le _) hm h1 h2 h3 h4 h5 h6 HB
 have HT:=fun W=>hid (aw3 (f-b) W om)
 have hA:=abx s.data.toList;rw[ha]at hA
 have hV:ju s 0 0 a=(yu (s.data.toList.take a):Int):=by
  unfold ju;rw[List.drop_zero];omega
 have hV0:0≤ju s 0 0 a:=by rw[hV];omega
 have hV1:ju s 0 0 a<kq 12:=by
  have e1:=aid _ hA;have e2:(10:Nat)^(s.data.toList.take a).length≤10^12:=Nat.pow_le_pow_right dc (by rw[List.length_take];omega);rw[hV,j9];omega
 have HB2:Hid (∀k,k≤f→0≤ju s (a+1) (ju s 0 0 a) k∧ju s (a+1) (ju s 0 0 a) k≤9000000000000000000):=abt s (a+1) _ f 12 hV0 hV1 om om;have hB:=abx (s.data.toList.drop (a+1));have hlen:(s.data.toList.drop (a+1)).length=b:=by rw[List.length_drop,show s.data.toList.length=s.size from by simp];omega
 rw[hbe,← hlen,List.take_length]at hB
 have hsum:ju s (a+1) (ju s 0 0 a) b*kq (f-b)=(yu (s.data.toList.take a):Int)*kq f +(yu (s.data.toList.drop (a+1)):Int)*kq (f-b):=by
  rw[show ju s (a+1) (ju s 0 0 a) b=ju s 0 0 a*kq b +(yu (s.data.toList.drop (a+1)):Int)from by
   unfold ju;rw[show (s.data.toList.drop (a+1)).take b=s.data.toList.drop (a+1)from by rw[← hlen,List.take_length]],hV,Int.add_mul,Int.mul_assoc]
  rw[show kq b*kq (f-b)=kq f from by
   rw[j9,j9,j9,← Int.natCast_mul,← Nat.pow_add,show b +(f-b)=f from by omega]]
 have v1:=amc hA (n:=f) (by rw[List.length_take];omega);have v2:=amc hB (n:=f-b) om;have hR:0≤ju s (a+1) (ju s 0 0 a) b*kq (f-b)∧ju s (a+1) (ju s 0 0 a) b*kq (f-b)≤2000000000000000000:=by rw[hsum];omega
 rw[← hsum];have hS0:=(HB2.out b g2);obtain⟨S,hSe⟩:∃S,ju s (a+1) (ju s 0 0 a) b=S:=⟨_,rfl⟩;rw[hSe]at hR hS0 ⊢;have HSE:=hid hSe;obtain⟨V,hVe⟩:∃V,ju s 0 0 a=V:=⟨_,rfl⟩;rw[hVe]at HB2 HSE;have HVE:=hid hVe;obtain⟨T,hTe⟩:∃T,kq (f-b)=T:=⟨_,rfl⟩;have t1:=ahn (f-b);simp only[hTe,show ((f-b:Nat):Int)=(f:Int)-(b:Int)from by omega]at HT;rw[hTe]at hR t1 ⊢;clear hV hV0 hV1 hA hVe hSe hTe v1 v2 hsum hB hlen;have HX2:=fun W gs gn ga B h1 h2 h3 h4 h5 h6=>ad5 s (a+1) f V gs gn ga B W hs om om h1 h2 h3 h4 h5 h6 HB2
 go_enter func223,ntmps223;go_wp2_with fail;refine(HX _ w.1.size (w.1.size+1) (w.1.size+1+1) w.1.size (ad6 s w) om om om om om).mono ?_;rintro e w1 ⟨K,nv2,hK,rfl,hst,hb,hz1,hex⟩;have b1:=hid (((((Below.refl w.1.size w).alloc (Nat.le_refl _) _).alloc sm _).alloc (by simp;omega) _).trans hb);rw[List.drop_zero,ha]at hK;obtain rfl:a=K:=by omega
 obtain rfl:V=nv2:=((hex om).trans HVE.out).symm;rw[Nat.zero_add]at hst;have hst2:=hid (apy hst om om);obtain⟨c1,c2,c3,-,z3⟩:=hst;have i1:(a:Int)<(s.size:Int):=by omega
 have i2:(0:Int) ≤(a:Int):=Int.natCast_nonneg _;have i3:(a:Int).toNat=a:=by omega
 clear hK hex HX HB ha hb hz1;go_wp2_with fail;refine(HX2 _ w.1.size (w.1.size+1) (w.1.size+1+1) w.1.size hst2.out om om om om om).mono ?_;rintro e w2 ⟨K2,nv3,hK2,rfl,hst3,hb2,hz2,hex2⟩;have b2:=hid ((b1.out.setCell (show w.1.size≤w.1.size+1+1 by omega) _).trans hb2);rw[hbe]at hK2;obtain rfl:b=K2:=by omega
 obtain rfl:S=nv3:=((hex2 om).trans HSE.out).symm;obtain⟨d1,d2,d3,-,-⟩:=hst3;have k4:(b:Int) ≤(f:Int):=by omega
 rw[g3]at d3;clear hex2 HX2 HB2 hb2 hz2 hst2 hbe c1 c2 c3 z3 hK2 HSE HVE;have hf6:(f:Int)≤6:=by omega
 have hw:IntKind.i64.wrap (S*T)=S*T:=IntWalk.i64_in _ om;have hw2:wrap64 (S*T)=S*T:=IntWalk.wrap64_in _ om;have hw3:IntKind.i64.wrap ((f:Int)-(b:Int))=(f:Int)-(b:Int):=IntWalk.i64_in _ om;go_wp2_with fail
 go_quiet ((go_at_call 232;exact a0a (HT _).out))
 go_wp2_with fail
 go_ret2
 exact⟨rfl,aab b2.out _⟩
theorem alw (s:ByteArray) (l m f:Nat) (w:World) (hs:s.size≤1000000) (hm:m≤12) (hf:f≤6) :
 Calls prog 223 #[.string s,.int .i64 (l:Int),.int .i64 (m:Int),.int .i64 (f:Int)] w fun e w'=>e=.returned (.tuple #[.int .i64 (((yo s.data.toList l m f).getD 0:Nat):Int),.bool (yo s.data.toList l m f).isSome])∧Below w.1.size w w':=by
 have hz:s.data.toList.length=s.size:=by simp
 unfold yo
 by_cases g1:js s.data.toList<l∨m<js s.data.toList
 ·rw[if_pos g1];exact a4s s l m f w hs hm hf g1
 rw[if_neg g1]
 by_cases g2:js s.data.toList=s.data.toList.length
 ·rw[if_pos g2];have h:=a9z s l m f w hs hm hf g1 g2;rw[j9,← Int.natCast_mul]at h;exact h
 rw[if_neg g2];have hle:=anx s.data.toList;obtain⟨a,ha⟩:∃a,js s.data.toList=a:=⟨_,rfl⟩;rw[ha]at g1 g2 hle ⊢;have hlt:a<s.size:=by omega
 obtain⟨b,hbe⟩:∃b,js (s.data.toList.drop (a+1))=b:=⟨_,rfl⟩;rw[hbe]
 have h46:s.data.toList[a]?=some 46 ↔((s[a]'hlt).toNat:Int)=46:=by
  rw[List.getElem?_eq_getElem om];constructor
  ·intro k;injection k with k
   have k2:s[a]=46:=k;rw[k2];rfl
  ·intro k;have k2:s[a]=46:=UInt8.toNat_inj.1 (by have e:(46:UInt8).toNat=46:=rfl;omega);exact congrArg some k2
 by_cases g3:s.data.toList[a]?≠some 46∨b<1∨f<b∨a+1+b≠s.data.toList.length
 ·rw[if_pos g3]
  by_cases k46:((s[a]'hlt).toNat:Int)=46
  ·refine avn s a b l m f w hs hm hf ha om om hlt (by rw[bne_eq_false_iff_eq];exact k46) hbe ?_;rcases g3 with g|g|g|g
   ·exact absurd (h46.2 k46) g
   ·exact .inl g
   ·exact .inr (.inl g)
   ·exact .inr (.inr om)
  ·exact az4 s a l m f w hs hm hf ha om om hlt (by rw[bne_iff_ne];exact k46)
 ·rw[if_neg g3];have g4:s.data.toList[a]?=some 46:=Classical.not_not.1 fun k=>g3 (.inl k)
  have h:=a4r s a b l m f w hs hm hf ha om om hlt (by rw[bne_eq_false_iff_eq];exact h46.1 g4) hbe om om om;rw[j9,j9,← Int.natCast_mul,← Int.natCast_mul,← Int.natCast_add]at h;exact h
theorem aw9 {w w':World} {n:Nat} (h:Below (w.drewN n).1.size (w.drewN n) w'):Below w.1.size w w':=⟨h.os,h.tape,h.output,h.size,h.block⟩
theorem zg (w:World) (g:Nat) (v0 v1 o0 o1:Value) (h0:w.cell? ⟨g,0,none⟩=some o0) (h1:w.cell? ⟨g,1,none⟩=some o1) :
 ((w.setCell ⟨g,0,none⟩ v0).setCell ⟨g,1,none⟩ v1).cell? ⟨g,0,none⟩=some v0 ∧((w.setCell ⟨g,0,none⟩ v0).setCell ⟨g,1,none⟩ v1).cell? ⟨g,1,none⟩=some v1:=by
 have n01:(⟨g,1,none⟩:Addr) ≠⟨g,0,none⟩:=by simp
 refine⟨?_,?_⟩
 ·rw[World.cell?_setCell_other _ _ _ _ n01];exact World.cell?_setCell_same _ _ _ h0
 ·exact World.cell?_setCell_same _ _ _ ((World.cell?_setCell_other _ _ _ _ (fun e=>n01 e.symm)).trans h1)
theorem bcf (s:ByteArray) (W M F L H:Int) (w:World) (hs:s.size≤1000000) (HR:∀W',Hid (Calls prog 222 #[j7 W M F L H] W' fun e w'=>e=.returned (.bool false)∧Below W'.1.size W' w')) :
 Calls prog 206 #[.string s,j7 W M F L H] w fun e w'=>e=.returned (.tuple #[jo false 0,.int .i64 1])∧Below w.1.size w w':=by
 go_enter func206,ntmps206;go_wp2_with fail;refine((HR _).out).mono ?_;rintro e w1 ⟨rfl,hb1⟩;obtain⟨c1,f1⟩:=qv hb1;have hz:=hb1.size;simp at hz;have hz1:w.1.size<w1.1.size:=by omega
 have hz4:w.1.size+1<w1.1.size:=by omega
 have b1:=hid (qb (qb (qa w _) (qa _ _)) hb1);have q0:w1.cell? ⟨w.1.size+1,0,none⟩=some (.bool false):=(c1 (w.1.size+1) 0 sm).trans (by simp[World.cell?_alloc_at]);have q1:w1.cell? ⟨w.1.size+1,1,none⟩=some (.int .i64 0):=(c1 (w.1.size+1) 1 sm).trans (by simp[World.cell?_alloc_at]);go_wp2_with fail;obtain⟨p0,p1⟩:=zg w1 (w.1.size+1) (.bool false) (.int .i64 0) _ _ q0 q1;refine bodyPost_ret (v:=.tuple #[jo false 0,.int .i64 1]) (by simp[results,results206,go_sem,p0,p1]) rfl ⟨rfl,?_⟩;exact(Below.setCell (Below.setCell b1.out (p:=⟨w.1.size+1,0,none⟩) (by show w.1.size≤w.1.size+1;omega) _) (p:=⟨w.1.size+1,1,none⟩) (by show w.1.size≤w.1.size+1;omega) _)
theorem a2u (s:ByteArray) (W M F L H:Int) (w:World) (hs:s.size≤1000000) (HR:∀W',Hid (Calls prog 222 #[j7 W M F L H] W' fun e w'=>e=.returned (.bool true)∧Below W'.1.size W' w')) (h0:s.size=0) :
 Calls prog 206 #[.string s,j7 W M F L H] w fun e w'=>e=.returned (.tuple #[jo false 0,.int .i64 0])∧Below w.1.size w w':=by
 obtain rfl:s=⟨#[]⟩:=ByteArray.ext (Array.eq_empty_of_size_eq_zero h0);go_enter func206,ntmps206;go_wp2_with fail;refine((HR _).out).mono ?_;rintro e w1 ⟨rfl,hb1⟩;obtain⟨c1,f1⟩:=qv hb1;have hz:=hb1.size;simp at hz;have hz1:w.1.size<w1.1.size:=by omega
 have hz4:w.1.size+1<w1.1.size:=by omega
 have b1:=hid (qb (qb (qa w _) (qa _ _)) hb1);have q0:w1.cell? ⟨w.1.size+1,0,none⟩=some (.bool false):=(c1 (w.1.size+1) 0 sm).trans (by simp[World.cell?_alloc_at]);have q1:w1.cell? ⟨w.1.size+1,1,none⟩=some (.int .i64 0):=(c1 (w.1.size+1) 1 sm).trans (by simp[World.cell?_alloc_at]);go_wp2_with fail;obtain⟨p0,p1⟩:=zg w1 (w.1.size+1) (.bool false) (.int .i64 0) _ _ q0 q1;refine bodyPost_ret (v:=.tuple #[jo false 0,.int .i64 0]) (by simp[results,results206,go_sem,p0,p1]) rfl ⟨rfl,?_⟩;exact(Below.setCell (Below.setCell b1.out (p:=⟨w.1.size+1,0,none⟩) (by show w.1.size≤w.1.size+1;omega) _) (p:=⟨w.1.size+1,1,none⟩) (by show w.1.size≤w.1.size+1;omega) _)
theorem arp (s:ByteArray) (W M F L H:Int) (n:Int) (w:World) (hs:s.size≤1000000) (h0:0<s.size) (hc:(((s[0]'h0).toNat:Int)==45)=false) (HR:∀W',Hid (Calls prog 222 #[j7 W M F L H] W' fun e w'=>e=.returned (.bool true)∧Below W'.1.size W' w')) (HP:∀W',Hid (Calls prog 223 #[.string s,.int .i64 1,.int .i64 M,.int .i64 F] W' fun e w'=>e=.returned (.tuple #[.int .i64 n,.bool false])∧Below W'.1.size W' w')) :
 Calls prog 206 #[.string s,j7 W M F L H] w fun e w'=>e=.returned (.tuple #[jo false 0,.int .i64 3])∧Below w.1.size w w':=by
 have i1:(0:Int)<(s.size:Int):=by omega
 have i2:(1:Int) ≤(s.size:Int):=by omega
 obtain⟨hne1,hne2⟩:=q9 h0;go_enter func206,ntmps206;go_wp2_with fail;refine((HR _).out).mono ?_;rintro e w1 ⟨rfl,hb1⟩;obtain⟨c1,f1⟩:=qv hb1;have hz:=hb1.size;simp at hz;have hz1:w.1.size<w1.1.size:=by omega
 have hz4:w.1.size+1<w1.1.size:=by omega
 have b1:=hid (qb (qb (qa w _) (qa _ _)) hb1);have q0:w1.cell? ⟨w.1.size+1,0,none⟩=some (.bool false):=(c1 (w.1.size+1) 0 sm).trans (by simp[World.cell?_alloc_at]);have q1:w1.cell? ⟨w.1.size+1,1,none⟩=some (.int .i64 0):=(c1 (w.1.size+1) 1 sm).trans (by simp[World.cell?_alloc_at]);go_wp2_with fail;refine((HP _).out).mono ?_;rintro e w2 ⟨rfl,hb2⟩;obtain⟨c2,f2⟩:=qv hb2;have hz5:=hb2.size;have hz6:w.1.size<w2.1.size:=by omega
 have hz7:w.1.size+1<w2.1.size:=by omega
 have b2:=hid (qb b1.out hb2);replace q0:=(c2 _ 0 hz4).trans q0;replace q1:=(c2 _ 1 hz4).trans q1;go_wp2_with fail;obtain⟨p0,p1⟩:=zg w2 (w.1.size+1) (.bool false) (.int .i64 0) _ _ q0 q1;refine bodyPost_ret (v:=.tuple #[jo false 0,.int .i64 3]) (by simp[results,results206,go_sem,p0,p1]) rfl ⟨rfl,?_⟩;exact(Below.setCell (Below.setCell b2.out (p:=⟨w.1.size+1,0,none⟩) (by show w.1.size≤w.1.size+1;omega) _) (p:=⟨w.1.size+1,1,none⟩) (by show w.1.size≤w.1.size+1;omega) _)
theorem aom (s:ByteArray) (W M F L H:Int) (n:Int) (w:World) (hs:s.size≤1000000) (h0:0<s.size) (hc:(((s[0]'h0).toNat:Int)==45)=false) (HR:∀W',Hid (Calls prog 222 #[j7 W M F L H] W' fun e w'=>e=.returned (.bool true)∧Below W'.1.size W' w')) (HP:∀W',Hid (Calls prog 223 #[.string s,.int .i64 1,.int .i64 M,.int .i64 F] W' fun e w'=>e=.returned (.tuple #[.int .i64 n,.bool true])∧Below W'.1.size W' w')) (hn0:0≤n) (hn:n≤2000000000000000000) (HF:∀W',Hid (Calls prog 224 #[jo true n,.int .i64 L,.int .i64 H] W' fun e w'=>e=.returned (.bool false)∧Below W'.1.size W' w')) :
 Calls prog 206 #[.string s,j7 W M F L H] w fun e w'=>e=.returned (.tuple #[jo false 0,.int .i64 5])∧Below w.1.size w w':=by
 have i1:(0:Int)<(s.size:Int):=by omega
 have i2:(1:Int) ≤(s.size:Int):=by omega
 obtain⟨hne1,hne2⟩:=q9 h0;have e1:(1:Int)*n=n:=Int.one_mul n;have e2:(-1:Int)*n=-n:=by rw[Int.neg_mul,Int.one_mul]
 go_enter func206,ntmps206;go_wp2_with fail;refine((HR _).out).mono ?_;rintro e w1 ⟨rfl,hb1⟩;obtain⟨c1,f1⟩:=qv hb1;have hz:=hb1.size;simp at hz;have hz1:w.1.size<w1.1.size:=by omega
 have hz4:w.1.size+1<w1.1.size:=by omega
 have b1:=hid (qb (qb (qa w _) (qa _ _)) hb1);have q0:w1.cell? ⟨w.1.size+1,0,none⟩=some (.bool false):=(c1 (w.1.size+1) 0 sm).trans (by simp[World.cell?_alloc_at]);have q1:w1.cell? ⟨w.1.size+1,1,none⟩=some (.int .i64 0):=(c1 (w.1.size+1) 1 sm).trans (by simp[World.cell?_alloc_at]);go_wp2_with fail;refine((HP _).out).mono ?_;rintro e w2 ⟨rfl,hb2⟩;obtain⟨c2,f2⟩:=qv hb2;have hz5:=hb2.size;have hz6:w.1.size<w2.1.size:=by omega
 have hz7:w.1.size+1<w2.1.size:=by omega
 have b2:=hid (qb b1.out hb2);replace q0:=(c2 _ 0 hz4).trans q0;replace q1:=(c2 _ 1 hz4).trans q1;go_wp2_with fail;refine((HF _).out).mono ?_;rintro e w3 ⟨rfl,hb3⟩;obtain⟨c3,f3⟩:=qv hb3;have hz8:=hb3.size;simp at hz8;have hz9:w2.1.size<w3.1.size:=by omega
 have hz10:w.1.size+1<w3.1.size:=by omega
 have b3:=hid (qb (qb b2.out (qa _ _)) hb3);replace q0:=(c3 (w.1.size+1) 0 (by simp;omega)).trans ((World.cell?_alloc_past _ _ _ om).trans q0);replace q1:=(c3 (w.1.size+1) 1 (by simp;omega)).trans ((World.cell?_alloc_past _ _ _ om).trans q1);go_wp2_with fail;obtain⟨p0,p1⟩:=zg w3 (w.1.size+1) (.bool false) (.int .i64 0) _ _ q0 q1;refine bodyPost_ret (v:=.tuple #[jo false 0,.int .i64 5]) (by simp[results,results206,go_sem,p0,p1]) rfl ⟨rfl,?_⟩;exact(Below.setCell (Below.setCell b3.out (p:=⟨w.1.size+1,0,none⟩) (by show w.1.size≤w.1.size+1;omega) _) (p:=⟨w.1.size+1,1,none⟩) (by show w.1.size≤w.1.size+1;omega) _)
theorem axy (s:ByteArray) (W M F L H:Int) (n:Int) (w:World) (hs:s.size≤1000000) (h0:0<s.size) (hc:(((s[0]'h0).toNat:Int)==45)=false) (HR:∀W',Hid (Calls prog 222 #[j7 W M F L H] W' fun e w'=>e=.returned (.bool true)∧Below W'.1.size W' w')) (HP:∀W',Hid (Calls prog 223 #[.string s,.int .i64 1,.int .i64 M,.int .i64 F] W' fun e w'=>e=.returned (.tuple #[.int .i64 n,.bool true])∧Below W'.1.size W' w')) (hn0:0≤n) (hn:n≤2000000000000000000) (HF:∀W',Hid (Calls prog 224 #[jo true n,.int .i64 L,.int .i64 H] W' fun e w'=>e=.returned (.bool true)∧Below W'.1.size W' w')) :
 Calls prog 206 #[.string s,j7 W M F L H] w fun e w'=>e=.returned (.tuple #[jo true n,.int .i64 0])∧Below w.1.size w w':=by
 have i1:(0:Int)<(s.size:Int):=by omega
 have i2:(1:Int) ≤(s.size:Int):=by omega
 obtain⟨hne1,hne2⟩:=q9 h0;have e1:(1:Int)*n=n:=Int.one_mul n;have e2:(-1:Int)*n=-n:=by rw[Int.neg_mul,Int.one_mul]
 go_enter func206,ntmps206;go_wp2_with fail;refine((HR _).out).mono ?_;rintro e w1 ⟨rfl,hb1⟩;obtain⟨c1,f1⟩:=qv hb1;have hz:=hb1.size;simp at hz;have hz1:w.1.size<w1.1.size:=by omega
 have hz4:w.1.size+1<w1.1.size:=by omega
 have b1:=hid (qb (qb (qa w _) (qa _ _)) hb1);have q0:w1.cell? ⟨w.1.size+1,0,none⟩=some (.bool false):=(c1 (w.1.size+1) 0 sm).trans (by simp[World.cell?_alloc_at]);have q1:w1.cell? ⟨w.1.size+1,1,none⟩=some (.int .i64 0):=(c1 (w.1.size+1) 1 sm).trans (by simp[World.cell?_alloc_at]);go_wp2_with fail;refine((HP _).out).mono ?_;rintro e w2 ⟨rfl,hb2⟩;obtain⟨c2,f2⟩:=qv hb2;have hz5:=hb2.size;have hz6:w.1.size<w2.1.size:=by omega
 have hz7:w.1.size+1<w2.1.size:=by omega
 have b2:=hid (qb b1.out hb2);replace q0:=(c2 _ 0 hz4).trans q0;replace q1:=(c2 _ 1 hz4).trans q1;go_wp2_with fail;refine((HF _).out).mono ?_;rintro e w3 ⟨rfl,hb3⟩;obtain⟨c3,f3⟩:=qv hb3;have hz8:=hb3.size;simp at hz8;have hz9:w2.1.size<w3.1.size:=by omega
 have hz10:w.1.size+1<w3.1.size:=by omega
 have b3:=hid (qb (qb b2.out (qa _ _)) hb3);replace q0:=(c3 (w.1.size+1) 0 (by simp;omega)).trans ((World.cell?_alloc_past _ _ _ om).trans q0);replace q1:=(c3 (w.1.size+1) 1 (by simp;omega)).trans ((World.cell?_alloc_past _ _ _ om).trans q1);go_wp2_with fail;obtain⟨p0,p1⟩:=zg w3 (w.1.size+1) (.bool true) (.int .i64 n) _ _ q0 q1;refine bodyPost_ret (v:=.tuple #[jo true n,.int .i64 0]) (by simp[results,results206,go_sem,p0,p1]) rfl ⟨rfl,?_⟩;exact(Below.setCell (Below.setCell b3.out (p:=⟨w.1.size+1,0,none⟩) (by show w.1.size≤w.1.size+1;omega) _) (p:=⟨w.1.size+1,1,none⟩) (by show w.1.size≤w.1.size+1;omega) _)
theorem aro (s:ByteArray) (W M F L H:Int) (n:Int) (w:World) (hs:s.size≤1000000) (h0:0<s.size) (hc:(((s[0]'h0).toNat:Int)==45)=true) (HR:∀W',Hid (Calls prog 222 #[j7 W M F L H] W' fun e w'=>e=.returned (.bool true)∧Below W'.1.size W' w')) (HP:∀W',Hid (Calls prog 223 #[.string (s.extract 1 s.size),.int .i64 1,.int .i64 M,.int .i64 F] W' fun e w'=>e=.returned (.tuple #[.int .i64 n,.bool false])∧Below W'.1.size W' w')) :
 Calls prog 206 #[.string s,j7 W M F L H] w fun e w'=>e=.returned (.tuple #[jo false 0,.int .i64 3])∧Below w.1.size w w':=by
 have i1:(0:Int)<(s.size:Int):=by omega
 have i2:(1:Int) ≤(s.size:Int):=by omega
 obtain⟨hne1,hne2⟩:=q9 h0;go_enter func206,ntmps206;go_wp2_with fail;refine((HR _).out).mono ?_;rintro e w1 ⟨rfl,hb1⟩;obtain⟨c1,f1⟩:=qv hb1;have hz:=hb1.size;simp at hz;have hz1:w.1.size<w1.1.size:=by omega
 have hz4:w.1.size+1<w1.1.size:=by omega
 have b1:=hid (qb (qb (qa w _) (qa _ _)) hb1);have q0:w1.cell? ⟨w.1.size+1,0,none⟩=some (.bool false):=(c1 (w.1.size+1) 0 sm).trans (by simp[World.cell?_alloc_at]);have q1:w1.cell? ⟨w.1.size+1,1,none⟩=some (.int .i64 0):=(c1 (w.1.size+1) 1 sm).trans (by simp[World.cell?_alloc_at]);go_wp2_with fail
 go_quiet (fail)
 go_wp2_with fail;refine(HP _).out.mono ?_;rintro e w2 ⟨rfl,hb2⟩;replace hb2:=aw9 hb2;obtain⟨c2,f2⟩:=qv hb2;have hz5:=hb2.size;have hz6:w.1.size<w2.1.size:=by omega
 have hz7:w.1.size+1<w2.1.size:=by omega
 have b2:=hid (qb b1.out hb2);replace q0:=(c2 _ 0 hz4).trans q0;replace q1:=(c2 _ 1 hz4).trans q1;go_wp2_with fail;obtain⟨p0,p1⟩:=zg w2 (w.1.size+1) (.bool false) (.int .i64 0) _ _ q0 q1;refine bodyPost_ret (v:=.tuple #[jo false 0,.int .i64 3]) (by simp[results,results206,go_sem,p0,p1]) rfl ⟨rfl,?_⟩;exact(Below.setCell (Below.setCell b2.out (p:=⟨w.1.size+1,0,none⟩) (by show w.1.size≤w.1.size+1;omega) _) (p:=⟨w.1.size+1,1,none⟩) (by show w.1.size≤w.1.size+1;omega) _)
theorem aol (s:ByteArray) (W M F L H:Int) (n:Int) (w:World) (hs:s.size≤1000000) (h0:0<s.size) (hc:(((s[0]'h0).toNat:Int)==45)=true) (HR:∀W',Hid (Calls prog 222 #[j7 W M F L H] W' fun e w'=>e=.returned (.bool true)∧Below W'.1.size W' w')) (HP:∀W',Hid (Calls prog 223 #[.string (s.extract 1 s.size),.int .i64 1,.int .i64 M,.int .i64 F] W' fun e w'=>e=.returned (.tuple #[.int .i64 n,.bool true])∧Below W'.1.size W' w')) (hn0:0≤n) (hn:n≤2000000000000000000) (HF:∀W',Hid (Calls prog 224 #[jo true (-n),.int .i64 L,.int .i64 H] W' fun e w'=>e=.returned (.bool false)∧Below W'.1.size W' w')) :
 Calls prog 206 #[.string s,j7 W M F L H] w fun e w'=>e=.returned (.tuple #[jo false 0,.int .i64 5])∧Below w.1.size w w':=by
 have i1:(0:Int)<(s.size:Int):=by omega
 have i2:(1:Int) ≤(s.size:Int):=by omega
 obtain⟨hne1,hne2⟩:=q9 h0;have e1:(1:Int)*n=n:=Int.one_mul n;have e2:(-1:Int)*n=-n:=by rw[Int.neg_mul,Int.one_mul]
 go_enter func206,ntmps206;go_wp2_with fail;refine((HR _).out).mono ?_;rintro e w1 ⟨rfl,hb1⟩;obtain⟨c1,f1⟩:=qv hb1;have hz:=hb1.size;simp at hz;have hz1:w.1.size<w1.1.size:=by omega
 have hz4:w.1.size+1<w1.1.size:=by omega
 have b1:=hid (qb (qb (qa w _) (qa _ _)) hb1);have q0:w1.cell? ⟨w.1.size+1,0,none⟩=some (.bool false):=(c1 (w.1.size+1) 0 sm).trans (by simp[World.cell?_alloc_at]);have q1:w1.cell? ⟨w.1.size+1,1,none⟩=some (.int .i64 0):=(c1 (w.1.size+1) 1 sm).trans (by simp[World.cell?_alloc_at]);go_wp2_with fail
 go_quiet (fail)
 go_wp2_with fail;refine(HP _).out.mono ?_;rintro e w2 ⟨rfl,hb2⟩;replace hb2:=aw9 hb2;obtain⟨c2,f2⟩:=qv hb2;have hz5:=hb2.size;have hz6:w.1.size<w2.1.size:=by omega
 have hz7:w.1.size+1<w2.1.size:=by omega
 have b2:=hid (qb b1.out hb2);replace q0:=(c2 _ 0 hz4).trans q0;replace q1:=(c2 _ 1 hz4).trans q1;go_wp2_with fail;refine((HF _).out).mono ?_;rintro e w3 ⟨rfl,hb3⟩;obtain⟨c3,f3⟩:=qv hb3;have hz8:=hb3.size;simp at hz8;have hz9:w2.1.size<w3.1.size:=by omega
 have hz10:w.1.size+1<w3.1.size:=by omega
 have b3:=hid (qb (qb b2.out (qa _ _)) hb3);replace q0:=(c3 (w.1.size+1) 0 (by simp;omega)).trans ((World.cell?_alloc_past _ _ _ om).trans q0);replace q1:=(c3 (w.1.size+1) 1 (by simp;omega)).trans ((World.cell?_alloc_past _ _ _ om).trans q1);go_wp2_with fail;obtain⟨p0,p1⟩:=zg w3 (w.1.size+1) (.bool false) (.int .i64 0) _ _ q0 q1;refine bodyPost_ret (v:=.tuple #[jo false 0,.int .i64 5]) (by simp[results,results206,go_sem,p0,p1]) rfl ⟨rfl,?_⟩;exact(Below.setCell (Below.setCell b3.out (p:=⟨w.1.size+1,0,none⟩) (by show w.1.size≤w.1.size+1;omega) _) (p:=⟨w.1.size+1,1,none⟩) (by show w.1.size≤w.1.size+1;omega) _)
theorem axx (s:ByteArray) (W M F L H:Int) (n:Int) (w:World) (hs:s.size≤1000000) (h0:0<s.size) (hc:(((s[0]'h0).toNat:Int)==45)=true) (HR:∀W',Hid (Calls prog 222 #[j7 W M F L H] W' fun e w'=>e=.returned (.bool true)∧Below W'.1.size W' w')) (HP:∀W',Hid (Calls prog 223 #[.string (s.extract 1 s.size),.int .i64 1,.int .i64 M,.int .i64 F] W' fun e w'=>e=.returned (.tuple #[.int .i64 n,.bool true])∧Below W'.1.size W' w')) (hn0:0≤n) (hn:n≤2000000000000000000) (HF:∀W',Hid (Calls prog 224 #[jo true (-n),.int .i64 L,.int .i64 H] W' fun e w'=>e=.returned (.bool true)∧Below W'.1.size W' w')) :
 Calls prog 206 #[.string s,j7 W M F L H] w fun e w'=>e=.returned (.tuple #[jo true (-n),.int .i64 0])∧Below w.1.size w w':=by
 have i1:(0:Int)<(s.size:Int):=by omega
 have i2:(1:Int) ≤(s.size:Int):=by omega
 obtain⟨hne1,hne2⟩:=q9 h0;have e1:(1:Int)*n=n:=Int.one_mul n;have e2:(-1:Int)*n=-n:=by rw[Int.neg_mul,Int.one_mul]
 go_enter func206,ntmps206;go_wp2_with fail;refine((HR _).out).mono ?_;rintro e w1 ⟨rfl,hb1⟩;obtain⟨c1,f1⟩:=qv hb1;have hz:=hb1.size;simp at hz;have hz1:w.1.size<w1.1.size:=by omega
 have hz4:w.1.size+1<w1.1.size:=by omega
 have b1:=hid (qb (qb (qa w _) (qa _ _)) hb1);have q0:w1.cell? ⟨w.1.size+1,0,none⟩=some (.bool false):=(c1 (w.1.size+1) 0 sm).trans (by simp[World.cell?_alloc_at]);have q1:w1.cell? ⟨w.1.size+1,1,none⟩=some (.int .i64 0):=(c1 (w.1.size+1) 1 sm).trans (by simp[World.cell?_alloc_at]);go_wp2_with fail
 go_quiet (fail)
 go_wp2_with fail;refine(HP _).out.mono ?_;rintro e w2 ⟨rfl,hb2⟩;replace hb2:=aw9 hb2;obtain⟨c2,f2⟩:=qv hb2;have hz5:=hb2.size;have hz6:w.1.size<w2.1.size:=by omega
 have hz7:w.1.size+1<w2.1.size:=by omega
 have b2:=hid (qb b1.out hb2);replace q0:=(c2 _ 0 hz4).trans q0;replace q1:=(c2 _ 1 hz4).trans q1;go_wp2_with fail;refine((HF _).out).mono ?_;rintro e w3 ⟨rfl,hb3⟩;obtain⟨c3,f3⟩:=qv hb3;have hz8:=hb3.size;simp at hz8;have hz9:w2.1.size<w3.1.size:=by omega
 have hz10:w.1.size+1<w3.1.size:=by omega
 have b3:=hid (qb (qb b2.out (qa _ _)) hb3);replace q0:=(c3 (w.1.size+1) 0 (by simp;omega)).trans ((World.cell?_alloc_past _ _ _ om).trans q0);replace q1:=(c3 (w.1.size+1) 1 (by simp;omega)).trans ((World.cell?_alloc_past _ _ _ om).trans q1);go_wp2_with fail;obtain⟨p0,p1⟩:=zg w3 (w.1.size+1) (.bool true) (.int .i64 (-n)) _ _ q0 q1;refine bodyPost_ret (v:=.tuple #[jo true (-n),.int .i64 0]) (by simp[results,results206,go_sem,p0,p1]) rfl ⟨rfl,?_⟩;exact(Below.setCell (Below.setCell b3.out (p:=⟨w.1.size+1,0,none⟩) (by show w.1.size≤w.1.size+1;omega) _) (p:=⟨w.1.size+1,1,none⟩) (by show w.1.size≤w.1.size+1;omega) _)
def aii (l:List UInt8):Bool:=l.head?==some 45
def afc (l:List UInt8):List UInt8:=if aii l then l.drop 1 else l
def j4 (l:List UInt8) (W M F L H:Int):Bool×Int×Int:=
 if abi W M F L H=false then(false,0,1)
 else if l=[]then(false,0,0)
 else match yo (afc l) 1 M.toNat F.toNat with
 | none=>(false,0,3)
 | some n=>if aaz true (if aii l then -(n:Int)else(n:Int)) L H then(true,(if aii l then -(n:Int)else(n:Int)),0)else(false,0,5)
theorem alv {l:List UInt8} {a m f n:Nat} (h:yo l a m f=some n) (hm:m+f≤18):n≤2000000000000000000:=by
 unfold yo at h;have hA:=abx l
 split at h
 ·cases h
 rename_i g1
 split at h
 ·rename_i g2;injection h with h
  rw[g2,List.take_length]at hA;have v:=amc hA (n:=f) om;rw[j9,← Int.natCast_mul]at v;omega
 split at h
 ·cases h
 rename_i g3;injection h with h
 have hB:=abx (l.drop (js l+1));have e1:js (l.drop (js l+1))=(l.drop (js l+1)).length:=by rw[List.length_drop];omega
 rw[e1,List.take_length]at hB;have v1:=amc hA (n:=f) (by rw[List.length_take];omega);have v2:=amc hB (n:=f-js (l.drop (js l+1))) om;rw[j9,← Int.natCast_mul]at v1 v2;omega
theorem aqu {s:ByteArray} (h:s.data.toList≠[]):0<s.size:=by
 rcases Nat.eq_zero_or_pos s.size with h0|h0
 ·exact absurd (List.eq_nil_of_length_eq_zero (by simpa using h0)) h
 ·exact h0
theorem aeg {s:ByteArray} (h:s.data.toList=[]):s.size=0:=by
 have:s.data.toList.length=0:=by rw[h];rfl
 simpa using this
theorem a9p {s:ByteArray} (h0:0<s.size) (h:aii s.data.toList=true):(((s[0]'h0).toNat:Int)==45)=true:=by
 unfold aii at h;have e:s.data.toList.head?=some s[0]:=by rw[List.head?_eq_getElem?,List.getElem?_eq_getElem (by simpa using h0)];rfl
 rw[e]at h;have h2:s[0]=45:=by simpa using h
 rw[h2];rfl
theorem a4f {s:ByteArray} (h0:0<s.size) (h:aii s.data.toList=false):(((s[0]'h0).toNat:Int)==45)=false:=by
 unfold aii at h;have e:s.data.toList.head?=some s[0]:=by rw[List.head?_eq_getElem?,List.getElem?_eq_getElem (by simpa using h0)];rfl
 rw[e]at h;have h2:s[0]≠45:=by simpa using h
 rw[beq_eq_false_iff_ne];intro k;exact h2 (UInt8.toNat_inj.1 (by have e:(45:UInt8).toNat=45:=rfl;omega))
theorem a2t (s:ByteArray) (W M F L H:Int) (w:World) (hs:s.size≤1000000) :
 Calls prog 206 #[.string s,j7 W M F L H] w fun e w'=>e=.returned (.tuple #[jo (j4 s.data.toList W M F L H).1 (j4 s.data.toList W M F L H).2.1,.int .i64 (j4 s.data.toList W M F L H).2.2])∧Below w.1.size w w':=by
 unfold j4;have HR:=fun W'=>hid (a7y W M F L H W')
 by_cases hr:abi W M F L H=false
 ·rw[if_pos hr];rw[hr]at HR;exact bcf s W M F L H w hs HR
 rw[if_neg hr];have hr':abi W M F L H=true:=by simpa using hr
 rw[hr']at HR;have hb:=of_decide_eq_true hr'
 by_cases h0:s.data.toList=[]
 ·rw[if_pos h0];exact a2u s W M F L H w hs HR (aeg h0)
 rw[if_neg h0];have hp:=aqu h0;obtain⟨m,rfl⟩:=Int.eq_ofNat_of_zero_le (show 0≤M by omega);obtain⟨f,rfl⟩:=Int.eq_ofNat_of_zero_le (show 0≤F by omega);rw[Int.toNat_natCast,Int.toNat_natCast];cases hn:aii s.data.toList with
 | false=>
  have hc:=a4f hp hn;have hbody:afc s.data.toList=s.data.toList:=by unfold afc;rw[hn];rfl
  have HP:=fun W'=>hid (alw s 1 m f W' hs om om)
  rw[hbody];cases hq:yo s.data.toList 1 m f with
  | none=>
   simp only[hq]at HP;exact arp s W m f L H 0 w hs hp hc HR HP
  | some n=>
   simp only[hq]at HP;have hle:=alv hq om;have HF:=fun W'=>hid (ayv true (n:Int) L H W')
   cases hf:aaz true (n:Int) L H with
   | false=>rw[hf]at HF;simp only[Bool.false_eq_true,if_false,hf];exact aom s W m f L H n w hs hp hc HR HP om om HF
   | true=>rw[hf]at HF;simp only[Bool.false_eq_true,if_false,hf,if_true];exact axy s W m f L H n w hs hp hc HR HP om om HF
 | true=>
  have hc:=a9p hp hn;have hbody:afc s.data.toList=(s.extract 1 s.size).data.toList:=by unfold afc;rw[hn,if_pos rfl,Lib.extract_from]
  have HP:=fun W'=>hid (alw (s.extract 1 s.size) 1 m f W' (by rw[ByteArray.size_extract];omega) om om)
  rw[hbody];cases hq:yo (s.extract 1 s.size).data.toList 1 m f with
  | none=>
   simp only[hq]at HP;exact aro s W m f L H 0 w hs hp hc HR HP
  | some n=>
   simp only[hq]at HP;have hle:=alv hq om;have HF:=fun W'=>hid (ayv true (-(n:Int)) L H W')
   cases hf:aaz true (-(n:Int)) L H with
   | false=>rw[hf]at HF;simp only[Bool.false_eq_true,if_false,hf,if_true];exact aol s W m f L H n w hs hp hc HR HP om om HF
   | true=>rw[hf]at HF;simp only[hf,if_true];exact axx s W m f L H n w hs hp hc HR HP om om HF
theorem apm {v L H:Int} (h:aaz true v L H=true):L≤v∧v≤H:=by
 unfold aaz at h;rw[if_pos rfl]at h;exact of_decide_eq_true h
def apl (lat:Bool):Int:=if lat then 540000000 else 1080000000
def je (lat:Bool):ByteArray:=if lat then⟨#[78,83]⟩else⟨#[69,87]⟩
def aiz (lat neg:Bool):ByteArray:=if lat then(if neg then⟨#[83]⟩else⟨#[78]⟩)else(if neg then⟨#[87]⟩else⟨#[69]⟩)
theorem aex (lat:Bool):(je lat).extract 0 1=aiz lat false:=by cases lat<;>rfl
theorem aef (lat:Bool):(je lat).extract 1 2=aiz lat true:=by cases lat<;>rfl
theorem be3 {fn:Func} {t u v:Tmp} (h:fn.results=#[.tmp t,.tmp u,.tmp v]) (tmps:Array Value) (P:Program) (w:World) :
 (results fn tmps).run P w=.ok (.tuple #[tmps.getD t undef,tmps.getD u undef,tmps.getD v undef]) w:=by
 simp[results,h]
theorem abm (lat:Bool) (w:World):Calls prog 225 #[.bool lat] w fun e w'=>e=.returned (.tuple #[.int .i64 (if lat then 90 else 180),.int .i64 (if lat then 2 else 3),.string (je lat)])∧w=w':=by
 cases lat
 all_goals
  go_enter func225,ntmps225;go_wp2
  try simp only[Exit.inBlock,Exit.then]
  refine bodyPost_ret (be3 rfl _ _ _) rfl ?_;exact⟨rfl,rfl⟩
def aad (c:UInt8):Bool:=decide (48≤c.toNat) && decide (c.toNat≤57)
def arz (a b:UInt8):Int:=10*((a.toNat:Int)-48) +((b.toNat:Int)-48)
def abu:List UInt8→Option (Int×Int×Int)
 | [a,b,c,d,e,f]=>if aad a && aad b && aad c && aad d && aad e && aad f then some (arz a b,arz c d,arz e f)else none
 | _=>none
def aeq:List UInt8→Option Int
 | []=>some 0
 | [p,a]=>if p=46∧aad a=true then some (10*((a.toNat:Int)-48))else none
 | [p,a,b]=>if p=46∧aad a=true∧aad b=true then some (arz a b)else none
 | _=>none
abbrev Clk:=Bool×Int×Int×Int×Int
abbrev Dat:=Bool×Int×Int×Int
def zC:Clk:=(false,0,0,0,0)
def zD:Dat:=(false,0,0,0)
def ane (c:Clk):Bool:=if c.1=true then decide (0≤c.2.1∧c.2.1≤23∧0≤c.2.2.1∧c.2.2.1≤59∧0≤c.2.2.2.1∧c.2.2.2.1≤59∧0≤c.2.2.2.2∧c.2.2.2.2≤99)else decide (c.2.1=0∧c.2.2.1=0∧c.2.2.2.1=0∧c.2.2.2.2=0)
def aag (l:List UInt8):Clk×Int:=
 if l=[]then(zC,0)else match abu (l.take 6),aeq (l.drop 6)with
 | some (h,m,s),some c=>if ane (true,h,m,s,c)=true then((true,h,m,s,c),0)else(zC,5)
 | _,_=>(zC,3)
def akj (y:Int):Int:=if y%4=0 then 1 else 0
def ad0 (m y:Int):Int:=if m<1∨12<m∨y<2000∨2099<y then 0 else if m=2 then 28+akj y else if m=4∨m=6∨m=9∨m=11 then 30 else 31
def aw0 (m:Int):Int:=if m=1 then 0 else if m=2 then 31 else if m=3 then 59 else if m=4 then 90 else if m=5 then 120 else if m=6 then 151 else if m=7 then 181 else if m=8 then 212 else if m=9 then 243 else if m=10 then 273 else if m=11 then 304 else if m=12 then 334 else 365
def af2 (m y:Int):Int:=aw0 m+if 2<m then akj y else 0
def aru (d:Dat):Bool:=if d.1=true then decide (1≤d.2.1∧d.2.1≤ad0 d.2.2.1 d.2.2.2)else decide (d.2.1=0∧d.2.2.1=0∧d.2.2.2=0)
def acf (l:List UInt8):Dat×Int:=
 if l=[]then(zD,0)else match abu l with
 | some (a,b,c)=>if aru (true,a,b,2000+c)=true then((true,a,b,2000+c),0)else(zD,5)
 | none=>(zD,3)
theorem a20 {m y:Int} (h1:1≤m) (h2:m≤12) (h3:2000≤y) (h4:y≤2099):af2 (m+1) y=af2 m y+ad0 m y:=by
 unfold af2 ad0 aw0;rw[if_neg om];rcases(by omega:m=1∨m=2∨m=3∨m=4∨m=5∨m=6∨m=7∨m=8∨m=9∨m=10∨m=11∨m=12)with rfl|rfl|rfl|rfl|rfl|rfl|rfl|rfl|rfl|rfl|rfl|rfl<;>simp<;>omega
theorem avf (y:Int):akj y=0∨akj y=1:=by unfold akj;split<;>simp
theorem bgw (m y:Int):0≤ad0 m y∧ad0 m y≤31:=by
 have:=avf y;unfold ad0
 split
 ·omega
 ·split
  ·omega
  ·split<;>omega
theorem bhh {a b:UInt8} (ha:aad a=true) (hb:aad b=true):0≤arz a b∧arz a b≤99:=by
 unfold aad at ha hb;simp only[Bool.and_eq_true,decide_eq_true_eq]at ha hb;unfold arz;omega
