/- Layer 23, plain: what is taken, put, is taken as that; angles. -/
import Derived.Test.YtdkhlkfleggbaaaGreatR15
namespace Go.Proofs.YtdkhlkfleggbaaaGreat
open Lib (hid)
open Tryz
set_option linter.unusedVariables false
open Go.RowKit
theorem avg {l:List UInt8} {a m f n:Nat} (h:aj1 l a m f n) (ha:1≤a) (hmf:m+f≤18):(ajk n 1 f).length≤l.length:=by
 obtain⟨A,T,rfl,hA,h1,h2,h3⟩:=h;have hv:=aia A hA;have hp:0<10^f:=Nat.pow_pos dc;unfold ajk;rw[List.length_append,List.length_append];rcases h3 with⟨rfl,rfl⟩|⟨B,rfl,hB,h4,h5,rfl⟩
 ·rw[Nat.mul_div_cancel _ hp,Nat.mul_mod_left];have:=ann (l:=1) hv om;show _ +([]:List UInt8).length≤_
  simpa using this
 ·have hvb:=aia B hB
  have hr:yn B*10^(f-B.length)<10^f:=by
   have:yn B*10^(f-B.length)<10^B.length*10^(f-B.length):=Nat.mul_lt_mul_of_pos_right hvb (Nat.pow_pos dc)
   rwa [← Nat.pow_add,show B.length +(f-B.length)=f from by omega]at this
  have e1:(yn A*10^f+yn B*10^(f-B.length)) / 10^f=yn A:=by
   rw[Nat.mul_comm,Nat.mul_add_div hp,Nat.div_eq_of_lt hr,Nat.add_zero]
  have e2:(yn A*10^f+yn B*10^(f-B.length))%10^f=yn B*10^(f-B.length):=by
   rw[Nat.mul_comm,Nat.mul_add_mod,Nat.mod_eq_of_lt hr]
  rw[e1,e2];have k1:=ann (l:=1) hv om;have k2:=a08 (yn B) (f-B.length) f hr om om;rw[List.length_cons];omega
theorem be6 {l:List UInt8} {b:Bool} {n W M F L H:Int} (h:jt l W M F L H=(b,n,0)) :
 ∃t:ByteArray,avh b n W M F L H=(t,0) ∧(W=1→t.size≤l.length):=by
 unfold jt at h
 by_cases hr:abb W M F L H=false
 ·rw[if_pos hr]at h;simp at h
 rw[if_neg hr]at h
 by_cases h0:l=[]
 ·rw[if_pos h0]at h;injection h with h1 h2
  injection h2 with h2 h3
  subst h1 h2;refine⟨ByteArray.empty,?_,fun _=>by show 0≤_;omega⟩;unfold avh;rw[if_neg hr,if_neg (by unfold aar;simp),if_pos rfl]
 rw[if_neg h0]at h;obtain⟨w,m,f,rfl,rfl,rfl,g1,g2,g3,g4,g5,g6⟩:=az4 (by simpa using hr);rw[Int.toNat_natCast,Int.toNat_natCast]at h;cases hq:yh (aeq l) 1 m f with
 | none=>rw[hq]at h;simp at h
 | some k=>
  rw[hq]at h;dsimp only at h
  by_cases hf:aar true (if aif l then -(k:Int)else(k:Int)) L H=true
  ·rw[if_pos hf]at h;injection h with h1 h2
   injection h2 with h2 h3
   subst h1;rw[h2]at hf;have ht:=avg (a4i hq) (Nat.le_refl _) om;have hab:n.natAbs=k:=by split at h2<;>omega
   unfold avh;rw[if_neg hr,if_neg (by rw[hf];decide),if_neg dc,Int.toNat_natCast,Int.toNat_natCast]
   by_cases hn:n<0
   ·rw[if_pos hn,show (-n).toNat=k from by omega];refine⟨_,rfl,fun e=>?_⟩;have hw:w=1:=by omega
    subst hw
    have hneg:aif l=true:=by
     cases hg:aif l with
     | true=>rfl
     | false=>rw[hg]at h2;simp at h2;omega
    unfold aeq at ht;rw[hneg,if_pos rfl,List.length_drop]at ht;have:0<l.length:=List.length_pos_iff.2 h0;rw[bew,List.length_cons];omega
   ·rw[if_neg hn,show n.toNat=k from by omega];refine⟨_,rfl,fun e=>?_⟩;have hw:w=1:=by omega
    subst hw;rw[bew];refine Nat.le_trans ht ?_;unfold aeq
    split
    ·rw[List.length_drop];omega
    ·omega
  ·rw[if_neg hf]at h;simp at h
abbrev Rd:=Int×List ByteArray
def qu (s:Rd):ByteArray×Rd:=(s.2.headD ByteArray.empty,(ac0 s.1 s.2,s.2.tail))
def qs (W M F L H:Int) (s:Rd):(Bool×Int)×Rd:=
 (((jt (s.2.headD ByteArray.empty).data.toList W M F L H).1,(jt (s.2.headD ByteArray.empty).data.toList W M F L H).2.1),(aaq (ac0 s.1 s.2) (jt (s.2.headD ByteArray.empty).data.toList W M F L H).2.2,s.2.tail))
def xm (E:Int) (s:Rd):Rd:=(aaq s.1 E,s.2)
def al5 (t:ByteArray) (E:Int) (s:Rd):Rd:=(aaq s.1 E,s.2++[t])
def ak6 (W M F L H:Int) (n:Bool×Int) (s:Rd):Rd:=(aaq s.1 (avh n.1 n.2 W M F L H).2,s.2++[(avh n.1 n.2 W M F L H).1])
def aw8 (s:Rd):List ByteArray×Int:=(if s.1=0 then s.2 else [],s.1)
theorem vk {e E:Int} (h:aaq e E=0):e=0∧E=0:=by
 unfold aaq at h
 by_cases he:e=0
 ·rw[if_pos he]at h;exact⟨he,h⟩
 ·rw[if_neg he]at h;exact absurd h he
theorem af3 {e:Int} {R:List ByteArray} (h:ac0 e R=0):e=0∧∃t R',R=t::R':=by
 unfold ac0 at h;cases R with
 | nil=>rw[if_pos rfl]at h;exact absurd (vk h).2 dc
 | cons t R'=>rw[if_neg sm]at h;exact⟨h,t,R',rfl⟩
theorem adx (e:Int) (t:ByteArray) (R:List ByteArray):ac0 e (t::R)=e:=if_neg sm
theorem aev {W M F L H:Int} {s:Rd} (h:(qs W M F L H s).2.1=0) :
 s.1=0∧∃t R n,s.2=t::R∧qs W M F L H s=(n,(0,R))∧∃t',(∀l,ak6 W M F L H n (0,l)=(0,l++[t'])) ∧(W=1→t'.size≤t.size)∧∀R,qs W M F L H (0,t'::R)=(n,(0,R)):=by
 obtain⟨h1,h2⟩:=vk h;obtain⟨h3,t,R,h4⟩:=af3 h1;obtain⟨e,l⟩:=s;simp only at h3 h4;subst h3 h4;simp only[List.headD_cons]at h2;obtain⟨b,n,E⟩:Bool×Int×Int:=jt t.data.toList W M F L H;have hT:jt t.data.toList W M F L H=((jt t.data.toList W M F L H).1,(jt t.data.toList W M F L H).2.1,0):=by rw[← h2]
 obtain⟨t',h5,h6⟩:=be6 hT;refine⟨rfl,t,R,((jt t.data.toList W M F L H).1,(jt t.data.toList W M F L H).2.1),rfl,?_,t',fun l=>?_,fun hW=>?_,fun R=>?_⟩
 ·unfold qs;simp only[List.headD_cons,List.tail_cons,h2,adx];rfl
 ·unfold ak6;rw[h5];rfl
 ·have:=h6 hW
  simpa using this
 ·have h7:=bed (by rw[h5]:(avh (jt t.data.toList W M F L H).1 (jt t.data.toList W M F L H).2.1 W M F L H).2=0);rw[h5]at h7;unfold qs;rw[adx];simp only[List.headD_cons,List.tail_cons]at h7 ⊢;rw[h7];rfl
structure Cl where
 W:Int
 M:Int
 F:Int
 L:Int
 H:Int
 c:ByteArray
def atw (b:Bool) (c:ByteArray):ByteArray:=if b=true then c else ByteArray.empty
def ky (c:ByteArray) (b:Bool) (s:Rd):Rd:=if(qu s).1≠c ∧(b=true ∨(qu s).1≠ByteArray.empty)then xm 3 (qu s).2 else(qu s).2
def vr (k:Cl) (s:Rd):(Bool×Int)×Rd:=((qs k.W k.M k.F k.L k.H s).1,ky k.c (qs k.W k.M k.F k.L k.H s).1.1 (qs k.W k.M k.F k.L k.H s).2)
def a7d (k:Cl) (n:Bool×Int) (s:Rd):Rd:=al5 (atw n.1 k.c) 0 (ak6 k.W k.M k.F k.L k.H n s)
theorem a4s (c:ByteArray) (b:Bool) (R:List ByteArray):ky c b (0,atw b c::R)=(0,R):=by
 unfold ky qu atw;cases b<;>simp[adx]
theorem a9s {c:ByteArray} {b:Bool} {s:Rd} (h:(ky c b s).1=0):s.1=0∧∃u R,s.2=u::R∧ky c b s=(0,R) ∧(atw b c).size≤u.size:=by
 obtain⟨e,l⟩:=s
 by_cases hq:(qu (e,l)).1≠c ∧(b=true ∨(qu (e,l)).1≠ByteArray.empty)
 ·unfold ky at h;rw[if_pos hq]at h;exact absurd (vk h).2 dc
 ·have h0:=h;unfold ky at h0 ⊢;rw[if_neg hq]at h0 ⊢;obtain⟨h1,u,R,h2⟩:=af3 h0;simp only at h1 h2;subst h1 h2;refine⟨rfl,u,R,rfl,by simp[qu,adx],?_⟩;unfold atw;cases b with
  | false=>simp
  | true=>
   have:u=c:=Classical.byContradiction fun q=>hq ⟨by simpa [qu]using q,.inl rfl⟩
   rw[this];simp
theorem beh {k:Cl} {s:Rd} (h:(vr k s).2.1=0) :
 s.1=0∧∃t u R n,s.2=t::u::R∧vr k s=(n,(0,R))∧∃t' u',(∀l,a7d k n (0,l)=(0,l++[t',u'])) ∧(k.W=1→t'.size≤t.size)∧u'.size≤u.size∧∀R,vr k (0,t'::u'::R)=(n,(0,R)):=by
 obtain⟨h1,u,R,h2,h3,h4⟩:=a9s h;obtain⟨h5,t,R',n,h6,h7,t',h8,h9,h10⟩:=aev h1;rw[h7]at h2;simp only at h2;subst h2;refine⟨h5,t,u,R,n,h6,?_,t',atw n.1 k.c,fun l=>?_,h9,?_,fun R=>?_⟩
 ·unfold vr;rw[h3,h7]
 ·unfold a7d;rw[h8];simp[al5,aaq]
 ·rw[h7]at h4;exact h4
 ·unfold vr;rw[h10];simp only;rw[a4s]
def aw7:List Cl→List (Bool×Int)→Rd→Rd
 | k::K,n::N,s=>aw7 K N (a7d k n s)
 | _,_,s=>s
def aa9:List Cl→Rd→List (Bool×Int)×Rd
 | [],s=>([],s)
 | k::K,s=>((vr k s).1::(aa9 K (vr k s).2).1,(aa9 K (vr k s).2).2)
def xd (T U:List ByteArray):Prop:=∀(i:Nat) (t u:ByteArray),T[i]?=some t→U[i]?=some u→t.size≤u.size
theorem xd.cons {t u:ByteArray} {T U:List ByteArray} (h:t.size≤u.size) (k:xd T U):xd (t::T) (u::U):=by
 intro i a b h1 h2;cases i with
 | zero=>simp at h1 h2;subst h1 h2;exact h
 | succ i=>exact k i a b (by simpa using h1) (by simpa using h2)
theorem xd.nil (U:List ByteArray):xd [] U:=fun i t u h=>by simp at h
theorem atf:∀(K:List Cl) (s:Rd),(∀k∈K,k.W=1) →(aa9 K s).2.1=0 →
 s.1=0∧∃T R N T',s.2=T++R∧T.length=2*K.length∧N.length=K.length∧T'.length=2*K.length∧aa9 K s=(N,(0,R)) ∧(∀l,aw7 K N (0,l)=(0,l++T'))∧xd T' T∧∀R,aa9 K (0,T'++R)=(N,(0,R))
 | [],s,_,h=>⟨h,[],s.2,[],[],rfl,rfl,rfl,rfl,Prod.ext rfl (Prod.ext h rfl),fun l=>by rw[List.append_nil];rfl,xd.nil _,fun _=>rfl⟩
 | k::K,s,hK,h=>by
  obtain⟨h1,T,R,N,T',h2,h3,h4,h5,h6,h7,h8,h9⟩:=atf K (vr k s).2 (fun j hj=>hK j (List.mem_cons_of_mem _ hj)) h;obtain⟨g1,t,u,R',n,g2,g3,t',u',g4,g5,g6,g7⟩:=beh h1;rw[g3]at h2;simp only at h2;subst h2;refine⟨g1,t::u::T,R,n::N,t'::u'::T',by rw[g2];rfl,by simp[h3];omega,by simp[h4],by simp[h5];omega,?_,fun l=>?_,?_,fun R=>?_⟩
  ·show ((vr k s).1::(aa9 K (vr k s).2).1,(aa9 K (vr k s).2).2)=_;rw[h6,g3]
  ·show aw7 K N (a7d k n (0,l))=_;rw[g4,h7];simp
  ·exact xd.cons (g5 (hK k (List.mem_cons_self ..))) (xd.cons g6 h8)
  ·show ((vr k (0,t'::u'::(T'++R))).1::(aa9 K (vr k (0,t'::u'::(T'++R))).2).1,(aa9 K (vr k (0,t'::u'::(T'++R))).2).2)=_;rw[g7,h9]
def aqw:List Cl:=[⟨1,3,2,0,36000,⟨#[84]⟩⟩,⟨1,3,2,0,36000,⟨#[77]⟩⟩,⟨1,4,2,0,999999,⟨#[78]⟩⟩,⟨1,4,2,0,999999,⟨#[75]⟩⟩]
def a4p (N:List (Bool×Int)):List ByteArray×Int:=aw8 (aw7 aqw N (0,[]))
def am3 (s:ByteArray):Bool:=decide (s.size=1) && decide (65 ≤(s[0]?.getD 0).toNat) && decide ((s[0]?.getD 0).toNat≤90)
def yv (s:Rd):Rd:=if s.2=[]then s else if(qu s).1≠ByteArray.empty∧am3 (qu s).1=false then xm 3 (qu s).2 else(qu s).2
def aen:List (Bool×Int):=[(false,0),(false,0),(false,0),(false,0)]
def jc (R:List ByteArray):List (Bool×Int)×Int:=
 if R.length≠8∧R.length≠9 then(aen,3)
 else if(yv (aa9 aqw (0,R)).2).1=0 then((aa9 aqw (0,R)).1,0)else(aen,(yv (aa9 aqw (0,R)).2).1)
theorem az1 {s:Rd} (h:(yv s).1=0):s.1=0:=by
 unfold yv at h
 split at h
 ·exact h
 ·split at h
  ·exact absurd (vk h).2 dc
  ·exact(af3 h).1
theorem bfj:∀k∈aqw,k.W=1:=by simp[aqw]
theorem aw3 {R:List ByteArray} (h:(jc R).2=0):(jc R).1.length=4 ∧(a4p (jc R).1).2=0∧xd (a4p (jc R).1).1 R:=by
 unfold jc at h ⊢
 by_cases hl:R.length≠8∧R.length≠9
 ·rw[if_pos hl]at h;exact absurd h dc
 ·rw[if_neg hl]at h ⊢
  by_cases h0:(yv (aa9 aqw (0,R)).2).1=0
  ·rw[if_pos h0];obtain⟨-,T,R',N,T',h1,h2,h3,h4,h5,h6,h7,h8⟩:=atf aqw (0,R) bfj (az1 h0);rw[h5];refine⟨h3,?_⟩;unfold a4p;rw[h6];refine⟨rfl,fun i t u ht hu=>?_⟩;have ht':T'[i]?=some t:=by simpa [aw8]using ht
   have hi:i<T'.length:=(List.getElem?_eq_some_iff.1 ht').1;have hu':R[i]?=some u:=hu;rw[show R=T++R' from h1,List.getElem?_append_left om]at hu';exact h7 i t u ht' hu'
  ·rw[if_neg h0]at h;exact absurd h h0
theorem a5r {R:List ByteArray} (h:(jc R).2≠0):(jc R).1=aen:=by
 unfold jc at h ⊢
 split at h
 ·rename_i q;rw[if_pos q]
 ·rename_i q;rw[if_neg q]
  split at h
  ·exact absurd rfl h
  ·rename_i q2;rw[if_neg q2]
theorem a1b (R:List ByteArray):(jc R).1.length=4:=by
 by_cases h:(jc R).2=0
 ·exact(aw3 h).1
 ·rw[a5r h];rfl
def dgB (t:ByteArray):Bool:=decide (t.size=1) && decide (48 ≤(t[0]?.getD 0).toNat) && decide ((t[0]?.getD 0).toNat≤57)
def dgN (t:ByteArray):Int:=((t[0]?.getD 0).toNat:Int)-48
def alc (n:Int):ByteArray:=⟨#[UInt8.ofNat (48+n).toNat]⟩
def zm (lo hi:Int) (s:Rd):Int×Rd:=
 if dgB (qu s).1=true then(dgN (qu s).1,if dgN (qu s).1<lo∨hi<dgN (qu s).1 then xm 5 (qu s).2 else(qu s).2)else(0,xm 3 (qu s).2)
def ai3 (lo hi n:Int) (s:Rd):Rd:=if n<lo∨hi<n then al5 ByteArray.empty 5 s else al5 (alc n) 0 s
theorem ald (n:Int):(alc n).size=1:=rfl
theorem bck (n:Int):(alc n)[0]?=some (UInt8.ofNat (48+n).toNat):=rfl
theorem a8h {n:Int} (h0:0≤n) (h9:n≤9):dgB (alc n)=true∧dgN (alc n)=n:=by
 have hv:(UInt8.ofNat (48+n).toNat).toNat=(48+n).toNat:=by rw[UInt8.toNat_ofNat'];omega
 unfold dgB dgN;rw[ald,bck,Option.getD_some,hv];refine⟨?_,by omega⟩;simp;omega
theorem a6p {t:ByteArray} (h:dgB t=true):0≤dgN t∧dgN t≤9∧t.size=1:=by
 unfold dgB at h;simp at h;unfold dgN;omega
theorem amp (t:ByteArray) (R:List ByteArray):qu (0,t::R)=(t,(0,R)):=by simp[qu,adx]
theorem bfm {lo hi n:Int} {s:Rd} (hlo:0≤lo) (hhi:hi≤9) (h:(ai3 lo hi n s).1=0) :
 s.1=0∧lo≤n∧n≤hi ∧(∀l,ai3 lo hi n (0,l)=(0,l++[alc n]))∧ai3 lo hi n s=(0,s.2++[alc n])∧∀R,zm lo hi (0,alc n::R)=(n,(0,R)):=by
 by_cases hq:n<lo∨hi<n
 ·unfold ai3 at h;rw[if_pos hq]at h;exact absurd (vk h).2 dc
 ·have k:∀s,ai3 lo hi n s=al5 (alc n) 0 s:=fun s=>if_neg hq
  rw[k]at h;obtain⟨h1,-⟩:=vk h;obtain⟨d1,d2⟩:=a8h (n:=n) om om;refine⟨h1,by omega,by omega,fun l=>by rw[k];rfl,by rw[k];unfold al5;rw[h1];rfl,fun R=>?_⟩;unfold zm;rw[amp];simp only;rw[if_pos d1,d2,if_neg hq]
theorem azz {lo hi:Int} {s:Rd} (hlo:0≤lo) (hhi:hi≤9) (h:(zm lo hi s).2.1=0) :
 s.1=0∧∃t R n,s.2=t::R∧zm lo hi s=(n,(0,R))∧lo≤n∧n≤hi∧t.size=1 ∧(∀l,ai3 lo hi n (0,l)=(0,l++[alc n]))∧∀R,zm lo hi (0,alc n::R)=(n,(0,R)):=by
 obtain⟨e,l⟩:=s
 by_cases hd:dgB (qu (e,l)).1=true
 ·by_cases hq:dgN (qu (e,l)).1<lo∨hi<dgN (qu (e,l)).1
  ·unfold zm at h;rw[if_pos hd,if_pos hq]at h;exact absurd (vk h).2 dc
  ·have hr:zm lo hi (e,l)=(dgN (qu (e,l)).1,(qu (e,l)).2):=by unfold zm;rw[if_pos hd,if_neg hq]
   rw[hr]at h;obtain⟨h1,t,R,h2⟩:=af3 h;simp only at h1 h2;subst h1 h2;rw[amp]at hd hq hr;simp only at hd hq hr;obtain⟨d0,d9,d1⟩:=a6p hd;have hw:(ai3 lo hi (dgN t) (0,[])).1=0:=by unfold ai3;rw[if_neg hq];rfl
   obtain⟨-,w1,w2,w3,-,w5⟩:=bfm hlo hhi hw;exact⟨rfl,t,R,dgN t,rfl,hr,w1,w2,d1,w3,w5⟩
 ·unfold zm at h;rw[if_neg hd]at h;exact absurd (vk h).2 dc
abbrev V4:=(Bool×Int) ×(Bool×Int) ×(Bool×Int) ×(Bool×Int)
def aw9 (v:V4) (s:Rd):Rd:=ak6 1 2 0 0 99 v.2.2.2 (ak6 1 3 0 0 359 v.2.2.1 (ak6 1 2 0 0 90 v.2.1 (ak6 1 3 0 1 255 v.1 s)))
def yw (s:Rd):V4×Rd:=
 (((qs 1 3 0 1 255 s).1,(qs 1 2 0 0 90 (qs 1 3 0 1 255 s).2).1,(qs 1 3 0 0 359 (qs 1 2 0 0 90 (qs 1 3 0 1 255 s).2).2).1,(qs 1 2 0 0 99 (qs 1 3 0 0 359 (qs 1 2 0 0 90 (qs 1 3 0 1 255 s).2).2).2).1),
   (qs 1 2 0 0 99 (qs 1 3 0 0 359 (qs 1 2 0 0 90 (qs 1 3 0 1 255 s).2).2).2).2)
def axa (l:List V4) (s:Rd):Rd:=l.foldl (fun s v=>aw9 v s) s
def jq:Nat→Rd→List V4×Rd
 | 0,s=>([],s)
 | k+1,s=>((yw s).1::(jq k (yw s).2).1,(jq k (yw s).2).2)
theorem a9t {s:Rd} (h:(yw s).2.1=0) :
 s.1=0∧∃T R v T',s.2=T++R∧T.length=4∧T'.length=4∧yw s=(v,(0,R)) ∧(∀l,aw9 v (0,l)=(0,l++T'))∧xd T' T∧∀R,yw (0,T'++R)=(v,(0,R)):=by
 obtain⟨d1,t4,R4,n4,d2,d3,u4,d4,d5,d6⟩:=aev h;obtain⟨c1,t3,R3,n3,c2,c3,u3,c4,c5,c6⟩:=aev d1;obtain⟨b1,t2,R2,n2,b2,b3,u2,b4,b5,b6⟩:=aev c1;obtain⟨a1,t1,R1,n1,a2,a3,u1,a4,a5,a6⟩:=aev b1;rw[a3]at b2 b3 c2 c3 d2 d3;simp only at b2 b3 c2 c3 d2 d3;subst b2;rw[b3]at c2 c3 d2 d3;simp only at c2 c3 d2 d3;subst c2;rw[c3]at d2 d3;simp only at d2 d3;subst d2;refine⟨a1,[t1,t2,t3,t4],R4,(n1,n2,n3,n4),[u1,u2,u3,u4],a2,rfl,rfl,?_,fun l=>?_,?_,fun R=>?_⟩
 ·unfold yw;rw[a3];simp only;rw[b3];simp only;rw[c3];simp only;rw[d3]
 ·unfold aw9;simp only;rw[a4,b4,c4,d4];simp
 ·exact xd.cons (a5 rfl) (xd.cons (b5 rfl) (xd.cons (c5 rfl) (xd.cons (d5 rfl) (xd.nil _))))
 ·unfold yw;simp only[List.cons_append,List.nil_append,a6,b6,c6,d6]
theorem xd.append {T U T' U':List ByteArray} (h:xd T U) (hl:T.length=U.length) (k:xd T' U'):xd (T++T') (U++U'):=by
 intro i a b h1 h2;rcases Nat.lt_or_ge i T.length with q|q
 ·rw[List.getElem?_append_left q]at h1;rw[List.getElem?_append_left om]at h2;exact h i a b h1 h2
 ·rw[List.getElem?_append_right q]at h1;rw[List.getElem?_append_right om,← hl]at h2;exact k _ a b h1 h2
theorem ap0:∀(k:Nat) (s:Rd),(jq k s).2.1=0 →
 s.1=0∧∃T R l T',s.2=T++R∧T.length=4*k∧T'.length=4*k∧l.length=k∧jq k s=(l,(0,R)) ∧(∀L,axa l (0,L)=(0,L++T'))∧xd T' T∧∀R,jq k (0,T'++R)=(l,(0,R))
 | 0,s,h=>⟨h,[],s.2,[],[],rfl,rfl,rfl,rfl,Prod.ext rfl (Prod.ext h rfl),fun L=>by rw[List.append_nil];rfl,xd.nil _,fun R=>rfl⟩
 | k+1,s,h=>by
  obtain⟨h1,T,R,l,T',h2,h3,h4,h5,h6,h7,h8,h9⟩:=ap0 k (yw s).2 h;obtain⟨g1,U,R',v,U',g2,g3,g4,g5,g6,g7,g8⟩:=a9t h1;rw[g5]at h2 h6;simp only at h2 h6;subst h2;refine⟨g1,U++T,R,v::l,U'++T',by rw[g2,List.append_assoc],by simp[g3,h3];omega,by simp[g4,h4];omega,by simp[h5],?_,fun L=>?_,xd.append g7 om h8,fun R=>?_⟩
  ·show ((yw s).1::(jq k (yw s).2).1,(jq k (yw s).2).2)=_;rw[g5];simp only;rw[h6]
  ·show axa l (aw9 v (0,L))=_;rw[g6,h7,List.append_assoc]
  ·show ((yw (0,U'++T'++R)).1::(jq k (yw (0,U'++T'++R)).2).1,(jq k (yw (0,U'++T'++R)).2).2)=_;rw[List.append_assoc,g8];simp only;rw[h9]
structure a2g where
 T:Int
 N:Int
 S:Int
 L:List V4
def v6:a2g:=⟨0,0,0,[]⟩
def apv (m:a2g):List ByteArray×Int:=if 4<m.L.length then([],7)else aw8 (axa m.L (ak6 1 2 0 0 99 (true,m.S) (ai3 1 (min m.T 9) m.N (ai3 1 9 m.T (0,[])))))
def aba (s:Rd):Int×Rd:=((qs 1 2 0 0 99 s).1.2,if(qs 1 2 0 0 99 s).1.1=true then(qs 1 2 0 0 99 s).2 else xm 3 (qs 1 2 0 0 99 s).2)
def aub (n:Nat):Prop:=n<3∨19<n∨n%4≠3
instance (n:Nat):Decidable (aub n):=by unfold aub;infer_instance
def zt (R:List ByteArray):a2g×Int:=
 if aub R.length then(v6,3)
 else if(jq ((R.length-3) / 4) (aba (zm 1 (zm 1 9 (0,R)).1 (zm 1 9 (0,R)).2).2).2).2.1=0 then
  (⟨(zm 1 9 (0,R)).1,(zm 1 (zm 1 9 (0,R)).1 (zm 1 9 (0,R)).2).1,(aba (zm 1 (zm 1 9 (0,R)).1 (zm 1 9 (0,R)).2).2).1,(jq ((R.length-3) / 4) (aba (zm 1 (zm 1 9 (0,R)).1 (zm 1 9 (0,R)).2).2).2).1⟩,0)
 else(v6,(jq ((R.length-3) / 4) (aba (zm 1 (zm 1 9 (0,R)).1 (zm 1 9 (0,R)).2).2).2).2.1)
theorem a9q {s:Rd} (h:(aba s).2.1=0):s.1=0∧∃t R n,s.2=t::R∧aba s=(n,(0,R))∧∃t',(∀l,ak6 1 2 0 0 99 (true,n) (0,l)=(0,l++[t']))∧t'.size≤t.size∧∀R,aba (0,t'::R)=(n,(0,R)):=by
 by_cases hb:(qs 1 2 0 0 99 s).1.1=true
 ·have hr:aba s=((qs 1 2 0 0 99 s).1.2,(qs 1 2 0 0 99 s).2):=by unfold aba;rw[if_pos hb]
  rw[hr]at h;obtain⟨h1,t,R,n,h2,h3,t',h4,h5,h6⟩:=aev h;rw[h3]at hb hr;obtain⟨b,n⟩:=n;simp only at hb hr;subst hb;refine⟨h1,t,R,n,h2,hr,t',h4,h5 rfl,fun R=>?_⟩;unfold aba;rw[h6];rfl
 ·unfold aba at h;rw[if_neg hb]at h;exact absurd (vk h).2 dc
theorem au3 {R:List ByteArray} (h:(zt R).2=0):(zt R).1.L.length≤4 ∧(apv (zt R).1).2=0 ∧(apv (zt R).1).1.length=R.length∧xd (apv (zt R).1).1 R:=by
 by_cases hb:aub R.length
 ·unfold zt at h;rw[if_pos hb]at h;exact absurd h dc
 ·have hb2:=hb;unfold aub at hb2
  by_cases h0:(jq ((R.length-3) / 4) (aba (zm 1 (zm 1 9 (0,R)).1 (zm 1 9 (0,R)).2).2).2).2.1=0
  ·have ht:zt R=(⟨(zm 1 9 (0,R)).1,(zm 1 (zm 1 9 (0,R)).1 (zm 1 9 (0,R)).2).1,(aba (zm 1 (zm 1 9 (0,R)).1 (zm 1 9 (0,R)).2).2).1,(jq ((R.length-3) / 4) (aba (zm 1 (zm 1 9 (0,R)).1 (zm 1 9 (0,R)).2).2).2).1⟩,0):=by
    unfold zt;rw[if_neg hb,if_pos h0]
   obtain⟨h1,V,R4,L,V',h2,h3,h4,h5,h6,h7,h8,h9⟩:=ap0 _ _ h0;obtain⟨g1,t3,R3,n3,g2,g3,u3,g4,g5,g6⟩:=a9q h1
   have hT9:(zm 1 9 (0,R)).1≤9:=by
    unfold zm
    split
    ·rename_i q;exact(a6p q).2.1
    ·exact(by decide:(0:Int)≤9)
   obtain⟨f1,t2,R2,n2,f2,f3,f4,f5,f6,f7,f8⟩:=azz om hT9 g1;obtain⟨e1,t1,R1,n1,e2,e3,e4,e5,e6,e7,e8⟩:=azz om om f1;rw[e3]at f2 f3 f5 f7 f8 g2 g3 h2 h6 ht;simp only at f2 f3 f5 f7 f8 g2 g3 h2 h6 ht;subst f2;rw[f3]at g2 g3 h2 h6 ht;simp only at g2 g3 h2 h6 ht;subst g2;rw[g3]at h2 h6 ht;simp only at h2 h6 ht;subst h2;rw[h6]at ht;simp only at ht e2;subst e2;have hlen:¬4<L.length:=by simp only[List.length_cons,List.length_append]at h5 hb2;omega
   have hp:apv ⟨n1,n2,n3,L⟩=(alc n1::alc n2::u3::V',0):=by
    unfold apv;rw[if_neg hlen];simp only;rw[show min n1 9=n1 from by omega,e7,f7,g4,h7];simp[aw8]
   rw[ht];simp only;rw[hp]
   have hR4:R4=[]:=by
    have h10:(t1::t2::t3::(V++R4)).length=3+4*((t1::t2::t3::(V++R4)).length-3) / 4+R4.length-0:=by
     simp only[List.length_cons,List.length_append]at h3 hb2 ⊢;omega
    exact List.eq_nil_of_length_eq_zero (by simp only[List.length_cons,List.length_append]at h3 hb2;omega)
   subst hR4;refine⟨by omega,rfl,?_,?_⟩
   ·simp only[List.length_cons,List.length_append,List.length_nil]at h3 h4 ⊢;omega
   ·rw[List.append_nil];exact xd.cons (by rw[ald];omega) (xd.cons (by rw[ald];omega) (xd.cons g5 h8))
  ·unfold zt at h;rw[if_neg hb,if_neg h0]at h;exact absurd h h0
theorem a5n {R:List ByteArray} (h:(zt R).2≠0):(zt R).1=v6:=by
 unfold zt at h ⊢
 split at h
 ·rename_i q;rw[if_pos q]
 ·rename_i q;rw[if_neg q]
  split at h
  ·exact absurd rfl h
  ·rename_i q2;rw[if_neg q2]
def qw (g:Nat) (s:Rd) (w:World):Prop:=∃Q,ab8 Q w g s.1 s.2 ∧(∀b,Q b→b<g)∧∀t∈s.2,t.size≤1000000
theorem qw.keep {g:Nat} {s:Rd} {w w':World} (h:qw g s w) (hb:Below w.1.size w w'):qw g s w':=by
 obtain⟨Q,h1,h2,h3⟩:=h;exact⟨Q,h1.keep hb,h2,h3⟩
theorem qw.far {g G o:Nat} {s:Rd} {w:World} {u:Value} (h:qw g s w) (hG:g<G):qw g s (w.setCell ⟨G,o,none⟩ u):=by
 obtain⟨Q,h1,h2,h3⟩:=h;exact⟨Q,h1.far (fun q=>by have:=h2 _ q;omega) om,h2,h3⟩
theorem qw.lt {g:Nat} {s:Rd} {w:World} (h:qw g s w):g<w.1.size:=by
 obtain⟨Q,⟨A,c,h0,h1,h2,h3,h4,-⟩,-⟩:=h;exact h4
theorem af2 {l:List ByteArray} {N:Nat} (h:∀t∈l,t.size≤N):∀t∈l.tail,t.size≤N:=fun t ht=>h t (List.mem_of_mem_tail ht)
theorem agt {l:List ByteArray} {N:Nat} (h:∀t∈l,t.size≤N):(l.headD ByteArray.empty).size≤N:=by
 cases l with
 | nil=>simp
 | cons a l=>exact h a (List.mem_cons_self ..)
def jp (g:Nat) (x:Value) (s:Rd) (w:World) (r:Ending) (w':World):Prop:=r=.returned x∧qw g s w'∧Frm g kw w w'
theorem qw.post {Q:Nat→Prop} {g:Nat} {x:Value} {s:Rd} {w w':World} {r:Ending} (h2:∀b,Q b→b<g) (h3:∀t∈s.2,t.size≤1000000) (h:abw Q g x s.1 s.2 w r w'):jp g x s w r w':=
 ⟨h.1,⟨Q,h.2.1,h2,h3⟩,h.2.2⟩
theorem j6 {g:Nat} {s t:Rd} {w:World} {b:Bool} {n W M F L H:Int} (ht:Hid (qs W M F L H s=((b,n),t))) (hp:qw g s w) :
 Calls Tryz.prog 136 #[.pointer (some ⟨g,0,none⟩),jv W M F L H] w (jp g (ji b n) t w):=by
 have ht:=ht.out;have hg:=hp.lt;obtain⟨Q,h1,h2,h3⟩:=hp;injection ht with e1 e2
 injection e1 with e3 e4
 subst e2 e3 e4;exact(a2d g s.1 s.2 W M F L H w h1 (fun b q=>Nat.lt_trans (h2 b q) hg) hg (agt h3)).mono fun r w' h=>qw.post (s:=(qs W M F L H s).2) h2 (af2 h3) h
theorem zb {g:Nat} {s t:Rd} {w:World} {a:ByteArray} (ht:Hid (qu s=(a,t))) (hp:qw g s w) :
 Calls Tryz.prog 152 #[.pointer (some ⟨g,0,none⟩)] w (jp g (.string a) t w):=by
 have ht:=ht.out;obtain⟨Q,h1,h2,h3⟩:=hp;injection ht with e1 e2
 subst e1 e2;exact(ad1 g s.1 s.2 w h1).mono fun r w' h=>qw.post (s:=(qu s).2) h2 (af2 h3) h
theorem xi {g:Nat} {s t:Rd} {w:World} {E:Int} (ht:Hid (xm E s=t)) (hp:qw g s w) :
 Calls Tryz.prog 149 #[.pointer (some ⟨g,0,none⟩),.int .i64 E] w (jp g (.tuple #[]) t w):=by
 have ht:=ht.out;obtain⟨Q,h1,h2,h3⟩:=hp;subst ht;exact(agk g s.1 E s.2 w h1).mono fun r w' h=>qw.post (s:=xm E s) h2 h3 h
theorem ao8 {g:Nat} {s:Rd} {w:World} (hp:qw g s w) :
 Calls Tryz.prog 147 #[.pointer (some ⟨g,0,none⟩)] w fun r w'=>r=.returned (.int .i64 s.1)∧w=w':=by
 obtain⟨Q,h1,h2,h3⟩:=hp;exact a2c g s.1 s.2 w h1
theorem aka {g:Nat} {s:Rd} {w:World} (hp:qw g s w) :
 Calls Tryz.prog 175 #[.pointer (some ⟨g,0,none⟩)] w fun r w'=>r=.returned (.int .i64 (s.2.length:Int))∧w=w':=by
 obtain⟨Q,h1,h2,h3⟩:=hp;exact axf g s.1 s.2 w h1
theorem akb {A:Option Addr} {R:List ByteArray} {c:Nat} {w:World} (hA:A=none→c=0) (hs:vg w w.1.size A R) (hn:R.length≤1000000) (ht:∀t∈R,t.size≤1000000) :
 Calls Tryz.prog 135 #[.slice A R.length c] w fun r w'=>∃g,r=.returned (.pointer (some ⟨g,0,none⟩))∧qw g (0,R) w'∧w.1.size≤g∧w'.1.size=g+1∧Below w.1.size w w':=
 (bbs A R c w hA hs hn).mono fun r w' ⟨g,h1,h2,h3,h4,h5⟩=>⟨g,h1,⟨_,h2,fun b q=>q.2,ht⟩,h3,h4,h5⟩
def air (s:Rd):Clk×Rd:=((yx (qu s).1.data.toList).1,xm (yx (qu s).1.data.toList).2 (qu s).2)
def azy (s:Rd):Dat×Rd:=((ab5 (qu s).1.data.toList).1,xm (ab5 (qu s).1.data.toList).2 (qu s).2)
def acz (lat:Bool) (s:Rd):(Bool×Int)×Rd:=
 (((aa0 (s.2.headD ByteArray.empty).data.toList (s.2.tail.headD ByteArray.empty) lat).1,(aa0 (s.2.headD ByteArray.empty).data.toList (s.2.tail.headD ByteArray.empty) lat).2.1),
   (aaq (ac0 (ac0 s.1 s.2) s.2.tail) (aa0 (s.2.headD ByteArray.empty).data.toList (s.2.tail.headD ByteArray.empty) lat).2.2,s.2.tail.tail))
theorem auo {g:Nat} {s t:Rd} {w:World} {lat b:Bool} {n:Int} (ht:Hid (acz lat s=((b,n),t))) (hp:qw g s w) :
 Calls Tryz.prog 137 #[.pointer (some ⟨g,0,none⟩),.bool lat] w (jp g (ji b n) t w):=by
 have ht:=ht.out;have hg:=hp.lt;obtain⟨Q,h1,h2,h3⟩:=hp;injection ht with e1 e2
 injection e1 with e3 e4
 subst e2 e3 e4;exact(at1 g s.1 s.2 lat w h1 (fun b q=>Nat.lt_trans (h2 b q) hg) hg (agt h3)).mono fun r w' h=>qw.post (s:=(acz lat s).2) h2 (af2 (af2 h3)) h
def agh {α β:Type} (f:Rd→α×Rd) (g:Rd→β×Rd) (s:Rd):(α×β)×Rd:=(((f s).1,(g (f s).2).1),(g (f s).2).2)
abbrev N2:=Bool×Int
def zN:N2:=(false,0)
abbrev axh:=Clk×N2×N2×Int×N2×N2×N2×N2×N2×N2
def bjo:Cl:=⟨1,6,1,-9999999,9999999,⟨#[77]⟩⟩
def bjw:Cl:=⟨1,4,1,-99999,99999,⟨#[77]⟩⟩
def bcv:Rd→axh×Rd:=agh air (agh (acz true) (agh (acz false) (agh (zm 0 8) (agh (qs 1 2 0 0 99) (agh (qs 1 3 2 0 99999) (agh (vr bjo) (agh (vr bjw) (agh (qs 1 4 1 0 99999) (qs 1 4 0 0 1023)))))))))
def ys:axh:=(zC,zN,zN,0,zN,zN,zN,zN,zN,zN)
def vv (R:List ByteArray):axh×Int:=if R.length≠14 then(ys,3)else if(bcv (0,R)).2.1=0 then((bcv (0,R)).1,0)else(ys,(bcv (0,R)).2.1)
def a9r (s:Rd):Bool×Rd:=(decide ((qu s).1=⟨#[65]⟩),if(qu s).1 ≠⟨#[65]⟩ ∧(qu s).1 ≠⟨#[86]⟩then xm 3 (qu s).2 else(qu s).2)
def eT:ByteArray:=⟨#[69]⟩
def wT:ByteArray:=⟨#[87]⟩
def beu (n:N2) (d:ByteArray) (s:Rd):N2×Rd:=
 if(n.1=true∧d≠eT∧d≠wT) ∨(n.1=false∧d≠ByteArray.empty)then(n,xm 3 s)else if d=wT then((n.1,-n.2),s)else(n,s)
def ath (s:Rd):N2×Rd:=beu (qs 1 3 1 0 1800 s).1 (qu (qs 1 3 1 0 1800 s).2).1 (qu (qs 1 3 1 0 1800 s).2).2
abbrev axk:=Clk×Bool×N2×N2×N2×N2×Dat×N2
def ben:Rd→axk×Rd:=agh air (agh a9r (agh (acz true) (agh (acz false) (agh (qs 1 4 2 0 999999) (agh (qs 1 3 2 0 36000) (agh azy ath))))))
def yt:axk:=(zC,false,zN,zN,zN,zN,zD,zN)
def vw (R:List ByteArray):axk×Int:=
 if R.length≠11∧R.length≠12 then(yt,3)else if(yv (ben (0,R)).2).1=0 then((ben (0,R)).1,0)else(yt,(yv (ben (0,R)).2).1)
end Go.Proofs.YtdkhlkfleggbaaaGreat
