/- Parts. -/
import Derived.Test.YtdkhlkfleggbaaaGreatV10
namespace Go.Proofs.YtdkhlkfleggbaaaGreat
open Tryz
set_option linter.unusedVariables false
open Go.RowKit
theorem awu {l:List UInt8} {a m f n:Nat} (h:akq l a m f n) (ha:1<=a) (hmf:m+f<=18):(aj6 n 1 f).length<=l.length:=by
 obtain⟨A,T,rfl,hA,h1,h2,h3⟩:=h;have hv:=ai0 A hA;have hp:0<10^f:=b3x dc;unfold aj6;rw[e9,e9];rcases h3 with⟨rfl,rfl⟩|⟨B,rfl,hB,h4,h5,rfl⟩
 ·rw[Nat.mul_div_cancel _ hp,Nat.mul_mod_left];have:=aos (l:=1) hv om;show _ +([]:List UInt8).length<=_
  simpa using this
 ·have hvb:=ai0 B hB
  have hr:aac B*10^(f-B.length)<10^f:=by
   have:aac B*10^(f-B.length)<10^B.length*10^(f-B.length):=b4p hvb (b3x dc)
   rwa [<- b3z,show B.length +(f-B.length)=f from by omega]at this
  have e1:(aac A*10^f+aac B*10^(f-B.length)) / 10^f=aac A:=by
   rw[b3r,Nat.mul_add_div hp,Nat.div_eq_of_lt hr,b3d]
  have e2:(aac A*10^f+aac B*10^(f-B.length))%10^f=aac B*10^(f-B.length):=by
   rw[b3r,Nat.mul_add_mod,b29 hr]
  rw[e1,e2];have k1:=aos (l:=1) hv om;have k2:=a22 (aac B) (f-B.length) f hr om om;rw[n6];omega
theorem bhr {l:List UInt8} {b:Bool} {n W M F L H:Int} (h:j4 l W M F L H=(b,n,0)) :
 ∃t:ByteArray,awv b n W M F L H=(t,0) /\(W=1->t.size<=l.length):=by
 unfold j4 at h
 by_cases hr:abq W M F L H=false
 ·rw[if_pos hr]at h;simp at h
 rw[if_neg hr]at h
 by_cases h0:l=[]
 ·rw[if_pos h0]at h;injection h with h1 h2
  injection h2 with h2 h3
  subst h1 h2;refine⟨ByteArray.empty,?_,λ_=>by show 0<=_;omega⟩;unfold awv;rw[if_neg hr,if_neg (by unfold aa5;simp),if_pos rfl]
 rw[if_neg h0]at h;obtain⟨w,m,f,rfl,rfl,rfl,g1,g2,g3,g4,g5,g6⟩:=a1y (by simpa using hr);rw[b1v,b1v]at h;cases hq:yv (afk l) 1 m f with
 | none=>rw[hq]at h;simp at h
 | some k=>
  rw[hq]at h;dsimp only at h
  by_cases hf:aa5 true (if ai5 l then -(k:Int)else(k:Int)) L H=true
  ·rw[if_pos hf]at h;injection h with h1 h2
   injection h2 with h2 h3
   subst h1;rw[h2]at hf;have ht:=awu (a6i hq) (a8 _) om;have hab:n.natAbs=k:=by split at h2<;>omega
   unfold awv;rw[if_neg hr,if_neg (by rw[hf];decide),if_neg dc,b1v,b1v]
   by_cases hn:n<0
   ·rw[if_pos hn,show (-n).toNat=k from by omega];refine⟨_,rfl,λe=>?_⟩;have hw:w=1:=by omega
    subst hw
    have hneg:ai5 l=true:=by
     cases hg:ai5 l with
     | true=>rfl
     | false=>rw[hg]at h2;simp at h2;omega
    unfold afk at ht;rw[hneg,if_pos rfl,n5]at ht;have:0<l.length:=b2q.2 h0;rw[bhe,n6];omega
   ·rw[if_neg hn,show n.toNat=k from by omega];refine⟨_,rfl,λe=>?_⟩;have hw:w=1:=by omega
    subst hw;rw[bhe];refine p9 ht ?_;unfold afk
    split
    ·rw[n5];omega
    ·omega
  ·rw[if_neg hf]at h;simp at h
abbrev Rd:=Int×List ByteArray
def qw (s:Rd):ByteArray×Rd:=(s.2.headD ByteArray.empty,(adh s.1 s.2,s.2.tail))
def qu (W M F L H:Int) (s:Rd):(Bool×Int)×Rd:=
 (((j4 (s.2.headD ByteArray.empty).data.toList W M F L H).1,(j4 (s.2.headD ByteArray.empty).data.toList W M F L H).2.1),(aa4 (adh s.1 s.2) (j4 (s.2.headD ByteArray.empty).data.toList W M F L H).2.2,s.2.tail))
def xu (E:Int) (s:Rd):Rd:=(aa4 s.1 E,s.2)
def am8 (t:ByteArray) (E:Int) (s:Rd):Rd:=(aa4 s.1 E,s.2++[t])
def al2 (W M F L H:Int) (n:Bool×Int) (s:Rd):Rd:=(aa4 s.1 (awv n.1 n.2 W M F L H).2,s.2++[(awv n.1 n.2 W M F L H).1])
def ayn (s:Rd):List ByteArray×Int:=(if s.1=0 then s.2 else [],s.1)
theorem yb {e E:Int} (h:aa4 e E=0):e=0/\E=0:=by
 unfold aa4 at h
 by_cases he:e=0
 ·rw[if_pos he]at h;exact⟨he,h⟩
 ·rw[if_neg he]at h;exact absurd h he
theorem agx {e:Int} {R:List ByteArray} (h:adh e R=0):e=0/\∃t R',R=t::R':=by
 unfold adh at h;cases R with
 | nil=>rw[if_pos rfl]at h;exact absurd (yb h).2 dc
 | cons t R'=>rw[if_neg sm]at h;exact⟨h,t,R',rfl⟩
theorem aeo (e:Int) (t:ByteArray) (R:List ByteArray):adh e (t::R)=e:=if_neg sm
theorem afs {W M F L H:Int} {s:Rd} (h:(qu W M F L H s).2.1=0) :
 s.1=0/\∃t R n,s.2=t::R/\qu W M F L H s=(n,(0,R))/\∃t',(∀l,al2 W M F L H n (0,l)=(0,l++[t'])) /\(W=1->t'.size<=t.size)/\∀R,qu W M F L H (0,t'::R)=(n,(0,R)):=by
 obtain⟨h1,h2⟩:=yb h;obtain⟨h3,t,R,h4⟩:=agx h1;obtain⟨e,l⟩:=s;simp only at h3 h4;subst h3 h4;simp only[b5k]at h2;obtain⟨b,n,E⟩:Bool×Int×Int:=j4 t.data.toList W M F L H;have hT:j4 t.data.toList W M F L H=((j4 t.data.toList W M F L H).1,(j4 t.data.toList W M F L H).2.1,0):=by rw[<- h2]
 obtain⟨t',h5,h6⟩:=bhr hT;refine⟨rfl,t,R,((j4 t.data.toList W M F L H).1,(j4 t.data.toList W M F L H).2.1),rfl,?_,t',λl=>?_,λhW=>?_,λR=>?_⟩
 ·unfold qu;simp only[b5k,List.tail_cons,h2,aeo];rfl
 ·unfold al2;rw[h5];rfl
 ·have:=h6 hW
  simpa using this
 ·have h7:=bgx (by rw[h5]:(awv (j4 t.data.toList W M F L H).1 (j4 t.data.toList W M F L H).2.1 W M F L H).2=0);rw[h5]at h7;unfold qu;rw[aeo];simp only[b5k,List.tail_cons]at h7 ⊢;rw[h7];rfl
structure Cl where
 W:Int
 M:Int
 F:Int
 L:Int
 H:Int
 c:ByteArray
def au1 (b:Bool) (c:ByteArray):ByteArray:=if b=true then c else ByteArray.empty
def vr (c:ByteArray) (b:Bool) (s:Rd):Rd:=if(qw s).1≠c /\(b=true \/(qw s).1≠ByteArray.empty)then xu 3 (qw s).2 else(qw s).2
def ye (k:Cl) (s:Rd):(Bool×Int)×Rd:=((qu k.W k.M k.F k.L k.H s).1,vr k.c (qu k.W k.M k.F k.L k.H s).1.1 (qu k.W k.M k.F k.L k.H s).2)
def a9o (k:Cl) (n:Bool×Int) (s:Rd):Rd:=am8 (au1 n.1 k.c) 0 (al2 k.W k.M k.F k.L k.H n s)
theorem a6z (c:ByteArray) (b:Bool) (R:List ByteArray):vr c b (0,au1 b c::R)=(0,R):=by
 unfold vr qw au1;cases b<;>simp[aeo]
theorem bb9 {c:ByteArray} {b:Bool} {s:Rd} (h:(vr c b s).1=0):s.1=0/\∃u R,s.2=u::R/\vr c b s=(0,R) /\(au1 b c).size<=u.size:=by
 obtain⟨e,l⟩:=s
 by_cases hq:(qw (e,l)).1≠c /\(b=true \/(qw (e,l)).1≠ByteArray.empty)
 ·unfold vr at h;rw[if_pos hq]at h;exact absurd (yb h).2 dc
 ·have h0:=h;unfold vr at h0 ⊢;rw[if_neg hq]at h0 ⊢;obtain⟨h1,u,R,h2⟩:=agx h0;simp only at h1 h2;subst h1 h2;refine⟨rfl,u,R,rfl,by simp[qw,aeo],?_⟩;unfold au1;cases b with
  | false=>simp
  | true=>
   have:u=c:=Classical.byContradiction λq=>hq ⟨by simpa [qw]using q,.inl rfl⟩
   rw[this];simp
theorem bg0 {k:Cl} {s:Rd} (h:(ye k s).2.1=0) :
 s.1=0/\∃t u R n,s.2=t::u::R/\ye k s=(n,(0,R))/\∃t' u',(∀l,a9o k n (0,l)=(0,l++[t',u'])) /\(k.W=1->t'.size<=t.size)/\u'.size<=u.size/\∀R,ye k (0,t'::u'::R)=(n,(0,R)):=by
 obtain⟨h1,u,R,h2,h3,h4⟩:=bb9 h;obtain⟨h5,t,R',n,h6,h7,t',h8,h9,h10⟩:=afs h1;rw[h7]at h2;simp only at h2;subst h2;refine⟨h5,t,u,R,n,h6,?_,t',au1 n.1 k.c,λl=>?_,h9,?_,λR=>?_⟩
 ·unfold ye;rw[h3,h7]
 ·unfold a9o;rw[h8];simp[am8,aa4]
 ·rw[h7]at h4;exact h4
 ·unfold ye;rw[h10];simp only;rw[a6z]
def aym:List Cl->List (Bool×Int)->Rd->Rd
 | k::K,n::N,s=>aym K N (a9o k n s)
 | _,_,s=>s
def abo:List Cl->Rd->List (Bool×Int)×Rd
 | [],s=>([],s)
 | k::K,s=>((ye k s).1::(abo K (ye k s).2).1,(abo K (ye k s).2).2)
def xh (T U:List ByteArray):Prop:=∀(i:Nat) (t u:ByteArray),T[i]?=some t->U[i]?=some u->t.size<=u.size
theorem xh.cons {t u:ByteArray} {T U:List ByteArray} (h:t.size<=u.size) (k:xh T U):xh (t::T) (u::U):=by
 intro i a b h1 h2;cases i with
 | zero=>simp at h1 h2;subst h1 h2;exact h
 | succ i=>exact k i a b (by simpa using h1) (by simpa using h2)
theorem xh.nil (U:List ByteArray):xh [] U:=λi t u h=>by simp at h
theorem aui:∀(K:List Cl) (s:Rd),(∀k∈K,k.W=1) ->(abo K s).2.1=0 ->
 s.1=0/\∃T R N T',s.2=T++R/\T.length=2*K.length/\N.length=K.length/\T'.length=2*K.length/\abo K s=(N,(0,R)) /\(∀l,aym K N (0,l)=(0,l++T'))/\xh T' T/\∀R,abo K (0,T'++R)=(N,(0,R))
 | [],s,_,h=>⟨h,[],s.2,[],[],rfl,rfl,rfl,rfl,b5m rfl (b5m h rfl),λl=>by rw[b0p];rfl,xh.nil _,λ_=>rfl⟩
 | k::K,s,hK,h=>by
  obtain⟨h1,T,R,N,T',h2,h3,h4,h5,h6,h7,h8,h9⟩:=aui K (ye k s).2 (λj hj=>hK j (b13 _ hj)) h;obtain⟨g1,t,u,R',n,g2,g3,t',u',g4,g5,g6,g7⟩:=bg0 h1;rw[g3]at h2;simp only at h2;subst h2;refine⟨g1,t::u::T,R,n::N,t'::u'::T',by rw[g2];rfl,by simp[h3];omega,by simp[h4],by simp[h5];omega,?_,λl=>?_,?_,λR=>?_⟩
  ·show ((ye k s).1::(abo K (ye k s).2).1,(abo K (ye k s).2).2)=_;rw[h6,g3]
  ·show aym K N (a9o k n (0,l))=_;rw[g4,h7];simp
  ·exact xh.cons (g5 (hK k (b1x ..))) (xh.cons g6 h8)
  ·show ((ye k (0,t'::u'::(T'++R))).1::(abo K (ye k (0,t'::u'::(T'++R))).2).1,(abo K (ye k (0,t'::u'::(T'++R))).2).2)=_;rw[g7,h9]
def arx:List Cl:=[⟨1,3,2,0,36000,⟨#[84]⟩⟩,⟨1,3,2,0,36000,⟨#[77]⟩⟩,⟨1,4,2,0,999999,⟨#[78]⟩⟩,⟨1,4,2,0,999999,⟨#[75]⟩⟩]
def a6p (N:List (Bool×Int)):List ByteArray×Int:=ayn (aym arx N (0,[]))
def an8 (s:ByteArray):Bool:=decide (s.size=1) && decide (65 <=(s[0]?.getD 0).toNat) && decide ((s[0]?.getD 0).toNat<=90)
def aak (s:Rd):Rd:=if s.2=[]then s else if(qw s).1≠ByteArray.empty/\an8 (qw s).1=false then xu 3 (qw s).2 else(qw s).2
def afg:List (Bool×Int):=[(false,0),(false,0),(false,0),(false,0)]
def jj (R:List ByteArray):List (Bool×Int)×Int:=
 if R.length≠8/\R.length≠9 then(afg,3)
 else if(aak (abo arx (0,R)).2).1=0 then((abo arx (0,R)).1,0)else(afg,(aak (abo arx (0,R)).2).1)
theorem a1u {s:Rd} (h:(aak s).1=0):s.1=0:=by
 unfold aak at h
 split at h
 ·exact h
 ·split at h
  ·exact absurd (yb h).2 dc
  ·exact(agx h).1
theorem bh3:∀k∈arx,k.W=1:=by simp[arx]
theorem ayi {R:List ByteArray} (h:(jj R).2=0):(jj R).1.length=4 /\(a6p (jj R).1).2=0/\xh (a6p (jj R).1).1 R:=by
 unfold jj at h ⊢
 by_cases hl:R.length≠8/\R.length≠9
 ·rw[if_pos hl]at h;exact absurd h dc
 ·rw[if_neg hl]at h ⊢
  by_cases h0:(aak (abo arx (0,R)).2).1=0
  ·rw[if_pos h0];obtain⟨-,T,R',N,T',h1,h2,h3,h4,h5,h6,h7,h8⟩:=aui arx (0,R) bh3 (a1u h0);rw[h5];refine⟨h3,?_⟩;unfold a6p;rw[h6];refine⟨rfl,λi t u ht hu=>?_⟩;have ht':T'[i]?=some t:=by simpa [ayn]using ht
   have hi:i<T'.length:=(b11.1 ht').1;have hu':R[i]?=some u:=hu;rw[show R=T++R' from h1,b0e om]at hu';exact h7 i t u ht' hu'
  ·rw[if_neg h0]at h;exact absurd h h0
theorem a72 {R:List ByteArray} (h:(jj R).2≠0):(jj R).1=afg:=by
 unfold jj at h ⊢
 split at h
 ·rename_i q;rw[if_pos q]
 ·rename_i q;rw[if_neg q]
  split at h
  ·exact absurd rfl h
  ·rename_i q2;rw[if_neg q2]
theorem a25 (R:List ByteArray):(jj R).1.length=4:=by
 by_cases h:(jj R).2=0
 ·exact(ayi h).1
 ·rw[a72 h];rfl
def dgB (t:ByteArray):Bool:=decide (t.size=1) && decide (48 <=(t[0]?.getD 0).toNat) && decide ((t[0]?.getD 0).toNat<=57)
def dgN (t:ByteArray):Int:=((t[0]?.getD 0).toNat:Int)-48
def amd (n:Int):ByteArray:=⟨#[UInt8.ofNat (48+n).toNat]⟩
def zl (lo hi:Int) (s:Rd):Int×Rd:=
 if dgB (qw s).1=true then(dgN (qw s).1,if dgN (qw s).1<lo\/hi<dgN (qw s).1 then xu 5 (qw s).2 else(qw s).2)else(0,xu 3 (qw s).2)
def ajs (lo hi n:Int) (s:Rd):Rd:=if n<lo\/hi<n then am8 ByteArray.empty 5 s else am8 (amd n) 0 s
theorem ame (n:Int):(amd n).size=1:=rfl
theorem be4 (n:Int):(amd n)[0]?=some (UInt8.ofNat (48+n).toNat):=rfl
theorem bat {n:Int} (h0:0<=n) (h9:n<=9):dgB (amd n)=true/\dgN (amd n)=n:=by
 have hv:(UInt8.ofNat (48+n).toNat).toNat=(48+n).toNat:=by rw[b34];omega
 unfold dgB dgN;rw[ame,be4,Option.getD_some,hv];refine⟨?_,by omega⟩;simp;omega
theorem a81 {t:ByteArray} (h:dgB t=true):0<=dgN t/\dgN t<=9/\t.size=1:=by
 unfold dgB at h;simp at h;unfold dgN;omega
theorem ans (t:ByteArray) (R:List ByteArray):qw (0,t::R)=(t,(0,R)):=by simp[qw,aeo]
theorem bh6 {lo hi n:Int} {s:Rd} (hlo:0<=lo) (hhi:hi<=9) (h:(ajs lo hi n s).1=0) :
 s.1=0/\lo<=n/\n<=hi /\(∀l,ajs lo hi n (0,l)=(0,l++[amd n]))/\ajs lo hi n s=(0,s.2++[amd n])/\∀R,zl lo hi (0,amd n::R)=(n,(0,R)):=by
 by_cases hq:n<lo\/hi<n
 ·unfold ajs at h;rw[if_pos hq]at h;exact absurd (yb h).2 dc
 ·have k:∀s,ajs lo hi n s=am8 (amd n) 0 s:=λs=>if_neg hq
  rw[k]at h;obtain⟨h1,-⟩:=yb h;obtain⟨d1,d2⟩:=bat (n:=n) om om;refine⟨h1,by omega,by omega,λl=>by rw[k];rfl,by rw[k];unfold am8;rw[h1];rfl,λR=>?_⟩;unfold zl;rw[ans];simp only;rw[if_pos d1,d2,if_neg hq]
theorem a1s {lo hi:Int} {s:Rd} (hlo:0<=lo) (hhi:hi<=9) (h:(zl lo hi s).2.1=0) :
 s.1=0/\∃t R n,s.2=t::R/\zl lo hi s=(n,(0,R))/\lo<=n/\n<=hi/\t.size=1 /\(∀l,ajs lo hi n (0,l)=(0,l++[amd n]))/\∀R,zl lo hi (0,amd n::R)=(n,(0,R)):=by
 obtain⟨e,l⟩:=s
 by_cases hd:dgB (qw (e,l)).1=true
 ·by_cases hq:dgN (qw (e,l)).1<lo\/hi<dgN (qw (e,l)).1
  ·unfold zl at h;rw[if_pos hd,if_pos hq]at h;exact absurd (yb h).2 dc
  ·have hr:zl lo hi (e,l)=(dgN (qw (e,l)).1,(qw (e,l)).2):=by unfold zl;rw[if_pos hd,if_neg hq]
   rw[hr]at h;obtain⟨h1,t,R,h2⟩:=agx h;simp only at h1 h2;subst h1 h2;rw[ans]at hd hq hr;simp only at hd hq hr;obtain⟨d0,d9,d1⟩:=a81 hd;have hw:(ajs lo hi (dgN t) (0,[])).1=0:=by unfold ajs;rw[if_neg hq];rfl
   obtain⟨-,w1,w2,w3,-,w5⟩:=bh6 hlo hhi hw;exact⟨rfl,t,R,dgN t,rfl,hr,w1,w2,d1,w3,w5⟩
 ·unfold zl at h;rw[if_neg hd]at h;exact absurd (yb h).2 dc
abbrev V4:=(Bool×Int) ×(Bool×Int) ×(Bool×Int) ×(Bool×Int)
def ayo (v:V4) (s:Rd):Rd:=al2 1 2 0 0 99 v.2.2.2 (al2 1 3 0 0 359 v.2.2.1 (al2 1 2 0 0 90 v.2.1 (al2 1 3 0 1 255 v.1 s)))
def aal (s:Rd):V4×Rd:=
 (((qu 1 3 0 1 255 s).1,(qu 1 2 0 0 90 (qu 1 3 0 1 255 s).2).1,(qu 1 3 0 0 359 (qu 1 2 0 0 90 (qu 1 3 0 1 255 s).2).2).1,(qu 1 2 0 0 99 (qu 1 3 0 0 359 (qu 1 2 0 0 90 (qu 1 3 0 1 255 s).2).2).2).1),
   (qu 1 2 0 0 99 (qu 1 3 0 0 359 (qu 1 2 0 0 90 (qu 1 3 0 1 255 s).2).2).2).2)
def ayp (l:List V4) (s:Rd):Rd:=l.foldl (λs v=>ayo v s) s
def jx:Nat->Rd->List V4×Rd
 | 0,s=>([],s)
 | k+1,s=>((aal s).1::(jx k (aal s).2).1,(jx k (aal s).2).2)
theorem bca {s:Rd} (h:(aal s).2.1=0) :
 s.1=0/\∃T R v T',s.2=T++R/\T.length=4/\T'.length=4/\aal s=(v,(0,R)) /\(∀l,ayo v (0,l)=(0,l++T'))/\xh T' T/\∀R,aal (0,T'++R)=(v,(0,R)):=by
 obtain⟨d1,t4,R4,n4,d2,d3,u4,d4,d5,d6⟩:=afs h;obtain⟨c1,t3,R3,n3,c2,c3,u3,c4,c5,c6⟩:=afs d1;obtain⟨b1,t2,R2,n2,b2,b3,u2,b4,b5,b6⟩:=afs c1;obtain⟨a1,t1,R1,n1,a2,a3,u1,a4,a5,a6⟩:=afs b1;rw[a3]at b2 b3 c2 c3 d2 d3;simp only at b2 b3 c2 c3 d2 d3;subst b2;rw[b3]at c2 c3 d2 d3;simp only at c2 c3 d2 d3;subst c2;rw[c3]at d2 d3;simp only at d2 d3;subst d2;refine⟨a1,[t1,t2,t3,t4],R4,(n1,n2,n3,n4),[u1,u2,u3,u4],a2,rfl,rfl,?_,λl=>?_,?_,λR=>?_⟩
 ·unfold aal;rw[a3];simp only;rw[b3];simp only;rw[c3];simp only;rw[d3]
 ·unfold ayo;simp only;rw[a4,b4,c4,d4];simp
 ·exact xh.cons (a5 rfl) (xh.cons (b5 rfl) (xh.cons (c5 rfl) (xh.cons (d5 rfl) (xh.nil _))))
 ·unfold aal;simp only[b0u,b0y,a6,b6,c6,d6]
theorem xh.append {T U T' U':List ByteArray} (h:xh T U) (hl:T.length=U.length) (k:xh T' U'):xh (T++T') (U++U'):=by
 intro i a b h1 h2;rcases b08 i T.length with q|q
 ·rw[b0e q]at h1;rw[b0e om]at h2;exact h i a b h1 h2
 ·rw[b0a q]at h1;rw[b0a om,<- hl]at h2;exact k _ a b h1 h2
theorem aq1:∀(k:Nat) (s:Rd),(jx k s).2.1=0 ->
 s.1=0/\∃T R l T',s.2=T++R/\T.length=4*k/\T'.length=4*k/\l.length=k/\jx k s=(l,(0,R)) /\(∀L,ayp l (0,L)=(0,L++T'))/\xh T' T/\∀R,jx k (0,T'++R)=(l,(0,R))
 | 0,s,h=>⟨h,[],s.2,[],[],rfl,rfl,rfl,rfl,b5m rfl (b5m h rfl),λL=>by rw[b0p];rfl,xh.nil _,λR=>rfl⟩
 | k+1,s,h=>by
  obtain⟨h1,T,R,l,T',h2,h3,h4,h5,h6,h7,h8,h9⟩:=aq1 k (aal s).2 h;obtain⟨g1,U,R',v,U',g2,g3,g4,g5,g6,g7,g8⟩:=bca h1;rw[g5]at h2 h6;simp only at h2 h6;subst h2;refine⟨g1,U++T,R,v::l,U'++T',by rw[g2,b0s],by simp[g3,h3];omega,by simp[g4,h4];omega,by simp[h5],?_,λL=>?_,xh.append g7 om h8,λR=>?_⟩
  ·show ((aal s).1::(jx k (aal s).2).1,(jx k (aal s).2).2)=_;rw[g5];simp only;rw[h6]
  ·show ayp l (ayo v (0,L))=_;rw[g6,h7,b0s]
  ·show ((aal (0,U'++T'++R)).1::(jx k (aal (0,U'++T'++R)).2).1,(jx k (aal (0,U'++T'++R)).2).2)=_;rw[b0s,g8];simp only;rw[h9]
structure a37 where
 T:Int
 N:Int
 S:Int
 L:List V4
def vv:a37:=⟨0,0,0,[]⟩
def aqv (m:a37):List ByteArray×Int:=if 4<m.L.length then([],7)else ayn (ayp m.L (al2 1 2 0 0 99 (true,m.S) (ajs 1 (min m.T 9) m.N (ajs 1 9 m.T (0,[])))))
def abp (s:Rd):Int×Rd:=((qu 1 2 0 0 99 s).1.2,if(qu 1 2 0 0 99 s).1.1=true then(qu 1 2 0 0 99 s).2 else xu 3 (qu 1 2 0 0 99 s).2)
def avl (n:Nat):Prop:=n<3\/19<n\/n%4≠3
instance (n:Nat):Decidable (avl n):=by unfold avl;infer_instance
def zx (R:List ByteArray):a37×Int:=
 if avl R.length then(vv,3)
 else if(jx ((R.length-3) / 4) (abp (zl 1 (zl 1 9 (0,R)).1 (zl 1 9 (0,R)).2).2).2).2.1=0 then
  (⟨(zl 1 9 (0,R)).1,(zl 1 (zl 1 9 (0,R)).1 (zl 1 9 (0,R)).2).1,(abp (zl 1 (zl 1 9 (0,R)).1 (zl 1 9 (0,R)).2).2).1,(jx ((R.length-3) / 4) (abp (zl 1 (zl 1 9 (0,R)).1 (zl 1 9 (0,R)).2).2).2).1⟩,0)
 else(vv,(jx ((R.length-3) / 4) (abp (zl 1 (zl 1 9 (0,R)).1 (zl 1 9 (0,R)).2).2).2).2.1)
theorem bb7 {s:Rd} (h:(abp s).2.1=0):s.1=0/\∃t R n,s.2=t::R/\abp s=(n,(0,R))/\∃t',(∀l,al2 1 2 0 0 99 (true,n) (0,l)=(0,l++[t']))/\t'.size<=t.size/\∀R,abp (0,t'::R)=(n,(0,R)):=by
 by_cases hb:(qu 1 2 0 0 99 s).1.1=true
 ·have hr:abp s=((qu 1 2 0 0 99 s).1.2,(qu 1 2 0 0 99 s).2):=by unfold abp;rw[if_pos hb]
  rw[hr]at h;obtain⟨h1,t,R,n,h2,h3,t',h4,h5,h6⟩:=afs h;rw[h3]at hb hr;obtain⟨b,n⟩:=n;simp only at hb hr;subst hb;refine⟨h1,t,R,n,h2,hr,t',h4,h5 rfl,λR=>?_⟩;unfold abp;rw[h6];rfl
 ·unfold abp at h;rw[if_neg hb]at h;exact absurd (yb h).2 dc
theorem awf {R:List ByteArray} (h:(zx R).2=0):(zx R).1.L.length<=4 /\(aqv (zx R).1).2=0 /\(aqv (zx R).1).1.length=R.length/\xh (aqv (zx R).1).1 R:=by
 by_cases hb:avl R.length
 ·unfold zx at h;rw[if_pos hb]at h;exact absurd h dc
 ·have hb2:=hb;unfold avl at hb2
  by_cases h0:(jx ((R.length-3) / 4) (abp (zl 1 (zl 1 9 (0,R)).1 (zl 1 9 (0,R)).2).2).2).2.1=0
  ·have ht:zx R=(⟨(zl 1 9 (0,R)).1,(zl 1 (zl 1 9 (0,R)).1 (zl 1 9 (0,R)).2).1,(abp (zl 1 (zl 1 9 (0,R)).1 (zl 1 9 (0,R)).2).2).1,(jx ((R.length-3) / 4) (abp (zl 1 (zl 1 9 (0,R)).1 (zl 1 9 (0,R)).2).2).2).1⟩,0):=by
    unfold zx;rw[if_neg hb,if_pos h0]
   obtain⟨h1,V,R4,L,V',h2,h3,h4,h5,h6,h7,h8,h9⟩:=aq1 _ _ h0;obtain⟨g1,t3,R3,n3,g2,g3,u3,g4,g5,g6⟩:=bb7 h1
   have hT9:(zl 1 9 (0,R)).1<=9:=by
    unfold zl
    split
    ·rename_i q;exact(a81 q).2.1
    ·exact(by decide:(0:Int)<=9)
   obtain⟨f1,t2,R2,n2,f2,f3,f4,f5,f6,f7,f8⟩:=a1s om hT9 g1;obtain⟨e1,t1,R1,n1,e2,e3,e4,e5,e6,e7,e8⟩:=a1s om om f1;rw[e3]at f2 f3 f5 f7 f8 g2 g3 h2 h6 ht;simp only at f2 f3 f5 f7 f8 g2 g3 h2 h6 ht;subst f2;rw[f3]at g2 g3 h2 h6 ht;simp only at g2 g3 h2 h6 ht;subst g2;rw[g3]at h2 h6 ht;simp only at h2 h6 ht;subst h2;rw[h6]at ht;simp only at ht e2;subst e2;have hlen:¬4<L.length:=by simp only[n6,e9]at h5 hb2;omega
   have hp:aqv ⟨n1,n2,n3,L⟩=(amd n1::amd n2::u3::V',0):=by
    unfold aqv;rw[if_neg hlen];simp only;rw[show min n1 9=n1 from by omega,e7,f7,g4,h7];simp[ayn]
   rw[ht];simp only;rw[hp]
   have hR4:R4=[]:=by
    have h10:(t1::t2::t3::(V++R4)).length=3+4*((t1::t2::t3::(V++R4)).length-3) / 4+R4.length-0:=by
     simp only[n6,e9]at h3 hb2 ⊢;omega
    exact b0k (by simp only[n6,e9]at h3 hb2;omega)
   subst hR4;refine⟨by omega,rfl,?_,?_⟩
   ·simp only[n6,e9,b0z]at h3 h4 ⊢;omega
   ·rw[b0p];exact xh.cons (by rw[ame];omega) (xh.cons (by rw[ame];omega) (xh.cons g5 h8))
  ·unfold zx at h;rw[if_neg hb,if_neg h0]at h;exact absurd h h0
theorem a7y {R:List ByteArray} (h:(zx R).2≠0):(zx R).1=vv:=by
 unfold zx at h ⊢
 split at h
 ·rename_i q;rw[if_pos q]
 ·rename_i q;rw[if_neg q]
  split at h
  ·exact absurd rfl h
  ·rename_i q2;rw[if_neg q2]
def qz (g:Nat) (s:Rd) (w:World):Prop:=∃Q,acn Q w g s.1 s.2 /\(∀b,Q b->b<g)/\∀t∈s.2,t.size<=1100000
theorem qz.keep {g:Nat} {s:Rd} {w w':World} (h:qz g s w) (hb:Below w.1.size w w'):qz g s w':=by
 obtain⟨Q,h1,h2,h3⟩:=h;exact⟨Q,h1.keep hb,h2,h3⟩
theorem qz.far {g G o:Nat} {s:Rd} {w:World} {u:Value} (h:qz g s w) (hG:g<G):qz g s (w.setCell ⟨G,o,none⟩ u):=by
 obtain⟨Q,h1,h2,h3⟩:=h;exact⟨Q,h1.far (λq=>by have:=h2 _ q;omega) om,h2,h3⟩
theorem qz.lt {g:Nat} {s:Rd} {w:World} (h:qz g s w):g<w.1.size:=by
 obtain⟨Q,⟨A,c,h0,h1,h2,h3,h4,-⟩,-⟩:=h;exact h4
theorem agw {l:List ByteArray} {N:Nat} (h:∀t∈l,t.size<=N):∀t∈l.tail,t.size<=N:=λt ht=>h t (List.mem_of_mem_tail ht)
theorem ahp {l:List ByteArray} {N:Nat} (h:∀t∈l,t.size<=N):(l.headD ByteArray.empty).size<=N:=by
 cases l with
 | nil=>simp
 | cons a l=>exact h a (b1x ..)
def jv (g:Nat) (x:Value) (s:Rd) (w:World) (r:Ending) (w':World):Prop:=r=.returned x/\qz g s w'/\Frm g vm w w'
theorem qz.post {Q:Nat->Prop} {g:Nat} {x:Value} {s:Rd} {w w':World} {r:Ending} (h2:∀b,Q b->b<g) (h3:∀t∈s.2,t.size<=1100000) (h:acc Q g x s.1 s.2 w r w'):jv g x s w r w':=
 ⟨h.1,⟨Q,h.2.1,h2,h3⟩,h.2.2⟩
theorem kp {g:Nat} {s t:Rd} {w:World} {b:Bool} {n W M F L H:Int} (ht:Q_ (qu W M F L H s=((b,n),t))) (hp:qz g s w) :
 Calls prog 136 #[.pointer (some ⟨g,0,none⟩),j9 W M F L H] w (jv g (jo b n) t w):=by
 have ht:=ht.o;have hg:=hp.lt;obtain⟨Q,h1,h2,h3⟩:=hp;injection ht with e1 e2
 injection e1 with e3 e4
 subst e2 e3 e4;exact(a35 g s.1 s.2 W M F L H w h1 (λb q=>b1b (h2 b q) hg) hg (ahp h3)).mono λr w' h=>qz.post (s:=(qu W M F L H s).2) h2 (agw h3) h
theorem zd {g:Nat} {s t:Rd} {w:World} {a:ByteArray} (ht:Q_ (qw s=(a,t))) (hp:qz g s w) :
 Calls prog 152 #[.pointer (some ⟨g,0,none⟩)] w (jv g (.string a) t w):=by
 have ht:=ht.o;obtain⟨Q,h1,h2,h3⟩:=hp;injection ht with e1 e2
 subst e1 e2;exact(aeu g s.1 s.2 w h1).mono λr w' h=>qz.post (s:=(qw s).2) h2 (agw h3) h
theorem xp {g:Nat} {s t:Rd} {w:World} {E:Int} (ht:Q_ (xu E s=t)) (hp:qz g s w) :
 Calls prog 149 #[.pointer (some ⟨g,0,none⟩),.int .i64 E] w (jv g (.tuple #[]) t w):=by
 have ht:=ht.o;obtain⟨Q,h1,h2,h3⟩:=hp;subst ht;exact(ahd g s.1 E s.2 w h1).mono λr w' h=>qz.post (s:=xu E s) h2 h3 h
theorem aqb {g:Nat} {s:Rd} {w:World} (hp:qz g s w) :
 Calls prog 147 #[.pointer (some ⟨g,0,none⟩)] w λr w'=>r=.returned (.int .i64 s.1)/\w=w':=by
 obtain⟨Q,h1,h2,h3⟩:=hp;exact a34 g s.1 s.2 w h1
theorem akx {g:Nat} {s:Rd} {w:World} (hp:qz g s w) :
 Calls prog 175 #[.pointer (some ⟨g,0,none⟩)] w λr w'=>r=.returned (.int .i64 (s.2.length:Int))/\w=w':=by
 obtain⟨Q,h1,h2,h3⟩:=hp;exact ayv g s.1 s.2 w h1
theorem aky {A:Option Addr} {R:List ByteArray} {c:Nat} {w:World} (hA:A=none->c=0) (hs:v6 w w.1.size A R) (hn:R.length<=1100000) (ht:∀t∈R,t.size<=1100000) :
 Calls prog 135 #[.slice A R.length c] w λr w'=>∃g,r=.returned (.pointer (some ⟨g,0,none⟩))/\qz g (0,R) w'/\w.1.size<=g/\w'.1.size=g+1/\Below w.1.size w w':=
 (bd7 A R c w hA hs hn).mono λr w' ⟨g,h1,h2,h3,h4,h5⟩=>⟨g,h1,⟨_,h2,λb q=>q.2,ht⟩,h3,h4,h5⟩
