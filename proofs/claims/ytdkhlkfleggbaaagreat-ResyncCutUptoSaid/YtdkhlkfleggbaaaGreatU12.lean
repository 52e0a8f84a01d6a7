/- Parts. -/
import Derived.Test.YtdkhlkfleggbaaaGreatU11
namespace Go.Proofs.YtdkhlkfleggbaaaGreat
open Lib (hid)
open Tryz
set_option linter.unusedVariables false
open Go.RowKit
theorem bdq (f:Nat):∀n l,∀c∈af5 f n l,isD c=true:=by
 induction f with
 | zero=>intro n l c h;simp[af5]at h
 | succ f ih=>
  intro n l c h;unfold af5 at h
  split at h
  ·rcases b1u.1 h with h|h
   ·exact ih _ _ c h
   ·have:c=UInt8.ofNat (48+n%10):=by simpa using h
    subst this;refine p9 ?_;simp;omega
  ·simp at h
theorem bdr (f:Nat):∀n l,n<10^f→yw (af5 f n l)=n:=by
 induction f with
 | zero => intro n l h;have:n<1:=h;have:n=0:=by omega
           subst this;rfl
 | succ f ih=>
  intro n l h;unfold af5
  split
  ·rw[aiu,ih _ _ (by rw[b2o]at h;omega)];simp;omega
  ·have:n=0:=by omega
   subst this;rfl
theorem bhu (f:Nat):∀n l,l≤f→l ≤(af5 f n l).length:=by
 induction f with
 | zero=>intro n l h;omega
 | succ f ih=>
  intro n l h;unfold af5
  split
  ·have:=ih (n / 10) (l-1) om;simp;omega
  ·simp;omega
theorem bhv (f:Nat):∀n l k,n<10^k→l≤k →(af5 f n l).length≤k:=by
 induction f with
 | zero=>intro n l k _ _;simp[af5]
 | succ f ih=>
  intro n l k h1 h2;unfold af5
  split
  ·rename_i h;cases k with
   | zero=>have:n<1:=h1;omega
   | succ k=>
    have:=ih (n / 10) (l-1) k (by rw[b2o]at h1;omega) om;simp;omega
  ·simp
theorem bmn {n:Nat} (h:n≤1000000000000000000):n<10^20:=by
 have:(10:Nat)^20=100000000000000000000:=by decide
 omega
theorem ay7 (n l:Nat):∀c∈af6 n l,isD c=true:=bdq 20 n l
theorem ay8 {n l:Nat} (h:n≤1000000000000000000):yw (af6 n l)=n:=bdr 20 n l (bmn h)
theorem a7w {n l:Nat} (h:l≤20):l ≤(af6 n l).length:=bhu 20 n l h
theorem aoa {n l k:Nat} (h:n<10^k) (hl:l≤k):(af6 n l).length≤k:=bhv 20 n l k h hl
theorem a7v {n l:Nat} (h:n<10^l) (hl:l≤20):(af6 n l).length=l:=Nat.le_antisymm (aoa h (a8 _)) (a7w hl)
theorem aub (f:Nat):∀r,0<r→r<10^f→f≤18→∃r' k,r=r'*10^k∧k<f∧r'%10≠0∧Lib.trimRightB (46::af6 r f) 48=46::af6 r' (f-k):=by
 induction f with
 | zero=>intro r h1 h2 _;have:r<1:=h2;omega
 | succ f ih=>
  intro r h1 h2 h3
  have hm:r≤1000000000000000000:=by
   have h4:(10:Nat)^(f+1)≤10^18:=b0w dc h3;have e:(10:Nat)^18=1000000000000000000:=by decide
   omega
  by_cases h:r%10=0
  ·rw[bcf r (f+1) h1 h hm h3,b4p];obtain⟨r',k,e1,e2,e3,e4⟩:=ih (r / 10) om (by rw[b2o]at h2;omega) om;refine⟨r',k+1,?_,by omega,e3,?_⟩
   ·rw[b2o,← b4y,← e1];omega
   ·rw[e4,show f+1-(k+1)=f-k from by omega]
  ·exact⟨r,0,by simp,by omega,h,bcg r (f+1) h1 h hm h3⟩
theorem bgd {r' k v j:Nat} (h:r'*10^k=v*10^j) (hr:r'%10≠0):j≤k:=by
 rcases b01 k j with h1|h1
 ·exfalso
  obtain⟨d,rfl⟩:∃d,j=k +(d+1):=⟨j-k-1,by omega⟩
  have e1:r'=v*10^(d+1):=by
   have:r'*10^k=v*10^(d+1)*10^k:=by rw[h,b3p,b4y,b3i (10^k)]
   exact Nat.eq_of_mul_eq_mul_right (b3n dc) this
  rw[b2o,← b4y]at e1;omega
 ·exact h1
theorem apq {A T:List UInt8} (hA:∀c∈A,isD c=true) (hT:∀c,T.head?=some c→isD c=false):jr (A++T)=A.length:=by
 unfold jr;rw[List.takeWhile_append_of_pos hA]
 have:T.takeWhile isD=[]:=by
  cases T with
  | nil=>rfl
  | cons c T=>rw[List.takeWhile_cons_of_neg (by rw[hT c rfl];decide)]
 rw[this,b0k]
theorem ayv {B:List UInt8} (hB:∀c∈B,isD c=true):jr B=B.length:=by
 have:=apq (T:=[]) hB (fun c h=>by simp at h)
 rwa [b0k]at this
def aki (l:List UInt8) (a m f n:Nat):Prop:=
 ∃A T,l=A++T ∧(∀c∈A,isD c=true)∧a≤A.length∧A.length≤m ∧
  (T=[]∧n=yw A*10^f∨∃B,T=46::B ∧(∀c∈B,isD c=true)∧1≤B.length∧B.length≤f∧n=yw A*10^f+yw B*10^(f-B.length))
theorem atw {l:List UInt8} {a m f n:Nat} (h:aki l a m f n):yq l a m f=some n:=by
 obtain⟨A,T,rfl,hA,h1,h2,h3⟩:=h;rcases h3 with⟨rfl,rfl⟩|⟨B,rfl,hB,h4,h5,rfl⟩
 ·rw[b0k];unfold yq;rw[ayv hA,if_neg om,if_pos rfl]
 ·have hc:=apq (T:=46::B) hA (fun c h=>by
   have:c=46:=by simpa using h.symm
   subst this;decide)
  have hd:(A++46::B).drop (A.length+1)=B:=by
   rw[← b1v,List.drop_left];rfl
  unfold yq;have g:(A++46::B)[A.length]?=some 46:=by simp
  have g2:(A++46::B).length=A.length+1+B.length:=by simp;omega
  rw[hc,hd,ayv hB,if_neg om,if_neg om,if_neg (by
   intro k;rcases k with k|k|k|k
   ·exact k g
   ·omega
   ·omega
   ·exact k g2.symm)]
  rw[List.take_left]
theorem a5f {l:List UInt8} {a m f n:Nat} (h:yq l a m f=some n):aki l a m f n:=by
 unfold yq at h;have hA:=ab2 l
 split at h
 ·cases h
 rename_i g1
 split at h
 ·rename_i g2;injection h with h
  rw[g2,b0o]at hA;exact⟨l,[],by simp,hA,by omega,by omega,.inl ⟨rfl,h.symm⟩⟩
 rename_i g2
 split at h
 ·cases h
 rename_i g3;injection h with h
 have hle:=an8 l;have g4:l[jr l]?=some 46:=b2s.1 fun k=>g3 (.inl k)
 have hB:=ab2 (l.drop (jr l+1));have e1:jr (l.drop (jr l+1))=(l.drop (jr l+1)).length:=by rw[l8];omega
 rw[e1,b0o]at hB;refine⟨l.take (jr l),l.drop (jr l),(b0p _ _).symm,hA,by rw[l7];omega,by rw[l7];omega,.inr ⟨l.drop (jr l+1),?_,hB,by omega,by omega,by rw[← e1];exact h.symm⟩⟩;have hlt:jr l<l.length:=by omega
 rw[b0n hlt];rw[c8 hlt]at g4;injection g4 with g4
 rw[g4]
theorem a6q (r f:Nat) (hr:r<10^f) (hf:f≤18):arf r f=[]∧r=0∨∃B,arf r f=46::B ∧(∀c∈B,isD c=true)∧1≤B.length∧B.length≤f∧yw B*10^(f-B.length)=r:=by
 unfold arf
 by_cases h0:r=0
 ·rw[if_pos h0];exact .inl ⟨rfl,h0⟩
 ·rw[if_neg h0];obtain⟨r',k,e1,e2,e3,e4⟩:=aub f r om hr hf
  have hr':r'<10^(f-k):=by
   rw[e1,show f=(f-k)+k from by omega,b3p]at hr;exact Nat.lt_of_mul_lt_mul_right (a:=10^k) hr
  have hm:r'≤1000000000000000000:=by
   have h4:(10:Nat)^(f-k)≤10^18:=b0w dc om;have e:(10:Nat)^18=1000000000000000000:=by decide
   omega
  have hl:(af6 r' (f-k)).length=f-k:=a7v hr' om;refine .inr ⟨af6 r' (f-k),e4,ay7 _ _,by omega,by omega,?_⟩;rw[hl,ay8 hm,show f-(f-k)=k from by omega,e1]
theorem a14 (v j f:Nat) (h:v*10^j<10^f) (hf:f≤18) (hj:j≤f):(arf (v*10^j) f).length≤1 +(f-j):=by
 unfold arf
 by_cases h0:v*10^j=0
 ·rw[if_pos h0];simp
 ·rw[if_neg h0];obtain⟨r',k,e1,e2,e3,e4⟩:=aub f _ om h hf;have hk:=bgd e1.symm e3
  have hr':r'<10^(f-k):=by
   rw[e1,show f=(f-k)+k from by omega,b3p]at h;exact Nat.lt_of_mul_lt_mul_right (a:=10^k) h
  rw[e4,n7,a7v hr' om];omega
theorem ana (n w m f:Nat) (hn:n<10^(m+f)) (hmf:m+f≤18) (hw:1≤w) (hwm:w≤m):aki (ajz n w f) 1 m f n:=by
 have hn2:n≤1000000000000000000:=by
  have h4:(10:Nat)^(m+f)≤10^18:=b0w dc om;have e:(10:Nat)^18=1000000000000000000:=by decide
  omega
 have hq:n / 10^f<10^m:=by
  rw[b3p]at hn;exact Nat.div_lt_of_lt_mul (by rwa [b3i])
 have hq2:n / 10^f≤1000000000000000000:=o8 (Nat.div_le_self _ _) hn2;have hr:n%10^f<10^f:=Nat.mod_lt _ (b3n dc);have hdm:n / 10^f*10^f+n%10^f=n:=by rw[b3i];exact Nat.div_add_mod n (10^f)
 refine⟨af6 (n / 10^f) w,arf (n%10^f) f,rfl,ay7 _ _,o8 hw (a7w om),aoa hq hwm,?_⟩;rw[ay8 hq2];rcases a6q (n%10^f) f hr om with⟨h1,h2⟩|⟨B,h1,h2,h3,h4,h5⟩
 ·exact .inl ⟨h1,by omega⟩
 ·exact .inr ⟨B,h1,h2,h3,h4,by omega⟩
theorem as6 (l:List UInt8):aix (45::l)=true∧afb (45::l)=l:=⟨rfl,rfl⟩
theorem a81 {l:List UInt8} {a m f n:Nat} (h:aki l a m f n) (ha:1≤a):aix l=false∧afb l=l∧l≠[]:=by
 obtain⟨A,T,rfl,hA,h1,-⟩:=h;cases A with
 | nil=>simp at h1;omega
 | cons c A=>
  have hc:=b07 (hA c sm)
  have:aix (c::A++T)=false:=by
   show (some c==some 45)=false;have:c≠45:=by rintro rfl;exact absurd hc dc
   simpa using this
  refine⟨this,?_,by simp⟩;unfold afb;rw[this];rfl
theorem a03 {W M F L H:Int} (h:abm W M F L H=true):∃w m f:Nat,W=(w:Int)∧M=(m:Int)∧F=(f:Int)∧1≤w∧w≤m∧m≤12∧f≤6∧-ko (m+f)<L∧H<ko (m+f):=by
 have h:=b07 h;refine⟨W.toNat,M.toNat,F.toNat,by omega,by omega,by omega,by omega,by omega,by omega,by omega,?_⟩;rw[show M.toNat+F.toNat=(M+F).toNat from by omega];exact⟨h.2.2.2.2.2.2.1,h.2.2.2.2.2.2.2⟩
theorem bfq {b:Bool} {n W M F L H:Int} (h:(av6 b n W M F L H).2=0):jz (av6 b n W M F L H).1.data.toList W M F L H=(b,n,0):=by
 unfold av6 at h ⊢
 by_cases hr:abm W M F L H=false
 ·rw[if_pos hr]at h;exact absurd h dc
 rw[if_neg hr]at h ⊢
 by_cases hf:aa2 b n L H=false
 ·rw[if_pos hf]at h;exact absurd h dc
 rw[if_neg hf]at h ⊢;cases b with
 | false=>
  rw[if_pos rfl]
  have:n=0:=by
   unfold aa2 at hf
   simpa using hf
  subst this;unfold jz;rw[if_neg hr];rfl
 | true=>
  rw[if_neg dc];have hfit:aa2 true n L H=true:=by simpa using hf
  have hb:=apx hfit;obtain⟨w,m,f,rfl,rfl,rfl,h1,h2,h3,h4,h5,h6⟩:=a03 (by simpa using hr)
  have hx:n.natAbs<10^(m+f):=by
   rw[j9]at h5 h6;omega
  by_cases hn:n<0
  ·rw[if_pos hn];have ht:=ana n.natAbs w m f hx om h1 h2;have hp:=atw ht;show jz (toB (45::ajz (-n).toNat w f)).data.toList w m f L H=_;rw[a2i,show (-n).toNat=n.natAbs from by omega];unfold jz;rw[if_neg hr,if_neg sm,(as6 _).1,(as6 _).2,b1n,b1n,hp];simp only[if_true];rw[show -((n.natAbs:Nat):Int)=n from by omega,hfit];rfl
  ·rw[if_neg hn];have ht:=ana n.natAbs w m f hx om h1 h2;have hp:=atw ht;obtain⟨k1,k2,k3⟩:=a81 ht (a8 _);show jz (toB (ajz n.toNat w f)).data.toList w m f L H=_;rw[a2i,show n.toNat=n.natAbs from by omega];unfold jz;rw[if_neg hr,if_neg k3,k1,k2,b1n,b1n,hp];simp only[b22,b4z];rw[show ((n.natAbs:Nat):Int)=n from by omega,hfit];rfl
theorem av5 {l:List UInt8} {a m f n:Nat} (h:aki l a m f n) (ha:1≤a) (hmf:m+f≤18):(ajz n 1 f).length≤l.length:=by
 obtain⟨A,T,rfl,hA,h1,h2,h3⟩:=h;have hv:=ait A hA;have hp:0<10^f:=b3n dc;unfold ajz;rw[d7,d7];rcases h3 with⟨rfl,rfl⟩|⟨B,rfl,hB,h4,h5,rfl⟩
 ·rw[Nat.mul_div_cancel _ hp,Nat.mul_mod_left];have:=aoa (l:=1) hv om;show _ +([]:List UInt8).length≤_
  simpa using this
 ·have hvb:=ait B hB
  have hr:yw B*10^(f-B.length)<10^f:=by
   have:yw B*10^(f-B.length)<10^B.length*10^(f-B.length):=b4j hvb (b3n dc)
   rwa [← b3p,show B.length +(f-B.length)=f from by omega]at this
  have e1:(yw A*10^f+yw B*10^(f-B.length)) / 10^f=yw A:=by
   rw[b3i,Nat.mul_add_div hp,Nat.div_eq_of_lt hr,b21]
  have e2:(yw A*10^f+yw B*10^(f-B.length))%10^f=yw B*10^(f-B.length):=by
   rw[b3i,Nat.mul_add_mod,b2x hr]
  rw[e1,e2];have k1:=aoa (l:=1) hv om;have k2:=a14 (yw B) (f-B.length) f hr om om;rw[n7];omega
theorem bgh {l:List UInt8} {b:Bool} {n W M F L H:Int} (h:jz l W M F L H=(b,n,0)) :
 ∃t:ByteArray,av6 b n W M F L H=(t,0) ∧(W=1→t.size≤l.length):=by
 unfold jz at h
 by_cases hr:abm W M F L H=false
 ·rw[if_pos hr]at h;simp at h
 rw[if_neg hr]at h
 by_cases h0:l=[]
 ·rw[if_pos h0]at h;injection h with h1 h2
  injection h2 with h2 h3
  subst h1 h2;refine⟨ByteArray.empty,?_,fun _=>by show 0≤_;omega⟩;unfold av6;rw[if_neg hr,if_neg (by unfold aa2;simp),if_pos rfl]
 rw[if_neg h0]at h;obtain⟨w,m,f,rfl,rfl,rfl,g1,g2,g3,g4,g5,g6⟩:=a03 (by simpa using hr);rw[b1n,b1n]at h;cases hq:yq (afb l) 1 m f with
 | none=>rw[hq]at h;simp at h
 | some k=>
  rw[hq]at h;dsimp only at h
  by_cases hf:aa2 true (if aix l then -(k:Int)else(k:Int)) L H=true
  ·rw[if_pos hf]at h;injection h with h1 h2
   injection h2 with h2 h3
   subst h1;rw[h2]at hf;have ht:=av5 (a5f hq) (a8 _) om;have hab:n.natAbs=k:=by split at h2<;>omega
   unfold av6;rw[if_neg hr,if_neg (by rw[hf];decide),if_neg dc,b1n,b1n]
   by_cases hn:n<0
   ·rw[if_pos hn,show (-n).toNat=k from by omega];refine⟨_,rfl,fun e=>?_⟩;have hw:w=1:=by omega
    subst hw
    have hneg:aix l=true:=by
     cases hg:aix l with
     | true=>rfl
     | false=>rw[hg]at h2;simp at h2;omega
    unfold afb at ht;rw[hneg,if_pos rfl,l8]at ht;have:0<l.length:=b2f.2 h0;rw[bf8,n7];omega
   ·rw[if_neg hn,show n.toNat=k from by omega];refine⟨_,rfl,fun e=>?_⟩;have hw:w=1:=by omega
    subst hw;rw[bf8];refine o8 ht ?_;unfold afb
    split
    ·rw[l8];omega
    ·omega
  ·rw[if_neg hf]at h;simp at h
abbrev Rd:=Int×List ByteArray
def qv (s:Rd):ByteArray×Rd:=(s.2.headD ByteArray.empty,(ada s.1 s.2,s.2.tail))
def qs (W M F L H:Int) (s:Rd):(Bool×Int)×Rd:=
 (((jz (s.2.headD ByteArray.empty).data.toList W M F L H).1,(jz (s.2.headD ByteArray.empty).data.toList W M F L H).2.1),(aa1 (ada s.1 s.2) (jz (s.2.headD ByteArray.empty).data.toList W M F L H).2.2,s.2.tail))
def xt (E:Int) (s:Rd):Rd:=(aa1 s.1 E,s.2)
def amr (t:ByteArray) (E:Int) (s:Rd):Rd:=(aa1 s.1 E,s.2++[t])
def alp (W M F L H:Int) (n:Bool×Int) (s:Rd):Rd:=(aa1 s.1 (av6 n.1 n.2 W M F L H).2,s.2++[(av6 n.1 n.2 W M F L H).1])
def ax1 (s:Rd):List ByteArray×Int:=(if s.1=0 then s.2 else [],s.1)
theorem v9 {e E:Int} (h:aa1 e E=0):e=0∧E=0:=by
 unfold aa1 at h
 by_cases he:e=0
 ·rw[if_pos he]at h;exact⟨he,h⟩
 ·rw[if_neg he]at h;exact absurd h he
theorem agp {e:Int} {R:List ByteArray} (h:ada e R=0):e=0∧∃t R',R=t::R':=by
 unfold ada at h;cases R with
 | nil=>rw[if_pos rfl]at h;exact absurd (v9 h).2 dc
 | cons t R'=>rw[if_neg sm]at h;exact⟨h,t,R',rfl⟩
theorem aei (e:Int) (t:ByteArray) (R:List ByteArray):ada e (t::R)=e:=if_neg sm
theorem afh {W M F L H:Int} {s:Rd} (h:(qs W M F L H s).2.1=0) :
 s.1=0∧∃t R n,s.2=t::R∧qs W M F L H s=(n,(0,R))∧∃t',(∀l,alp W M F L H n (0,l)=(0,l++[t'])) ∧(W=1→t'.size≤t.size)∧∀R,qs W M F L H (0,t'::R)=(n,(0,R)):=by
 obtain⟨h1,h2⟩:=v9 h;obtain⟨h3,t,R,h4⟩:=agp h1;obtain⟨e,l⟩:=s;simp only at h3 h4;subst h3 h4;simp only[b5c]at h2;obtain⟨b,n,E⟩:Bool×Int×Int:=jz t.data.toList W M F L H;have hT:jz t.data.toList W M F L H=((jz t.data.toList W M F L H).1,(jz t.data.toList W M F L H).2.1,0):=by rw[← h2]
 obtain⟨t',h5,h6⟩:=bgh hT;refine⟨rfl,t,R,((jz t.data.toList W M F L H).1,(jz t.data.toList W M F L H).2.1),rfl,?_,t',fun l=>?_,fun hW=>?_,fun R=>?_⟩
 ·unfold qs;simp only[b5c,List.tail_cons,h2,aei];rfl
 ·unfold alp;rw[h5];rfl
 ·have:=h6 hW
  simpa using this
 ·have h7:=bfq (by rw[h5]:(av6 (jz t.data.toList W M F L H).1 (jz t.data.toList W M F L H).2.1 W M F L H).2=0);rw[h5]at h7;unfold qs;rw[aei];simp only[b5c,List.tail_cons]at h7 ⊢;rw[h7];rfl
structure Cl where
 W:Int
 M:Int
 F:Int
 L:Int
 H:Int
 c:ByteArray
def aug (b:Bool) (c:ByteArray):ByteArray:=if b=true then c else ByteArray.empty
def vk (c:ByteArray) (b:Bool) (s:Rd):Rd:=if(qv s).1≠c ∧(b=true ∨(qv s).1≠ByteArray.empty)then xt 3 (qv s).2 else(qv s).2
def yc (k:Cl) (s:Rd):(Bool×Int)×Rd:=((qs k.W k.M k.F k.L k.H s).1,vk k.c (qs k.W k.M k.F k.L k.H s).1.1 (qs k.W k.M k.F k.L k.H s).2)
def a8i (k:Cl) (n:Bool×Int) (s:Rd):Rd:=amr (aug n.1 k.c) 0 (alp k.W k.M k.F k.L k.H n s)
theorem a5w (c:ByteArray) (b:Bool) (R:List ByteArray):vk c b (0,aug b c::R)=(0,R):=by
 unfold vk qv aug;cases b<;>simp[aei]
theorem ba0 {c:ByteArray} {b:Bool} {s:Rd} (h:(vk c b s).1=0):s.1=0∧∃u R,s.2=u::R∧vk c b s=(0,R) ∧(aug b c).size≤u.size:=by
 obtain⟨e,l⟩:=s
 by_cases hq:(qv (e,l)).1≠c ∧(b=true ∨(qv (e,l)).1≠ByteArray.empty)
 ·unfold vk at h;rw[if_pos hq]at h;exact absurd (v9 h).2 dc
 ·have h0:=h;unfold vk at h0 ⊢;rw[if_neg hq]at h0 ⊢;obtain⟨h1,u,R,h2⟩:=agp h0;simp only at h1 h2;subst h1 h2;refine⟨rfl,u,R,rfl,by simp[qv,aei],?_⟩;unfold aug;cases b with
  | false=>simp
  | true=>
   have:u=c:=Classical.byContradiction fun q=>hq ⟨by simpa [qv]using q,.inl rfl⟩
   rw[this];simp
theorem bft {k:Cl} {s:Rd} (h:(yc k s).2.1=0) :
 s.1=0∧∃t u R n,s.2=t::u::R∧yc k s=(n,(0,R))∧∃t' u',(∀l,a8i k n (0,l)=(0,l++[t',u'])) ∧(k.W=1→t'.size≤t.size)∧u'.size≤u.size∧∀R,yc k (0,t'::u'::R)=(n,(0,R)):=by
 obtain⟨h1,u,R,h2,h3,h4⟩:=ba0 h;obtain⟨h5,t,R',n,h6,h7,t',h8,h9,h10⟩:=afh h1;rw[h7]at h2;simp only at h2;subst h2;refine⟨h5,t,u,R,n,h6,?_,t',aug n.1 k.c,fun l=>?_,h9,?_,fun R=>?_⟩
 ·unfold yc;rw[h3,h7]
 ·unfold a8i;rw[h8];simp[amr,aa1]
 ·rw[h7]at h4;exact h4
 ·unfold yc;rw[h10];simp only;rw[a5w]
def ax0:List Cl→List (Bool×Int)→Rd→Rd
 | k::K,n::N,s=>ax0 K N (a8i k n s)
 | _,_,s=>s
def abk:List Cl→Rd→List (Bool×Int)×Rd
 | [],s=>([],s)
 | k::K,s=>((yc k s).1::(abk K (yc k s).2).1,(abk K (yc k s).2).2)
def xg (T U:List ByteArray):Prop:=∀(i:Nat) (t u:ByteArray),T[i]?=some t→U[i]?=some u→t.size≤u.size
theorem xg.cons {t u:ByteArray} {T U:List ByteArray} (h:t.size≤u.size) (k:xg T U):xg (t::T) (u::U):=by
 intro i a b h1 h2;cases i with
 | zero=>simp at h1 h2;subst h1 h2;exact h
 | succ i=>exact k i a b (by simpa using h1) (by simpa using h2)
theorem xg.nil (U:List ByteArray):xg [] U:=fun i t u h=>by simp at h
theorem atz:∀(K:List Cl) (s:Rd),(∀k∈K,k.W=1) →(abk K s).2.1=0 →
 s.1=0∧∃T R N T',s.2=T++R∧T.length=2*K.length∧N.length=K.length∧T'.length=2*K.length∧abk K s=(N,(0,R)) ∧(∀l,ax0 K N (0,l)=(0,l++T'))∧xg T' T∧∀R,abk K (0,T'++R)=(N,(0,R))
 | [],s,_,h=>⟨h,[],s.2,[],[],rfl,rfl,rfl,rfl,b5f rfl (b5f h rfl),fun l=>by rw[b0k];rfl,xg.nil _,fun _=>rfl⟩
 | k::K,s,hK,h=>by
  obtain⟨h1,T,R,N,T',h2,h3,h4,h5,h6,h7,h8,h9⟩:=atz K (yc k s).2 (fun j hj=>hK j (b1w _ hj)) h;obtain⟨g1,t,u,R',n,g2,g3,t',u',g4,g5,g6,g7⟩:=bft h1;rw[g3]at h2;simp only at h2;subst h2;refine⟨g1,t::u::T,R,n::N,t'::u'::T',by rw[g2];rfl,by simp[h3];omega,by simp[h4],by simp[h5];omega,?_,fun l=>?_,?_,fun R=>?_⟩
  ·show ((yc k s).1::(abk K (yc k s).2).1,(abk K (yc k s).2).2)=_;rw[h6,g3]
  ·show ax0 K N (a8i k n (0,l))=_;rw[g4,h7];simp
  ·exact xg.cons (g5 (hK k (b1s ..))) (xg.cons g6 h8)
  ·show ((yc k (0,t'::u'::(T'++R))).1::(abk K (yc k (0,t'::u'::(T'++R))).2).1,(abk K (yc k (0,t'::u'::(T'++R))).2).2)=_;rw[g7,h9]
def ark:List Cl:=[⟨1,3,2,0,36000,⟨#[84]⟩⟩,⟨1,3,2,0,36000,⟨#[77]⟩⟩,⟨1,4,2,0,999999,⟨#[78]⟩⟩,⟨1,4,2,0,999999,⟨#[75]⟩⟩]
def a5m (N:List (Bool×Int)):List ByteArray×Int:=ax1 (ax0 ark N (0,[]))
def anr (s:ByteArray):Bool:=decide (s.size=1) && decide (65 ≤(s[0]?.getD 0).toNat) && decide ((s[0]?.getD 0).toNat≤90)
def aaf (s:Rd):Rd:=if s.2=[]then s else if(qv s).1≠ByteArray.empty∧anr (qv s).1=false then xt 3 (qv s).2 else(qv s).2
def ae8:List (Bool×Int):=[(false,0),(false,0),(false,0),(false,0)]
def ji (R:List ByteArray):List (Bool×Int)×Int:=
 if R.length≠8∧R.length≠9 then(ae8,3)
 else if(aaf (abk ark (0,R)).2).1=0 then((abk ark (0,R)).1,0)else(ae8,(aaf (abk ark (0,R)).2).1)
theorem a00 {s:Rd} (h:(aaf s).1=0):s.1=0:=by
 unfold aaf at h
 split at h
 ·exact h
 ·split at h
  ·exact absurd (v9 h).2 dc
  ·exact(agp h).1
theorem bgv:∀k∈ark,k.W=1:=by simp[ark]
theorem axw {R:List ByteArray} (h:(ji R).2=0):(ji R).1.length=4 ∧(a5m (ji R).1).2=0∧xg (a5m (ji R).1).1 R:=by
 unfold ji at h ⊢
 by_cases hl:R.length≠8∧R.length≠9
 ·rw[if_pos hl]at h;exact absurd h dc
 ·rw[if_neg hl]at h ⊢
  by_cases h0:(aaf (abk ark (0,R)).2).1=0
  ·rw[if_pos h0];obtain⟨-,T,R',N,T',h1,h2,h3,h4,h5,h6,h7,h8⟩:=atz ark (0,R) bgv (a00 h0);rw[h5];refine⟨h3,?_⟩;unfold a5m;rw[h6];refine⟨rfl,fun i t u ht hu=>?_⟩;have ht':T'[i]?=some t:=by simpa [ax1]using ht
   have hi:i<T'.length:=(b1q.1 ht').1;have hu':R[i]?=some u:=hu;rw[show R=T++R' from h1,b0a om]at hu';exact h7 i t u ht' hu'
  ·rw[if_neg h0]at h;exact absurd h h0
theorem a6w {R:List ByteArray} (h:(ji R).2≠0):(ji R).1=ae8:=by
 unfold ji at h ⊢
 split at h
 ·rename_i q;rw[if_pos q]
 ·rename_i q;rw[if_neg q]
  split at h
  ·exact absurd rfl h
  ·rename_i q2;rw[if_neg q2]
theorem a17 (R:List ByteArray):(ji R).1.length=4:=by
 by_cases h:(ji R).2=0
 ·exact(axw h).1
 ·rw[a6w h];rfl
def dgB (t:ByteArray):Bool:=decide (t.size=1) && decide (48 ≤(t[0]?.getD 0).toNat) && decide ((t[0]?.getD 0).toNat≤57)
def dgN (t:ByteArray):Int:=((t[0]?.getD 0).toNat:Int)-48
def alx (n:Int):ByteArray:=⟨#[UInt8.ofNat (48+n).toNat]⟩
def zn (lo hi:Int) (s:Rd):Int×Rd:=
 if dgB (qv s).1=true then(dgN (qv s).1,if dgN (qv s).1<lo∨hi<dgN (qv s).1 then xt 5 (qv s).2 else(qv s).2)else(0,xt 3 (qv s).2)
def ajm (lo hi n:Int) (s:Rd):Rd:=if n<lo∨hi<n then amr ByteArray.empty 5 s else amr (alx n) 0 s
theorem aly (n:Int):(alx n).size=1:=rfl
theorem bds (n:Int):(alx n)[0]?=some (UInt8.ofNat (48+n).toNat):=rfl
theorem a9o {n:Int} (h0:0≤n) (h9:n≤9):dgB (alx n)=true∧dgN (alx n)=n:=by
 have hv:(UInt8.ofNat (48+n).toNat).toNat=(48+n).toNat:=by rw[b3x];omega
 unfold dgB dgN;rw[aly,bds,Option.getD_some,hv];refine⟨?_,by omega⟩;simp;omega
theorem a7u {t:ByteArray} (h:dgB t=true):0≤dgN t∧dgN t≤9∧t.size=1:=by
 unfold dgB at h;simp at h;unfold dgN;omega
theorem anb (t:ByteArray) (R:List ByteArray):qv (0,t::R)=(t,(0,R)):=by simp[qv,aei]
theorem bgy {lo hi n:Int} {s:Rd} (hlo:0≤lo) (hhi:hi≤9) (h:(ajm lo hi n s).1=0) :
 s.1=0∧lo≤n∧n≤hi ∧(∀l,ajm lo hi n (0,l)=(0,l++[alx n]))∧ajm lo hi n s=(0,s.2++[alx n])∧∀R,zn lo hi (0,alx n::R)=(n,(0,R)):=by
 by_cases hq:n<lo∨hi<n
 ·unfold ajm at h;rw[if_pos hq]at h;exact absurd (v9 h).2 dc
 ·have k:∀s,ajm lo hi n s=amr (alx n) 0 s:=fun s=>if_neg hq
  rw[k]at h;obtain⟨h1,-⟩:=v9 h;obtain⟨d1,d2⟩:=a9o (n:=n) om om;refine⟨h1,by omega,by omega,fun l=>by rw[k];rfl,by rw[k];unfold amr;rw[h1];rfl,fun R=>?_⟩;unfold zn;rw[anb];simp only;rw[if_pos d1,d2,if_neg hq]
theorem a0y {lo hi:Int} {s:Rd} (hlo:0≤lo) (hhi:hi≤9) (h:(zn lo hi s).2.1=0) :
 s.1=0∧∃t R n,s.2=t::R∧zn lo hi s=(n,(0,R))∧lo≤n∧n≤hi∧t.size=1 ∧(∀l,ajm lo hi n (0,l)=(0,l++[alx n]))∧∀R,zn lo hi (0,alx n::R)=(n,(0,R)):=by
 obtain⟨e,l⟩:=s
 by_cases hd:dgB (qv (e,l)).1=true
 ·by_cases hq:dgN (qv (e,l)).1<lo∨hi<dgN (qv (e,l)).1
  ·unfold zn at h;rw[if_pos hd,if_pos hq]at h;exact absurd (v9 h).2 dc
  ·have hr:zn lo hi (e,l)=(dgN (qv (e,l)).1,(qv (e,l)).2):=by unfold zn;rw[if_pos hd,if_neg hq]
   rw[hr]at h;obtain⟨h1,t,R,h2⟩:=agp h;simp only at h1 h2;subst h1 h2;rw[anb]at hd hq hr;simp only at hd hq hr;obtain⟨d0,d9,d1⟩:=a7u hd;have hw:(ajm lo hi (dgN t) (0,[])).1=0:=by unfold ajm;rw[if_neg hq];rfl
   obtain⟨-,w1,w2,w3,-,w5⟩:=bgy hlo hhi hw;exact⟨rfl,t,R,dgN t,rfl,hr,w1,w2,d1,w3,w5⟩
 ·unfold zn at h;rw[if_neg hd]at h;exact absurd (v9 h).2 dc
abbrev V4:=(Bool×Int) ×(Bool×Int) ×(Bool×Int) ×(Bool×Int)
def ax2 (v:V4) (s:Rd):Rd:=alp 1 2 0 0 99 v.2.2.2 (alp 1 3 0 0 359 v.2.2.1 (alp 1 2 0 0 90 v.2.1 (alp 1 3 0 1 255 v.1 s)))
def aag (s:Rd):V4×Rd:=
 (((qs 1 3 0 1 255 s).1,(qs 1 2 0 0 90 (qs 1 3 0 1 255 s).2).1,(qs 1 3 0 0 359 (qs 1 2 0 0 90 (qs 1 3 0 1 255 s).2).2).1,(qs 1 2 0 0 99 (qs 1 3 0 0 359 (qs 1 2 0 0 90 (qs 1 3 0 1 255 s).2).2).2).1),
   (qs 1 2 0 0 99 (qs 1 3 0 0 359 (qs 1 2 0 0 90 (qs 1 3 0 1 255 s).2).2).2).2)
def ax3 (l:List V4) (s:Rd):Rd:=l.foldl (fun s v=>ax2 v s) s
def jw:Nat→Rd→List V4×Rd
 | 0,s=>([],s)
 | k+1,s=>((aag s).1::(jw k (aag s).2).1,(jw k (aag s).2).2)
theorem ba1 {s:Rd} (h:(aag s).2.1=0) :
 s.1=0∧∃T R v T',s.2=T++R∧T.length=4∧T'.length=4∧aag s=(v,(0,R)) ∧(∀l,ax2 v (0,l)=(0,l++T'))∧xg T' T∧∀R,aag (0,T'++R)=(v,(0,R)):=by
 obtain⟨d1,t4,R4,n4,d2,d3,u4,d4,d5,d6⟩:=afh h;obtain⟨c1,t3,R3,n3,c2,c3,u3,c4,c5,c6⟩:=afh d1;obtain⟨b1,t2,R2,n2,b2,b3,u2,b4,b5,b6⟩:=afh c1;obtain⟨a1,t1,R1,n1,a2,a3,u1,a4,a5,a6⟩:=afh b1;rw[a3]at b2 b3 c2 c3 d2 d3;simp only at b2 b3 c2 c3 d2 d3;subst b2;rw[b3]at c2 c3 d2 d3;simp only at c2 c3 d2 d3;subst c2;rw[c3]at d2 d3;simp only at d2 d3;subst d2;refine⟨a1,[t1,t2,t3,t4],R4,(n1,n2,n3,n4),[u1,u2,u3,u4],a2,rfl,rfl,?_,fun l=>?_,?_,fun R=>?_⟩
 ·unfold aag;rw[a3];simp only;rw[b3];simp only;rw[c3];simp only;rw[d3]
 ·unfold ax2;simp only;rw[a4,b4,c4,d4];simp
 ·exact xg.cons (a5 rfl) (xg.cons (b5 rfl) (xg.cons (c5 rfl) (xg.cons (d5 rfl) (xg.nil _))))
 ·unfold aag;simp only[b02,b03,a6,b6,c6,d6]
theorem xg.append {T U T' U':List ByteArray} (h:xg T U) (hl:T.length=U.length) (k:xg T' U'):xg (T++T') (U++U'):=by
 intro i a b h1 h2;rcases b01 i T.length with q|q
 ·rw[b0a q]at h1;rw[b0a om]at h2;exact h i a b h1 h2
 ·rw[t8 q]at h1;rw[t8 om,← hl]at h2;exact k _ a b h1 h2
theorem aqo:∀(k:Nat) (s:Rd),(jw k s).2.1=0 →
 s.1=0∧∃T R l T',s.2=T++R∧T.length=4*k∧T'.length=4*k∧l.length=k∧jw k s=(l,(0,R)) ∧(∀L,ax3 l (0,L)=(0,L++T'))∧xg T' T∧∀R,jw k (0,T'++R)=(l,(0,R))
 | 0,s,h=>⟨h,[],s.2,[],[],rfl,rfl,rfl,rfl,b5f rfl (b5f h rfl),fun L=>by rw[b0k];rfl,xg.nil _,fun R=>rfl⟩
 | k+1,s,h=>by
  obtain⟨h1,T,R,l,T',h2,h3,h4,h5,h6,h7,h8,h9⟩:=aqo k (aag s).2 h;obtain⟨g1,U,R',v,U',g2,g3,g4,g5,g6,g7,g8⟩:=ba1 h1;rw[g5]at h2 h6;simp only at h2 h6;subst h2;refine⟨g1,U++T,R,v::l,U'++T',by rw[g2,b0l],by simp[g3,h3];omega,by simp[g4,h4];omega,by simp[h5],?_,fun L=>?_,xg.append g7 om h8,fun R=>?_⟩
  ·show ((aag s).1::(jw k (aag s).2).1,(jw k (aag s).2).2)=_;rw[g5];simp only;rw[h6]
  ·show ax3 l (ax2 v (0,L))=_;rw[g6,h7,b0l]
  ·show ((aag (0,U'++T'++R)).1::(jw k (aag (0,U'++T'++R)).2).1,(jw k (aag (0,U'++T'++R)).2).2)=_;rw[b0l,g8];simp only;rw[h9]
structure a3a where
 T:Int
 N:Int
 S:Int
 L:List V4
def vr:a3a:=⟨0,0,0,[]⟩
def aqi (m:a3a):List ByteArray×Int:=if 4<m.L.length then([],7)else ax1 (ax3 m.L (alp 1 2 0 0 99 (true,m.S) (ajm 1 (min m.T 9) m.N (ajm 1 9 m.T (0,[])))))
def abl (s:Rd):Int×Rd:=((qs 1 2 0 0 99 s).1.2,if(qs 1 2 0 0 99 s).1.1=true then(qs 1 2 0 0 99 s).2 else xt 3 (qs 1 2 0 0 99 s).2)
def auy (n:Nat):Prop:=n<3∨19<n∨n%4≠3
instance (n:Nat):Decidable (auy n):=by unfold auy;infer_instance
def zw (R:List ByteArray):a3a×Int:=
 if auy R.length then(vr,3)
 else if(jw ((R.length-3) / 4) (abl (zn 1 (zn 1 9 (0,R)).1 (zn 1 9 (0,R)).2).2).2).2.1=0 then
  (⟨(zn 1 9 (0,R)).1,(zn 1 (zn 1 9 (0,R)).1 (zn 1 9 (0,R)).2).1,(abl (zn 1 (zn 1 9 (0,R)).1 (zn 1 9 (0,R)).2).2).1,(jw ((R.length-3) / 4) (abl (zn 1 (zn 1 9 (0,R)).1 (zn 1 9 (0,R)).2).2).2).1⟩,0)
 else(vr,(jw ((R.length-3) / 4) (abl (zn 1 (zn 1 9 (0,R)).1 (zn 1 9 (0,R)).2).2).2).2.1)
theorem bay {s:Rd} (h:(abl s).2.1=0):s.1=0∧∃t R n,s.2=t::R∧abl s=(n,(0,R))∧∃t',(∀l,alp 1 2 0 0 99 (true,n) (0,l)=(0,l++[t']))∧t'.size≤t.size∧∀R,abl (0,t'::R)=(n,(0,R)):=by
 by_cases hb:(qs 1 2 0 0 99 s).1.1=true
 ·have hr:abl s=((qs 1 2 0 0 99 s).1.2,(qs 1 2 0 0 99 s).2):=by unfold abl;rw[if_pos hb]
  rw[hr]at h;obtain⟨h1,t,R,n,h2,h3,t',h4,h5,h6⟩:=afh h;rw[h3]at hb hr;obtain⟨b,n⟩:=n;simp only at hb hr;subst hb;refine⟨h1,t,R,n,h2,hr,t',h4,h5 rfl,fun R=>?_⟩;unfold abl;rw[h6];rfl
 ·unfold abl at h;rw[if_neg hb]at h;exact absurd (v9 h).2 dc
theorem avr {R:List ByteArray} (h:(zw R).2=0):(zw R).1.L.length≤4 ∧(aqi (zw R).1).2=0 ∧(aqi (zw R).1).1.length=R.length∧xg (aqi (zw R).1).1 R:=by
 by_cases hb:auy R.length
 ·unfold zw at h;rw[if_pos hb]at h;exact absurd h dc
 ·have hb2:=hb;unfold auy at hb2
  by_cases h0:(jw ((R.length-3) / 4) (abl (zn 1 (zn 1 9 (0,R)).1 (zn 1 9 (0,R)).2).2).2).2.1=0
  ·have ht:zw R=(⟨(zn 1 9 (0,R)).1,(zn 1 (zn 1 9 (0,R)).1 (zn 1 9 (0,R)).2).1,(abl (zn 1 (zn 1 9 (0,R)).1 (zn 1 9 (0,R)).2).2).1,(jw ((R.length-3) / 4) (abl (zn 1 (zn 1 9 (0,R)).1 (zn 1 9 (0,R)).2).2).2).1⟩,0):=by
    unfold zw;rw[if_neg hb,if_pos h0]
   obtain⟨h1,V,R4,L,V',h2,h3,h4,h5,h6,h7,h8,h9⟩:=aqo _ _ h0;obtain⟨g1,t3,R3,n3,g2,g3,u3,g4,g5,g6⟩:=bay h1
   have hT9:(zn 1 9 (0,R)).1≤9:=by
    unfold zn
    split
    ·rename_i q;exact(a7u q).2.1
    ·exact(by decide:(0:Int)≤9)
   obtain⟨f1,t2,R2,n2,f2,f3,f4,f5,f6,f7,f8⟩:=a0y om hT9 g1;obtain⟨e1,t1,R1,n1,e2,e3,e4,e5,e6,e7,e8⟩:=a0y om om f1;rw[e3]at f2 f3 f5 f7 f8 g2 g3 h2 h6 ht;simp only at f2 f3 f5 f7 f8 g2 g3 h2 h6 ht;subst f2;rw[f3]at g2 g3 h2 h6 ht;simp only at g2 g3 h2 h6 ht;subst g2;rw[g3]at h2 h6 ht;simp only at h2 h6 ht;subst h2;rw[h6]at ht;simp only at ht e2;subst e2;have hlen:¬4<L.length:=by simp only[n7,d7]at h5 hb2;omega
   have hp:aqi ⟨n1,n2,n3,L⟩=(alx n1::alx n2::u3::V',0):=by
    unfold aqi;rw[if_neg hlen];simp only;rw[show min n1 9=n1 from by omega,e7,f7,g4,h7];simp[ax1]
   rw[ht];simp only;rw[hp]
   have hR4:R4=[]:=by
    have h10:(t1::t2::t3::(V++R4)).length=3+4*((t1::t2::t3::(V++R4)).length-3) / 4+R4.length-0:=by
     simp only[n7,d7]at h3 hb2 ⊢;omega
    exact b0f (by simp only[n7,d7]at h3 hb2;omega)
   subst hR4;refine⟨by omega,rfl,?_,?_⟩
   ·simp only[n7,d7,b04]at h3 h4 ⊢;omega
   ·rw[b0k];exact xg.cons (by rw[aly];omega) (xg.cons (by rw[aly];omega) (xg.cons g5 h8))
  ·unfold zw at h;rw[if_neg hb,if_neg h0]at h;exact absurd h h0
theorem a6s {R:List ByteArray} (h:(zw R).2≠0):(zw R).1=vr:=by
 unfold zw at h ⊢
 split at h
 ·rename_i q;rw[if_pos q]
 ·rename_i q;rw[if_neg q]
  split at h
  ·exact absurd rfl h
  ·rename_i q2;rw[if_neg q2]
def qz (g:Nat) (s:Rd) (w:World):Prop:=∃Q,ack Q w g s.1 s.2 ∧(∀b,Q b→b<g)∧∀t∈s.2,t.size≤1000000
theorem qz.keep {g:Nat} {s:Rd} {w w':World} (h:qz g s w) (hb:Below w.1.size w w'):qz g s w':=by
 obtain⟨Q,h1,h2,h3⟩:=h;exact⟨Q,h1.keep hb,h2,h3⟩
theorem qz.far {g G o:Nat} {s:Rd} {w:World} {u:Value} (h:qz g s w) (hG:g<G):qz g s (w.setCell ⟨G,o,none⟩ u):=by
 obtain⟨Q,h1,h2,h3⟩:=h;exact⟨Q,h1.far (fun q=>by have:=h2 _ q;omega) om,h2,h3⟩
theorem qz.lt {g:Nat} {s:Rd} {w:World} (h:qz g s w):g<w.1.size:=by
 obtain⟨Q,⟨A,c,h0,h1,h2,h3,h4,-⟩,-⟩:=h;exact h4
theorem ago {l:List ByteArray} {N:Nat} (h:∀t∈l,t.size≤N):∀t∈l.tail,t.size≤N:=fun t ht=>h t (List.mem_of_mem_tail ht)
theorem ahh {l:List ByteArray} {N:Nat} (h:∀t∈l,t.size≤N):(l.headD ByteArray.empty).size≤N:=by
 cases l with
 | nil=>simp
 | cons a l=>exact h a (b1s ..)
def jv (g:Nat) (x:Value) (s:Rd) (w:World) (r:Ending) (w':World):Prop:=r=.returned x∧qz g s w'∧Frm g vi w w'
theorem qz.post {Q:Nat→Prop} {g:Nat} {x:Value} {s:Rd} {w w':World} {r:Ending} (h2:∀b,Q b→b<g) (h3:∀t∈s.2,t.size≤1000000) (h:ab9 Q g x s.1 s.2 w r w'):jv g x s w r w':=
 ⟨h.1,⟨Q,h.2.1,h2,h3⟩,h.2.2⟩
theorem ki {g:Nat} {s t:Rd} {w:World} {b:Bool} {n W M F L H:Int} (ht:Hid (qs W M F L H s=((b,n),t))) (hp:qz g s w) :
 Calls prog 136 #[.pointer (some ⟨g,0,none⟩),j7 W M F L H] w (jv g (jo b n) t w):=by
 have ht:=ht.out;have hg:=hp.lt;obtain⟨Q,h1,h2,h3⟩:=hp;injection ht with e1 e2
 injection e1 with e3 e4
 subst e2 e3 e4;exact(a27 g s.1 s.2 W M F L H w h1 (fun b q=>b05 (h2 b q) hg) hg (ahh h3)).mono fun r w' h=>qz.post (s:=(qs W M F L H s).2) h2 (ago h3) h
theorem zc {g:Nat} {s t:Rd} {w:World} {a:ByteArray} (ht:Hid (qv s=(a,t))) (hp:qz g s w) :
 Calls prog 152 #[.pointer (some ⟨g,0,none⟩)] w (jv g (.string a) t w):=by
 have ht:=ht.out;obtain⟨Q,h1,h2,h3⟩:=hp;injection ht with e1 e2
 subst e1 e2;exact(aen g s.1 s.2 w h1).mono fun r w' h=>qz.post (s:=(qv s).2) h2 (ago h3) h
theorem xm {g:Nat} {s t:Rd} {w:World} {E:Int} (ht:Hid (xt E s=t)) (hp:qz g s w) :
 Calls prog 149 #[.pointer (some ⟨g,0,none⟩),.int .i64 E] w (jv g (.tuple #[]) t w):=by
 have ht:=ht.out;obtain⟨Q,h1,h2,h3⟩:=hp;subst ht;exact(ag6 g s.1 E s.2 w h1).mono fun r w' h=>qz.post (s:=xt E s) h2 h3 h
theorem apv {g:Nat} {s:Rd} {w:World} (hp:qz g s w) :
 Calls prog 147 #[.pointer (some ⟨g,0,none⟩)] w fun r w'=>r=.returned (.int .i64 s.1)∧w=w':=by
 obtain⟨Q,h1,h2,h3⟩:=hp;exact a26 g s.1 s.2 w h1
theorem aks {g:Nat} {s:Rd} {w:World} (hp:qz g s w) :
 Calls prog 175 #[.pointer (some ⟨g,0,none⟩)] w fun r w'=>r=.returned (.int .i64 (s.2.length:Int))∧w=w':=by
 obtain⟨Q,h1,h2,h3⟩:=hp;exact ax8 g s.1 s.2 w h1
theorem akt {A:Option Addr} {R:List ByteArray} {c:Nat} {w:World} (hA:A=none→c=0) (hs:vw w w.1.size A R) (hn:R.length≤1000000) (ht:∀t∈R,t.size≤1000000) :
 Calls prog 135 #[.slice A R.length c] w fun r w'=>∃g,r=.returned (.pointer (some ⟨g,0,none⟩))∧qz g (0,R) w'∧w.1.size≤g∧w'.1.size=g+1∧Below w.1.size w w':=
 (bcz A R c w hA hs hn).mono fun r w' ⟨g,h1,h2,h3,h4,h5⟩=>⟨g,h1,⟨_,h2,fun b q=>q.2,ht⟩,h3,h4,h5⟩
def ai9 (s:Rd):Clk×Rd:=((aah (qv s).1.data.toList).1,xt (aah (qv s).1.data.toList).2 (qv s).2)
def a0x (s:Rd):Dat×Rd:=((ach (qv s).1.data.toList).1,xt (ach (qv s).1.data.toList).2 (qv s).2)
def ac9 (lat:Bool) (s:Rd):(Bool×Int)×Rd:=
 (((abc (s.2.headD ByteArray.empty).data.toList (s.2.tail.headD ByteArray.empty) lat).1,(abc (s.2.headD ByteArray.empty).data.toList (s.2.tail.headD ByteArray.empty) lat).2.1),
   (aa1 (ada (ada s.1 s.2) s.2.tail) (abc (s.2.headD ByteArray.empty).data.toList (s.2.tail.headD ByteArray.empty) lat).2.2,s.2.tail.tail))
theorem avc {g:Nat} {s t:Rd} {w:World} {lat b:Bool} {n:Int} (ht:Hid (ac9 lat s=((b,n),t))) (hp:qz g s w) :
 Calls prog 137 #[.pointer (some ⟨g,0,none⟩),.bool lat] w (jv g (jo b n) t w):=by
 have ht:=ht.out;have hg:=hp.lt;obtain⟨Q,h1,h2,h3⟩:=hp;injection ht with e1 e2
 injection e1 with e3 e4
 subst e2 e3 e4;exact(aul g s.1 s.2 lat w h1 (fun b q=>b05 (h2 b q) hg) hg (ahh h3)).mono fun r w' h=>qz.post (s:=(ac9 lat s).2) h2 (ago (ago h3)) h
def ag2 {α β:Type} (f:Rd→α×Rd) (g:Rd→β×Rd) (s:Rd):(α×β)×Rd:=(((f s).1,(g (f s).2).1),(g (f s).2).2)
abbrev N2:=Bool×Int
def zN:N2:=(false,0)
abbrev aun:=Clk×N2×N2×Int×N2×N2×N2×N2×N2×N2
def bku:Cl:=⟨1,6,1,-9999999,9999999,⟨#[77]⟩⟩
def bk5:Cl:=⟨1,4,1,-99999,99999,⟨#[77]⟩⟩
def bd5:Rd→aun×Rd:=ag2 ai9 (ag2 (ac9 true) (ag2 (ac9 false) (ag2 (zn 0 8) (ag2 (qs 1 2 0 0 99) (ag2 (qs 1 3 2 0 99999) (ag2 (yc bku) (ag2 (yc bk5) (ag2 (qs 1 4 1 0 99999) (qs 1 4 0 0 1023)))))))))
def aab:aun:=(zC,zN,zN,0,zN,zN,zN,zN,zN,zN)
def yf (R:List ByteArray):aun×Int:=if R.length≠14 then(aab,3)else if(bd5 (0,R)).2.1=0 then((bd5 (0,R)).1,0)else(aab,(bd5 (0,R)).2.1)
def baz (s:Rd):Bool×Rd:=(decide ((qv s).1=⟨#[65]⟩),if(qv s).1 ≠⟨#[65]⟩ ∧(qv s).1 ≠⟨#[86]⟩then xt 3 (qv s).2 else(qv s).2)
def eT:ByteArray:=⟨#[69]⟩
def wT:ByteArray:=⟨#[87]⟩
def bf6 (n:N2) (d:ByteArray) (s:Rd):N2×Rd:=
 if(n.1=true∧d≠eT∧d≠wT) ∨(n.1=false∧d≠ByteArray.empty)then(n,xt 3 s)else if d=wT then((n.1,-n.2),s)else(n,s)
def at1 (s:Rd):N2×Rd:=bf6 (qs 1 3 1 0 1800 s).1 (qv (qs 1 3 1 0 1800 s).2).1 (qv (qs 1 3 1 0 1800 s).2).2
abbrev aup:=Clk×Bool×N2×N2×N2×N2×Dat×N2
def bfy:Rd→aup×Rd:=ag2 ai9 (ag2 baz (ag2 (ac9 true) (ag2 (ac9 false) (ag2 (qs 1 4 2 0 999999) (ag2 (qs 1 3 2 0 36000) (ag2 a0x at1))))))
def aac:aup:=(zC,false,zN,zN,zN,zN,zD,zN)
def yg (R:List ByteArray):aup×Int:=
 if R.length≠11∧R.length≠12 then(aac,3)else if(aaf (bfy (0,R)).2).1=0 then((bfy (0,R)).1,0)else(aac,(aaf (bfy (0,R)).2).1)
