/- Layer 23, plain: what is taken, put, is taken as that; angles. -/
import Derived.Test.YtdkhlkfleggbaaaGreatP12
import Derived.Test.YtdkhlkfleggbaaaGreatP15
import Derived.Test.YtdkhlkfleggbaaaGreatP09
namespace Go.Proofs.YtdkhlkfleggbaaaGreat
open Lib (hid)
set_option linter.unusedVariables false
open Go.RowKit
theorem aua {l:List UInt8} {a m f n:Nat} (h:ajk l a m f n) (ha:1≤a) (hmf:m+f≤18):(aie n 1 f).length≤l.length:=by
 obtain⟨A,T,rfl,hA,h1,h2,h3⟩:=h
 have hv:=ahc A hA
 have hp:0<10^f:=Nat.pow_pos (by decide)
 unfold aie
 rw[List.length_append,List.length_append]
 rcases h3 with⟨rfl,rfl⟩|⟨B,rfl,hB,h4,h5,rfl⟩
 ·rw[Nat.mul_div_cancel _ hp,Nat.mul_mod_left]
  have:=al9 (l:=1) hv (by omega)
  show _ +([]:List UInt8).length≤_
  simpa using this
 ·have hvb:=ahc B hB
  have hr:vx B*10^(f-B.length)<10^f:=by
   have:vx B*10^(f-B.length)<10^B.length*10^(f-B.length):=Nat.mul_lt_mul_of_pos_right hvb (Nat.pow_pos (by decide))
   rwa [← Nat.pow_add,show B.length +(f-B.length)=f from by omega]at this
  have e1:(vx A*10^f+vx B*10^(f-B.length)) / 10^f=vx A:=by
   rw[Nat.mul_comm,Nat.mul_add_div hp,Nat.div_eq_of_lt hr,Nat.add_zero]
  have e2:(vx A*10^f+vx B*10^(f-B.length))%10^f=vx B*10^(f-B.length):=by
   rw[Nat.mul_comm,Nat.mul_add_mod,Nat.mod_eq_of_lt hr]
  rw[e1,e2]
  have k1:=al9 (l:=1) hv (by omega)
  have k2:=avr (vx B) (f-B.length) f hr (by omega) (by omega)
  rw[List.length_cons]
  omega
theorem a89 {l:List UInt8} {b:Bool} {n W M F L H:Int} (h:jm l W M F L H=(b,n,0)) :
 ∃t:ByteArray,asd b n W M F L H=(t,0) ∧(W=1→t.size≤l.length):=by
 unfold jm at h
 by_cases hr:aax W M F L H=false
 ·rw[if_pos hr]at h;simp at h
 rw[if_neg hr]at h
 by_cases h0:l=[]
 ·rw[if_pos h0]at h
  injection h with h1 h2
  injection h2 with h2 h3
  subst h1 h2
  refine⟨ByteArray.empty,?_,fun _=>by show 0≤_;omega⟩
  unfold asd
  rw[if_neg hr,if_neg (by unfold aae;simp),if_pos rfl]
 rw[if_neg h0]at h
 obtain⟨w,m,f,rfl,rfl,rfl,g1,g2,g3,g4,g5,g6⟩:=avo (by simpa using hr)
 rw[Int.toNat_natCast,Int.toNat_natCast]at h
 cases hq:v7 (aex l) 1 m f with
 | none=>rw[hq]at h;simp at h
 | some k=>
  rw[hq]at h
  dsimp only at h
  by_cases hf:aae true (if ahk l then -(k:Int)else(k:Int)) L H=true
  ·rw[if_pos hf]at h
   injection h with h1 h2
   injection h2 with h2 h3
   subst h1
   rw[h2]at hf
   have ht:=aua (a1z hq) (Nat.le_refl _) (by omega)
   have hab:n.natAbs=k:=by split at h2<;>omega
   unfold asd
   rw[if_neg hr,if_neg (by rw[hf];decide),if_neg (by decide),Int.toNat_natCast,Int.toNat_natCast]
   by_cases hn:n<0
   ·rw[if_pos hn,show (-n).toNat=k from by omega]
    refine⟨_,rfl,fun e=>?_⟩
    have hw:w=1:=by omega
    subst hw
    have hneg:ahk l=true:=by
     cases hg:ahk l with
     | true=>rfl
     | false=>rw[hg]at h2;simp at h2;omega
    unfold aex at ht
    rw[hneg,if_pos rfl,List.length_drop]at ht
    have:0<l.length:=List.length_pos_iff.2 h0
    rw[a9v,List.length_cons]
    omega
   ·rw[if_neg hn,show n.toNat=k from by omega]
    refine⟨_,rfl,fun e=>?_⟩
    have hw:w=1:=by omega
    subst hw
    rw[a9v]
    refine Nat.le_trans ht ?_
    unfold aex
    split
    ·rw[List.length_drop];omega
    ·omega
  ·rw[if_neg hf]at h;simp at h
abbrev Rd:=Int×List ByteArray
def qs (s:Rd):ByteArray×Rd:=(s.2.headD ByteArray.empty,(acj s.1 s.2,s.2.tail))
def qp (W M F L H:Int) (s:Rd):(Bool×Int)×Rd:=
 (((jm (s.2.headD ByteArray.empty).data.toList W M F L H).1,(jm (s.2.headD ByteArray.empty).data.toList W M F L H).2.1),(aac (acj s.1 s.2) (jm (s.2.headD ByteArray.empty).data.toList W M F L H).2.2,s.2.tail))
def xe (E:Int) (s:Rd):Rd:=(aac s.1 E,s.2)
def akq (t:ByteArray) (E:Int) (s:Rd):Rd:=(aac s.1 E,s.2++[t])
def ajw (W M F L H:Int) (n:Bool×Int) (s:Rd):Rd:=(aac s.1 (asd n.1 n.2 W M F L H).2,s.2++[(asd n.1 n.2 W M F L H).1])
def at1 (s:Rd):List ByteArray×Int:=(if s.1=0 then s.2 else [],s.1)
theorem vj {e E:Int} (h:aac e E=0):e=0∧E=0:=by
 unfold aac at h
 by_cases he:e=0
 ·rw[if_pos he]at h;exact⟨he,h⟩
 ·rw[if_neg he]at h;exact absurd h he
theorem afe {e:Int} {R:List ByteArray} (h:acj e R=0):e=0∧∃t R',R=t::R':=by
 unfold acj at h
 cases R with
 | nil=>rw[if_pos rfl]at h;exact absurd (vj h).2 (by decide)
 | cons t R'=>rw[if_neg (by simp)]at h;exact⟨h,t,R',rfl⟩
theorem adi (e:Int) (t:ByteArray) (R:List ByteArray):acj e (t::R)=e:=if_neg (by simp)
theorem aer {W M F L H:Int} {s:Rd} (h:(qp W M F L H s).2.1=0) :
 s.1=0∧∃t R n,s.2=t::R∧qp W M F L H s=(n,(0,R))∧∃t',(∀l,ajw W M F L H n (0,l)=(0,l++[t'])) ∧(W=1→t'.size≤t.size)∧∀R,qp W M F L H (0,t'::R)=(n,(0,R)):=by
 obtain⟨h1,h2⟩:=vj h
 obtain⟨h3,t,R,h4⟩:=afe h1
 obtain⟨e,l⟩:=s
 simp only at h3 h4
 subst h3 h4
 simp only[List.headD_cons]at h2
 obtain⟨b,n,E⟩:Bool×Int×Int:=jm t.data.toList W M F L H
 have hT:jm t.data.toList W M F L H=((jm t.data.toList W M F L H).1,(jm t.data.toList W M F L H).2.1,0):=by rw[← h2]
 obtain⟨t',h5,h6⟩:=a89 hT
 refine⟨rfl,t,R,((jm t.data.toList W M F L H).1,(jm t.data.toList W M F L H).2.1),rfl,?_,t',fun l=>?_,fun hW=>?_,fun R=>?_⟩
 ·unfold qp
  simp only[List.headD_cons,List.tail_cons,h2,adi]
  rfl
 ·unfold ajw
  rw[h5]
  rfl
 ·have:=h6 hW
  simpa using this
 ·have h7:=a9f (by rw[h5]:(asd (jm t.data.toList W M F L H).1 (jm t.data.toList W M F L H).2.1 W M F L H).2=0)
  rw[h5]at h7
  unfold qp
  rw[adi]
  simp only[List.headD_cons,List.tail_cons]at h7 ⊢
  rw[h7]
  rfl
structure Cl where
 W:Int
 M:Int
 F:Int
 L:Int
 H:Int
 c:ByteArray
def aq2 (b:Bool) (c:ByteArray):ByteArray:=if b=true then c else ByteArray.empty
def kr (c:ByteArray) (b:Bool) (s:Rd):Rd:=if(qs s).1≠c ∧(b=true ∨(qs s).1≠ByteArray.empty)then xe 3 (qs s).2 else(qs s).2
def vk (k:Cl) (s:Rd):(Bool×Int)×Rd:=((qp k.W k.M k.F k.L k.H s).1,kr k.c (qp k.W k.M k.F k.L k.H s).1.1 (qp k.W k.M k.F k.L k.H s).2)
def a37 (k:Cl) (n:Bool×Int) (s:Rd):Rd:=akq (aq2 n.1 k.c) 0 (ajw k.W k.M k.F k.L k.H n s)
theorem a2u (c:ByteArray) (b:Bool) (R:List ByteArray):kr c b (0,aq2 b c::R)=(0,R):=by
 unfold kr qs aq2
 cases b<;>simp[adi]
theorem a8j {c:ByteArray} {b:Bool} {s:Rd} (h:(kr c b s).1=0):s.1=0∧∃u R,s.2=u::R∧kr c b s=(0,R) ∧(aq2 b c).size≤u.size:=by
 obtain⟨e,l⟩:=s
 by_cases hq:(qs (e,l)).1≠c ∧(b=true ∨(qs (e,l)).1≠ByteArray.empty)
 ·unfold kr at h
  rw[if_pos hq]at h
  exact absurd (vj h).2 (by decide)
 ·have h0:=h
  unfold kr at h0 ⊢
  rw[if_neg hq]at h0 ⊢
  obtain⟨h1,u,R,h2⟩:=afe h0
  simp only at h1 h2
  subst h1 h2
  refine⟨rfl,u,R,rfl,by simp[qs,adi],?_⟩
  unfold aq2
  cases b with
  | false=>simp
  | true=>
   have:u=c:=Classical.byContradiction fun q=>hq ⟨by simpa [qs]using q,.inl rfl⟩
   rw[this];simp
theorem a81 {k:Cl} {s:Rd} (h:(vk k s).2.1=0) :
 s.1=0∧∃t u R n,s.2=t::u::R∧vk k s=(n,(0,R))∧∃t' u',(∀l,a37 k n (0,l)=(0,l++[t',u'])) ∧(k.W=1→t'.size≤t.size)∧u'.size≤u.size∧∀R,vk k (0,t'::u'::R)=(n,(0,R)):=by
 obtain⟨h1,u,R,h2,h3,h4⟩:=a8j h
 obtain⟨h5,t,R',n,h6,h7,t',h8,h9,h10⟩:=aer h1
 rw[h7]at h2
 simp only at h2
 subst h2
 refine⟨h5,t,u,R,n,h6,?_,t',aq2 n.1 k.c,fun l=>?_,h9,?_,fun R=>?_⟩
 ·unfold vk;rw[h3,h7]
 ·unfold a37;rw[h8];simp[akq,aac]
 ·rw[h7]at h4;exact h4
 ·unfold vk
  rw[h10]
  simp only
  rw[a2u]
def at6:List Cl→List (Bool×Int)→Rd→Rd
 | k::K,n::N,s=>at6 K N (a37 k n s)
 | _,_,s=>s
def aav:List Cl→Rd→List (Bool×Int)×Rd
 | [],s=>([],s)
 | k::K,s=>((vk k s).1::(aav K (vk k s).2).1,(aav K (vk k s).2).2)
def zx (T U:List ByteArray):Prop:=∀(i:Nat) (t u:ByteArray),T[i]?=some t→U[i]?=some u→t.size≤u.size
theorem zx.cons {t u:ByteArray} {T U:List ByteArray} (h:t.size≤u.size) (k:zx T U):zx (t::T) (u::U):=by
 intro i a b h1 h2
 cases i with
 | zero=>simp at h1 h2;subst h1 h2;exact h
 | succ i=>exact k i a b (by simpa using h1) (by simpa using h2)
theorem zx.nil (U:List ByteArray):zx [] U:=fun i t u h=>by simp at h
theorem ar2:∀(K:List Cl) (s:Rd),(∀k∈K,k.W=1) →(aav K s).2.1=0 →
 s.1=0∧∃T R N T',s.2=T++R∧T.length=2*K.length∧N.length=K.length∧T'.length=2*K.length∧aav K s=(N,(0,R)) ∧(∀l,at6 K N (0,l)=(0,l++T'))∧zx T' T∧∀R,aav K (0,T'++R)=(N,(0,R))
 | [],s,_,h=>⟨h,[],s.2,[],[],rfl,rfl,rfl,rfl,Prod.ext rfl (Prod.ext h rfl),fun l=>by rw[List.append_nil];rfl,zx.nil _,fun _=>rfl⟩
 | k::K,s,hK,h=>by
  obtain⟨h1,T,R,N,T',h2,h3,h4,h5,h6,h7,h8,h9⟩:=ar2 K (vk k s).2 (fun j hj=>hK j (List.mem_cons_of_mem _ hj)) h
  obtain⟨g1,t,u,R',n,g2,g3,t',u',g4,g5,g6,g7⟩:=a81 h1
  rw[g3]at h2
  simp only at h2
  subst h2
  refine⟨g1,t::u::T,R,n::N,t'::u'::T',by rw[g2];rfl,by simp[h3];omega,by simp[h4],by simp[h5];omega,?_,fun l=>?_,?_,fun R=>?_⟩
  ·show ((vk k s).1::(aav K (vk k s).2).1,(aav K (vk k s).2).2)=_
   rw[h6,g3]
  ·show at6 K N (a37 k n (0,l))=_
   rw[g4,h7];simp
  ·exact zx.cons (g5 (hK k (List.mem_cons_self ..))) (zx.cons g6 h8)
  ·show ((vk k (0,t'::u'::(T'++R))).1::(aav K (vk k (0,t'::u'::(T'++R))).2).1,(aav K (vk k (0,t'::u'::(T'++R))).2).2)=_
   rw[g7,h9]
def aoq:List Cl:=[⟨1,3,2,0,36000,⟨#[84]⟩⟩,⟨1,3,2,0,36000,⟨#[77]⟩⟩,⟨1,4,2,0,999999,⟨#[78]⟩⟩,⟨1,4,2,0,999999,⟨#[75]⟩⟩]
def a23 (N:List (Bool×Int)):List ByteArray×Int:=at1 (at6 aoq N (0,[]))
def alw (s:ByteArray):Bool:=decide (s.size=1) && decide (65 ≤(s[0]?.getD 0).toNat) && decide ((s[0]?.getD 0).toNat≤90)
def yj (s:Rd):Rd:=if s.2=[]then s else if(qs s).1≠ByteArray.empty∧alw (qs s).1=false then xe 3 (qs s).2 else(qs s).2
def aed:List (Bool×Int):=[(false,0),(false,0),(false,0),(false,0)]
def xu (R:List ByteArray):List (Bool×Int)×Int:=
 if R.length≠8∧R.length≠9 then(aed,3)
 else if(yj (aav aoq (0,R)).2).1=0 then((aav aoq (0,R)).1,0)else(aed,(yj (aav aoq (0,R)).2).1)
theorem axe {s:Rd} (h:(yj s).1=0):s.1=0:=by
 unfold yj at h
 split at h
 ·exact h
 ·split at h
  ·exact absurd (vj h).2 (by decide)
  ·exact(afe h).1
theorem a93:∀k∈aoq,k.W=1:=by simp[aoq]
theorem asi {R:List ByteArray} (h:(xu R).2=0):(xu R).1.length=4 ∧(a23 (xu R).1).2=0∧zx (a23 (xu R).1).1 R:=by
 unfold xu at h ⊢
 by_cases hl:R.length≠8∧R.length≠9
 ·rw[if_pos hl]at h;exact absurd h (by decide)
 ·rw[if_neg hl]at h ⊢
  by_cases h0:(yj (aav aoq (0,R)).2).1=0
  ·rw[if_pos h0]
   obtain⟨-,T,R',N,T',h1,h2,h3,h4,h5,h6,h7,h8⟩:=ar2 aoq (0,R) a93 (axe h0)
   rw[h5]
   refine⟨h3,?_⟩
   unfold a23
   rw[h6]
   refine⟨rfl,fun i t u ht hu=>?_⟩
   have ht':T'[i]?=some t:=by simpa [at1]using ht
   have hi:i<T'.length:=(List.getElem?_eq_some_iff.1 ht').1
   have hu':R[i]?=some u:=hu
   rw[show R=T++R' from h1,List.getElem?_append_left (by omega)]at hu'
   exact h7 i t u ht' hu'
  ·rw[if_neg h0]at h
   exact absurd h h0
theorem a12 {R:List ByteArray} (h:(xu R).2≠0):(xu R).1=aed:=by
 unfold xu at h ⊢
 split at h
 ·rename_i q;rw[if_pos q]
 ·rename_i q
  rw[if_neg q]
  split at h
  ·exact absurd rfl h
  ·rename_i q2;rw[if_neg q2]
theorem azg (R:List ByteArray):(xu R).1.length=4:=by
 by_cases h:(xu R).2=0
 ·exact(asi h).1
 ·rw[a12 h];rfl
def dgB (t:ByteArray):Bool:=decide (t.size=1) && decide (48 ≤(t[0]?.getD 0).toNat) && decide ((t[0]?.getD 0).toNat≤57)
def dgN (t:ByteArray):Int:=((t[0]?.getD 0).toNat:Int)-48
def akt (n:Int):ByteArray:=⟨#[UInt8.ofNat (48+n).toNat]⟩
def zf (lo hi:Int) (s:Rd):Int×Rd:=
 if dgB (qs s).1=true then(dgN (qs s).1,if dgN (qs s).1<lo∨hi<dgN (qs s).1 then xe 5 (qs s).2 else(qs s).2)else(0,xe 3 (qs s).2)
def ahm (lo hi n:Int) (s:Rd):Rd:=if n<lo∨hi<n then akq ByteArray.empty 5 s else akq (akt n) 0 s
theorem akz (n:Int):(akt n).size=1:=rfl
theorem ba9 (n:Int):(akt n)[0]?=some (UInt8.ofNat (48+n).toNat):=rfl
theorem a7k {n:Int} (h0:0≤n) (h9:n≤9):dgB (akt n)=true∧dgN (akt n)=n:=by
 have hv:(UInt8.ofNat (48+n).toNat).toNat=(48+n).toNat:=by rw[UInt8.toNat_ofNat'];omega
 unfold dgB dgN
 rw[akz,ba9,Option.getD_some,hv]
 refine⟨?_,by omega⟩
 simp
 omega
theorem a4b {t:ByteArray} (h:dgB t=true):0≤dgN t∧dgN t≤9∧t.size=1:=by
 unfold dgB at h
 simp at h
 unfold dgN
 omega
theorem ak1 (t:ByteArray) (R:List ByteArray):qs (0,t::R)=(t,(0,R)):=by simp[qs,adi]
theorem bba {lo hi n:Int} {s:Rd} (hlo:0≤lo) (hhi:hi≤9) (h:(ahm lo hi n s).1=0) :
 s.1=0∧lo≤n∧n≤hi ∧(∀l,ahm lo hi n (0,l)=(0,l++[akt n]))∧ahm lo hi n s=(0,s.2++[akt n])∧∀R,zf lo hi (0,akt n::R)=(n,(0,R)):=by
 by_cases hq:n<lo∨hi<n
 ·unfold ahm at h
  rw[if_pos hq]at h
  exact absurd (vj h).2 (by decide)
 ·have k:∀s,ahm lo hi n s=akq (akt n) 0 s:=fun s=>if_neg hq
  rw[k]at h
  obtain⟨h1,-⟩:=vj h
  obtain⟨d1,d2⟩:=a7k (n:=n) (by omega) (by omega)
  refine⟨h1,by omega,by omega,fun l=>by rw[k];rfl,by rw[k];unfold akq;rw[h1];rfl,fun R=>?_⟩
  unfold zf
  rw[ak1]
  simp only
  rw[if_pos d1,d2,if_neg hq]
theorem axw {lo hi:Int} {s:Rd} (hlo:0≤lo) (hhi:hi≤9) (h:(zf lo hi s).2.1=0) :
 s.1=0∧∃t R n,s.2=t::R∧zf lo hi s=(n,(0,R))∧lo≤n∧n≤hi∧t.size=1 ∧(∀l,ahm lo hi n (0,l)=(0,l++[akt n]))∧∀R,zf lo hi (0,akt n::R)=(n,(0,R)):=by
 obtain⟨e,l⟩:=s
 by_cases hd:dgB (qs (e,l)).1=true
 ·by_cases hq:dgN (qs (e,l)).1<lo∨hi<dgN (qs (e,l)).1
  ·unfold zf at h
   rw[if_pos hd,if_pos hq]at h
   exact absurd (vj h).2 (by decide)
  ·have hr:zf lo hi (e,l)=(dgN (qs (e,l)).1,(qs (e,l)).2):=by unfold zf;rw[if_pos hd,if_neg hq]
   rw[hr]at h
   obtain⟨h1,t,R,h2⟩:=afe h
   simp only at h1 h2
   subst h1 h2
   rw[ak1]at hd hq hr
   simp only at hd hq hr
   obtain⟨d0,d9,d1⟩:=a4b hd
   have hw:(ahm lo hi (dgN t) (0,[])).1=0:=by unfold ahm;rw[if_neg hq];rfl
   obtain⟨-,w1,w2,w3,-,w5⟩:=bba hlo hhi hw
   exact⟨rfl,t,R,dgN t,rfl,hr,w1,w2,d1,w3,w5⟩
 ·unfold zf at h
  rw[if_neg hd]at h
  exact absurd (vj h).2 (by decide)
abbrev V4:=(Bool×Int) ×(Bool×Int) ×(Bool×Int) ×(Bool×Int)
def at7 (v:V4) (s:Rd):Rd:=ajw 1 2 0 0 99 v.2.2.2 (ajw 1 3 0 0 359 v.2.2.1 (ajw 1 2 0 0 90 v.2.1 (ajw 1 3 0 1 255 v.1 s)))
def yi (s:Rd):V4×Rd:=
 (((qp 1 3 0 1 255 s).1,(qp 1 2 0 0 90 (qp 1 3 0 1 255 s).2).1,(qp 1 3 0 0 359 (qp 1 2 0 0 90 (qp 1 3 0 1 255 s).2).2).1,(qp 1 2 0 0 99 (qp 1 3 0 0 359 (qp 1 2 0 0 90 (qp 1 3 0 1 255 s).2).2).2).1),
   (qp 1 2 0 0 99 (qp 1 3 0 0 359 (qp 1 2 0 0 90 (qp 1 3 0 1 255 s).2).2).2).2)
def au6 (l:List V4) (s:Rd):Rd:=l.foldl (fun s v=>at7 v s) s
def jn:Nat→Rd→List V4×Rd
 | 0,s=>([],s)
 | k+1,s=>((yi s).1::(jn k (yi s).2).1,(jn k (yi s).2).2)
theorem a7b {s:Rd} (h:(yi s).2.1=0) :
 s.1=0∧∃T R v T',s.2=T++R∧T.length=4∧T'.length=4∧yi s=(v,(0,R)) ∧(∀l,at7 v (0,l)=(0,l++T'))∧zx T' T∧∀R,yi (0,T'++R)=(v,(0,R)):=by
 obtain⟨d1,t4,R4,n4,d2,d3,u4,d4,d5,d6⟩:=aer h
 obtain⟨c1,t3,R3,n3,c2,c3,u3,c4,c5,c6⟩:=aer d1
 obtain⟨b1,t2,R2,n2,b2,b3,u2,b4,b5,b6⟩:=aer c1
 obtain⟨a1,t1,R1,n1,a2,a3,u1,a4,a5,a6⟩:=aer b1
 rw[a3]at b2 b3 c2 c3 d2 d3
 simp only at b2 b3 c2 c3 d2 d3
 subst b2
 rw[b3]at c2 c3 d2 d3
 simp only at c2 c3 d2 d3
 subst c2
 rw[c3]at d2 d3
 simp only at d2 d3
 subst d2
 refine⟨a1,[t1,t2,t3,t4],R4,(n1,n2,n3,n4),[u1,u2,u3,u4],a2,rfl,rfl,?_,fun l=>?_,?_,fun R=>?_⟩
 ·unfold yi
  rw[a3]
  simp only
  rw[b3]
  simp only
  rw[c3]
  simp only
  rw[d3]
 ·unfold at7
  simp only
  rw[a4,b4,c4,d4]
  simp
 ·exact zx.cons (a5 rfl) (zx.cons (b5 rfl) (zx.cons (c5 rfl) (zx.cons (d5 rfl) (zx.nil _))))
 ·unfold yi
  simp only[List.cons_append,List.nil_append,a6,b6,c6,d6]
theorem zx.append {T U T' U':List ByteArray} (h:zx T U) (hl:T.length=U.length) (k:zx T' U'):zx (T++T') (U++U'):=by
 intro i a b h1 h2
 rcases Nat.lt_or_ge i T.length with q|q
 ·rw[List.getElem?_append_left q]at h1
  rw[List.getElem?_append_left (by omega)]at h2
  exact h i a b h1 h2
 ·rw[List.getElem?_append_right q]at h1
  rw[List.getElem?_append_right (by omega),← hl]at h2
  exact k _ a b h1 h2
theorem am5:∀(k:Nat) (s:Rd),(jn k s).2.1=0 →
 s.1=0∧∃T R l T',s.2=T++R∧T.length=4*k∧T'.length=4*k∧l.length=k∧jn k s=(l,(0,R)) ∧(∀L,au6 l (0,L)=(0,L++T'))∧zx T' T∧∀R,jn k (0,T'++R)=(l,(0,R))
 | 0,s,h=>⟨h,[],s.2,[],[],rfl,rfl,rfl,rfl,Prod.ext rfl (Prod.ext h rfl),fun L=>by rw[List.append_nil];rfl,zx.nil _,fun R=>rfl⟩
 | k+1,s,h=>by
  obtain⟨h1,T,R,l,T',h2,h3,h4,h5,h6,h7,h8,h9⟩:=am5 k (yi s).2 h
  obtain⟨g1,U,R',v,U',g2,g3,g4,g5,g6,g7,g8⟩:=a7b h1
  rw[g5]at h2 h6
  simp only at h2 h6
  subst h2
  refine⟨g1,U++T,R,v::l,U'++T',by rw[g2,List.append_assoc],by simp[g3,h3];omega,by simp[g4,h4];omega,by simp[h5],?_,fun L=>?_,zx.append g7 (by omega) h8,fun R=>?_⟩
  ·show ((yi s).1::(jn k (yi s).2).1,(jn k (yi s).2).2)=_
   rw[g5]
   simp only
   rw[h6]
  ·show au6 l (at7 v (0,L))=_
   rw[g6,h7,List.append_assoc]
  ·show ((yi (0,U'++T'++R)).1::(jn k (yi (0,U'++T'++R)).2).1,(jn k (yi (0,U'++T'++R)).2).2)=_
   rw[List.append_assoc,g8]
   simp only
   rw[h9]
structure a03 where
 T:Int
 N:Int
 S:Int
 L:List V4
def ku:a03:=⟨0,0,0,[]⟩
def api (m:a03):List ByteArray×Int:=if 4<m.L.length then([],7)else at1 (au6 m.L (ajw 1 2 0 0 99 (true,m.S) (ahm 1 (min m.T 9) m.N (ahm 1 9 m.T (0,[])))))
def aaw (s:Rd):Int×Rd:=((qp 1 2 0 0 99 s).1.2,if(qp 1 2 0 0 99 s).1.1=true then(qp 1 2 0 0 99 s).2 else xe 3 (qp 1 2 0 0 99 s).2)
def as3 (n:Nat):Prop:=n<3∨19<n∨n%4≠3
instance (n:Nat):Decidable (as3 n):=by unfold as3;infer_instance
def zl (R:List ByteArray):a03×Int:=
 if as3 R.length then(ku,3)
 else if(jn ((R.length-3) / 4) (aaw (zf 1 (zf 1 9 (0,R)).1 (zf 1 9 (0,R)).2).2).2).2.1=0 then
  (⟨(zf 1 9 (0,R)).1,(zf 1 (zf 1 9 (0,R)).1 (zf 1 9 (0,R)).2).1,(aaw (zf 1 (zf 1 9 (0,R)).1 (zf 1 9 (0,R)).2).2).1,(jn ((R.length-3) / 4) (aaw (zf 1 (zf 1 9 (0,R)).1 (zf 1 9 (0,R)).2).2).2).1⟩,0)
 else(ku,(jn ((R.length-3) / 4) (aaw (zf 1 (zf 1 9 (0,R)).1 (zf 1 9 (0,R)).2).2).2).2.1)
theorem a6c {s:Rd} (h:(aaw s).2.1=0):s.1=0∧∃t R n,s.2=t::R∧aaw s=(n,(0,R))∧∃t',(∀l,ajw 1 2 0 0 99 (true,n) (0,l)=(0,l++[t']))∧t'.size≤t.size∧∀R,aaw (0,t'::R)=(n,(0,R)):=by
 by_cases hb:(qp 1 2 0 0 99 s).1.1=true
 ·have hr:aaw s=((qp 1 2 0 0 99 s).1.2,(qp 1 2 0 0 99 s).2):=by unfold aaw;rw[if_pos hb]
  rw[hr]at h
  obtain⟨h1,t,R,n,h2,h3,t',h4,h5,h6⟩:=aer h
  rw[h3]at hb hr
  obtain⟨b,n⟩:=n
  simp only at hb hr
  subst hb
  refine⟨h1,t,R,n,h2,hr,t',h4,h5 rfl,fun R=>?_⟩
  unfold aaw
  rw[h6]
  rfl
 ·unfold aaw at h
  rw[if_neg hb]at h
  exact absurd (vj h).2 (by decide)
theorem ask {R:List ByteArray} (h:(zl R).2=0):(zl R).1.L.length≤4 ∧(api (zl R).1).2=0 ∧(api (zl R).1).1.length=R.length∧zx (api (zl R).1).1 R:=by
 by_cases hb:as3 R.length
 ·unfold zl at h;rw[if_pos hb]at h;exact absurd h (by decide)
 ·have hb2:=hb
  unfold as3 at hb2
  by_cases h0:(jn ((R.length-3) / 4) (aaw (zf 1 (zf 1 9 (0,R)).1 (zf 1 9 (0,R)).2).2).2).2.1=0
  ·have ht:zl R=(⟨(zf 1 9 (0,R)).1,(zf 1 (zf 1 9 (0,R)).1 (zf 1 9 (0,R)).2).1,(aaw (zf 1 (zf 1 9 (0,R)).1 (zf 1 9 (0,R)).2).2).1,(jn ((R.length-3) / 4) (aaw (zf 1 (zf 1 9 (0,R)).1 (zf 1 9 (0,R)).2).2).2).1⟩,0):=by
    unfold zl;rw[if_neg hb,if_pos h0]
   obtain⟨h1,V,R4,L,V',h2,h3,h4,h5,h6,h7,h8,h9⟩:=am5 _ _ h0
   obtain⟨g1,t3,R3,n3,g2,g3,u3,g4,g5,g6⟩:=a6c h1
   have hT9:(zf 1 9 (0,R)).1≤9:=by
    unfold zf
    split
    ·rename_i q;exact(a4b q).2.1
    ·exact(by decide:(0:Int)≤9)
   obtain⟨f1,t2,R2,n2,f2,f3,f4,f5,f6,f7,f8⟩:=axw (by omega) hT9 g1
   obtain⟨e1,t1,R1,n1,e2,e3,e4,e5,e6,e7,e8⟩:=axw (by omega) (by omega) f1
   rw[e3]at f2 f3 f5 f7 f8 g2 g3 h2 h6 ht
   simp only at f2 f3 f5 f7 f8 g2 g3 h2 h6 ht
   subst f2
   rw[f3]at g2 g3 h2 h6 ht
   simp only at g2 g3 h2 h6 ht
   subst g2
   rw[g3]at h2 h6 ht
   simp only at h2 h6 ht
   subst h2
   rw[h6]at ht
   simp only at ht e2
   subst e2
   have hlen:¬4<L.length:=by simp only[List.length_cons,List.length_append]at h5 hb2;omega
   have hp:api ⟨n1,n2,n3,L⟩=(akt n1::akt n2::u3::V',0):=by
    unfold api
    rw[if_neg hlen]
    simp only
    rw[show min n1 9=n1 from by omega,e7,f7,g4,h7]
    simp[at1]
   rw[ht]
   simp only
   rw[hp]
   have hR4:R4=[]:=by
    have h10:(t1::t2::t3::(V++R4)).length=3+4*((t1::t2::t3::(V++R4)).length-3) / 4+R4.length-0:=by
     simp only[List.length_cons,List.length_append]at h3 hb2 ⊢;omega
    exact List.eq_nil_of_length_eq_zero (by simp only[List.length_cons,List.length_append]at h3 hb2;omega)
   subst hR4
   refine⟨by omega,rfl,?_,?_⟩
   ·simp only[List.length_cons,List.length_append,List.length_nil]at h3 h4 ⊢;omega
   ·rw[List.append_nil]
    exact zx.cons (by rw[akz];omega) (zx.cons (by rw[akz];omega) (zx.cons g5 h8))
  ·unfold zl at h
   rw[if_neg hb,if_neg h0]at h
   exact absurd h h0
theorem a2a {R:List ByteArray} (h:(zl R).2≠0):(zl R).1=ku:=by
 unfold zl at h ⊢
 split at h
 ·rename_i q;rw[if_pos q]
 ·rename_i q
  rw[if_neg q]
  split at h
  ·exact absurd rfl h
  ·rename_i q2;rw[if_neg q2]
def qw (g:Nat) (s:Rd) (w:World):Prop:=∃Q,abs Q w g s.1 s.2 ∧(∀b,Q b→b<g)∧∀t∈s.2,t.size≤1000000
theorem qw.keep {g:Nat} {s:Rd} {w w':World} (h:qw g s w) (hb:Below w.heap.size w w'):qw g s w':=by
 obtain⟨Q,h1,h2,h3⟩:=h;exact⟨Q,h1.keep hb,h2,h3⟩
theorem qw.far {g G o:Nat} {s:Rd} {w:World} {u:Value} (h:qw g s w) (hG:g<G):qw g s (w.setCell ⟨G,o,none⟩ u):=by
 obtain⟨Q,h1,h2,h3⟩:=h;exact⟨Q,h1.far (fun q=>by have:=h2 _ q;omega) (by omega),h2,h3⟩
theorem qw.lt {g:Nat} {s:Rd} {w:World} (h:qw g s w):g<w.heap.size:=by
 obtain⟨Q,⟨A,c,h0,h1,h2,h3,h4,-⟩,-⟩:=h;exact h4
theorem ae5 {l:List ByteArray} {N:Nat} (h:∀t∈l,t.size≤N):∀t∈l.tail,t.size≤N:=fun t ht=>h t (List.mem_of_mem_tail ht)
theorem ago {l:List ByteArray} {N:Nat} (h:∀t∈l,t.size≤N):(l.headD ByteArray.empty).size≤N:=by
 cases l with
 | nil=>simp
 | cons a l=>exact h a (List.mem_cons_self ..)
def ji (g:Nat) (x:Value) (s:Rd) (w:World) (r:Ending) (w':World):Prop:=r=.returned x∧qw g s w'∧Frm g kq w w'
theorem qw.post {Q:Nat→Prop} {g:Nat} {x:Value} {s:Rd} {w w':World} {r:Ending} (h2:∀b,Q b→b<g) (h3:∀t∈s.2,t.size≤1000000) (h:abl Q g x s.1 s.2 w r w'):ji g x s w r w':=
 ⟨h.1,⟨Q,h.2.1,h2,h3⟩,h.2.2⟩
theorem jy {g:Nat} {s t:Rd} {w:World} {b:Bool} {n W M F L H:Int} (ht:Hid (qp W M F L H s=((b,n),t))) (hp:qw g s w) :
 Calls Tryz.prog 136 #[.pointer (some ⟨g,0,none⟩),js W M F L H] w (ji g (jb b n) t w):=by
 have ht:=ht.out
 have hg:=hp.lt
 obtain⟨Q,h1,h2,h3⟩:=hp
 injection ht with e1 e2
 injection e1 with e3 e4
 subst e2 e3 e4
 exact(a0a g s.1 s.2 W M F L H w h1 (fun b q=>Nat.lt_trans (h2 b q) hg) hg (ago h3)).mono fun r w' h=>qw.post (s:=(qp W M F L H s).2) h2 (ae5 h3) h
theorem q8 {g:Nat} {s t:Rd} {w:World} {a:ByteArray} (ht:Hid (qs s=(a,t))) (hp:qw g s w) :
 Calls Tryz.prog 152 #[.pointer (some ⟨g,0,none⟩)] w (ji g (.string a) t w):=by
 have ht:=ht.out
 obtain⟨Q,h1,h2,h3⟩:=hp
 injection ht with e1 e2
 subst e1 e2
 exact(ad3 g s.1 s.2 w h1).mono fun r w' h=>qw.post (s:=(qs s).2) h2 (ae5 h3) h
theorem xd {g:Nat} {s t:Rd} {w:World} {E:Int} (ht:Hid (xe E s=t)) (hp:qw g s w) :
 Calls Tryz.prog 149 #[.pointer (some ⟨g,0,none⟩),.int .i64 E] w (ji g (.tuple #[]) t w):=by
 have ht:=ht.out
 obtain⟨Q,h1,h2,h3⟩:=hp
 subst ht
 exact(agh g s.1 E s.2 w h1).mono fun r w' h=>qw.post (s:=xe E s) h2 h3 h
theorem am3 {g:Nat} {s:Rd} {w:World} (hp:qw g s w) :
 Calls Tryz.prog 147 #[.pointer (some ⟨g,0,none⟩)] w fun r w'=>r=.returned (.int .i64 s.1)∧w=w':=by
 obtain⟨Q,h1,h2,h3⟩:=hp
 exact az8 g s.1 s.2 w h1
theorem aji {g:Nat} {s:Rd} {w:World} (hp:qw g s w) :
 Calls Tryz.prog 175 #[.pointer (some ⟨g,0,none⟩)] w fun r w'=>r=.returned (.int .i64 (s.2.length:Int))∧w=w':=by
 obtain⟨Q,h1,h2,h3⟩:=hp
 exact ayy g s.1 s.2 w h1
theorem ajj {A:Option Addr} {R:List ByteArray} {c:Nat} {w:World} (hA:A=none→c=0) (hs:vf w w.heap.size A R) (hn:R.length≤1000000) (ht:∀t∈R,t.size≤1000000) :
 Calls Tryz.prog 135 #[.slice A R.length c] w fun r w'=>∃g,r=.returned (.pointer (some ⟨g,0,none⟩))∧qw g (0,R) w'∧w.heap.size≤g∧w'.heap.size=g+1∧Below w.heap.size w w':=
 (bbb A R c w hA hs hn).mono fun r w' ⟨g,h1,h2,h3,h4,h5⟩=>⟨g,h1,⟨_,h2,fun b q=>q.2,ht⟩,h3,h4,h5⟩
def ahl (s:Rd):Clk×Rd:=((yh (qs s).1.data.toList).1,xe (yh (qs s).1.data.toList).2 (qs s).2)
def axq (s:Rd):Dat×Rd:=((abh (qs s).1.data.toList).1,xe (abh (qs s).1.data.toList).2 (qs s).2)
def acl (lat:Bool) (s:Rd):(Bool×Int)×Rd:=
 (((aaq (s.2.headD ByteArray.empty).data.toList (s.2.tail.headD ByteArray.empty) lat).1,(aaq (s.2.headD ByteArray.empty).data.toList (s.2.tail.headD ByteArray.empty) lat).2.1),
   (aac (acj (acj s.1 s.2) s.2.tail) (aaq (s.2.headD ByteArray.empty).data.toList (s.2.tail.headD ByteArray.empty) lat).2.2,s.2.tail.tail))
theorem aut {g:Nat} {s t:Rd} {w:World} {lat b:Bool} {n:Int} (ht:Hid (acl lat s=((b,n),t))) (hp:qw g s w) :
 Calls Tryz.prog 137 #[.pointer (some ⟨g,0,none⟩),.bool lat] w (ji g (jb b n) t w):=by
 have ht:=ht.out
 have hg:=hp.lt
 obtain⟨Q,h1,h2,h3⟩:=hp
 injection ht with e1 e2
 injection e1 with e3 e4
 subst e2 e3 e4
 exact(au7 g s.1 s.2 lat w h1 (fun b q=>Nat.lt_trans (h2 b q) hg) hg (ago h3)).mono fun r w' h=>qw.post (s:=(acl lat s).2) h2 (ae5 (ae5 h3)) h
def afx {α β:Type} (f:Rd→α×Rd) (g:Rd→β×Rd) (s:Rd):(α×β)×Rd:=(((f s).1,(g (f s).2).1),(g (f s).2).2)
abbrev N2:=Bool×Int
def zN:N2:=(false,0)
abbrev att:=Clk×N2×N2×Int×N2×N2×N2×N2×N2×N2
def bg3:Cl:=⟨1,6,1,-9999999,9999999,⟨#[77]⟩⟩
def bg9:Cl:=⟨1,4,1,-99999,99999,⟨#[77]⟩⟩
def a9p:Rd→att×Rd:=afx ahl (afx (acl true) (afx (acl false) (afx (zf 0 8) (afx (qp 1 2 0 0 99) (afx (qp 1 3 2 0 99999) (afx (vk bg3) (afx (vk bg9) (afx (qp 1 4 1 0 99999) (qp 1 4 0 0 1023)))))))))
def v8:att:=(zC,zN,zN,0,zN,zN,zN,zN,zN,zN)
def ve (R:List ByteArray):att×Int:=if R.length≠14 then(v8,3)else if(a9p (0,R)).2.1=0 then((a9p (0,R)).1,0)else(v8,(a9p (0,R)).2.1)
def a7n (s:Rd):Bool×Rd:=(decide ((qs s).1=⟨#[65]⟩),if(qs s).1 ≠⟨#[65]⟩ ∧(qs s).1 ≠⟨#[86]⟩then xe 3 (qs s).2 else(qs s).2)
def eT:ByteArray:=⟨#[69]⟩
def wT:ByteArray:=⟨#[87]⟩
def bcc (n:N2) (d:ByteArray) (s:Rd):N2×Rd:=
 if(n.1=true∧d≠eT∧d≠wT) ∨(n.1=false∧d≠ByteArray.empty)then(n,xe 3 s)else if d=wT then((n.1,-n.2),s)else(n,s)
def aru (s:Rd):N2×Rd:=bcc (qp 1 3 1 0 1800 s).1 (qs (qp 1 3 1 0 1800 s).2).1 (qs (qp 1 3 1 0 1800 s).2).2
abbrev aus:=Clk×Bool×N2×N2×N2×N2×Dat×N2
def bai:Rd→aus×Rd:=afx ahl (afx a7n (afx (acl true) (afx (acl false) (afx (qp 1 4 2 0 999999) (afx (qp 1 3 2 0 36000) (afx axq aru))))))
def yb:aus:=(zC,false,zN,zN,zN,zN,zD,zN)
def vd (R:List ByteArray):aus×Int:=
 if R.length≠11∧R.length≠12 then(yb,3)else if(yj (bai (0,R)).2).1=0 then((bai (0,R)).1,0)else(yb,(yj (bai (0,R)).2).1)
end Go.Proofs.YtdkhlkfleggbaaaGreat
