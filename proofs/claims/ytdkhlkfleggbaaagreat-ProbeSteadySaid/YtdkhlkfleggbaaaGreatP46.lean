/- The contract of the reference's Take of layer 22: where there is a sentence. -/
import Derived.Test.YtdkhlkfleggbaaaGreatP45
import Derived.Deep.RegionWith
import Derived.Test.YtdkhlkfleggbaaaGreatP44
import Derived.Test.YtdkhlkfleggbaaaGreatP43
import Derived.Test.YtdkhlkfleggbaaaGreatP17
import Derived.Test.YtdkhlkfleggbaaaGreatP32
import Derived.Test.YtdkhlkfleggbaaaGreatP05
import Derived.Test.YtdkhlkfleggbaaaGreatP07
import Derived.Test.YtdkhlkfleggbaaaGreatP02
import Derived.Test.YtdkhlkfleggbaaaGreatP00
import Derived.Test.YtdkhlkfleggbaaaGreatP01
namespace Go.Proofs.YtdkhlkfleggbaaaGreat
set_option maxHeartbeats 2000000
set_option maxRecDepth 8000
open Lib (hid)
set_option linter.unusedVariables false
open Go.RowKit
def afg (P:List UInt8):ByteArray×ByteArray×List ByteArray:=
 (toS (P.take 2),toS ((P.drop 2).take 3),if 5<P.length then(j7 (P.drop 6)).map toS else [])
def aik (P:List UInt8):Prop:=
 5≤P.length∧P.length≤76 ∧(∀c∈P.take 5,adw (c.toNat:Int)=true) ∧(∀c∈P,ab7 (c.toNat:Int)=true) ∧(5<P.length→P[5]?=some 44)
def kw (P:List UInt8) (x y:UInt8) (M:List UInt8):List UInt8:=36::(P++[42,x,y,13,10]++M)
theorem xx (l:List UInt8):(toS l).data.toList=l:=by simp[toS]
theorem ks (l:List UInt8):(toS l).size=l.length:=by show l.toArray.size=_;simp
theorem ayz (l:List UInt8) (i:Nat) (h:i<(toS l).size):(toS l)[i]=l[i]'(by rw[ks]at h;exact h):=by
 show (toS l).data[i]=_
 simp[toS]
theorem aqc {x y:UInt8} {v:Int} (h:jd [x,y]=some v):isR (x.toNat:Int)=true∧isR (y.toNat:Int)=true:=by
 have h':(if isR (x.toNat:Int) && isR (y.toNat:Int)then some (16*aep (x.toNat:Int)+aep (y.toNat:Int))else none)=some v:=h
 split at h'
 ·rename_i hc;rw[Bool.and_eq_true]at hc;exact hc
 ·cases h'
theorem atq {c:Int} (h:isR c=true):okC c=true∧c≠13∧c≠42:=by
 have h1:=of_decide_eq_true h
 refine⟨?_,by omega,by omega⟩
 unfold okC
 rw[Bool.or_eq_true]
 right
 unfold ab7
 rw[decide_eq_true_eq]
 omega
theorem a50 (t:ByteArray):∀(k f i:Nat),k<f →(∀j,i≤j→j<i+k→∃h:j<t.size,okC (t[j].toNat:Int)=true ∧(t[j].toNat:Int)≠13) →(∃h:i+k<t.size,(t[i+k].toNat:Int)=13)→vh t f i=(i+k,0):=by
 intro k
 induction k with
 | zero=>
  intro f i hf _ ⟨h,hc⟩
  obtain⟨f,rfl⟩:∃g,f=g+1:=⟨f-1,by omega⟩
  exact av8 t f i h hc
 | succ k ih=>
  intro f i hf hall ⟨h,hc⟩
  obtain⟨f,rfl⟩:∃g,f=g+1:=⟨f-1,by omega⟩
  obtain⟨h0,h1,h2⟩:=hall i (Nat.le_refl _) (by omega)
  rw[am6 t f i h0 h2 h1,ih f (i+1) (by omega) (fun j a b=>hall j (by omega) (by omega)) (by rw[show i+1+k=i +(k+1)from by omega];exact⟨h,hc⟩)]
  rw[show i+1+k=i +(k+1)from by omega]
theorem a6k (t:ByteArray):∀(f i j:Nat),vh t f i=(j,0) →(∀q,i≤q→q<j→∃h:q<t.size,okC (t[q].toNat:Int)=true ∧(t[q].toNat:Int)≠13)∧∃h:j<t.size,(t[j].toNat:Int)=13:=by
 intro f
 induction f with
 | zero=>intro i j h;simp[vh]at h
 | succ f ih=>
  intro i j h
  unfold vh at h
  by_cases hi:i<t.size
  ·rw[dif_pos hi]at h
   by_cases h13:(t[i].toNat:Int)=13
   ·rw[if_pos h13]at h
    injection h with h _
    subst h
    exact⟨fun q a b=>absurd a (by omega),hi,h13⟩
   ·rw[if_neg h13]at h
    by_cases ho:okC (t[i].toNat:Int)=true
    ·rw[if_pos ho]at h
     obtain⟨a1,a2⟩:=ih _ _ h
     refine⟨fun q a b=>?_,a2⟩
     by_cases hq:q=i
     ·subst hq;exact⟨hi,ho,h13⟩
     ·exact a1 q (by omega) b
    ·rw[if_neg ho]at h
     simp at h
  ·rw[dif_neg hi]at h
   simp at h
theorem ary {c:Int} (h:ab7 c=true):okC c=true∧c≠13∧c≠42:=by
 have h1:=of_decide_eq_true h
 exact⟨by unfold okC;rw[h,Bool.or_true],by omega,by omega⟩
theorem a7x {c:Int} (h:okC c=true) (h42:c≠42):ab7 c=true:=by
 unfold okC at h
 rw[Bool.or_eq_true,beq_iff_eq]at h
 exact h.resolve_left h42
section
variable {P : List UInt8} {x y : UInt8} {M : List UInt8}
theorem ahb:(kw P x y M).length=P.length+6+M.length:=by simp[kw];omega
theorem bap (j:Nat) (h1:1≤j) (h2:j<P.length+4) (hj:j<(kw P x y M).length):∃h:j-1<(P++[42,x,y]).length,(kw P x y M)[j]=(P++[42,x,y])[j-1]:=by
 have hl:(P++[42,x,y]).length=P.length+3:=by simp
 refine⟨by omega,?_⟩
 obtain⟨j,rfl⟩:∃i,j=i+1:=⟨j-1,by omega⟩
 have e:kw P x y M=36::((P++[42,x,y]) ++([13,10]++M)):=by simp[kw]
 simp only[e,List.getElem_cons_succ,Nat.add_sub_cancel]
 rw[List.getElem_append_left (by omega)]
theorem ao5:(kw P x y M).drop (P.length+4)=13::10::M:=by
 have e:kw P x y M=(36::(P++[42,x,y])) ++(13::10::M):=by simp[kw]
 rw[e,List.drop_left' (by simp)]
theorem az3:((kw P x y M).drop 1).take (P.length+3)=P++[42,x,y]:=by
 have e:(kw P x y M).drop 1=(P++[42,x,y]) ++(13::10::M):=by simp[kw]
 rw[e,List.take_left' (by simp)]
theorem as4 {l q:List UInt8} {n:Nat} {c:UInt8} (h:l.drop n=c::q):l[n]?=some c∧l.drop (n+1)=q:=by
 constructor
 ·have:=List.getElem?_drop (xs:=l) (i:=n) (j:=0)
  rw[h]at this
  simpa using this.symm
 ·have:l.drop (n+1)=(l.drop n).drop 1:=by rw[List.drop_drop]
  rw[this,h];rfl
theorem aq7 (hP:aik P) (hu:jd [x,y]=some ((aib P).toNat:Int)):xl (toS (kw P x y M))=(P.length+4,0):=by
 obtain⟨p1,p2,p3,p4,p5⟩:=hP
 obtain⟨ux,uy⟩:=aqc hu
 have hl:=ahb (P:=P) (x:=x) (y:=y) (M:=M)
 unfold xl
 rw[a50 (toS (kw P x y M)) (P.length+3) 80 1 (by omega),show 1 +(P.length+3)=P.length+4 from by omega]
 ·intro j h1 h2
  have hj:j<(toS (kw P x y M)).size:=by rw[ks];omega
  refine⟨hj,?_⟩
  rw[ayz _ _ hj]
  obtain⟨h3,h4⟩:=bap (P:=P) (x:=x) (y:=y) (M:=M) j h1 (by omega) (by omega)
  rw[h4]
  have hm:(P++[42,x,y])[j-1]∈P++[42,x,y]:=List.getElem_mem h3
  have key:∀c∈P++[42,x,y],okC (c.toNat:Int)=true ∧(c.toNat:Int)≠13:=by
   intro c hc
   rcases List.mem_append.1 hc with h|h
   ·have:=ary (p4 c h);exact⟨this.1,this.2.1⟩
   ·have:c=42∨c=x∨c=y:=by simpa using h
    rcases this with rfl|rfl|rfl
    ·exact⟨by decide,by decide⟩
    ·exact⟨(atq ux).1,(atq ux).2.1⟩
    ·exact⟨(atq uy).1,(atq uy).2.1⟩
  exact key _ hm
 ·have hj:1 +(P.length+3)<(toS (kw P x y M)).size:=by rw[ks];omega
  refine⟨hj,?_⟩
  obtain⟨h1,_⟩:=as4 (ao5 (P:=P) (x:=x) (y:=y) (M:=M))
  rw[ayz _ _ hj]
  rw[List.getElem?_eq_getElem (by omega)]at h1
  injection h1 with h1
  have:(kw P x y M)[1 +(P.length+3)]'(by omega)=13:=by rw[← h1];congr 1;omega
  rw[this]
  rfl
theorem aqw (hP:aik P) (hu:jd [x,y]=some ((aib P).toNat:Int)):ju (toS (kw P x y M))=toS (P++[42,x,y]):=by
 rw[agk (aq7 hP hu),vc,xx,show P.length+4-1=P.length+3 from by omega,az3]
theorem avm (hP:aik P) {v:Int} (hu:jd [x,y]=some v):zn (toS (P++[42,x,y]))=true:=by
 obtain⟨p1,p2,p3,p4,p5⟩:=hP
 have hl:(P++[42,x,y]).length=P.length+3:=by simp
 have hz:(toS (P++[42,x,y])).size=P.length+3:=by rw[ks,hl]
 have hno:∀c∈P,c≠42:=fun c hc h42=>by have:=(ary (p4 c hc)).2.2;rw[h42]at this;exact this rfl
 have ht5:(P++[42,x,y]).take 5=P.take 5:=by rw[List.take_append_of_le_length p1]
 refine a41 hz p1 ?_ ?_ ?_ ?_ (v:=v) ?_
 ·rw[ayz _ _ (by omega),List.getElem_append_right (by omega)]
  simp
 ·rw[xx,ahq,alj hno,ah2,apj hu]
 ·unfold abq aty
  rw[Bool.and_eq_true,decide_eq_true_eq,aar,xx,List.drop_zero,Nat.sub_zero,ht5,ByteArray.size_extract,List.all_eq_true]
  exact⟨by omega,p3⟩
 ·by_cases h:P.length=5
  ·exact .inl h
  ·right
   rw[xx,List.getElem?_append_left (by omega)]
   exact p5 (by omega)
 ·rw[axy,xx,show (P++[42,x,y]).drop (P.length+1)=[x,y]from by simp[List.drop_append,List.drop_eq_nil_of_le]]
  exact hu
theorem arm (hP:aik P) (hu:jd [x,y]=some ((aib P).toNat:Int)):xt (toS (kw P x y M))=(afg P,P.length+6,0):=by
 have hl:=ahb (P:=P) (x:=x) (y:=y) (M:=M)
 have hE:=aq7 (M:=M) hP hu
 obtain⟨_,h10⟩:=as4 (ao5 (P:=P) (x:=x) (y:=y) (M:=M))
 obtain⟨h10,_⟩:=as4 h10
 rw[agy (by rw[ks];omega) (by rw[xx];rfl) (by rw[hE]) (by rw[hE,ks];show ¬_<P.length+4+2;omega) (by rw[hE,xx];exact h10) (by rw[aqw hP hu];exact avm hP hu)]
 rw[aqw hP hu,hE]
 have ho:=a2c P x y
 rw[if_pos hu]at ho
 have ho':vg (toS (P++[42,x,y]))=some (toS P):=ho
 rw[ho']
 have e1:(toS P).extract 0 2=toS (P.take 2):=by rw[vc,xx];rfl
 have e2:(toS P).extract 2 5=toS ((P.drop 2).take 3):=by rw[vc,xx]
 have e3:kh ((toS P).extract 6 (toS P).size)=(j7 (P.drop 6)).map toS:=by
  unfold kh
  rw[aar,xx,ks,List.take_of_length_le (by rw[List.length_drop];exact Nat.le_refl _)]
 show (((toS P).extract 0 2,(toS P).extract 2 5,if 5<(toS P).size then kh ((toS P).extract 6 (toS P).size)else []),P.length+4+2,(0:Int))=_
 rw[e1,e2,e3,ks]
 rfl
end
theorem a3g (t:ByteArray):toS t.data.toList=t:=av4 t
theorem a48 {l:List UInt8} {v:Int} (h:jd l=some v):∃x y,l=[x,y]:=by
 unfold jd at h
 split at h
 ·rename_i a b;exact⟨a,b,rfl⟩
 ·cases h
theorem a1e {t:ByteArray} (h:(xt t).2.2=0):t.data.toList[0]?=some 36 ∧(xl t).2=0∧¬t.size<(xl t).1+2∧t.data.toList[(xl t).1+1]?=some 10∧zn (ju t)=true ∧(vg (ju t)).isSome=true:=by
 by_cases h0:t.size=0
 ·rw[amb h0]at h;cases h
 by_cases h1:t.data.toList[0]?=some 36
 ·by_cases h2:(xl t).2=0
  ·by_cases h3:t.size<(xl t).1+2
   ·rw[amd h0 h1 h2 h3]at h;cases h
   ·by_cases h4:t.data.toList[(xl t).1+1]?≠some 10∨zn (ju t)=false
    ·rw[ag7 h0 h1 h2 h3 h4]at h;cases h
    ·have h5:t.data.toList[(xl t).1+1]?=some 10:=Classical.not_not.1 fun k=>h4 (.inl k)
     have h6:zn (ju t)=true:=by cases hf:zn (ju t)with
      | true=>rfl
      | false=>exact absurd (.inr hf) h4
     refine⟨h1,h2,h3,h5,h6,?_⟩
     rw[agy h0 h1 h2 h3 h5 h6]at h
     cases ho:vg (ju t)with
     | none=>rw[ho]at h;cases h
     | some b=>rfl
  ·rw[ahd h0 h1 h2]at h;exact absurd h h2
 ·rw[ajo h0 h1]at h;cases h
theorem a4w {t:ByteArray} (h:(xt t).2.2≠0):xt t=((ByteArray.empty,ByteArray.empty,[]),0,(xt t).2.2):=by
 by_cases h0:t.size=0
 ·rw[amb h0]
 by_cases h1:t.data.toList[0]?=some 36
 ·by_cases h2:(xl t).2=0
  ·by_cases h3:t.size<(xl t).1+2
   ·rw[amd h0 h1 h2 h3]
   ·by_cases h4:t.data.toList[(xl t).1+1]?≠some 10∨zn (ju t)=false
    ·rw[ag7 h0 h1 h2 h3 h4]
    ·have h5:t.data.toList[(xl t).1+1]?=some 10:=Classical.not_not.1 fun k=>h4 (.inl k)
     have h6:zn (ju t)=true:=by cases hf:zn (ju t)with
      | true=>rfl
      | false=>exact absurd (.inr hf) h4
     rw[agy h0 h1 h2 h3 h5 h6]at h ⊢
     cases ho:vg (ju t)with
     | none=>rfl
     | some b=>rw[ho]at h;exact absurd rfl h
  ·rw[ahd h0 h1 h2]
 ·rw[ajo h0 h1]
theorem a1m (t:ByteArray) (j:Nat) (h:j<t.size):t.data.toList[j]?=some t[j]:=by
 rw[List.getElem?_eq_getElem (by rw[acv];exact h)]
 rfl
theorem a4c {t:ByteArray} (h:(xt t).2.2=0):∃P x y M,t=toS (kw P x y M)∧aik P∧jd [x,y]=some ((aib P).toNat:Int):=by
 obtain⟨h1,h2,h3,h4,h5,h6⟩:=a1e h
 obtain⟨i,hi⟩:∃i,xl t=(i,0):=⟨(xl t).1,by rw[← h2]⟩
 obtain⟨b1,b2,b3⟩:=afi t 80 1 i hi
 obtain⟨s1,s2,s3⟩:=a6k t 80 1 i hi
 rw[hi]at h3 h4
 have hL:=agk hi
 rw[hL]at h5 h6
 have hlist:(t.extract 1 i).data.toList=(t.data.toList.drop 1).take (i-1):=by rw[aar]
 obtain⟨L,hLe⟩:∃L,t.extract 1 i=L:=⟨_,rfl⟩
 have hls:L.size=i-1:=by rw[← hLe,ByteArray.size_extract];omega
 rw[hLe]at h5 h6 hlist
 unfold zn at h5
 rw[Bool.and_eq_true,Bool.and_eq_true,Bool.and_eq_true,Bool.and_eq_true]at h5
 obtain⟨⟨⟨⟨q1,q2⟩,q3⟩,q4⟩,q5⟩:=h5
 have k1:=of_decide_eq_true q1
 obtain⟨n,hn⟩:∃n,L.size=n+3:=⟨L.size-3,by omega⟩
 have hix:Lib.indexByte L.data.toList 42=(n:Int):=by have:=of_decide_eq_true q2;unfold aef at this;omega
 obtain⟨i1,i2,i3⟩:=ayc _ _ n hix
 obtain⟨b,hb⟩:=Option.isSome_iff_exists.1 h6
 unfold vg at hb
 rw[if_neg (by omega)]at hb
 split at hb
 ·rename_i hc
  obtain⟨_,hu⟩:=hc
  rw[show L.size-3=n from by omega,axy]at hu
  obtain⟨x,y,hxy⟩:=a48 hu
  have hPl:(L.data.toList.take n).length=n:=by rw[List.length_take];omega
  have hP:(L.extract 0 n).data.toList=L.data.toList.take n:=by rw[aar];rfl
  have hsum:asw (L.extract 0 n)=((aib (L.data.toList.take n)).toNat:Int):=by unfold asw;rw[hP]
  have hall:∀c∈L.data.toList,okC (c.toNat:Int)=true:=by
   intro c hc
   rw[hlist]at hc
   obtain⟨j,hj,rfl⟩:=List.getElem_of_mem hc
   rw[List.length_take,List.length_drop]at hj
   obtain⟨g,ok,_⟩:=s1 (j+1) (by omega) (by omega)
   have e:((t.data.toList.drop 1).take (i-1))[j]'(by rw[List.length_take,List.length_drop];exact hj)=t[j+1]:=by
    rw[List.getElem_take,List.getElem_drop]
    have:=a1m t (j+1) g
    rw[List.getElem?_eq_getElem (by rw[acv];exact g)]at this
    injection this with this
    rw[← this]
    congr 1
    omega
   rw[e]
   exact ok
  refine⟨L.data.toList.take n,x,y,t.data.toList.drop (i+2),?_,⟨by omega,by omega,?_,?_,?_⟩,by rw[← hxy,hu,hsum]⟩
  ·have e1:t.data.toList=t.data.toList.take i++t.data.toList.drop i:=(List.take_append_drop _ _).symm
   have e2:t.data.toList.drop i=13::10::t.data.toList.drop (i+2):=by
    have g1:i<t.data.toList.length:=by rw[acv];omega
    have g2:i+1<t.data.toList.length:=by rw[acv];omega
    rw[List.drop_eq_getElem_cons g1,List.drop_eq_getElem_cons g2]
    have v2:t.data.toList[i+1]=10:=by rw[List.getElem?_eq_getElem g2]at h4;injection h4
    have v1:t.data.toList[i]=13:=by
     have:=(ag6 t i (by omega) 13).2 (by rw[s3];rfl)
     rw[List.getElem?_eq_getElem g1]at this;injection this
    rw[v1,v2]
   have e3:t.data.toList.take i=36::L.data.toList:=by
    rw[hlist]
    cases hd:t.data.toList with
    | nil=>rw[hd]at h1;cases h1
    | cons a l=>
     rw[hd]at h1
     have:a=36:=by simpa using h1
     subst this
     obtain⟨i,rfl⟩:∃j,i=j+1:=⟨i-1,by omega⟩
     rfl
   refine(a3g t).symm.trans (congrArg toS (e1.trans ?_))
   rw[e2,e3]
   have i2':=i2
   rw[hxy]at i2'
   generalize L.data.toList.take n=Q at i2' ⊢
   rw[i2']
   simp[kw]
  ·intro c hc
   rw[List.take_take,Nat.min_eq_left (by omega)]at hc
   unfold abq aty at q3
   rw[Bool.and_eq_true,aar,List.all_eq_true]at q3
   exact q3.2 c hc
  ·intro c hc
   refine a7x (hall c (List.mem_of_mem_take hc)) ?_
   intro h42
   exact i3 c hc (UInt8.toNat_inj.1 (by have e:(42:UInt8).toNat=42:=rfl;omega))
  ·intro h
   rw[hPl]at h
   rw[Bool.or_eq_true,decide_eq_true_eq,decide_eq_true_eq]at q5
   rw[List.getElem?_take_of_lt h]
   exact q5.resolve_left (by omega)
 ·cases hb
theorem azi (l:List UInt8):((j7 l).flatMap fun f=>44::f)=44::l:=by
 induction l with
 | nil=>rfl
 | cons b l ih=>
  by_cases hb:b=44
  ·rw[hb,ajm,List.flatMap_cons,ih];rfl
  ·rw[ak5 b l hb]
   cases hs:j7 l with
   | nil=>exact absurd hs (aha l)
   | cons h r=>
    rw[hs,List.flatMap_cons]at ih
    have ih':h ++(r.flatMap fun f=>44::f)=l:=by simpa using ih
    show (44::([b]++h)) ++(r.flatMap fun f=>44::f)=44::b::l
    rw[← ih']
    simp
section
variable {P : List UInt8} (hP : aik P)
include hP
theorem a2q:aiu (afg P).1 (afg P).2.1 (afg P).2.2=P:=by
 obtain⟨p1,p2,p3,p4,p5⟩:=hP
 unfold aiu afg
 rw[xx,xx]
 have e:P=P.take 2 ++(P.drop 2).take 3++P.drop 5:=by
  conv=>lhs;rw[← List.take_append_drop 5 P,show (5:Nat)=2+3 from rfl,List.take_add]
 by_cases h:5<P.length
 ·have hd:P.drop 5=44::P.drop 6:=by
   rw[List.drop_eq_getElem_cons h]
   have:=p5 h
   rw[List.getElem?_eq_getElem h]at this
   injection this with this
   rw[this]
  show _++_++List.flatMap _ (if 5<P.length then _ else _)=P
  rw[if_pos h]
  conv=>rhs;rw[e,hd,← azi]
  rw[List.flatMap_map]
  simp only[xx]
 ·show _++_++List.flatMap _ (if 5<P.length then _ else _)=P
  rw[if_neg h,List.flatMap_nil]
  have e5:P.drop 5=[]:=List.drop_eq_nil_of_le (by omega)
  rw[e5]at e
  exact e.symm
end
theorem amy (l m:List UInt8):∀f i,(vh (toS l) f i).2≠2→vh (toS (l++m)) f i=vh (toS l) f i:=by
 intro f
 induction f with
 | zero=>intro i _;rfl
 | succ f ih=>
  intro i h
  by_cases hi:i<(toS l).size
  ·have hi':i<(toS (l++m)).size:=by rw[ks]at hi ⊢;rw[List.length_append];omega
   have e:(toS (l++m))[i]=(toS l)[i]:=by
    rw[ayz _ _ hi,ayz _ _ hi',List.getElem_append_left]
   unfold vh at h ⊢
   rw[dif_pos hi]at h ⊢
   rw[dif_pos hi',e]
   split
   ·rfl
   ·rename_i h13
    rw[if_neg h13]at h
    split
    ·rename_i ho
     rw[if_pos ho]at h
     exact ih _ h
    ·rfl
  ·unfold vh at h
   rw[dif_neg hi]at h
   exact absurd rfl h
theorem a7f (l m:List UInt8) (h:(xt (toS l)).2.2≠2):xt (toS (l++m))=xt (toS l):=by
 by_cases h0:(toS l).size=0
 ·rw[amb h0]at h;exact absurd rfl h
 have h0':¬(toS (l++m)).size=0:=by rw[ks]at h0 ⊢;rw[List.length_append];omega
 have get:∀j,j<l.length →(toS (l++m)).data.toList[j]?=(toS l).data.toList[j]?:=fun j hj=>by rw[xx,xx,List.getElem?_append_left hj]
 have hz:(toS l).size=l.length:=ks l
 by_cases h1:(toS l).data.toList[0]?=some 36
 ·have h1':(toS (l++m)).data.toList[0]?=some 36:=by rw[get 0 (by omega)];exact h1
  by_cases h2:(xl (toS l)).2=0
  ·have hE:xl (toS (l++m))=xl (toS l):=amy l m 80 1 (by show (xl (toS l)).2≠2;omega)
   have h2':(xl (toS (l++m))).2=0:=by rw[hE];exact h2
   by_cases h3:(toS l).size<(xl (toS l)).1+2
   ·rw[amd h0 h1 h2 h3]at h;exact absurd rfl h
   ·have h3':¬(toS (l++m)).size<(xl (toS (l++m))).1+2:=by rw[hE];rw[ks]at h3 ⊢;rw[List.length_append];omega
    obtain⟨i,hi⟩:∃i,xl (toS l)=(i,0):=⟨(xl (toS l)).1,by rw[← h2]⟩
    have hi':xl (toS (l++m))=(i,0):=by rw[hE];exact hi
    have hLn:ju (toS (l++m))=ju (toS l):=by
     rw[agk hi,agk hi',vc,vc,xx,xx]
     rw[hi]at h3
     have b1:=(afi (toS l) 80 1 i hi).1
     congr 1
     rw[List.drop_append_of_le_length (by omega),List.take_append_of_le_length (by rw[List.length_drop];omega)]
    have g4:(toS (l++m)).data.toList[(xl (toS l)).1+1]?=(toS l).data.toList[(xl (toS l)).1+1]?:=get _ (by omega)
    rw[← hE]at g4
    by_cases h4:(toS l).data.toList[(xl (toS l)).1+1]?≠some 10∨zn (ju (toS l))=false
    ·rw[ag7 h0 h1 h2 h3 h4,ag7 h0' h1' h2' h3' (by rw[g4,hE,hLn];exact h4)]
    ·have h5:(toS l).data.toList[(xl (toS l)).1+1]?=some 10:=Classical.not_not.1 fun k=>h4 (.inl k)
     have h6:zn (ju (toS l))=true:=by cases hf:zn (ju (toS l))with
      | true=>rfl
      | false=>exact absurd (.inr hf) h4
     rw[agy h0 h1 h2 h3 h5 h6,agy h0' h1' h2' h3' (by rw[g4,hE];exact h5) (by rw[hLn];exact h6),hLn,hE]
  ·have hE:xl (toS (l++m))=xl (toS l):=amy l m 80 1 (by
    show (xl (toS l)).2≠2
    rw[ahd h0 h1 h2]at h;exact h)
   rw[ahd h0 h1 h2,ahd h0' h1' (by rw[hE];exact h2),hE]
 ·have h1':¬(toS (l++m)).data.toList[0]?=some 36:=by rw[get 0 (by omega)];exact h1
  rw[ajo h0 h1,ajo h0' h1']
theorem am9 (t:ByteArray):t.data.toList.length=t.size:=by rw[Array.length_toList];rfl
theorem apv (t y:ByteArray):∀fs:List ByteArray,fs.length+t.size+y.size ≤(aiu t y fs).length∧∀f∈fs,f.size ≤(aiu t y fs).length:=by
 intro fs
 have e1:=am9 t
 have e2:=am9 y
 have key:fs.length ≤(fs.flatMap fun f=>(44:UInt8)::f.data.toList).length∧∀f∈fs,f.size ≤(fs.flatMap fun f=>(44:UInt8)::f.data.toList).length:=by
  induction fs with
  | nil=>exact⟨Nat.zero_le _,fun f hf=>by simp at hf⟩
  | cons g l ih=>
   have e3:=am9 g
   rw[List.flatMap_cons,List.length_append,List.length_cons,List.length_cons]
   refine⟨by omega,fun f hf=>?_⟩
   rcases List.mem_cons.1 hf with rfl|hf
   ·omega
   ·have:=ih.2 f hf;omega
 unfold aiu
 rw[List.length_append,List.length_append]
 exact⟨by omega,fun f hf=>by have:=key.2 f hf;omega⟩
theorem a0x {t:ByteArray} (h:(xt t).2.2=0):∃P x y M,aik P∧t=toS (kw P x y M)∧jd [x,y]=some ((aib P).toNat:Int)∧xt t=(afg P,P.length+6,0):=by
 obtain⟨P,x,y,M,rfl,hP,hu⟩:=a4c h
 exact⟨P,x,y,M,hP,rfl,hu,arm hP hu⟩
theorem avc (t:ByteArray):(xt t).1.2.2.length≤76 ∧(∀f∈(xt t).1.2.2,f.size≤76) ∧(xt t).1.1.size≤76 ∧(xt t).1.2.1.size≤76:=by
 by_cases h:(xt t).2.2=0
 ·obtain⟨P,x,y,M,hP,-,-,e⟩:=a0x h
  rw[e]
  have hb:=a2q hP
  have h1:=apv (afg P).1 (afg P).2.1 (afg P).2.2
  rw[hb]at h1
  have h2:=hP.2.1
  exact⟨by simp only;omega,fun f hf=>Nat.le_trans (h1.2 f hf) h2,by simp only;omega,by simp only;omega⟩
 ·rw[a4w h]
  exact⟨Nat.zero_le _,fun f hf=>by simp at hf,Nat.zero_le _,Nat.zero_le _⟩
theorem avs {lo lo':Nat} {C D:Array Value} {m:NmD} {w:World} (hC:NmV lo w C m) (hD:NmV lo' w D m) (h1:m.s.ids.length≤1000000) (h2:m.u.L.length≤1000000) :
 Calls Tryz.prog 28 #[.agg C,.agg D] w fun e w'=>e=.returned (.bool true)∧Below w.heap.size w w':=by
 obtain⟨x,y,rfl,⟨A,c,rfl,hA⟩,⟨B,d,rfl,hB⟩⟩:=hC
 obtain⟨x',y',rfl,⟨A',c',rfl,hA'⟩,⟨B',d',rfl,hB'⟩⟩:=hD
 exact a31 (A:=A) (B:=B) (A':=A') (B':=B') (n:=m.s.ids.length) (p:=m.u.L.length)
  (fun W hb=>atm m.s.a m.s.f m.s.p0.1 m.s.p0.2 m.s.p1.1 m.s.p1.2 m.s.p2.1 m.s.p2.2 A A' m.s.ids.length c c' m.s.ids W rfl (aqs hA hb).ints (aqs hA' hb).ints h1)
  (fun W hb=>atn m.u.T m.u.N m.u.S B B' m.u.L.length d d' m.u.L W rfl (aqs hB hb).vws (aqs hB' hb).vws h2)
theorem adz {fn:Func} {p u v:Tmp} {ty:TypeId} (h:fn.results=#[.cell p ty,.tmp u,.tmp v]) (tmps:Array Value) (P:Program) (w:World) :
 (results fn tmps).run P w =
  ((asAddr (tmps.getD p undef)).run P w).andThen fun a w₁=>((loadVar ty a).run P w₁).andThen fun v' w₂=>.ok (.tuple #[v',tmps.getD u undef,tmps.getD v undef]) w₂:=by
 simp only[results,h]
 simp[Sem.run_bind,Result.andThen]
def vy (t:ByteArray):NmD×Nat×Int:=if(xt t).2.2=0 then((ac0 (xt t).1.1 (xt t).1.2.1 (xt t).1.2.2).1,(xt t).2.1,(ac0 (xt t).1.1 (xt t).1.2.1 (xt t).1.2.2).2)else(amm,0,(xt t).2.2)
def a14 (x:NmD×Nat×Int) (w:World) (e:Ending) (w':World):Prop:=∃C,e=.returned (.tuple #[.agg C,.int .i64 (x.2.1:Int),.int .i64 x.2.2])∧NmV w.heap.size w' C x.1∧Below w.heap.size w w'
theorem atc {t:ByteArray} {w:World} (ht:t.size≤1000000):Calls Tryz.prog 44 #[.string t] w (a14 (vy t) w):=by
 obtain⟨⟨⟨T,Y,fs⟩,N,E⟩,hX⟩:∃x,xt t=x:=⟨_,rfl⟩
 have hz:fs.length≤1000000∧∀f∈fs,f.size≤1000000:=by have:=avc t;rw[hX]at this;exact⟨Nat.le_trans this.1 (by omega),fun f hf=>Nat.le_trans (this.2.1 f hf) (by omega)⟩
 obtain⟨⟨m,F⟩,hm⟩:∃x,ac0 T Y fs=x:=⟨_,rfl⟩
 have HD:Hid (vy t=if E=0 then(m,N,F)else(amm,0,E)):=by unfold vy;rw[hX];simp only;rw[hm];exact rfl
 have HT:∀W,Hid (Calls Tryz.prog 62 #[.string t] W (jx ((T,Y,fs),N,E) W)):=fun W=>by rw[← hX];exact a8r t W ht
 have HK:∀A c W,vf W W.heap.size A fs→Hid (Calls Tryz.prog 63 #[.agg #[.string T,.string Y,.slice A fs.length c]] W (bfu (m,F) W)):=fun A c W hs=>by rw[← hm];exact a3s hs hz.1 hz.2
 obtain⟨n,hn⟩:∃n,fs.length=n:=⟨_,rfl⟩
 have HN:=hid hn
 rw[hn]at HK
 clear hX hz hm hn ht
 go_enter Tryz.func44,Tryz.ntmps44
 go_wp2_with (refine qc rfl 58 rfl zNm (ab5 _) ?_;intro W1 hW1;have HR1:=hid (Blk.newL (L:=nmL 0 ByteArray.empty zq zr xf zw xj) hW1 rfl);have HB1:=hid hW1.bel;have HZ1:=hid hW1.sz;clear hW1)
 refine(HT _).out.mono ?_
 rintro e W2 ⟨A,c,rfl,hs,hf,hb⟩
 have HST:=hid hs
 have HR2:=hid (HR1.out.on hb)
 have HB2:=hid (qb HB1.out hb)
 have HZ2:Hid (w.heap.size<W2.heap.size):=HR2.out.lt
 clear hs hf hb HR1 HB1 HT
 have HST:Hid (vf W2 W2.heap.size A fs):=HST
 dsimp only
 rw[HN.out]
 by_cases h0:E=0
 ·subst h0
  have HX:Hid (vy t=(m,N,F)):=HD.out.trans (if_pos rfl)
  clear HD
  go_upto_region 2 with(first
   | (refine qc rfl 150 rfl #[.string ByteArray.empty,.string ByteArray.empty,.slice none 0 0] (by kernel_rfl) ?_;intro W3 hW3;have HS3:=hid (Blk.newL (L:=[.string ByteArray.empty,.string ByteArray.empty,.slice none 0 0]) hW3 rfl);have HR3:=hid (HR2.out.grew hW3);have HB3:=hid (qb HB2.out hW3.bel);have HT3:=hid ((HST.out.below hW3.bel (Nat.le_refl _)).more hW3.bel.size);have HL3:=hid hW3.bel;clear hW3 HR2)
   | (refine qe rfl 150 _ _ rfl W2.heap.size 0 #[.string T,.string Y,.slice A n c] rfl rfl (HS3.out.there 0 3 (by decide)) aiy (zz.arr (L:=[.string T,.string Y,.slice A n c]) (zz.of rfl)) ?_;intro W4 hW4;have HS4:Hid (Blk W4 W2.heap.size [.string T,.string Y,.slice A n c]):=HS3.out.all hW4 rfl;have HR4:=hid (HR3.out.far hW4 (by have:=HZ2.out;omega));have HL4:=hid (HL3.out.trans (hW4.below (Nat.le_refl _)));have HT4:Hid (vf W4 W4.heap.size A fs):=(HST.out.below HL4.out (Nat.le_refl _)).more HL4.out.size;have HB4:=hid (qb HB2.out HL4.out);clear hW4 HS3 HR3 HB3 HT3 HL3))
  try go_frame
  go_wp2_with (refine wpList_load_mid rfl 150 _ rfl W2.heap.size 0 rfl [.string T,.string Y,.slice A n c] _ HS4.out.rg Tryz.underlying150 rfl aiy ?_)
  refine(HK A c _ HT4.out).out.mono ?_
  rintro e W5 ⟨D,rfl,hd,hb⟩
  have HD:=hid hd
  have HR5:=hid (HR4.out.on hb)
  have HB5:=hid (qb HB4.out hb)
  have HZ5:Hid (w.heap.size<W4.heap.size∧w.heap.size<W5.heap.size):=⟨HR4.out.lt,HR5.out.lt⟩
  clear hd hb HS4 HR4 HT4 HB4 HL4 HK
  dsimp only
  go_wp2_with (first
   | (refine qc rfl 58 rfl zNm (ab5 _) ?_;intro W6 hW6;have HA:=hid (Blk.newL (L:=nmL 0 ByteArray.empty zq zr xf zw xj) hW6 rfl);have HR6:=hid (HR5.out.grew hW6);have HB6:=hid (qb HB5.out hW6.bel);have HL6:=hid hW6.bel;clear hW6 HR5)
   | (refine qe rfl 58 _ _ rfl W5.heap.size 0 D rfl rfl (acy HA.out qn HD.out) (yn HD.out) HD.out.ones ?_;intro W7 hW7;have HM7:Hid (Blk W7 W5.heap.size D.toList):=HA.out.all hW7 (ag2 HD.out);have HR7:=hid (HR6.out.far hW7 (by have:=HZ5.out;omega));have HL7:=hid (HL6.out.trans (hW7.below (Nat.le_refl _)));have HB7:=hid (qb HB5.out HL7.out);clear hW7 HR6 HA HB6 HL6)
   | refine wpList_load_mid rfl 58 _ rfl W5.heap.size 0 rfl D.toList _ HM7.out.rg Tryz.underlying58 rfl (by rw[Array.length_toList];exact yn HD.out) ?_
   | (refine qe rfl 58 _ _ rfl w.heap.size 0 D rfl rfl (acy HR7.out qn HD.out) (yn HD.out) HD.out.ones ?_;intro W8 hW8;have HM8:Hid (Blk W8 w.heap.size D.toList):=HR7.out.all hW8 (ag2 HD.out);have HB8:=hid (HB7.out.trans (hW8.below (Nat.le_refl _)));have HD8:=hid ((HD.out.on HL7.out).far hW8 HZ5.out.1);clear hW8 HR7 HB7))
  have HLD:=hid (run_loadVar_mid (P:=Tryz.prog) _ w.heap.size 0 58 _ _ HM8.out.rg Tryz.underlying58 rfl (by rw[Array.length_toList];exact yn HD.out))
  refine bodyPost_ret (v:=.tuple #[.agg D,.int .i64 (N:Int),.int .i64 F]) (by rw[adz rfl];simp[asAddr,Result.andThen,HLD.out]) rfl ?_
  rw[HX.out]
  exact⟨D,rfl,HD8.out.less (by have:=HZ5.out;omega),HB8.out⟩
 ·have HX:Hid (vy t=(amm,0,E)):=HD.out.trans (if_neg h0)
  have hne:(E != 0)=true:=by rw[bne_iff_ne];exact h0
  clear HD HK
  go_wp2_with (first
   | (refine qc rfl 150 rfl #[.string ByteArray.empty,.string ByteArray.empty,.slice none 0 0] (by kernel_rfl) ?_;intro W3 hW3;have HS3:=hid (Blk.newL (L:=[.string ByteArray.empty,.string ByteArray.empty,.slice none 0 0]) hW3 rfl);have HR3:=hid (HR2.out.grew hW3);have HB3:=hid (qb HB2.out hW3.bel);clear hW3 HR2)
   | (refine qe rfl 150 _ _ rfl W2.heap.size 0 #[.string T,.string Y,.slice A n c] rfl rfl (HS3.out.there 0 3 (by decide)) aiy (zz.arr (L:=[.string T,.string Y,.slice A n c]) (zz.of rfl)) ?_;intro W4 hW4;have HR4:=hid (HR3.out.far hW4 (by have:=HZ2.out;omega));have HB4:=hid (HB3.out.trans (hW4.below (by have:=HZ2.out;omega)));clear hW4 HS3 HR3 HB3)
   | refine zh rfl 58 rfl (art _) ?_
   | (refine qe rfl 58 _ _ rfl w.heap.size 0 zNm rfl rfl (acy HR4.out qn (NmV.zero 0 w)) (yn (NmV.zero 0 w)) (NmV.zero 0 w).ones ?_;intro W7 hW7;have HM7:Hid (Blk W7 w.heap.size zNm.toList):=HR4.out.all hW7 (ag2 (NmV.zero 0 w));have HB7:=hid (HB4.out.trans (hW7.below (Nat.le_refl _)));clear hW7 HR4 HB4))
  have HLD:=hid (run_loadVar_mid (P:=Tryz.prog) _ w.heap.size 0 58 _ _ HM7.out.rg Tryz.underlying58 rfl (by rw[Array.length_toList];exact yn (NmV.zero 0 w)))
  refine bodyPost_ret (v:=.tuple #[.agg zNm,.int .i64 0,.int .i64 E]) (by rw[adz rfl];simp[asAddr,Result.andThen,HLD.out]) rfl ?_
  rw[HX.out]
  exact⟨zNm,rfl,NmV.zero _ _,HB7.out⟩
theorem ab0 {α:Type} (b m:List α) (i n:Nat) (h:i+n≤b.length):((b++m).drop i).take n=(b.drop i).take n:=by
 rw[List.drop_append_of_le_length (by omega),List.take_append_of_le_length (by rw[List.length_drop];omega)]
theorem ky (b m:List UInt8) (i:Nat) (h:i<b.length):zo (b++m) i=zo b i:=by
 unfold zo
 rw[List.getD_eq_getElem?_getD,List.getD_eq_getElem?_getD,List.getElem?_append_left h]
theorem aw7:∀(b m:List UInt8),kt b=false→kt (b++m)=false
 | [],_,h=>by cases h
 | [x],[],h=>h
 | [x],y::_,h=>by
  have h':decide (x.toNat=181)=false:=h
  show (decide (x.toNat=181) && decide (y.toNat=98))=false
  rw[h'];rfl
 | x::y::_,_,h=>h
theorem au8:∀(b m:List UInt8),2≤b.length→kt (b++m)=kt b
 | [],_,h=>by simp at h
 | [x],_,h=>by simp at h
 | x::y::_,_,_=>rfl
theorem a53 (b m:List UInt8) (h:(aa1 b).e≠2):aa1 (b++m)=aa1 b:=by
 cases hb:kt b with
 | false=>
  unfold aa1
  rw[if_pos (aw7 b m hb),if_pos hb]
 | true=>
  by_cases h6:b.length<6
  ·exfalso;apply h;unfold aa1;rw[if_neg (by rw[hb];decide),if_pos h6];rfl
  ·have h6':¬(b++m).length<6:=by rw[List.length_append];omega
   have hb2:kt (b++m)=true:=by rw[au8 b m (by omega),hb]
   have q1:¬kt b=false:=by rw[hb];decide
   have q2:¬kt (b++m)=false:=by rw[hb2];decide
   unfold aa1
   rw[if_neg q2,if_neg h6',if_neg q1,if_neg h6,ky b m 4 (by omega),ky b m 5 (by omega),ky b m 2 (by omega),ky b m 3 (by omega)]
   have hN:∀N,(zo b 4).toNat+256*(zo b 5).toNat=N→N≤N:=fun _ _=>Nat.le_refl _
   by_cases h7:1016<(zo b 4).toNat+256*(zo b 5).toNat
   ·rw[if_pos h7,if_pos h7]
   ·rw[if_neg h7,if_neg h7]
    by_cases h8:b.length<(zo b 4).toNat+256*(zo b 5).toNat+8
    ·exfalso;apply h;unfold aa1;rw[if_neg (by rw[hb];decide),if_neg h6,if_neg h7,if_pos h8];rfl
    ·rw[if_neg h8,if_neg (by rw[List.length_append];omega),ab0 b m 2 _ (by omega),ab0 b m 6 _ (by omega)]
theorem a67 (b:List UInt8):((aa1 b).e=0→8 ≤(aa1 b).n ∧(aa1 b).n≤1024 ∧(aa1 b).n≤b.length) ∧((aa1 b).e=2→b.length<1024):=by
 unfold aa1 adu
 repeat' split
 all_goals first|exact⟨fun h=>absurd h (by decide),fun h=>absurd h (by decide)⟩|(refine⟨fun h=>?_,fun h=>?_⟩<;>dsimp only at h ⊢<;>first|omega|(exact absurd h (by decide)))
theorem a6l (b m:List UInt8) (h:0<(ae4 b).2.1 ∨(ae4 b).1≠2):ae4 (b++m)=ae4 b:=by
 have h2:(aa1 b).e≠2:=by
  intro q
  unfold ae4 at h
  rw[if_neg (by rw[q];decide)]at h
  rcases h with h|h
  ·exact absurd h (by simp)
  ·exact h q
 unfold ae4
 rw[a53 b m h2]
theorem a54 (b:List UInt8):(0<(ae4 b).2.1→8 ≤(ae4 b).2.1 ∧(ae4 b).2.1≤1024 ∧(ae4 b).2.1≤b.length) ∧((ae4 b).2.1=0 →(ae4 b).1=2→b.length<1024):=by
 have hs:=a67 b
 unfold ae4
 split
 ·rename_i h0
  have:=hs.1 h0
  dsimp only
  exact⟨fun _=>this,fun q=>by omega⟩
 ·dsimp only
  exact⟨fun q=>absurd q (by simp),fun _=>hs.2⟩
def act (b:List UInt8):ByteArray:=toS (b.take 82)
theorem ara (t:ByteArray):∀f i,(vh t f i).2=2→t.size<i+f
 | 0,i,h=>by simp[vh]at h
 | f+1,i,h=>by
  unfold vh at h
  split at h
  ·split at h
   ·cases h
   ·split at h
    ·have:=ara t f (i+1) h;omega
    ·cases h
  ·omega
theorem a47 {t:ByteArray} (h:(xt t).2.2=2):t.size<82:=by
 unfold xt at h
 split at h
 ·omega
 split at h
 ·cases h
 split at h
 ·have:=ara t 80 1 h;omega
 rename_i h2
 split at h
 ·rename_i h3
  have he:(xl t).2=0:=by simpa using h2
  have h4:=afi t 80 1 (xl t).1 (by unfold xl at he ⊢;rw[← he])
  omega
 split at h
 ·cases h
 ·revert h
  cases vg (ju t)with
  | none=>intro h;cases h
  | some b=>intro h;cases h
theorem az4 {t:ByteArray} (h:(xt t).2.2=0):8 ≤(xt t).2.1 ∧(xt t).2.1≤82 ∧(xt t).2.1≤t.size:=by
 obtain⟨P,x,y,M,e,hP,hu⟩:=a4c h
 have hz:t.size=P.length+6+M.length:=by rw[e,ks,ahb]
 rw[e,arm hP hu]
 have h1:=hP.1
 have h2:=hP.2.1
 dsimp only
 rw[ks,ahb]
 omega
theorem aqt (b:List UInt8):(act b).size=min 82 b.length:=by
 unfold act;rw[ks,List.length_take]
theorem a26 {t:ByteArray} (h:0<(vy t).2.1 ∨(vy t).2.2≠2):(xt t).2.2≠2:=by
 intro q
 unfold vy at h
 rw[if_neg (by rw[q];decide)]at h
 rcases h with h|h
 ·exact absurd h (by simp)
 ·exact h q
theorem a7o (b m:List UInt8) (h:0<(vy (act b)).2.1 ∨(vy (act b)).2.2≠2):vy (act (b++m))=vy (act b):=by
 have h2:=a26 h
 have e:act (b++m)=toS (b.take 82++m.take (82-b.length)):=by
  unfold act;rw[List.take_append]
 have ht:xt (act (b++m))=xt (act b):=by rw[e];exact a7f _ _ h2
 unfold vy
 rw[ht]
theorem a24 (b:List UInt8):(0<(vy (act b)).2.1→8 ≤(vy (act b)).2.1 ∧(vy (act b)).2.1≤1024 ∧(vy (act b)).2.1≤b.length) ∧((vy (act b)).2.1=0 →(vy (act b)).2.2=2→b.length<1024):=by
 have hz:=aqt b
 generalize act b=t at *
 unfold vy
 split
 ·rename_i h0
  have:=az4 h0
  dsimp only
  exact⟨fun _=>by omega,fun q=>by omega⟩
 ·dsimp only
  exact⟨fun q=>absurd q (by simp),fun _ q=>by have:=a47 q;omega⟩
theorem a8g (b m:List UInt8) (h:0<(aa7 b).2.1 ∨(aa7 b).1≠2):aa7 (b++m)=aa7 b:=by
 unfold aa7 at h ⊢
 dsimp only at h ⊢
 by_cases h0:b.length=0
 ·rw[if_pos h0]at h;exact absurd h (by simp)
 rw[if_neg h0]at h ⊢
 rw[if_neg (by rw[List.length_append];omega),ky b m 0 (by omega)]
 by_cases h1:zo b 0≠254
 ·rw[if_pos h1,if_pos h1]
 rw[if_neg h1]at h ⊢
 rw[if_neg h1]
 by_cases h2:b.length<6
 ·rw[if_pos h2]at h;exact absurd h (by simp)
 rw[if_neg h2]at h ⊢
 rw[if_neg (by rw[List.length_append];omega),ky b m 5 (by omega),ky b m 1 (by omega)]
 generalize (zo b 5).toNat=i at *
 generalize vr (zt (i:Int)).2=w at *
 by_cases h3:w=0
 ·rw[if_pos h3,if_pos h3]
 rw[if_neg h3]at h ⊢
 rw[if_neg h3]
 by_cases h4:(zo b 1).toNat≠w
 ·rw[if_pos h4,if_pos h4]
 rw[if_neg h4]at h ⊢
 rw[if_neg h4]
 by_cases h5:b.length<w+8
 ·rw[if_pos h5]at h;exact absurd h (by simp)
 rw[if_neg h5,if_neg (by rw[List.length_append];omega),ab0 b m 1 _ (by omega),ab0 b m 6 _ (by omega),ky b m (w+6) (by omega),ky b m (w+7) (by omega),ky b m 2 (by omega),ky b m 3 (by omega),ky b m 4 (by omega)]
theorem a6e (b:List UInt8):(0<(aa7 b).2.1→8 ≤(aa7 b).2.1 ∧(aa7 b).2.1≤1024 ∧(aa7 b).2.1≤b.length) ∧((aa7 b).2.1=0 →(aa7 b).1=2→b.length<1024):=by
 have hw:=(zo b 1).toNat_lt
 unfold aa7
 dsimp only
 generalize (zo b 5).toNat=i at *
 generalize vr (zt (i:Int)).2=w at *
 repeat' split
 all_goals (refine⟨fun q=>?_,fun q r=>?_⟩<;>dsimp only at *<;>first|omega|exact absurd q (by decide)|exact absurd r (by decide))
structure ItD where
 pr:Int
 od:Bool
 U:adr
 N:NmD
 T:af8
def adq:ItD:=⟨0,false,ym,amm,v6⟩
def adm (p:Int) (b:List UInt8):ItD×Nat×Int:=
 if p=1 then({adq with U:=(ae4 b).2.2},(ae4 b).2.1,(ae4 b).1)
 else if p=2 then({adq with N:=(vy (act b)).1},(vy (act b)).2.1,(vy (act b)).2.2)
 else({adq with T:=(aa7 b).2.2},(aa7 b).2.1,(aa7 b).1)
theorem a5a (p:Int) (b m:List UInt8) (h:0<(adm p b).2.1 ∨(adm p b).2.2≠2):adm p (b++m)=adm p b:=by
 unfold adm at h ⊢
 split
 ·rename_i h1;rw[if_pos h1]at h;rw[a6l b m h]
 ·rename_i h1;rw[if_neg h1]at h
  split
  ·rename_i h2;rw[if_pos h2]at h;rw[a7o b m h]
  ·rename_i h2;rw[if_neg h2]at h;rw[a8g b m h]
theorem aks (p:Int) (b:List UInt8):(0<(adm p b).2.1→8 ≤(adm p b).2.1 ∧(adm p b).2.1≤1024 ∧(adm p b).2.1≤b.length) ∧((adm p b).2.1=0 →(adm p b).2.2=2→b.length<1024):=by
 unfold adm
 split
 ·exact a54 b
 split
 ·exact a24 b
 ·exact a6e b
structure VeD where
 d:Int
 p:Int
 n:Nat
 e:Int
 x:ItD
def bib:VeD:=⟨0,0,0,0,adq⟩
def afv (p:Int) (r:ItD×Nat×Int):VeD:=
 if 0<r.2.1 then(if r.2.2=0 then⟨2,p,r.2.1,0,{r.1 with pr:=p}⟩else⟨2,p,r.2.1,r.2.2,{adq with pr:=p,od:=true}⟩)
 else if r.2.2=2 then⟨0,p,0,0,adq⟩else⟨1,p,0,r.2.2,adq⟩
def kx:List UInt8→VeD
 | []=>bib
 | x::l=>if jc x=0 then⟨1,0,0,3,adq⟩else afv (jc x) (adm (jc x) (x::l))
theorem v5 (x:UInt8) (l:List UInt8):kx (x::l)=if jc x=0 then⟨1,0,0,3,adq⟩else afv (jc x) (adm (jc x) (x::l)):=rfl
theorem aqo (x:UInt8):jc x=0∨jc x=1∨jc x=2∨jc x=3:=by
 unfold jc
 repeat' split
 all_goals simp
theorem bbm (p:Int) (r:ItD×Nat×Int):(afv p r).p=p:=by
 unfold afv;repeat' split
 all_goals rfl
theorem am1 (p:Int) (r:ItD×Nat×Int):((afv p r).d=0↔r.2.1=0∧r.2.2=2) ∧((afv p r).d=0 ∨(afv p r).d=1 ∨(afv p r).d=2) ∧((afv p r).d=2↔0<r.2.1):=by
 unfold afv
 by_cases h1:0<r.2.1
 ·have h0:¬r.2.1=0:=by omega
  rw[if_pos h1]
  split<;>simp[h1,h0]
 ·have h0:r.2.1=0:=by omega
  rw[if_neg h1]
  split<;>simp_all
theorem bgv (p:Int) (r:ItD×Nat×Int):(afv p r).n=r.2.1:=by
 unfold afv;repeat' split
 all_goals first|rfl|(show (0:Nat)=_;omega)
theorem a8a (b m:List UInt8) (h:(kx b).d≠0):kx (b++m)=kx b:=by
 cases b with
 | nil=>exact absurd rfl h
 | cons x l=>
  show kx (x::(l++m))=kx (x::l)
  rw[v5]at h
  rw[v5,v5]
  split
  ·rfl
  ·rename_i h0
   rw[if_neg h0]at h
   have:=(am1 (jc x) (adm (jc x) (x::l))).1
   rw[← List.cons_append,a5a _ _ m (by
    rcases Nat.eq_zero_or_pos (adm (jc x) (x::l)).2.1 with q|q
    ·exact .inr fun r=>h (this.2 ⟨q,r⟩)
    ·exact .inl q)]
theorem a2p (b:List UInt8) (x:UInt8) (h:b[0]?=some x):(kx b).p=jc x:=by
 cases b with
 | nil=>cases h
 | cons y l=>
  injection h with h;subst h
  rw[v5]
  split
  ·rename_i h0;exact h0.symm
  ·exact bbm _ _
theorem bgw (b:List UInt8):(kx b).d=0 ∨(kx b).d=1 ∨(kx b).d=2:=by
 cases b with
 | nil=>exact .inl rfl
 | cons y l=>
  rw[v5]
  split
  ·exact .inr (.inl rfl)
  ·exact(am1 _ _).2.1
theorem a7y (b:List UInt8) (h:(kx b).d=2):8 ≤(kx b).n ∧(kx b).n≤1024 ∧(kx b).n≤b.length ∧(kx b).x.pr=(kx b).p ∧((kx b).p=1 ∨(kx b).p=2 ∨(kx b).p=3):=by
 cases b with
 | nil=>exact absurd h (by decide)
 | cons y l=>
  rw[v5]at h ⊢
  split
  ·rename_i h0;rw[if_pos h0]at h;exact absurd h (by decide)
  ·rename_i h0
   rw[if_neg h0]at h
   have h2:=(am1 _ _).2.2.1 h
   have h3:=(aks (jc y) (y::l)).1 h2
   have hp:=aqo y
   rw[bgv,bbm]
   refine⟨h3.1,h3.2.1,h3.2.2,?_,by rcases hp with q|q|q|q<;>simp_all⟩
   unfold afv
   rw[if_pos h2]
   split<;>rfl
theorem bd9 (b:List UInt8) (h:(kx b).d≠2):(kx b).n=0 ∧(kx b).x=adq:=by
 cases b with
 | nil=>exact⟨rfl,rfl⟩
 | cons y l=>
  rw[v5]at h ⊢
  split
  ·exact⟨rfl,rfl⟩
  ·rename_i h0
   rw[if_neg h0]at h
   have h2:¬0<(adm (jc y) (y::l)).2.1:=fun q=>h ((am1 _ _).2.2.2 q)
   unfold afv
   rw[if_neg h2]
   split<;>exact⟨rfl,rfl⟩
theorem a6o (b:List UInt8) (h:(kx b).d=0):b.length<1024:=by
 cases b with
 | nil=>simp
 | cons y l=>
  rw[v5]at h
  split at h
  ·exact absurd h (by decide)
  ·have h1:=(am1 _ _).1.1 h
   exact(aks (jc y) (y::l)).2 h1.1 h1.2
def NmQ (Q:Nat→Prop) (w:World) (L:List Value) (m:NmD):Prop:=∃x y,L=nmC m x y ∧(∃A c,x=.slice A m.s.ids.length c∧qf Q w A (m.s.ids.map (Value.int .i64)))∧∃A c,y=.slice A m.u.L.length c∧qf Q w A (vsC m.u.L)
theorem NmV.toQ {lo:Nat} {w:World} {C:Array Value} {m:NmD} (h:NmV lo w C m):NmQ (Bk lo w) w C.toList m:=by
 obtain⟨x,y,rfl,h1,h2⟩:=h
 exact⟨x,y,rfl,h1,h2⟩
theorem NmQ.keep {Q:Nat→Prop} {w w':World} {L:List Value} {m:NmD} (h:NmQ Q w L m) (hk:∀b,Q b→w'.heap[b]?=w.heap[b]?):NmQ Q w' L m:=by
 obtain⟨x,y,h0,⟨A,c,h1,h2⟩,⟨B,d,h3,h4⟩⟩:=h
 exact⟨x,y,h0,⟨A,c,h1,h2.keep hk⟩,⟨B,d,h3,h4.keep hk⟩⟩
theorem NmQ.less {Q R:Nat→Prop} {w:World} {L:List Value} {m:NmD} (h:NmQ Q w L m) (hr:∀b,Q b→R b):NmQ R w L m:=by
 obtain⟨x,y,h0,⟨A,c,h1,h2⟩,⟨B,d,h3,h4⟩⟩:=h
 exact⟨x,y,h0,⟨A,c,h1,h2.less hr⟩,⟨B,d,h3,h4.less hr⟩⟩
theorem NmQ.toV {Q:Nat→Prop} {w:World} {L:List Value} {m:NmD} (h:NmQ Q w L m) (hq:∀b,Q b→b<w.heap.size):NmV 0 w L.toArray m:=by
 obtain⟨x,y,rfl,h1,h2⟩:=h.less (R:=Bk 0 w) fun b q=>⟨Nat.zero_le _,hq b q⟩
 exact⟨x,y,rfl,h1,h2⟩
theorem NmQ.len {Q:Nat→Prop} {w:World} {L:List Value} {m:NmD} (h:NmQ Q w L m):L.length=65:=by
 obtain⟨x,y,rfl,-⟩:=h
 exact a4h _ _ _
theorem NmQ.ones {Q:Nat→Prop} {w:World} {L:List Value} {m:NmD} (h:NmQ Q w L m):∀v∈L,v.oneCell'=true:=by
 obtain⟨x,y,rfl,⟨A,c,rfl,-⟩,⟨B,d,rfl,-⟩⟩:=h
 exact va (al8 _) (ami _) (aup _ rfl) (amh _) (atv _ rfl)
theorem NmQ.zero (Q:Nat→Prop) (w:World):NmQ Q w abk amm:=⟨.slice none 0 0,.slice none 0 0,rfl,⟨none,0,rfl,qf.nil _ _ _⟩,⟨none,0,rfl,qf.nil _ _ _⟩⟩
theorem adl.zero (Q:Nat→Prop) (w:World):adl Q w jf ym:=by
 refine⟨_,_,_,_,_,rfl,a2o (v:=List.replicate 32 0) rfl (agb 32),km,a30 (v:=List.replicate 8 0) rfl (agb 8),a1r (by omega) (by omega),km⟩
def ItM (Q:Nat→Prop) (w:World) (L:List Value) (x:ItD):Prop:=∃U N T,L=itL x.pr x.od U N T∧adl Q w U x.U∧NmQ Q w N x.N∧ad7 Q w T x.T
theorem ItM.keep {Q:Nat→Prop} {w w':World} {L:List Value} {x:ItD} (h:ItM Q w L x) (hk:∀b,Q b→w'.heap[b]?=w.heap[b]?):ItM Q w' L x:=by
 obtain⟨U,N,T,h0,h1,h2,h3⟩:=h
 exact⟨U,N,T,h0,h1.keep hk,h2.keep hk,h3.keep hk⟩
theorem ItM.less {Q R:Nat→Prop} {w:World} {L:List Value} {x:ItD} (h:ItM Q w L x) (hr:∀b,Q b→R b):ItM R w L x:=by
 obtain⟨U,N,T,h0,h1,h2,h3⟩:=h
 exact⟨U,N,T,h0,h1.less hr,h2.less hr,h3.less hr⟩
theorem ItM.len {Q:Nat→Prop} {w:World} {L:List Value} {x:ItD} (h:ItM Q w L x):L.length=120:=by
 obtain⟨U,N,T,rfl,h1,h2,h3⟩:=h
 simp[itL,h1.len,h2.len,h3.len]
theorem ItM.ones {Q:Nat→Prop} {w:World} {L:List Value} {x:ItD} (h:ItM Q w L x):∀v∈L,v.oneCell'=true:=by
 obtain⟨U,N,T,rfl,h1,h2,h3⟩:=h
 intro v hv
 simp only[itL,List.mem_cons,List.mem_append]at hv
 rcases hv with rfl|rfl|hv|hv|hv
 ·rfl
 ·rfl
 ·exact h1.ones v hv
 ·exact h2.ones v hv
 ·exact h3.ones v hv
theorem ItM.zero (Q:Nat→Prop) (w:World):ItM Q w aaa adq:=⟨_,_,_,rfl,adl.zero Q w,NmQ.zero Q w,ad7.zero Q w⟩
theorem bal {Q:Nat→Prop} {w:World} {A:Option Addr} {l:List UInt8} (h:qf Q w A (bsV l)) (n c:Nat) (hn:l.length=n):(convert 22 9 (.slice A n c)).run Tryz.prog w=.ok (.string (toS l)) w:=by
 subst hn
 cases l with
 | nil=>
  cases A with
  | none=>exact run_convert_bytes_nil (P:=Tryz.prog) w 22 5 Tryz.underlying22 Tryz.underlying5 0 c 9 Tryz.underlying9
  | some a=>exact ais (P:=Tryz.prog) w 22 9 5 a c [] Tryz.underlying22 Tryz.underlying5 Tryz.underlying9 (fun j hj=>absurd hj (Nat.not_lt_zero _))
 | cons x r=>
  obtain⟨b,off,rfl,-,-⟩:=h 0 (bV x) rfl
  have e:∀l:List UInt8,l.map ((fun n:Int=>UInt8.ofNat n.toNat) ∘ fun y:UInt8=>(y.toNat:Int))=l:=fun l=>by
   induction l with
   | nil=>rfl
   | cons y l ih=>rw[List.map_cons,ih];simp
  have:=ais (P:=Tryz.prog) w 22 9 5 ⟨b,off,none⟩ c ((x::r).map fun y=>(y.toNat:Int)) Tryz.underlying22 Tryz.underlying5 Tryz.underlying9 (fun j hj=>by
   have hj':j<(x::r).length:=by simpa using hj
   obtain⟨b',off',q,-,hc⟩:=h j _ (vu hj')
   injection q with q;injection q with q1 q2;subst q1 q2
   rw[abv,hc,List.getElem_map]
   rfl)
  rw[List.length_map,List.map_map,e]at this
  exact this
def bf1:Array (Nat×Nat):=#[(0,1),(1,1),(2,48),(50,65),(115,5)]
theorem a6x {L:List Value} (hl:L.length=48) (w:World):(Instr.build 64 #[(2,.agg L.toArray)]).run Tryz.prog w=.ok (.agg (itL 0 false L abk acc).toArray) w:=by
 refine abx (z:=adt) (pl:=bf1) Tryz.underlying64 (acp w) (by kernel_rfl) ?_
 show Instr.fill _ adt ((2,.agg L.toArray)::[])=_
 rw[abe (off:=2) (L:=L) rfl (by rw[hl];rfl) (by rw[hl];decide)]
 show some _=some _
 congr 2
 exact afm [Value.int .i64 0,.bool false] jf (abk++acc) L (by rw[hl];rfl)
theorem a7l {L:List Value} (hl:L.length=65) (w:World):(Instr.build 64 #[(3,.agg L.toArray)]).run Tryz.prog w=.ok (.agg (itL 0 false jf L acc).toArray) w:=by
 refine abx (z:=adt) (pl:=bf1) Tryz.underlying64 (acp w) (by kernel_rfl) ?_
 show Instr.fill _ adt ((3,.agg L.toArray)::[])=_
 rw[abe (off:=50) (L:=L) rfl (by rw[hl];rfl) (by rw[hl];decide)]
 show some _=some _
 congr 2
 exact afm (Value.int .i64 0::.bool false::jf) abk acc L (by rw[hl];rfl)
theorem a75 {L:List Value} (hl:L.length=5) (w:World):(Instr.build 64 #[(4,.agg L.toArray)]).run Tryz.prog w=.ok (.agg (itL 0 false jf abk L).toArray) w:=by
 refine abx (z:=adt) (pl:=bf1) Tryz.underlying64 (acp w) (by kernel_rfl) ?_
 show Instr.fill _ adt ((4,.agg L.toArray)::[])=_
 rw[abe (off:=115) (L:=L) rfl (by rw[hl];rfl) (by rw[hl];decide)]
 show some _=some _
 congr 2
 have:=afm (Value.int .i64 0::.bool false::(jf++abk)) acc [] L (by rw[hl];rfl)
 simp only[List.append_nil]at this
 exact this
theorem ajq {L:List Value} {Q:Nat→Prop} {w:World} {x:ItD} (h:ItM Q w L x):L.toArray.all (·.oneCell')=true:=vm fun v hv=>h.ones v (by simpa using hv)
theorem ai9 {L:List Value} (h:L.length=120):(Tryz.prog.info? 64).map (·.size)=some L.toArray.size:=by
 rw[List.size_toArray,h];kernel_rfl
theorem jq {W:World} {b:Nat} {L0 C:List Value} (h:Blk W b L0) (hl:C.length=L0.length):W.there b 0 C.toArray.size:=by
 rw[List.size_toArray,hl];exact h.there 0 _ (by omega)
theorem ye {W W':World} {b:Nat} {L0 C:List Value} (h:Blk W b L0) (hl:C.length=L0.length) (hs:qu W W' b 0 C.toArray.toList):Blk W' b C:=h.all (by simpa using hs) hl
theorem ao9 {W:World} {b:Nat} {C:List Value} (h:Blk W b C) (hl:C.length=120):(loadVar 64 ⟨b,0,none⟩).run Tryz.prog W=.ok (.agg C.toArray) W:=
 run_loadVar_mid (P:=Tryz.prog) W b 0 64 C _ h.rg Tryz.underlying64 (by simp) (by rw[hl];kernel_rfl)
def aws (r:ItD×Nat×Int) (w:World) (e:Ending) (w':World):Prop:=∃L,e=.returned (.tuple #[.agg L.toArray,.int .i64 r.2.1,.int .i64 r.2.2])∧ItM (Bk w.heap.size w') w' L r.1∧Below w.heap.size w w'
theorem a2n {w:World} {V:Value} (x:Int×Nat×adr) (HF:∀W,Below w.heap.size w W→Hid (Calls Tryz.prog 42 #[V] W (az9 x W))) :
 Calls Tryz.prog 41 #[V] w (aws ({adq with U:=x.2.2},x.2.1,x.1) w):=by
 have HZ:=fun W=>hid (acp W)
 have HZU:=fun W=>hid (ael W)
 obtain⟨E,n,u⟩:=x
 unfold az9 at HF
 dsimp only at *
 go_enter Tryz.func41,Tryz.ntmps41
 go_wp2_with (refine qc rfl 64 rfl adt (HZ _).out ?_;intro W1 hW1;have HK1:=hid (Blk.newL (L:=aaa) hW1 rfl);have HB1:=hid hW1.bel;have HS1:=hid hW1.sz;clear hW1)
 refine(HF _ HB1.out).out.mono ?_
 rintro e w1 ⟨L,rfl,hq,hb⟩
 have HQ1:=hid hq
 have HL:=hid hq.len
 have HK2:=hid (HK1.out.on hb)
 have HB2:=hid (qb HB1.out hb)
 have HLT:=hid hb.size
 have HB0:=fun W=>hid (a6x HL.out W)
 have HON:=hid (vm (C:=L.toArray) (fun v hv=>hq.ones v (by simpa using hv)))
 have HSZ:=hid (ajn HL.out)
 have hit:∀W,(∀b,W1.heap.size≤b∧b<w1.heap.size→W.heap[b]?=w1.heap[b]?)→ItM (fun b=>W1.heap.size≤b∧b<w1.heap.size) W (itL 0 false L abk acc) {adq with U:=u}:=fun W hk=>⟨_,_,_,rfl,hq.keep hk,NmQ.zero _ _,ad7.zero _ _⟩
 have HIT:=hid hit
 have HION:=hid (ajq (hit w1 fun _ _=>rfl))
 have HISZ:=hid (ai9 (hit w1 fun _ _=>rfl).len)
 have HILN:=hid (hit w1 fun _ _=>rfl).len
 generalize hC:itL 0 false L abk acc=C at *
 have HCC:=hid hC
 clear hb HB1 HK1 HF hq hit hC
 go_wp2_with (first
  | (refine qc rfl 38 rfl yz (HZU _).out ?_;intro W2 hW2;have HU2:=hid (Blk.newL (L:=jf) hW2 rfl);have HK3:=hid (HK2.out.on hW2.bel);have HB3:=hid (qb HB2.out hW2.bel);have HP2:=hid (fun b (q:b<w1.heap.size)=>hW2.bel.block b q);clear hW2)
  | (refine qe rfl 38 _ _ rfl w1.heap.size 0 L.toArray rfl rfl (aey HU2.out rfl HL.out) HSZ.out HON.out ?_;intro W3 hs;have HU3:=hid (ai3 HU2.out hs HL.out);have HK4:=hid (HK3.out.far hs (by have:=HK2.out.lt;omega));have HB4:=hid (HB3.out.trans (hs.below HB2.out.size));have HP3:=hid (fun b (q:b<w1.heap.size)=>(hs.far b (Nat.ne_of_lt q)).trans (HP2.out b q));clear hs)
  | refine wpList_load_mid rfl 38 _ rfl w1.heap.size 0 rfl L _ HU3.out.rg Tryz.underlying38 (by simp) (by rw[HL.out];kernel_rfl) ?_
  | refine zg (u:=.agg L.toArray) rfl 64 2 _ rfl rfl (HB0 _).out ?_
  | (refine qe rfl 64 _ _ rfl w.heap.size 0 C.toArray rfl rfl (jq HK4.out HILN.out) HISZ.out HION.out ?_;intro W5 hs;have HK5:=hid (ye HK4.out HILN.out hs);have HB5:=hid (HB4.out.trans (hs.below (Nat.le_refl _)));have HP5:=hid (And.intro hs.sz (fun b (q:W1.heap.size≤b∧b<w1.heap.size)=>(hs.far b (by have:=HS1.out;omega)).trans (HP3.out b q.2)));have HZ3:=hid (HU3.out.lt);clear hs))
 have HLD:=hid (ao9 HK5.out HILN.out)
 refine bodyPost_ret (v:=.tuple #[.agg C.toArray,.int .i64 n,.int .i64 E]) (by rw[zc rfl];simp[asAddr,Result.andThen,HLD.out]) rfl ⟨C,rfl,?_,HB5.out⟩
 exact(HIT.out W5 HP5.out.2).less fun b q=>⟨by have:=HS1.out;omega,by rw[HP5.out.1];exact Nat.lt_trans q.2 HZ3.out⟩
theorem ba6 {L:List Value} (h:L.length=5):(Tryz.prog.info? 62).map (·.size)=some L.toArray.size:=by
 rw[List.size_toArray,h];kernel_rfl
theorem a9s {L:List Value} (h:L.length=65):(Tryz.prog.info? 58).map (·.size)=some L.toArray.size:=by
 rw[List.size_toArray,h];kernel_rfl
theorem a1u (w:World):(zeroValue 58).run Tryz.prog w=.ok (.agg abk.toArray) w:=by kernel_rfl
theorem a3u {w:World} {V:Value} (x:Int×Nat×af8) (HF:∀W,Below w.heap.size w W→Hid (Calls Tryz.prog 46 #[V] W (abw x W))) :
 Calls Tryz.prog 45 #[V] w (aws ({adq with T:=x.2.2},x.2.1,x.1) w):=by
 have HZ:=fun W=>hid (acp W)
 have HZU:=fun W=>hid (ab3 W)
 obtain⟨E,n,u⟩:=x
 unfold abw at HF
 dsimp only at *
 go_enter Tryz.func45,Tryz.ntmps45
 go_wp2_with (refine qc rfl 64 rfl adt (HZ _).out ?_;intro W1 hW1;have HK1:=hid (Blk.newL (L:=aaa) hW1 rfl);have HB1:=hid hW1.bel;have HS1:=hid hW1.sz;clear hW1)
 refine(HF _ HB1.out).out.mono ?_
 rintro e w1 ⟨L,rfl,hq,hb⟩
 have HQ1:=hid hq
 have HL:=hid hq.len
 have HK2:=hid (HK1.out.on hb)
 have HB2:=hid (qb HB1.out hb)
 have HLT:=hid hb.size
 have HB0:=fun W=>hid (a75 HL.out W)
 have HON:=hid (vm (C:=L.toArray) (fun v hv=>hq.ones v (by simpa using hv)))
 have HSZ:=hid (ba6 HL.out)
 have hit:∀W,(∀b,W1.heap.size≤b∧b<w1.heap.size→W.heap[b]?=w1.heap[b]?)→ItM (fun b=>W1.heap.size≤b∧b<w1.heap.size) W (itL 0 false jf abk L) {adq with T:=u}:=fun W hk=>⟨_,_,_,rfl,adl.zero _ _,NmQ.zero _ _,hq.keep hk⟩
 have HIT:=hid hit
 have HION:=hid (ajq (hit w1 fun _ _=>rfl))
 have HISZ:=hid (ai9 (hit w1 fun _ _=>rfl).len)
 have HILN:=hid (hit w1 fun _ _=>rfl).len
 generalize hC:itL 0 false jf abk L=C at *
 have HCC:=hid hC
 clear hb HB1 HK1 HF hq hit hC
 go_wp2_with (first
  | (refine qc rfl 62 rfl pkA (HZU _).out ?_;intro W2 hW2;have HU2:=hid (Blk.newL (L:=pkA.toList) hW2 rfl);have HK3:=hid (HK2.out.on hW2.bel);have HB3:=hid (qb HB2.out hW2.bel);have HP2:=hid (fun b (q:b<w1.heap.size)=>hW2.bel.block b q);clear hW2)
  | (refine qe rfl 62 _ _ rfl w1.heap.size 0 L.toArray rfl rfl (jq HU2.out HL.out) HSZ.out HON.out ?_;intro W3 hs;have HU3:=hid (ye HU2.out HL.out hs);have HK4:=hid (HK3.out.far hs (by have:=HK2.out.lt;omega));have HB4:=hid (HB3.out.trans (hs.below HB2.out.size));have HP3:=hid (fun b (q:b<w1.heap.size)=>(hs.far b (Nat.ne_of_lt q)).trans (HP2.out b q));clear hs)
  | refine wpList_load_mid rfl 62 _ rfl w1.heap.size 0 rfl L _ HU3.out.rg Tryz.underlying62 (by simp) (by rw[HL.out];kernel_rfl) ?_
  | refine zg (u:=.agg L.toArray) rfl 64 4 _ rfl rfl (HB0 _).out ?_
  | (refine qe rfl 64 _ _ rfl w.heap.size 0 C.toArray rfl rfl (jq HK4.out HILN.out) HISZ.out HION.out ?_;intro W5 hs;have HK5:=hid (ye HK4.out HILN.out hs);have HB5:=hid (HB4.out.trans (hs.below (Nat.le_refl _)));have HP5:=hid (And.intro hs.sz (fun b (q:W1.heap.size≤b∧b<w1.heap.size)=>(hs.far b (by have:=HS1.out;omega)).trans (HP3.out b q.2)));have HZ3:=hid (HU3.out.lt);clear hs))
 have HLD:=hid (ao9 HK5.out HILN.out)
 refine bodyPost_ret (v:=.tuple #[.agg C.toArray,.int .i64 n,.int .i64 E]) (by rw[zc rfl];simp[asAddr,Result.andThen,HLD.out]) rfl ⟨C,rfl,?_,HB5.out⟩
 exact(HIT.out W5 HP5.out.2).less fun b q=>⟨by have:=HS1.out;omega,by rw[HP5.out.1];exact Nat.lt_trans q.2 HZ3.out⟩
theorem a5e {w:World} (A:Option Addr) (c:Nat) (l:List UInt8) (hA:qf (fun _=>True) w A (bsV l)) (hll:l.length≤1000000) (hlc:l.length≤c) (x:NmD×Nat×Int) (HF:∀W,Below w.heap.size w W→Hid (Calls Tryz.prog 44 #[.string (act l)] W (a14 x W))) :
 Calls Tryz.prog 43 #[.slice A l.length c] w (aws ({adq with N:=x.1},x.2.1,x.2.2) w):=by
 have HZ:=fun W=>hid (acp W)
 have HZU:=fun W=>hid (a1u W)
 obtain⟨u,n,E⟩:=x
 unfold a14 at HF
 dsimp only at *
 obtain⟨k,hk⟩:∃k:Nat,min (l.length:Int) 82=(k:Int):=⟨min l.length 82,by omega⟩
 have hk1:(k:Int) ≤(l.length:Int):=by omega
 have hk0:(0:Int) ≤(k:Int):=Int.natCast_nonneg _
 have hkc:(k:Int) ≤(c:Int):=by omega
 have hkl:(l.take 82).length=k:=by rw[List.length_take];omega
 have HCV:∀W,Below w.heap.size w W→Hid (∀d,(convert 22 9 (.slice A k d)).run Tryz.prog W=.ok (.string (act l)) W):=fun W hW=>hid fun d=>bal (by have:=(hA.lt.below hW (fun b q=>q.2)).first 82;rwa [abn]at this) k d hkl
 generalize act l=t at *
 generalize l.length=ln at *
 clear hkl hA
 go_enter Tryz.func43,Tryz.ntmps43
 go_upto_region 1 with(refine qc rfl 64 rfl adt (HZ _).out ?_;intro W1 hW1;have HK1:=hid (Blk.newL (L:=aaa) hW1 rfl);have HB1:=hid hW1.bel;have HS1:=hid hW1.sz;clear hW1)
 have hcv:=(HCV W1 HB1.out).out
 go_wp2_with fail
 refine(HF _ HB1.out).out.mono ?_
 rintro e w1 ⟨Ca,rfl,hqv,hb⟩
 obtain⟨L,rfl⟩:∃L:List Value,Ca=L.toArray:=⟨Ca.toList,by simp⟩
 have hq:NmQ (fun b=>W1.heap.size≤b∧b<w1.heap.size) w1 L u:=by have:=hqv.toQ;rwa [List.toList_toArray]at this
 clear hqv hcv HCV
 have HQ1:=hid hq
 have HL:=hid hq.len
 have HK2:=hid (HK1.out.on hb)
 have HB2:=hid (qb HB1.out hb)
 have HLT:=hid hb.size
 have HB0:=fun W=>hid (a7l HL.out W)
 have HON:=hid (vm (C:=L.toArray) (fun v hv=>hq.ones v (by simpa using hv)))
 have HSZ:=hid (a9s HL.out)
 have hit:∀W,(∀b,W1.heap.size≤b∧b<w1.heap.size→W.heap[b]?=w1.heap[b]?)→ItM (fun b=>W1.heap.size≤b∧b<w1.heap.size) W (itL 0 false jf L acc) {adq with N:=u}:=fun W hk=>⟨_,_,_,rfl,adl.zero _ _,hq.keep hk,ad7.zero _ _⟩
 have HIT:=hid hit
 have HION:=hid (ajq (hit w1 fun _ _=>rfl))
 have HISZ:=hid (ai9 (hit w1 fun _ _=>rfl).len)
 have HILN:=hid (hit w1 fun _ _=>rfl).len
 generalize hC:itL 0 false jf L acc=C at *
 have HCC:=hid hC
 clear hb HB1 HK1 HF hq hit hC
 go_wp2_with (first
  | (refine qc rfl 58 rfl abk.toArray (HZU _).out ?_;intro W2 hW2;have HU2:=hid (Blk.newL (L:=abk) hW2 rfl);have HK3:=hid (HK2.out.on hW2.bel);have HB3:=hid (qb HB2.out hW2.bel);have HP2:=hid (fun b (q:b<w1.heap.size)=>hW2.bel.block b q);clear hW2)
  | (refine qe rfl 58 _ _ rfl w1.heap.size 0 L.toArray rfl rfl (jq HU2.out HL.out) HSZ.out HON.out ?_;intro W3 hs;have HU3:=hid (ye HU2.out HL.out hs);have HK4:=hid (HK3.out.far hs (by have:=HK2.out.lt;omega));have HB4:=hid (HB3.out.trans (hs.below HB2.out.size));have HP3:=hid (fun b (q:b<w1.heap.size)=>(hs.far b (Nat.ne_of_lt q)).trans (HP2.out b q));clear hs)
  | refine wpList_load_mid rfl 58 _ rfl w1.heap.size 0 rfl L _ HU3.out.rg Tryz.underlying58 (by simp) (by rw[HL.out];kernel_rfl) ?_
  | refine zg (u:=.agg L.toArray) rfl 64 3 _ rfl rfl (HB0 _).out ?_
  | (refine qe rfl 64 _ _ rfl w.heap.size 0 C.toArray rfl rfl (jq HK4.out HILN.out) HISZ.out HION.out ?_;intro W5 hs;have HK5:=hid (ye HK4.out HILN.out hs);have HB5:=hid (HB4.out.trans (hs.below (Nat.le_refl _)));have HP5:=hid (And.intro hs.sz (fun b (q:W1.heap.size≤b∧b<w1.heap.size)=>(hs.far b (by have:=HS1.out;omega)).trans (HP3.out b q.2)));have HZ3:=hid (HU3.out.lt);clear hs))
 have HLD:=hid (ao9 HK5.out HILN.out)
 refine bodyPost_ret (v:=.tuple #[.agg C.toArray,.int .i64 n,.int .i64 E]) (by rw[zc rfl];simp[asAddr,Result.andThen,HLD.out]) rfl ⟨C,rfl,?_,HB5.out⟩
 exact(HIT.out W5 HP5.out.2).less fun b q=>⟨by have:=HS1.out;omega,by rw[HP5.out.1];exact Nat.lt_trans q.2 HZ3.out⟩
def ach (v:VeD) (w:World) (e:Ending) (w':World):Prop:=∃L,e=.returned (.agg (veL v.d v.p v.n v.e L).toArray)∧ItM (Bk w.heap.size w') w' L v.x∧Below w.heap.size w w'
def a5u:Array (Nat×Nat):=#[(0,1),(1,1),(2,1),(3,1),(4,120)]
theorem asp (d p n e:Int) {L:List Value} (hl:L.length=120):Instr.fill (fun i=>a5u[i]?) (veA d p n e) [(4,.agg L.toArray)]=some (veL d p n e L).toArray:=by
 rw[abe (off:=4) (L:=L) rfl (by rw[hl];rfl) (by rw[hl];show 4+120≤124;omega)]
 show some _=some _
 congr 2
 have:=afm [Value.int .i64 d,.int .i64 p,.int .i64 n,.int .i64 e] aaa [] L (by rw[hl];rfl)
 simp only[List.append_nil]at this
 exact this
theorem aag {d p n e:Int} (k:Nat) (x:Int) (hk:k<4) (r:List (Nat×Value)):Instr.fill (fun i=>a5u[i]?) (veA d p n e) ((k,.int .i64 x)::r)=Instr.fill (fun i=>a5u[i]?) (veA (if k=0 then x else d) (if k=1 then x else p) (if k=2 then x else n) (if k=3 then x else e)) r:=by
 have:k=0∨k=1∨k=2∨k=3:=by omega
 rcases this with rfl|rfl|rfl|rfl
 ·rw[abe (off:=0) (L:=[.int .i64 x]) rfl rfl (by show 0+1≤124;omega)];rfl
 ·rw[abe (off:=1) (L:=[.int .i64 x]) rfl rfl (by show 1+1≤124;omega)];rfl
 ·rw[abe (off:=2) (L:=[.int .i64 x]) rfl rfl (by show 2+1≤124;omega)];rfl
 ·rw[abe (off:=3) (L:=[.int .i64 x]) rfl rfl (by show 3+1≤124;omega)];rfl
theorem a11 {L:List Value} (hl:L.length=120) (p n:Int) (w:World):(Instr.build 66 #[(0,.int .i64 2),(1,.int .i64 p),(2,.int .i64 n),(4,.agg L.toArray)]).run Tryz.prog w=.ok (.agg (veL 2 p n 0 L).toArray) w:=by
 refine abx (z:=veA 0 0 0 0) (pl:=a5u) Tryz.underlying66 (abo w) (by kernel_rfl) ?_
 show Instr.fill _ (veA 0 0 0 0) ((0,.int .i64 2)::(1,.int .i64 p)::(2,.int .i64 n)::(4,.agg L.toArray)::[])=_
 rw[aag 0 _ (by decide),aag 1 _ (by decide),aag 2 _ (by decide)]
 exact asp _ _ _ _ hl
theorem ayk {L:List Value} (hl:L.length=120) (p n e:Int) (w:World):(Instr.build 66 #[(0,.int .i64 2),(1,.int .i64 p),(2,.int .i64 n),(3,.int .i64 e),(4,.agg L.toArray)]).run Tryz.prog w=.ok (.agg (veL 2 p n e L).toArray) w:=by
 refine abx (z:=veA 0 0 0 0) (pl:=a5u) Tryz.underlying66 (abo w) (by kernel_rfl) ?_
 show Instr.fill _ (veA 0 0 0 0) ((0,.int .i64 2)::(1,.int .i64 p)::(2,.int .i64 n)::(3,.int .i64 e)::(4,.agg L.toArray)::[])=_
 rw[aag 0 _ (by decide),aag 1 _ (by decide),aag 2 _ (by decide),aag 3 _ (by decide)]
 exact asp _ _ _ _ hl
theorem azw (p:Int) (w:World):(Instr.build 64 #[(0,.int .i64 p),(1,.bool true)]).run Tryz.prog w=.ok (.agg (itL p true jf abk acc).toArray) w:=by kernel_rfl
theorem ah0 {P:Program} {ops:Array Oper} {rest:List Oper} {o:Oper} {a:Act} {w:World} {Q:Exit→Act→World→Prop} (hgd:o.guard=none) (t:TypeId) (x0 x1 x2 x3 x4:Operand) (ho:o.op=.build t #[(0,x0),(1,x1),(2,x2),(3,x3),(4,x4)]) {u0 u1 u2 u3 u4 v:Value} (h0:a.eval x0=u0) (h1:a.eval x1=u1) (h2:a.eval x2=u2) (h3:a.eval x3=u3) (h4:a.eval x4=u4) (hr:(Instr.build t #[(0,u0),(1,u1),(2,u2),(3,u3),(4,u4)]).run P w=.ok v w)
 (h:wpList P ops Q rest (a.put o.dst v) w):wpList P ops Q (o::rest) a w:=aap hgd t _ ho #[(0,u0),(1,u1),(2,u2),(3,u3),(4,u4)] (by simp[h0,h1,h2,h3,h4]) hr h
theorem aqk {P:Program} {ops:Array Oper} {rest:List Oper} {o:Oper} {a:Act} {w:World} {Q:Exit→Act→World→Prop} (hgd:o.guard=none) (t:TypeId) (x0 x1 x2 x4:Operand) (ho:o.op=.build t #[(0,x0),(1,x1),(2,x2),(4,x4)]) {u0 u1 u2 u4 v:Value} (h0:a.eval x0=u0) (h1:a.eval x1=u1) (h2:a.eval x2=u2) (h4:a.eval x4=u4) (hr:(Instr.build t #[(0,u0),(1,u1),(2,u2),(4,u4)]).run P w=.ok v w)
 (h:wpList P ops Q rest (a.put o.dst v) w):wpList P ops Q (o::rest) a w:=aap hgd t _ ho #[(0,u0),(1,u1),(2,u2),(4,u4)] (by simp[h0,h1,h2,h4]) hr h
theorem acs {d p n e:Int} {L:List Value} (h:L.length=120):(veL d p n e L).length=124:=by simp[veL,h]
theorem a4o {W:World} {b:Nat} {C:List Value} (h:Blk W b C) (hl:C.length=124):(loadVar 66 ⟨b,0,none⟩).run Tryz.prog W=.ok (.agg C.toArray) W:=
 run_loadVar_mid (P:=Tryz.prog) W b 0 66 C _ h.rg Tryz.underlying66 (by simp) (by rw[hl];kernel_rfl)
theorem abp {d p n e:Int} {L:List Value} (h:∀v∈L,v.oneCell'=true):(veL d p n e L).toArray.all (·.oneCell')=true:=vm fun v hv=>by
 simp only[veL,List.mem_cons]at hv
 rcases hv with rfl|rfl|rfl|rfl|hv
 ·rfl
 ·rfl
 ·rfl
 ·rfl
 ·exact h v hv
theorem aca {C:List Value} (h:C.length=124):(Tryz.prog.info? 66).map (·.size)=some C.toArray.size:=by
 rw[List.size_toArray,h];kernel_rfl
theorem ItM.odd (Q:Nat→Prop) (w:World) (p:Int):ItM Q w (itL p true jf abk acc) {adq with pr:=p,od:=true}:=⟨_,_,_,rfl,adl.zero Q w,NmQ.zero Q w,ad7.zero Q w⟩
theorem ItM.proto {Q:Nat→Prop} {w:World} {L:List Value} {x:ItD} (h:ItM Q w L x):∃R,L=.int .i64 x.pr::R∧∀p w',(∀b,Q b→w'.heap[b]?=w.heap[b]?)→ItM Q w' (.int .i64 p::R) {x with pr:=p}:=by
 obtain⟨U,N,T,rfl,h1,h2,h3⟩:=h
 exact⟨_,rfl,fun p w' hk=>⟨U,N,T,rfl,h1.keep hk,h2.keep hk,h3.keep hk⟩⟩
theorem a9g {Q:Nat→Prop} {w:World} (A:Option Addr) (c:Nat) (x:UInt8) (l:List UInt8) (p:Int) (r:ItD×Nat×Int) (h:qf Q w A (bsV (x::l))) (hp:jc x=p) (hp0:p≠0) (hm:(x::l).length≤1000000) (hn1:r.2.1≤1000000)
 (HF:∀W,Below w.heap.size w W→Hid (Calls Tryz.prog (aok p) #[.slice A (x::l).length c] W (aws r W))) :
 Calls Tryz.prog 10 #[.slice A (x::l).length c] w (ach (afv p r) w):=by
 have HZ:=fun W=>hid (abo W)
 have HZI:=fun W=>hid (acp W)
 have HP:∀W,Hid (Calls Tryz.prog 13 #[.int .u8 (x.toNat:Int)] W fun e w'=>e=.returned (.int .i64 p)∧W=w'):=fun W=>hid (by have:=aeo x W;rw[hp]at this;exact this)
 have HO:∀W,Hid (Calls Tryz.prog 26 #[.int .i64 p] W fun e w'=>e=.returned (.agg #[.func (Fn.func (aok p)) #[] #[]])∧Below W.heap.size W w'):=fun W=>hid (arj p W)
 obtain⟨b,off,rfl,-,hc⟩:=h 0 (bV x) rfl
 have hb:=aaj hc
 have HC:∀W,Below w.heap.size w W→Hid (W.cell? ⟨b,off,none⟩=some (.int .u8 (x.toNat:Int))):=fun W hW=>hid ((hW.cell (p:=⟨b,off+0,none⟩) hb).trans hc)
 have hl:(0:Int)<((x::l).length:Int):=by simp only[List.length_cons];omega
 obtain⟨y,n,E⟩:=r
 have HE:=hid (show afv p (y,n,E)=if 0<n then(if E=0 then⟨2,p,n,0,{y with pr:=p}⟩else⟨2,p,n,E,{adq with pr:=p,od:=true}⟩)else if E=2 then⟨0,p,0,0,adq⟩else⟨1,p,0,E,adq⟩from rfl)
 generalize afv p (y,n,E)=res at *
 generalize (x::l).length=L at *
 have HCL:=fun x W=>a9r p x W
 generalize aok p=F at *
 have hl0:((L:Int)==0)=false:=by rw[beq_eq_false_iff_ne];omega
 have hpb:(p==0)=false:=by rw[beq_eq_false_iff_ne];exact hp0
 unfold aws at HF
 dsimp only at *
 clear hc hb hp h hp0
 have HFD:=fun W=>aqu F W
 go_enter Tryz.func10,Tryz.ntmps10
 go_upto_region 3 with(refine qc rfl 66 rfl (veA 0 0 0 0) (HZ _).out ?_;intro W1 hW1;have HK1:=hid (Blk.newL (L:=veL 0 0 0 0 aaa) hW1 rfl);have HBB1:=hid hW1.bel;clear hW1)
 have c0:=(HC _ HBB1.out).out
 go_wp2_with (refine(HP _).out.mono ?_;rintro e w' ⟨rfl,rfl⟩)
 refine(HO _).out.mono ?_
 rintro e w2 ⟨rfl,hb⟩
 have HK2:=hid (HK1.out.on hb)
 have HBB2:=hid (qb HBB1.out hb)
 clear hb HK1 HBB1 c0 HO
 go_wp2_with fail
 refine(HF _ HBB2.out).out.mono ?_
 rintro e w3 ⟨I,rfl,hit,hb⟩
 have HK3:=hid (HK2.out.on hb)
 have HBB3:=hid (qb HBB2.out hb)
 have HIL:=hid hit.len
 have HION:=hid (ajq hit)
 have HISZ:=hid (ai9 hit.len)
 obtain⟨R,hR,hpr⟩:=hit.proto
 have HPR:=hid hpr
 have HRI:=hid hR
 have HW23:=hid (And.intro HK2.out.lt hb.size)
 clear hb HK2 HBB2 HF hit hR hpr
 go_upto_region 7 with(first
  | (refine qc rfl 64 rfl adt (HZI _).out ?_;intro W4 hW;have HI4:=hid (Blk.newL (L:=aaa) hW rfl);have HK4:=hid (HK3.out.on hW.bel);have HBB4:=hid (qb HBB3.out hW.bel);have HP4:=hid (fun b (q:b<w3.heap.size)=>hW.bel.block b q);clear hW)
  | (refine qe rfl 64 _ _ rfl w3.heap.size 0 I.toArray rfl rfl (jq HI4.out HIL.out) HISZ.out HION.out ?_;intro W5 hs;have HI5:=hid (ye HI4.out HIL.out hs);have HK5:=hid (HK4.out.far hs (by have:=HK3.out.lt;omega));have HBB5:=hid (HBB4.out.trans (hs.below HBB3.out.size));have HP5:=hid (fun b (q:b<w3.heap.size)=>(hs.far b (Nat.ne_of_lt q)).trans (HP4.out b q));clear hs))
 have hi5:=HI5.out
 rw[HRI.out]at hi5
 have i0:=hi5.cell 0 (v:=.int .i64 y.pr) rfl
 have j0:=HI5.out.fz 0
 have hst:qu W5 (W5.setCell ⟨w3.heap.size,0,none⟩ (.int .i64 p)) w3.heap.size 0 [.int .i64 p]:=xw (HI5.out.there 0 1 (by rw[HIL.out];omega))
 have HK6:Hid (Blk (W5.setCell ⟨w3.heap.size,0,none⟩ (.int .i64 p)) w.heap.size (veL 0 0 0 0 aaa)):=hid (HK5.out.far hst (by have:=HK3.out.lt;omega))
 have HBB6:Hid (Below w.heap.size w (W5.setCell ⟨w3.heap.size,0,none⟩ (.int .i64 p))):=hid (HBB5.out.trans (hst.below HBB3.out.size))
 have HI6:Hid (Blk (W5.setCell ⟨w3.heap.size,0,none⟩ (.int .i64 p)) w3.heap.size (.int .i64 p::R)):=hid (by
  have:=Blk.put (A:=[]) (M:=[Value.int .i64 y.pr]) (D:=R) hi5 hst rfl rfl
  simpa using this)
 have HP6:=hid (fun b (q:b<w3.heap.size)=>(hst.far b (Nat.ne_of_lt q)).trans (HP5.out b q))
 have HRL:Hid (R.length=119):=hid (by have:=HIL.out;rw[HRI.out]at this;simpa using this)
 clear hst HK5 HBB5 HBB4 HK4 HI4 hi5 HP4 HP5
 go_upto_region 8 with fail
 clear i0 j0 HI5
 generalize W5.setCell ⟨w3.heap.size,0,none⟩ (.int .i64 p)=W6 at *
 by_cases hn:0<n
 ·have hnI:(0:Int)<(n:Int):=by omega
  by_cases hE:E=0
  ·subst hE
   have hre:=HE.out
   rw[if_pos hn,if_pos rfl]at hre
   have HRE:=hid hre
   have HIT:=hid (HPR.out p W6 (fun b q=>HP6.out b q.2))
   have HI7:=hid (HIT.out.len)
   have HB0:=fun W=>hid (a11 HI7.out p n W)
   have HVL:=hid (acs (d:=2) (p:=p) (n:=n) (e:=0) HI7.out)
   have HVO:=hid (abp (d:=2) (p:=p) (n:=n) (e:=0) HIT.out.ones)
   have HVS:=hid (aca HVL.out)
   clear hre hn
   go_wp2_with (first
    | refine wpList_load_mid rfl 64 _ rfl w3.heap.size 0 rfl (.int .i64 p::R) _ HI6.out.rg Tryz.underlying64 (by simp) (by rw[HI7.out];kernel_rfl) ?_
    | refine aqk (u0:=.int .i64 2) (u1:=.int .i64 p) (u2:=.int .i64 n) (u4:=.agg (Value.int .i64 p::R).toArray) rfl 66 _ _ _ _ rfl rfl rfl rfl rfl (HB0 _).out ?_
    | (refine qe rfl 66 _ _ rfl w.heap.size 0 (veL 2 p n 0 (.int .i64 p::R)).toArray rfl rfl (jq HK6.out HVL.out) HVS.out HVO.out ?_;intro W7 hs;have HK7:=hid (ye HK6.out HVL.out hs);have HB7:=hid (HBB6.out.trans (hs.below (Nat.le_refl _)));have HP7:=hid (And.intro hs.sz hs.far);clear hs))
   try go_frame
   have HLD:=hid (a4o HK7.out HVL.out)
   have HLT:=hid HI6.out.lt
   refine bodyPost_ret (v:=.agg (veL 2 p n 0 (.int .i64 p::R)).toArray) (by rw[yg rfl];simp[asAddr,Result.andThen,HLD.out]) rfl ?_
   rw[HRE.out]
   refine⟨_,rfl,(HIT.out.keep fun b q=>HP7.out.2 b (by have:=HW23.out;have:=q.1;omega)).less fun b q=>⟨by have:=HW23.out;have:=q.1;omega,?_⟩,HB7.out⟩
   rw[HP7.out.1];have:=q.2;have:=HLT.out;omega
  ·have heb:(E != 0)=true:=by rw[bne_iff_ne];exact hE
   have hre:=HE.out
   rw[if_pos hn,if_neg hE]at hre
   have HRE:=hid hre
   have HIT:=hid (ItM.odd (fun _=>False) W6 p)
   have HI7:=hid (HIT.out.len)
   have HB0:=fun W=>hid (ayk HI7.out p n E W)
   have HB1:=fun W=>hid (azw p W)
   have HVL:=hid (acs (d:=2) (p:=p) (n:=n) (e:=E) HI7.out)
   have HVO:=hid (abp (d:=2) (p:=p) (n:=n) (e:=E) HIT.out.ones)
   have HVS:=hid (aca HVL.out)
   clear hre hn hE
   go_wp2_with (first
    | refine ab1 (u:=.int .i64 p) (u':=.bool true) rfl 64 0 1 _ _ rfl rfl rfl (HB1 _).out ?_
    | refine ah0 (u0:=.int .i64 2) (u1:=.int .i64 p) (u2:=.int .i64 n) (u3:=.int .i64 E) (u4:=.agg (itL p true jf abk acc).toArray) rfl 66 _ _ _ _ _ rfl rfl rfl rfl rfl rfl (HB0 _).out ?_
    | (refine qe rfl 66 _ _ rfl w.heap.size 0 (veL 2 p n E (itL p true jf abk acc)).toArray rfl rfl (jq HK6.out HVL.out) HVS.out HVO.out ?_;intro W7 hs;have HK7:=hid (ye HK6.out HVL.out hs);have HB7:=hid (HBB6.out.trans (hs.below (Nat.le_refl _)));clear hs))
   try go_frame
   have HLD:=hid (a4o HK7.out HVL.out)
   refine bodyPost_ret (v:=.agg (veL 2 p n E (itL p true jf abk acc)).toArray) (by rw[yg rfl];simp[asAddr,Result.andThen,HLD.out]) rfl ?_
   rw[HRE.out]
   exact⟨_,rfl,ItM.odd _ _ p,HB7.out⟩
 ·obtain rfl:n=0:=by omega
  have HB1:=fun W=>hid (amq 0 p W)
  have HB2:=fun W=>hid (alh 1 p E W)
  have hre:=HE.out
  rw[if_neg hn]at hre
  clear hn
  by_cases h2:E=2
  ·subst h2
   rw[if_pos rfl]at hre
   have HRE:=hid hre
   clear hre
   go_wp2_with (first
    | refine ab1 (u:=.int .i64 0) (u':=.int .i64 p) rfl 66 0 1 _ _ rfl rfl rfl (HB1 _).out ?_
    | (refine qe rfl 66 _ _ rfl w.heap.size 0 (veA 0 p 0 0) rfl rfl (HK6.out.there 0 124 (Nat.le_refl _)) (ady _ _ _ _) (ad4 _ _ _ _) ?_;intro W7 hs;have HK7:=hid (HK6.out.all hs rfl);have HB7:=hid (HBB6.out.trans (hs.below (Nat.le_refl _)));clear hs))
   try go_frame
   have HLD:=hid (run_loadVar_mid (P:=Tryz.prog) W7 w.heap.size 0 66 (veA 0 p 0 0).toList _ HK7.out.rg Tryz.underlying66 rfl (by kernel_rfl))
   refine bodyPost_ret (v:=.agg (veA 0 p 0 0)) (by rw[yg rfl];simp[asAddr,Result.andThen,HLD.out]) rfl ?_
   rw[HRE.out]
   exact⟨aaa,rfl,ItM.zero _ _,HB7.out⟩
  ·have he2:(E==2)=false:=by rw[beq_eq_false_iff_ne];exact h2
   rw[if_neg h2]at hre
   have HRE:=hid hre
   clear hre h2
   go_wp2_with (first
    | refine ahp (u:=.int .i64 1) (u':=.int .i64 p) (u'':=.int .i64 E) rfl 66 0 1 3 _ _ _ rfl rfl rfl rfl (HB2 _).out ?_
    | (refine qe rfl 66 _ _ rfl w.heap.size 0 (veA 1 p 0 E) rfl rfl (HK6.out.there 0 124 (Nat.le_refl _)) (ady _ _ _ _) (ad4 _ _ _ _) ?_;intro W7 hs;have HK7:=hid (HK6.out.all hs rfl);have HB7:=hid (HBB6.out.trans (hs.below (Nat.le_refl _)));clear hs))
   try go_frame
   have HLD:=hid (run_loadVar_mid (P:=Tryz.prog) W7 w.heap.size 0 66 (veA 1 p 0 E).toList _ HK7.out.rg Tryz.underlying66 rfl (by kernel_rfl))
   refine bodyPost_ret (v:=.agg (veA 1 p 0 E)) (by rw[yg rfl];simp[asAddr,Result.andThen,HLD.out]) rfl ?_
   rw[HRE.out]
   exact⟨aaa,rfl,ItM.zero _ _,HB7.out⟩
theorem aws.of {r r':ItD×Nat×Int} {w:World} {e:Ending} {w':World} (h:aws r w e w') (hr:r=r'):aws r' w e w':=hr▸h
theorem acu {Q:Nat→Prop} {w:World} (A:Option Addr) (c:Nat) (l:List UInt8) (h:qf Q w A (bsV l)) (hm:l.length≤1000000) (hc:l.length≤c):Calls Tryz.prog 10 #[.slice A l.length c] w (ach (kx l) w):=by
 cases l with
 | nil=>
  refine(a5d A c w).mono ?_
  rintro e w' ⟨rfl,hb⟩
  exact⟨aaa,rfl,ItM.zero _ _,hb⟩
 | cons x l=>
  by_cases hp:jc x=0
  ·rw[v5,if_pos hp]
   refine(aov A c x l h hp (by unfold maxLen;omega)).mono ?_
   rintro e w' ⟨rfl,hb⟩
   exact⟨aaa,rfl,ItM.zero _ _,hb⟩
  ·rw[v5,if_neg hp]
   have hfl:=fun W (hW:Below w.heap.size w W)=>h.lt.below hW (fun b q=>q.2)
   have hsz:=(aks (jc x) (x::l)).1
   refine a9g A c x l _ _ h rfl hp hm (by
    rcases Nat.eq_zero_or_pos (adm (jc x) (x::l)).2.1 with q|q
    ·omega
    ·have:=hsz q;omega) fun W hW=>hid ?_
   rcases aqo x with q|q|q|q
   ·exact absurd q hp
   ·rw[q]
    refine(a2n (ae4 (x::l)) fun W' hW'=>hid (ap0 A c (x::l) (hfl W' (qb hW hW')) hm hc)).mono fun e w' hd=>hd.of ?_
    unfold adm;rw[if_pos rfl]
   ·rw[q]
    refine(a5e A c (x::l) ((hfl W hW).less fun _ _=>trivial) hm hc (vy (act (x::l))) fun W' hW'=>hid (atc (by rw[aqt];omega))).mono fun e w' hd=>hd.of ?_
    unfold adm;rw[if_neg (by decide),if_pos rfl]
   ·rw[q]
    refine(a3u (aa7 (x::l)) fun W' hW'=>hid (awv A c (x::l) (hfl W' (qb hW hW')) hm hc)).mono fun e w' hd=>hd.of ?_
    unfold adm;rw[if_neg (by decide),if_neg (by decide)]
end Go.Proofs.YtdkhlkfleggbaaaGreat
