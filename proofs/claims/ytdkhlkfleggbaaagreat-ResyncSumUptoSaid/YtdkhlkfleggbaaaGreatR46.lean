/- The contract of the reference's Take of layer 22: where there is a sentence. -/
import Derived.Test.YtdkhlkfleggbaaaGreatR45
import Derived.Test.YtdkhlkfleggbaaaGreatR32
import Derived.Test.YtdkhlkfleggbaaaGreatR07
namespace Go.Proofs.YtdkhlkfleggbaaaGreat
set_option maxHeartbeats 2000000
set_option maxRecDepth 8000
open Lib (hid)
open Tryz
set_option linter.unusedVariables false
open Go.RowKit
def afs (P:List UInt8):ByteArray×ByteArray×List ByteArray:=
 (toS (P.take 2),toS ((P.drop 2).take 3),if 5<P.length then(ke (P.drop 6)).map toS else [])
def ai4 (P:List UInt8):Prop:=
 5≤P.length∧P.length≤76 ∧(∀c∈P.take 5,aeb (c.toNat:Int)=true) ∧(∀c∈P,ack (c.toNat:Int)=true) ∧(5<P.length→P[5]?=some 44)
def vc (P:List UInt8) (x y:UInt8) (M:List UInt8):List UInt8:=36::(P++[42,x,y,13,10]++M)
theorem jf (l:List UInt8):(toS l).data.toList=l:=by simp[toS]
theorem kz (l:List UInt8):(toS l).size=l.length:=by show l.toArray.size=_;simp
theorem ayv (l:List UInt8) (i:Nat) (h:i<(toS l).size):(toS l)[i]=l[i]'(by rw[kz]at h;exact h):=by
 show (toS l).data[i]=_;simp[toS]
theorem ar9 {x y:UInt8} {v:Int} (h:jk [x,y]=some v):isR (x.toNat:Int)=true∧isR (y.toNat:Int)=true:=by
 have h':(if isR (x.toNat:Int) && isR (y.toNat:Int)then some (16*ae3 (x.toNat:Int)+ae3 (y.toNat:Int))else none)=some v:=h
 split at h'
 ·rename_i hc;rw[Bool.and_eq_true]at hc;exact hc
 ·cases h'
theorem au5 {c:Int} (h:isR c=true):okC c=true∧c≠13∧c≠42:=by
 have h1:=of_decide_eq_true h;refine⟨?_,by omega,by omega⟩;unfold okC;rw[Bool.or_eq_true];right;unfold ack;rw[decide_eq_true_eq];omega
theorem a92 (t:ByteArray):∀(k f i:Nat),k<f →(∀j,i≤j→j<i+k→∃h:j<t.size,okC (t[j].toNat:Int)=true ∧(t[j].toNat:Int)≠13) →(∃h:i+k<t.size,(t[i+k].toNat:Int)=13)→vt t f i=(i+k,0):=by
 intro k
 induction k with
 | zero=>
  intro f i hf _ ⟨h,hc⟩;obtain⟨f,rfl⟩:∃g,f=g+1:=⟨f-1,by omega⟩;exact a0g t f i h hc
 | succ k ih=>
  intro f i hf hall ⟨h,hc⟩;obtain⟨f,rfl⟩:∃g,f=g+1:=⟨f-1,by omega⟩;obtain⟨h0,h1,h2⟩:=hall i (Nat.le_refl _) om;rw[ap9 t f i h0 h2 h1,ih f (i+1) om (fun j a b=>hall j om om) (by rw[show i+1+k=i +(k+1)from by omega];exact⟨h,hc⟩)];rw[show i+1+k=i +(k+1)from by omega]
theorem a90 (t:ByteArray):∀(f i j:Nat),vt t f i=(j,0) →(∀q,i≤q→q<j→∃h:q<t.size,okC (t[q].toNat:Int)=true ∧(t[q].toNat:Int)≠13)∧∃h:j<t.size,(t[j].toNat:Int)=13:=by
 intro f
 induction f with
 | zero=>intro i j h;simp[vt]at h
 | succ f ih=>
  intro i j h;unfold vt at h
  by_cases hi:i<t.size
  ·rw[dif_pos hi]at h
   by_cases h13:(t[i].toNat:Int)=13
   ·rw[if_pos h13]at h;injection h with h _
    subst h;exact⟨fun q a b=>absurd a om,hi,h13⟩
   ·rw[if_neg h13]at h
    by_cases ho:okC (t[i].toNat:Int)=true
    ·rw[if_pos ho]at h;obtain⟨a1,a2⟩:=ih _ _ h;refine⟨fun q a b=>?_,a2⟩
     by_cases hq:q=i
     ·subst hq;exact⟨hi,ho,h13⟩
     ·exact a1 q om b
    ·rw[if_neg ho]at h;simp at h
  ·rw[dif_neg hi]at h;simp at h
theorem as3 {c:Int} (h:ack c=true):okC c=true∧c≠13∧c≠42:=by
 have h1:=of_decide_eq_true h;exact⟨by unfold okC;rw[h,Bool.or_true],by omega,by omega⟩
theorem a83 {c:Int} (h:okC c=true) (h42:c≠42):ack c=true:=by
 unfold okC at h;rw[Bool.or_eq_true,beq_iff_eq]at h;exact h.resolve_left h42
section
variable {P : List UInt8} {x y : UInt8} {M : List UInt8}
theorem aic:(vc P x y M).length=P.length+6+M.length:=by simp[vc];omega
theorem bfk (j:Nat) (h1:1≤j) (h2:j<P.length+4) (hj:j<(vc P x y M).length):∃h:j-1<(P++[42,x,y]).length,(vc P x y M)[j]=(P++[42,x,y])[j-1]:=by
 have hl:(P++[42,x,y]).length=P.length+3:=by simp
 refine⟨by omega,?_⟩;obtain⟨j,rfl⟩:∃i,j=i+1:=⟨j-1,by omega⟩;have e:vc P x y M=36::((P++[42,x,y]) ++([13,10]++M)):=by simp[vc]
 simp only[e,List.getElem_cons_succ,Nat.add_sub_cancel];rw[List.getElem_append_left om]
theorem aq0:(vc P x y M).drop (P.length+4)=13::10::M:=by
 have e:vc P x y M=(36::(P++[42,x,y])) ++(13::10::M):=by simp[vc]
 rw[e,List.drop_left' sm]
theorem a6b:((vc P x y M).drop 1).take (P.length+3)=P++[42,x,y]:=by
 have e:(vc P x y M).drop 1=(P++[42,x,y]) ++(13::10::M):=by simp[vc]
 rw[e,List.take_left' sm]
theorem aun {l q:List UInt8} {n:Nat} {c:UInt8} (h:l.drop n=c::q):l[n]?=some c∧l.drop (n+1)=q:=by
 constructor
 ·have:=List.getElem?_drop (xs:=l) (i:=n) (j:=0);rw[h]at this
  simpa using this.symm
 ·have:l.drop (n+1)=(l.drop n).drop 1:=by rw[List.drop_drop]
  rw[this,h];rfl
theorem asq (hP:ai4 P) (hu:jk [x,y]=some ((ajv P).toNat:Int)):xu (toS (vc P x y M))=(P.length+4,0):=by
 obtain⟨p1,p2,p3,p4,p5⟩:=hP;obtain⟨ux,uy⟩:=ar9 hu;have hl:=aic (P:=P) (x:=x) (y:=y) (M:=M);unfold xu;rw[a92 (toS (vc P x y M)) (P.length+3) 80 1 om,show 1 +(P.length+3)=P.length+4 from by omega]
 ·intro j h1 h2;have hj:j<(toS (vc P x y M)).size:=by rw[kz];omega
  refine⟨hj,?_⟩;rw[ayv _ _ hj];obtain⟨h3,h4⟩:=bfk (P:=P) (x:=x) (y:=y) (M:=M) j h1 om om;rw[h4];have hm:(P++[42,x,y])[j-1]∈P++[42,x,y]:=List.getElem_mem h3
  have key:∀c∈P++[42,x,y],okC (c.toNat:Int)=true ∧(c.toNat:Int)≠13:=by
   intro c hc;rcases List.mem_append.1 hc with h|h
   ·have:=as3 (p4 c h);exact⟨this.1,this.2.1⟩
   ·have:c=42∨c=x∨c=y:=by simpa using h
    rcases this with rfl|rfl|rfl
    ·exact⟨by decide,by decide⟩
    ·exact⟨(au5 ux).1,(au5 ux).2.1⟩
    ·exact⟨(au5 uy).1,(au5 uy).2.1⟩
  exact key _ hm
 ·have hj:1 +(P.length+3)<(toS (vc P x y M)).size:=by rw[kz];omega
  refine⟨hj,?_⟩;obtain⟨h1,_⟩:=aun (aq0 (P:=P) (x:=x) (y:=y) (M:=M));rw[ayv _ _ hj];rw[List.getElem?_eq_getElem om]at h1;injection h1 with h1
  have:(vc P x y M)[1 +(P.length+3)]'(by omega)=13:=by rw[← h1];congr 1;omega
  rw[this];rfl
theorem as4 (hP:ai4 P) (hu:jk [x,y]=some ((ajv P).toNat:Int)):jy (toS (vc P x y M))=toS (P++[42,x,y]):=by
 rw[agw (asq hP hu),vj,jf,show P.length+4-1=P.length+3 from by omega,a6b]
theorem ayr (hP:ai4 P) {v:Int} (hu:jk [x,y]=some v):zq (toS (P++[42,x,y]))=true:=by
 obtain⟨p1,p2,p3,p4,p5⟩:=hP;have hl:(P++[42,x,y]).length=P.length+3:=by simp
 have hz:(toS (P++[42,x,y])).size=P.length+3:=by rw[kz,hl]
 have hno:∀c∈P,c≠42:=fun c hc h42=>by have:=(as3 (p4 c hc)).2.2;rw[h42]at this;exact this rfl
 have ht5:(P++[42,x,y]).take 5=P.take 5:=by rw[List.take_append_of_le_length p1]
 refine a8n hz p1 ?_ ?_ ?_ ?_ (v:=v) ?_
 ·rw[ayv _ _ om,List.getElem_append_right om];simp
 ·rw[jf,ai0,amv hno,ai1,asa hu]
 ·unfold ab3 at9;rw[Bool.and_eq_true,decide_eq_true_eq,aax,jf,List.drop_zero,Nat.sub_zero,ht5,ByteArray.size_extract,List.all_eq_true];exact⟨by omega,p3⟩
 ·by_cases h:P.length=5
  ·exact .inl h
  ·right;rw[jf,List.getElem?_append_left om];exact p5 om
 ·rw[aze,jf,show (P++[42,x,y]).drop (P.length+1)=[x,y]from by simp[List.drop_append,List.drop_eq_nil_of_le]];exact hu
theorem att (hP:ai4 P) (hu:jk [x,y]=some ((ajv P).toNat:Int)):jb (toS (vc P x y M))=(afs P,P.length+6,0):=by
 have hl:=aic (P:=P) (x:=x) (y:=y) (M:=M);have hE:=asq (M:=M) hP hu;obtain⟨_,h10⟩:=aun (aq0 (P:=P) (x:=x) (y:=y) (M:=M));obtain⟨h10,_⟩:=aun h10;rw[ah9 (by rw[kz];omega) (by rw[jf];rfl) (by rw[hE]) (by rw[hE,kz];show ¬_<P.length+4+2;omega) (by rw[hE,jf];exact h10) (by rw[as4 hP hu];exact ayr hP hu)];rw[as4 hP hu,hE];have ho:=a4e P x y;rw[if_pos hu]at ho;have ho':vo (toS (P++[42,x,y]))=some (toS P):=ho;rw[ho'];have e1:(toS P).extract 0 2=toS (P.take 2):=by rw[vj,jf];rfl
 have e2:(toS P).extract 2 5=toS ((P.drop 2).take 3):=by rw[vj,jf]
 have e3:kq ((toS P).extract 6 (toS P).size)=(ke (P.drop 6)).map toS:=by
  unfold kq;rw[aax,jf,kz,List.take_of_length_le (by rw[List.length_drop];exact Nat.le_refl _)]
 show (((toS P).extract 0 2,(toS P).extract 2 5,if 5<(toS P).size then kq ((toS P).extract 6 (toS P).size)else []),P.length+4+2,(0:Int))=_;rw[e1,e2,e3,kz];rfl
end
theorem a15 (t:ByteArray):toS t.data.toList=t:=a1l t
theorem bbc {l:List UInt8} {v:Int} (h:jk l=some v):∃x y,l=[x,y]:=by
 unfold jk at h
 split at h
 ·rename_i a b;exact⟨a,b,rfl⟩
 ·cases h
theorem a5q {t:ByteArray} (h:(jb t).2.2=0):t.data.toList[0]?=some 36 ∧(xu t).2=0∧¬t.size<(xu t).1+2∧t.data.toList[(xu t).1+1]?=some 10∧zq (jy t)=true ∧(vo (jy t)).isSome=true:=by
 by_cases h0:t.size=0
 ·rw[anr h0]at h;cases h
 by_cases h1:t.data.toList[0]?=some 36
 ·by_cases h2:(xu t).2=0
  ·by_cases h3:t.size<(xu t).1+2
   ·rw[ans h0 h1 h2 h3]at h;cases h
   ·by_cases h4:t.data.toList[(xu t).1+1]?≠some 10∨zq (jy t)=false
    ·rw[ah8 h0 h1 h2 h3 h4]at h;cases h
    ·have h5:t.data.toList[(xu t).1+1]?=some 10:=Classical.not_not.1 fun k=>h4 (.inl k)
     have h6:zq (jy t)=true:=by cases hf:zq (jy t)with
      | true=>rfl
      | false=>exact absurd (.inr hf) h4
     refine⟨h1,h2,h3,h5,h6,?_⟩;rw[ah9 h0 h1 h2 h3 h5 h6]at h;cases ho:vo (jy t)with
     | none=>rw[ho]at h;cases h
     | some b=>rfl
  ·rw[ah7 h0 h1 h2]at h;exact absurd h h2
 ·rw[akz h0 h1]at h;cases h
theorem baz {t:ByteArray} (h:(jb t).2.2≠0):jb t=((ByteArray.empty,ByteArray.empty,[]),0,(jb t).2.2):=by
 by_cases h0:t.size=0
 ·rw[anr h0]
 by_cases h1:t.data.toList[0]?=some 36
 ·by_cases h2:(xu t).2=0
  ·by_cases h3:t.size<(xu t).1+2
   ·rw[ans h0 h1 h2 h3]
   ·by_cases h4:t.data.toList[(xu t).1+1]?≠some 10∨zq (jy t)=false
    ·rw[ah8 h0 h1 h2 h3 h4]
    ·have h5:t.data.toList[(xu t).1+1]?=some 10:=Classical.not_not.1 fun k=>h4 (.inl k)
     have h6:zq (jy t)=true:=by cases hf:zq (jy t)with
      | true=>rfl
      | false=>exact absurd (.inr hf) h4
     rw[ah9 h0 h1 h2 h3 h5 h6]at h ⊢;cases ho:vo (jy t)with
     | none=>rfl
     | some b=>rw[ho]at h;exact absurd rfl h
  ·rw[ah7 h0 h1 h2]
 ·rw[akz h0 h1]
theorem a3u (t:ByteArray) (j:Nat) (h:j<t.size):t.data.toList[j]?=some t[j]:=by
 rw[List.getElem?_eq_getElem (by rw[adi];exact h)];rfl
theorem a66 {t:ByteArray} (h:(jb t).2.2=0):∃P x y M,t=toS (vc P x y M)∧ai4 P∧jk [x,y]=some ((ajv P).toNat:Int):=by
 obtain⟨h1,h2,h3,h4,h5,h6⟩:=a5q h;obtain⟨i,hi⟩:∃i,xu t=(i,0):=⟨(xu t).1,by rw[← h2]⟩;obtain⟨b1,b2,b3⟩:=afw t 80 1 i hi;obtain⟨s1,s2,s3⟩:=a90 t 80 1 i hi;rw[hi]at h3 h4;have hL:=agw hi;rw[hL]at h5 h6;have hlist:(t.extract 1 i).data.toList=(t.data.toList.drop 1).take (i-1):=by rw[aax]
 obtain⟨L,hLe⟩:∃L,t.extract 1 i=L:=⟨_,rfl⟩;have hls:L.size=i-1:=by rw[← hLe,ByteArray.size_extract];omega
 rw[hLe]at h5 h6 hlist;unfold zq at h5;rw[Bool.and_eq_true,Bool.and_eq_true,Bool.and_eq_true,Bool.and_eq_true]at h5;obtain⟨⟨⟨⟨q1,q2⟩,q3⟩,q4⟩,q5⟩:=h5;have k1:=of_decide_eq_true q1;obtain⟨n,hn⟩:∃n,L.size=n+3:=⟨L.size-3,by omega⟩;have hix:Lib.indexByte L.data.toList 42=(n:Int):=by have:=of_decide_eq_true q2;unfold aef at this;omega
 obtain⟨i1,i2,i3⟩:=azc _ _ n hix;obtain⟨b,hb⟩:=Option.isSome_iff_exists.1 h6;unfold vo at hb;rw[if_neg om]at hb
 split at hb
 ·rename_i hc;obtain⟨_,hu⟩:=hc;rw[show L.size-3=n from by omega,aze]at hu;obtain⟨x,y,hxy⟩:=bbc hu;have hPl:(L.data.toList.take n).length=n:=by rw[List.length_take];omega
  have hP:(L.extract 0 n).data.toList=L.data.toList.take n:=by rw[aax];rfl
  have hsum:awn (L.extract 0 n)=((ajv (L.data.toList.take n)).toNat:Int):=by unfold awn;rw[hP]
  have hall:∀c∈L.data.toList,okC (c.toNat:Int)=true:=by
   intro c hc;rw[hlist]at hc;obtain⟨j,hj,rfl⟩:=List.getElem_of_mem hc;rw[List.length_take,List.length_drop]at hj;obtain⟨g,ok,_⟩:=s1 (j+1) om om
   have e:((t.data.toList.drop 1).take (i-1))[j]'(by rw[List.length_take,List.length_drop];exact hj)=t[j+1]:=by
    rw[List.getElem_take,List.getElem_drop];have:=a3u t (j+1) g;rw[List.getElem?_eq_getElem (by rw[adi];exact g)]at this;injection this with this
    rw[← this]
    congr 1
    omega
   rw[e];exact ok
  refine⟨L.data.toList.take n,x,y,t.data.toList.drop (i+2),?_,⟨by omega,by omega,?_,?_,?_⟩,by rw[← hxy,hu,hsum]⟩
  ·have e1:t.data.toList=t.data.toList.take i++t.data.toList.drop i:=(List.take_append_drop _ _).symm
   have e2:t.data.toList.drop i=13::10::t.data.toList.drop (i+2):=by
    have g1:i<t.data.toList.length:=by rw[adi];omega
    have g2:i+1<t.data.toList.length:=by rw[adi];omega
    rw[List.drop_eq_getElem_cons g1,List.drop_eq_getElem_cons g2];have v2:t.data.toList[i+1]=10:=by rw[List.getElem?_eq_getElem g2]at h4;injection h4
    have v1:t.data.toList[i]=13:=by
     have:=(aho t i om 13).2 (by rw[s3];rfl);rw[List.getElem?_eq_getElem g1]at this;injection this
    rw[v1,v2]
   have e3:t.data.toList.take i=36::L.data.toList:=by
    rw[hlist];cases hd:t.data.toList with
    | nil=>rw[hd]at h1;cases h1
    | cons a l=>
     rw[hd]at h1;have:a=36:=by simpa using h1
     subst this;obtain⟨i,rfl⟩:∃j,i=j+1:=⟨i-1,by omega⟩;rfl
   refine(a15 t).symm.trans (congrArg toS (e1.trans ?_));rw[e2,e3];have i2':=i2;rw[hxy]at i2';generalize L.data.toList.take n=Q at i2' ⊢;rw[i2'];simp[vc]
  ·intro c hc;rw[List.take_take,Nat.min_eq_left om]at hc;unfold ab3 at9 at q3;rw[Bool.and_eq_true,aax,List.all_eq_true]at q3;exact q3.2 c hc
  ·intro c hc;refine a83 (hall c (List.mem_of_mem_take hc)) ?_;intro h42;exact i3 c hc (UInt8.toNat_inj.1 (by have e:(42:UInt8).toNat=42:=rfl;omega))
  ·intro h;rw[hPl]at h;rw[Bool.or_eq_true,decide_eq_true_eq,decide_eq_true_eq]at q5;rw[List.getElem?_take_of_lt h];exact q5.resolve_left om
 ·cases hb
theorem a03 (l:List UInt8):((ke l).flatMap fun f=>44::f)=44::l:=by
 induction l with
 | nil=>rfl
 | cons b l ih=>
  by_cases hb:b=44
  ·rw[hb,akw,List.flatMap_cons,ih];rfl
  ·rw[amu b l hb];cases hs:ke l with
   | nil=>exact absurd hs (ah5 l)
   | cons h r=>
    rw[hs,List.flatMap_cons]at ih;have ih':h ++(r.flatMap fun f=>44::f)=l:=by simpa using ih
    show (44::([b]++h)) ++(r.flatMap fun f=>44::f)=44::b::l;rw[← ih'];simp
section
variable {P : List UInt8} (hP : ai4 P)
include hP
theorem a2w:aj5 (afs P).1 (afs P).2.1 (afs P).2.2=P:=by
 obtain⟨p1,p2,p3,p4,p5⟩:=hP;unfold aj5 afs;rw[jf,jf]
 have e:P=P.take 2 ++(P.drop 2).take 3++P.drop 5:=by
  conv=>lhs;rw[← List.take_append_drop 5 P,show (5:Nat)=2+3 from rfl,List.take_add]
 by_cases h:5<P.length
 ·have hd:P.drop 5=44::P.drop 6:=by
   rw[List.drop_eq_getElem_cons h];have:=p5 h;rw[List.getElem?_eq_getElem h]at this;injection this with this
   rw[this]
  show _++_++List.flatMap _ (if 5<P.length then _ else _)=P;rw[if_pos h]
  conv=>rhs;rw[e,hd,← a03]
  rw[List.flatMap_map];simp only[jf]
 ·show _++_++List.flatMap _ (if 5<P.length then _ else _)=P;rw[if_neg h,List.flatMap_nil];have e5:P.drop 5=[]:=List.drop_eq_nil_of_le om;rw[e5]at e;exact e.symm
end
theorem ap8 (l m:List UInt8):∀f i,(vt (toS l) f i).2≠2→vt (toS (l++m)) f i=vt (toS l) f i:=by
 intro f
 induction f with
 | zero=>intro i _;rfl
 | succ f ih=>
  intro i h
  by_cases hi:i<(toS l).size
  ·have hi':i<(toS (l++m)).size:=by rw[kz]at hi ⊢;rw[List.length_append];omega
   have e:(toS (l++m))[i]=(toS l)[i]:=by
    rw[ayv _ _ hi,ayv _ _ hi',List.getElem_append_left]
   unfold vt at h ⊢;rw[dif_pos hi]at h ⊢;rw[dif_pos hi',e]
   split
   ·rfl
   ·rename_i h13;rw[if_neg h13]at h
    split
    ·rename_i ho;rw[if_pos ho]at h;exact ih _ h
    ·rfl
  ·unfold vt at h;rw[dif_neg hi]at h;exact absurd rfl h
theorem ba1 (l m:List UInt8) (h:(jb (toS l)).2.2≠2):jb (toS (l++m))=jb (toS l):=by
 by_cases h0:(toS l).size=0
 ·rw[anr h0]at h;exact absurd rfl h
 have h0':¬(toS (l++m)).size=0:=by rw[kz]at h0 ⊢;rw[List.length_append];omega
 have get:∀j,j<l.length →(toS (l++m)).data.toList[j]?=(toS l).data.toList[j]?:=fun j hj=>by rw[jf,jf,List.getElem?_append_left hj]
 have hz:(toS l).size=l.length:=kz l
 by_cases h1:(toS l).data.toList[0]?=some 36
 ·have h1':(toS (l++m)).data.toList[0]?=some 36:=by rw[get 0 om];exact h1
  by_cases h2:(xu (toS l)).2=0
  ·have hE:xu (toS (l++m))=xu (toS l):=ap8 l m 80 1 (by show (xu (toS l)).2≠2;omega);have h2':(xu (toS (l++m))).2=0:=by rw[hE];exact h2
   by_cases h3:(toS l).size<(xu (toS l)).1+2
   ·rw[ans h0 h1 h2 h3]at h;exact absurd rfl h
   ·have h3':¬(toS (l++m)).size<(xu (toS (l++m))).1+2:=by rw[hE];rw[kz]at h3 ⊢;rw[List.length_append];omega
    obtain⟨i,hi⟩:∃i,xu (toS l)=(i,0):=⟨(xu (toS l)).1,by rw[← h2]⟩;have hi':xu (toS (l++m))=(i,0):=by rw[hE];exact hi
    have hLn:jy (toS (l++m))=jy (toS l):=by
     rw[agw hi,agw hi',vj,vj,jf,jf];rw[hi]at h3;have b1:=(afw (toS l) 80 1 i hi).1
     congr 1
     rw[List.drop_append_of_le_length om,List.take_append_of_le_length (by rw[List.length_drop];omega)]
    have g4:(toS (l++m)).data.toList[(xu (toS l)).1+1]?=(toS l).data.toList[(xu (toS l)).1+1]?:=get _ om;rw[← hE]at g4
    by_cases h4:(toS l).data.toList[(xu (toS l)).1+1]?≠some 10∨zq (jy (toS l))=false
    ·rw[ah8 h0 h1 h2 h3 h4,ah8 h0' h1' h2' h3' (by rw[g4,hE,hLn];exact h4)]
    ·have h5:(toS l).data.toList[(xu (toS l)).1+1]?=some 10:=Classical.not_not.1 fun k=>h4 (.inl k)
     have h6:zq (jy (toS l))=true:=by cases hf:zq (jy (toS l))with
      | true=>rfl
      | false=>exact absurd (.inr hf) h4
     rw[ah9 h0 h1 h2 h3 h5 h6,ah9 h0' h1' h2' h3' (by rw[g4,hE];exact h5) (by rw[hLn];exact h6),hLn,hE]
  ·have hE:xu (toS (l++m))=xu (toS l):=ap8 l m 80 1 (by
    show (xu (toS l)).2≠2;rw[ah7 h0 h1 h2]at h;exact h)
   rw[ah7 h0 h1 h2,ah7 h0' h1' (by rw[hE];exact h2),hE]
 ·have h1':¬(toS (l++m)).data.toList[0]?=some 36:=by rw[get 0 om];exact h1
  rw[akz h0 h1,akz h0' h1']
theorem apk (t:ByteArray):t.data.toList.length=t.size:=by rw[Array.length_toList];rfl
theorem arg (t y:ByteArray):∀fs:List ByteArray,fs.length+t.size+y.size ≤(aj5 t y fs).length∧∀f∈fs,f.size ≤(aj5 t y fs).length:=by
 intro fs;have e1:=apk t;have e2:=apk y
 have key:fs.length ≤(fs.flatMap fun f=>(44:UInt8)::f.data.toList).length∧∀f∈fs,f.size ≤(fs.flatMap fun f=>(44:UInt8)::f.data.toList).length:=by
  induction fs with
  | nil=>exact⟨Nat.zero_le _,fun f hf=>by simp at hf⟩
  | cons g l ih=>
   have e3:=apk g;rw[List.flatMap_cons,List.length_append,List.length_cons,List.length_cons];refine⟨by omega,fun f hf=>?_⟩;rcases List.mem_cons.1 hf with rfl|hf
   ·omega
   ·have:=ih.2 f hf;omega
 unfold aj5;rw[List.length_append,List.length_append];exact⟨by omega,fun f hf=>by have:=key.2 f hf;omega⟩
theorem a5o {t:ByteArray} (h:(jb t).2.2=0):∃P x y M,ai4 P∧t=toS (vc P x y M)∧jk [x,y]=some ((ajv P).toNat:Int)∧jb t=(afs P,P.length+6,0):=by
 obtain⟨P,x,y,M,rfl,hP,hu⟩:=a66 h;exact⟨P,x,y,M,hP,rfl,hu,att hP hu⟩
theorem awq (t:ByteArray):(jb t).1.2.2.length≤76 ∧(∀f∈(jb t).1.2.2,f.size≤76) ∧(jb t).1.1.size≤76 ∧(jb t).1.2.1.size≤76:=by
 by_cases h:(jb t).2.2=0
 ·obtain⟨P,x,y,M,hP,-,-,e⟩:=a5o h;rw[e];have hb:=a2w hP;have h1:=arg (afs P).1 (afs P).2.1 (afs P).2.2;rw[hb]at h1;have h2:=hP.2.1;exact⟨by simp only;omega,fun f hf=>Nat.le_trans (h1.2 f hf) h2,by simp only;omega,by simp only;omega⟩
 ·rw[baz h];exact⟨Nat.zero_le _,fun f hf=>by simp at hf,Nat.zero_le _,Nat.zero_le _⟩
theorem ad8 {fn:Func} {p u v:Tmp} {ty:TypeId} (h:fn.results=#[.cell p ty,.tmp u,.tmp v]) (tmps:Array Value) (P:Program) (w:World) :
 (results fn tmps).run P w =
  ((asAddr (tmps.getD p undef)).run P w).andThen fun a w₁=>((loadVar ty a).run P w₁).andThen fun v' w₂=>.ok (.tuple #[v',tmps.getD u undef,tmps.getD v undef]) w₂:=by
 simp only[results,h];simp[Sem.run_bind,Result.andThen]
def aaj (t:ByteArray):NmD×Nat×Int:=if(jb t).2.2=0 then((aha (jb t).1.1 (jb t).1.2.1 (jb t).1.2.2).1,(jb t).2.1,(aha (jb t).1.1 (jb t).1.2.1 (jb t).1.2.2).2)else(aq4,0,(jb t).2.2)
def a2b (x:NmD×Nat×Int) (w:World) (e:Ending) (w':World):Prop:=∃C,e=.returned (.tuple #[.agg C,.int .i64 (x.2.1:Int),.int .i64 x.2.2])∧NmV w.1.size w' C x.1∧Below w.1.size w w'
theorem au8 {t:ByteArray} {w:World} (ht:t.size≤1000000):Calls Tryz.prog 44 #[.string t] w (a2b (aaj t) w):=by
 obtain⟨⟨⟨T,Y,fs⟩,N,E⟩,hX⟩:∃x,jb t=x:=⟨_,rfl⟩;have hz:fs.length≤1000000∧∀f∈fs,f.size≤1000000:=by have:=awq t;rw[hX]at this;exact⟨Nat.le_trans this.1 om,fun f hf=>Nat.le_trans (this.2.1 f hf) om⟩
 obtain⟨⟨m,F⟩,hm⟩:∃x,aha T Y fs=x:=⟨_,rfl⟩;have HD:Hid (aaj t=if E=0 then(m,N,F)else(aq4,0,E)):=by unfold aaj;rw[hX];simp only;rw[hm];exact rfl
 have HT:∀W,Hid (Calls Tryz.prog 62 #[.string t] W (jz ((T,Y,fs),N,E) W)):=fun W=>by rw[← hX];exact bb0 t W ht
 have HK:∀A c W,vg W W.1.size A fs→Hid (Calls Tryz.prog 63 #[.agg #[.string T,.string Y,.slice A fs.length c]] W (bid (m,F) W)):=fun A c W hs=>by rw[← hm];exact a4c hs hz.1 hz.2
 obtain⟨n,hn⟩:∃n,fs.length=n:=⟨_,rfl⟩;have HN:=hid hn;rw[hn]at HK;clear hX hz hm hn ht;go_enter func44,ntmps44;go_wp2_with (refine qc rfl 58 rfl zNm (aco _) ?_;intro W1 hW1;have HR1:=hid (Blk.newL (L:=nmL 0 ByteArray.empty zw zx xp xe xt) hW1 rfl);have HB1:=hid hW1.bel;have HZ1:=hid hW1.sz;clear hW1);refine(HT _).out.mono ?_;rintro e W2 ⟨A,c,rfl,hs,hf,hb⟩;have HST:=hid hs;have HR2:=hid (HR1.out.on hb);have HB2:=hid (qb HB1.out hb);have HZ2:Hid (w.1.size<W2.1.size):=HR2.out.lt;clear hs hf hb HR1 HB1 HT;have HST:Hid (vg W2 W2.1.size A fs):=HST;dsimp only;rw[HN.out]
 by_cases h0:E=0
 ·subst h0;have HX:Hid (aaj t=(m,N,F)):=HD.out.trans (if_pos rfl);clear HD
  go_upto_region 2 with(first
   | (refine qc rfl 150 rfl #[.string ByteArray.empty,.string ByteArray.empty,.slice none 0 0] kr ?_;intro W3 hW3;have HS3:=hid (Blk.newL (L:=[.string ByteArray.empty,.string ByteArray.empty,.slice none 0 0]) hW3 rfl);have HR3:=hid (HR2.out.grew hW3);have HB3:=hid (qb HB2.out hW3.bel);have HT3:=hid ((HST.out.below hW3.bel (Nat.le_refl _)).more hW3.bel.size);have HL3:=hid hW3.bel;clear hW3 HR2)
   | (refine qe rfl 150 _ _ rfl W2.1.size 0 #[.string T,.string Y,.slice A n c] rfl rfl (HS3.out.there 0 3 dc) aku (xg.arr (L:=[.string T,.string Y,.slice A n c]) (xg.of rfl)) ?_;intro W4 hW4;have HS4:Hid (Blk W4 W2.1.size [.string T,.string Y,.slice A n c]):=HS3.out.all hW4 rfl;have HR4:=hid (HR3.out.far hW4 (by have:=HZ2.out;omega));have HL4:=hid (HL3.out.trans (hW4.below (Nat.le_refl _)));have HT4:Hid (vg W4 W4.1.size A fs):=(HST.out.below HL4.out (Nat.le_refl _)).more HL4.out.size;have HB4:=hid (qb HB2.out HL4.out);clear hW4 HS3 HR3 HB3 HT3 HL3))
  try go_frame
  go_wp2_with (refine wpList_load_mid rfl 150 _ rfl W2.1.size 0 rfl [.string T,.string Y,.slice A n c] _ HS4.out.rg underlying150 rfl aku ?_);refine(HK A c _ HT4.out).out.mono ?_;rintro e W5 ⟨D,rfl,hd,hb⟩;have HD:=hid hd;have HR5:=hid (HR4.out.on hb);have HB5:=hid (qb HB4.out hb);have HZ5:Hid (w.1.size<W4.1.size∧w.1.size<W5.1.size):=⟨HR4.out.lt,HR5.out.lt⟩;clear hd hb HS4 HR4 HT4 HB4 HL4 HK;dsimp only
  go_wp2_with (first
   | (refine qc rfl 58 rfl zNm (aco _) ?_;intro W6 hW6;have HA:=hid (Blk.newL (L:=nmL 0 ByteArray.empty zw zx xp xe xt) hW6 rfl);have HR6:=hid (HR5.out.grew hW6);have HB6:=hid (qb HB5.out hW6.bel);have HL6:=hid hW6.bel;clear hW6 HR5)
   | (refine qe rfl 58 _ _ rfl W5.1.size 0 D rfl rfl (adf HA.out qq HD.out) (y8 HD.out) HD.out.ones ?_;intro W7 hW7;have HM7:Hid (Blk W7 W5.1.size D.toList):=HA.out.all hW7 (ahv HD.out);have HR7:=hid (HR6.out.far hW7 (by have:=HZ5.out;omega));have HL7:=hid (HL6.out.trans (hW7.below (Nat.le_refl _)));have HB7:=hid (qb HB5.out HL7.out);clear hW7 HR6 HA HB6 HL6)
   | refine wpList_load_mid rfl 58 _ rfl W5.1.size 0 rfl D.toList _ HM7.out.rg underlying58 rfl (by rw[Array.length_toList];exact y8 HD.out) ?_
   | (refine qe rfl 58 _ _ rfl w.1.size 0 D rfl rfl (adf HR7.out qq HD.out) (y8 HD.out) HD.out.ones ?_;intro W8 hW8;have HM8:Hid (Blk W8 w.1.size D.toList):=HR7.out.all hW8 (ahv HD.out);have HB8:=hid (HB7.out.trans (hW8.below (Nat.le_refl _)));have HD8:=hid ((HD.out.on HL7.out).far hW8 HZ5.out.1);clear hW8 HR7 HB7))
  have HLD:=hid (run_loadVar_mid (P:=Tryz.prog) _ w.1.size 0 58 _ _ HM8.out.rg underlying58 rfl (by rw[Array.length_toList];exact y8 HD.out));refine bodyPost_ret (v:=.tuple #[.agg D,.int .i64 (N:Int),.int .i64 F]) (by rw[ad8 rfl];simp[asAddr,Result.andThen,HLD.out]) rfl ?_;rw[HX.out];exact⟨D,rfl,HD8.out.less (by have:=HZ5.out;omega),HB8.out⟩
 ·have HX:Hid (aaj t=(aq4,0,E)):=HD.out.trans (if_neg h0);have hne:(E != 0)=true:=by rw[bne_iff_ne];exact h0
  clear HD HK
  go_wp2_with (first
   | (refine qc rfl 150 rfl #[.string ByteArray.empty,.string ByteArray.empty,.slice none 0 0] kr ?_;intro W3 hW3;have HS3:=hid (Blk.newL (L:=[.string ByteArray.empty,.string ByteArray.empty,.slice none 0 0]) hW3 rfl);have HR3:=hid (HR2.out.grew hW3);have HB3:=hid (qb HB2.out hW3.bel);clear hW3 HR2)
   | (refine qe rfl 150 _ _ rfl W2.1.size 0 #[.string T,.string Y,.slice A n c] rfl rfl (HS3.out.there 0 3 dc) aku (xg.arr (L:=[.string T,.string Y,.slice A n c]) (xg.of rfl)) ?_;intro W4 hW4;have HR4:=hid (HR3.out.far hW4 (by have:=HZ2.out;omega));have HB4:=hid (HB3.out.trans (hW4.below (by have:=HZ2.out;omega)));clear hW4 HS3 HR3 HB3)
   | refine zn rfl 58 rfl (asl _) ?_
   | (refine qe rfl 58 _ _ rfl w.1.size 0 zNm rfl rfl (adf HR4.out qq (NmV.zero 0 w)) (y8 (NmV.zero 0 w)) (NmV.zero 0 w).ones ?_;intro W7 hW7;have HM7:Hid (Blk W7 w.1.size zNm.toList):=HR4.out.all hW7 (ahv (NmV.zero 0 w));have HB7:=hid (HB4.out.trans (hW7.below (Nat.le_refl _)));clear hW7 HR4 HB4))
  have HLD:=hid (run_loadVar_mid (P:=Tryz.prog) _ w.1.size 0 58 _ _ HM7.out.rg underlying58 rfl (by rw[Array.length_toList];exact y8 (NmV.zero 0 w)));refine bodyPost_ret (v:=.tuple #[.agg zNm,.int .i64 0,.int .i64 E]) (by rw[ad8 rfl];simp[asAddr,Result.andThen,HLD.out]) rfl ?_;rw[HX.out];exact⟨zNm,rfl,NmV.zero _ _,HB7.out⟩
theorem acj {α:Type} (b m:List α) (i n:Nat) (h:i+n≤b.length):((b++m).drop i).take n=(b.drop i).take n:=by
 rw[List.drop_append_of_le_length om,List.take_append_of_le_length (by rw[List.length_drop];omega)]
theorem vf (b m:List UInt8) (i:Nat) (h:i<b.length):zv (b++m) i=zv b i:=by
 unfold zv;rw[List.getD_eq_getElem?_getD,List.getD_eq_getElem?_getD,List.getElem?_append_left h]
theorem axr:∀(b m:List UInt8),va b=false→va (b++m)=false
 | [],_,h=>by cases h
 | [x],[],h=>h
 | [x],y::_,h=>by
  have h':decide (x.toNat=181)=false:=h;show (decide (x.toNat=181) && decide (y.toNat=98))=false;rw[h'];rfl
 | x::y::_,_,h=>h
theorem auc:∀(b m:List UInt8),2≤b.length→va (b++m)=va b
 | [],_,h=>by simp at h
 | [x],_,h=>by simp at h
 | x::y::_,_,_=>rfl
theorem a8o (b m:List UInt8) (h:(abe b).e≠2):abe (b++m)=abe b:=by
 cases hb:va b with
 | false=>
  unfold abe;rw[if_pos (axr b m hb),if_pos hb]
 | true=>
  by_cases h6:b.length<6
  ·exfalso;apply h;unfold abe;rw[if_neg (by rw[hb];decide),if_pos h6];rfl
  ·have h6':¬(b++m).length<6:=by rw[List.length_append];omega
   have hb2:va (b++m)=true:=by rw[auc b m om,hb]
   have q1:¬va b=false:=by rw[hb];decide
   have q2:¬va (b++m)=false:=by rw[hb2];decide
   unfold abe;rw[if_neg q2,if_neg h6',if_neg q1,if_neg h6,vf b m 4 om,vf b m 5 om,vf b m 2 om,vf b m 3 om];have hN:∀N,(zv b 4).toNat+256*(zv b 5).toNat=N→N≤N:=fun _ _=>Nat.le_refl _
   by_cases h7:1016<(zv b 4).toNat+256*(zv b 5).toNat
   ·rw[if_pos h7,if_pos h7]
   ·rw[if_neg h7,if_neg h7]
    by_cases h8:b.length<(zv b 4).toNat+256*(zv b 5).toNat+8
    ·exfalso;apply h;unfold abe;rw[if_neg (by rw[hb];decide),if_neg h6,if_neg h7,if_pos h8];rfl
    ·rw[if_neg h8,if_neg (by rw[List.length_append];omega),acj b m 2 _ om,acj b m 6 _ om]
theorem a8p (b:List UInt8):((abe b).e=0→8 ≤(abe b).n ∧(abe b).n≤1024 ∧(abe b).n≤b.length) ∧((abe b).e=2→b.length<1024):=by
 unfold abe ad4
 repeat' split
 all_goals first|exact⟨fun h=>absurd h dc,fun h=>absurd h dc⟩|(refine⟨fun h=>?_,fun h=>?_⟩<;>dsimp only at h ⊢<;>first|omega|(exact absurd h dc))
theorem bba (b m:List UInt8) (h:0<(af4 b).2.1 ∨(af4 b).1≠2):af4 (b++m)=af4 b:=by
 have h2:(abe b).e≠2:=by
  intro q;unfold af4 at h;rw[if_neg (by rw[q];decide)]at h;rcases h with h|h
  ·exact absurd h sm
  ·exact h q
 unfold af4;rw[a8o b m h2]
theorem bbb (b:List UInt8):(0<(af4 b).2.1→8 ≤(af4 b).2.1 ∧(af4 b).2.1≤1024 ∧(af4 b).2.1≤b.length) ∧((af4 b).2.1=0 →(af4 b).1=2→b.length<1024):=by
 have hs:=a8p b;unfold af4
 split
 ·rename_i h0;have:=hs.1 h0;dsimp only;exact⟨fun _=>this,fun q=>by omega⟩
 ·dsimp only;exact⟨fun q=>absurd q sm,fun _=>hs.2⟩
def ac6 (b:List UInt8):ByteArray:=toS (b.take 82)
theorem atj (t:ByteArray):∀f i,(vt t f i).2=2→t.size<i+f
 | 0,i,h=>by simp[vt]at h
 | f+1,i,h=>by
  unfold vt at h
  split at h
  ·split at h
   ·cases h
   ·split at h
    ·have:=atj t f (i+1) h;omega
    ·cases h
  ·omega
theorem ba0 {t:ByteArray} (h:(jb t).2.2=2):t.size<82:=by
 unfold jb at h
 split at h
 ·omega
 split at h
 ·cases h
 split at h
 ·have:=atj t 80 1 h;omega
 rename_i h2
 split at h
 ·rename_i h3;have he:(xu t).2=0:=by simpa using h2
  have h4:=afw t 80 1 (xu t).1 (by unfold xu at he ⊢;rw[← he]);omega
 split at h
 ·cases h
 ·revert h;cases vo (jy t)with
  | none=>intro h;cases h
  | some b=>intro h;cases h
theorem a5p {t:ByteArray} (h:(jb t).2.2=0):8 ≤(jb t).2.1 ∧(jb t).2.1≤82 ∧(jb t).2.1≤t.size:=by
 obtain⟨P,x,y,M,e,hP,hu⟩:=a66 h;have hz:t.size=P.length+6+M.length:=by rw[e,kz,aic]
 rw[e,att hP hu];have h1:=hP.1;have h2:=hP.2.1;dsimp only;rw[kz,aic];omega
theorem as7 (b:List UInt8):(ac6 b).size=min 82 b.length:=by
 unfold ac6;rw[kz,List.length_take]
theorem a3b {t:ByteArray} (h:0<(aaj t).2.1 ∨(aaj t).2.2≠2):(jb t).2.2≠2:=by
 intro q;unfold aaj at h;rw[if_neg (by rw[q];decide)]at h;rcases h with h|h
 ·exact absurd h sm
 ·exact h q
theorem a88 (b m:List UInt8) (h:0<(aaj (ac6 b)).2.1 ∨(aaj (ac6 b)).2.2≠2):aaj (ac6 (b++m))=aaj (ac6 b):=by
 have h2:=a3b h
 have e:ac6 (b++m)=toS (b.take 82++m.take (82-b.length)):=by
  unfold ac6;rw[List.take_append]
 have ht:jb (ac6 (b++m))=jb (ac6 b):=by rw[e];exact ba1 _ _ h2
 unfold aaj;rw[ht]
theorem a3a (b:List UInt8):(0<(aaj (ac6 b)).2.1→8 ≤(aaj (ac6 b)).2.1 ∧(aaj (ac6 b)).2.1≤1024 ∧(aaj (ac6 b)).2.1≤b.length) ∧((aaj (ac6 b)).2.1=0 →(aaj (ac6 b)).2.2=2→b.length<1024):=by
 have hz:=as7 b;generalize ac6 b=t at *;unfold aaj
 split
 ·rename_i h0;have:=a5p h0;dsimp only;exact⟨fun _=>by omega,fun q=>by omega⟩
 ·dsimp only;exact⟨fun q=>absurd q sm,fun _ q=>by have:=ba0 q;omega⟩
theorem ba6 (b m:List UInt8) (h:0<(abq b).2.1 ∨(abq b).1≠2):abq (b++m)=abq b:=by
 unfold abq at h ⊢;dsimp only at h ⊢
 by_cases h0:b.length=0
 ·rw[if_pos h0]at h;exact absurd h sm
 rw[if_neg h0]at h ⊢;rw[if_neg (by rw[List.length_append];omega),vf b m 0 om]
 by_cases h1:zv b 0≠254
 ·rw[if_pos h1,if_pos h1]
 rw[if_neg h1]at h ⊢;rw[if_neg h1]
 by_cases h2:b.length<6
 ·rw[if_pos h2]at h;exact absurd h sm
 rw[if_neg h2]at h ⊢;rw[if_neg (by rw[List.length_append];omega),vf b m 5 om,vf b m 1 om];generalize (zv b 5).toNat=i at *;generalize yb (zy (i:Int)).2=w at *
 by_cases h3:w=0
 ·rw[if_pos h3,if_pos h3]
 rw[if_neg h3]at h ⊢;rw[if_neg h3]
 by_cases h4:(zv b 1).toNat≠w
 ·rw[if_pos h4,if_pos h4]
 rw[if_neg h4]at h ⊢;rw[if_neg h4]
 by_cases h5:b.length<w+8
 ·rw[if_pos h5]at h;exact absurd h sm
 rw[if_neg h5,if_neg (by rw[List.length_append];omega),acj b m 1 _ om,acj b m 6 _ om,vf b m (w+6) om,vf b m (w+7) om,vf b m 2 om,vf b m 3 om,vf b m 4 om]
theorem ba7 (b:List UInt8):(0<(abq b).2.1→8 ≤(abq b).2.1 ∧(abq b).2.1≤1024 ∧(abq b).2.1≤b.length) ∧((abq b).2.1=0 →(abq b).1=2→b.length<1024):=by
 have hw:=(zv b 1).toNat_lt;unfold abq;dsimp only;generalize (zv b 5).toNat=i at *;generalize yb (zy (i:Int)).2=w at *
 repeat' split
 all_goals (refine⟨fun q=>?_,fun q r=>?_⟩<;>dsimp only at *<;>first|omega|exact absurd q dc|exact absurd r dc)
structure ItD where
 pr:Int
 od:Bool
 U:aid
 N:NmD
 T:an9
def ad0:ItD:=⟨0,false,aaf,aq4,yr⟩
def aeg (p:Int) (b:List UInt8):ItD×Nat×Int:=
 if p=1 then({ad0 with U:=(af4 b).2.2},(af4 b).2.1,(af4 b).1)
 else if p=2 then({ad0 with N:=(aaj (ac6 b)).1},(aaj (ac6 b)).2.1,(aaj (ac6 b)).2.2)
 else({ad0 with T:=(abq b).2.2},(abq b).2.1,(abq b).1)
theorem a8g (p:Int) (b m:List UInt8) (h:0<(aeg p b).2.1 ∨(aeg p b).2.2≠2):aeg p (b++m)=aeg p b:=by
 unfold aeg at h ⊢
 split
 ·rename_i h1;rw[if_pos h1]at h;rw[bba b m h]
 ·rename_i h1;rw[if_neg h1]at h
  split
  ·rename_i h2;rw[if_pos h2]at h;rw[a88 b m h]
  ·rename_i h2;rw[if_neg h2]at h;rw[ba6 b m h]
theorem ala (p:Int) (b:List UInt8):(0<(aeg p b).2.1→8 ≤(aeg p b).2.1 ∧(aeg p b).2.1≤1024 ∧(aeg p b).2.1≤b.length) ∧((aeg p b).2.1=0 →(aeg p b).2.2=2→b.length<1024):=by
 unfold aeg
 split
 ·exact bbb b
 split
 ·exact a3a b
 ·exact ba7 b
structure VeD where
 d:Int
 p:Int
 n:Nat
 e:Int
 x:ItD
def bl2:VeD:=⟨0,0,0,0,ad0⟩
def ahf (p:Int) (r:ItD×Nat×Int):VeD:=
 if 0<r.2.1 then(if r.2.2=0 then⟨2,p,r.2.1,0,{r.1 with pr:=p}⟩else⟨2,p,r.2.1,r.2.2,{ad0 with pr:=p,od:=true}⟩)
 else if r.2.2=2 then⟨0,p,0,0,ad0⟩else⟨1,p,0,r.2.2,ad0⟩
def jh:List UInt8→VeD
 | []=>bl2
 | x::l=>if xl x=0 then⟨1,0,0,3,ad0⟩else ahf (xl x) (aeg (xl x) (x::l))
theorem yo (x:UInt8) (l:List UInt8):jh (x::l)=if xl x=0 then⟨1,0,0,3,ad0⟩else ahf (xl x) (aeg (xl x) (x::l)):=rfl
theorem ahz (x:UInt8):xl x=0∨xl x=1∨xl x=2∨xl x=3:=by
 unfold xl
 repeat' split
 all_goals simp
theorem bfi (p:Int) (r:ItD×Nat×Int):(ahf p r).p=p:=by
 unfold ahf;repeat' split
 all_goals rfl
theorem aqu (p:Int) (r:ItD×Nat×Int):((ahf p r).d=0↔r.2.1=0∧r.2.2=2) ∧((ahf p r).d=0 ∨(ahf p r).d=1 ∨(ahf p r).d=2) ∧((ahf p r).d=2↔0<r.2.1):=by
 unfold ahf
 by_cases h1:0<r.2.1
 ·have h0:¬r.2.1=0:=by omega
  rw[if_pos h1]
  split<;>simp[h1,h0]
 ·have h0:r.2.1=0:=by omega
  rw[if_neg h1]
  split<;>simp_all
theorem bkz (p:Int) (r:ItD×Nat×Int):(ahf p r).n=r.2.1:=by
 unfold ahf;repeat' split
 all_goals first|rfl|(show (0:Nat)=_;omega)
theorem bbe (b m:List UInt8) (h:(jh b).d≠0):jh (b++m)=jh b:=by
 cases b with
 | nil=>exact absurd rfl h
 | cons x l=>
  show jh (x::(l++m))=jh (x::l);rw[yo]at h;rw[yo,yo]
  split
  ·rfl
  ·rename_i h0;rw[if_neg h0]at h;have:=(aqu (xl x) (aeg (xl x) (x::l))).1
   rw[← List.cons_append,a8g _ _ m (by
    rcases Nat.eq_zero_or_pos (aeg (xl x) (x::l)).2.1 with q|q
    ·exact .inr fun r=>h (this.2 ⟨q,r⟩)
    ·exact .inl q)]
theorem bfh (b:List UInt8) (x:UInt8) (h:b[0]?=some x):(jh b).p=xl x:=by
 cases b with
 | nil=>cases h
 | cons y l=>
  injection h with h;subst h
  rw[yo]
  split
  ·rename_i h0;exact h0.symm
  ·exact bfi _ _
theorem bff (b:List UInt8):(jh b).d=0 ∨(jh b).d=1 ∨(jh b).d=2:=by
 cases b with
 | nil=>exact .inl rfl
 | cons y l=>
  rw[yo]
  split
  ·exact .inr (.inl rfl)
  ·exact(aqu _ _).2.1
theorem al2 (b:List UInt8) (h:(jh b).d=2):8 ≤(jh b).n ∧(jh b).n≤1024 ∧(jh b).n≤b.length ∧(jh b).x.pr=(jh b).p ∧((jh b).p=1 ∨(jh b).p=2 ∨(jh b).p=3):=by
 cases b with
 | nil=>exact absurd h dc
 | cons y l=>
  rw[yo]at h ⊢
  split
  ·rename_i h0;rw[if_pos h0]at h;exact absurd h dc
  ·rename_i h0;rw[if_neg h0]at h;have h2:=(aqu _ _).2.2.1 h;have h3:=(ala (xl y) (y::l)).1 h2;have hp:=ahz y;rw[bkz,bfi];refine⟨h3.1,h3.2.1,h3.2.2,?_,by rcases hp with q|q|q|q<;>simp_all⟩;unfold ahf;rw[if_pos h2]
   split<;>rfl
theorem aw1 (b:List UInt8) (h:(jh b).d≠2):(jh b).n=0 ∧(jh b).x=ad0:=by
 cases b with
 | nil=>exact⟨rfl,rfl⟩
 | cons y l=>
  rw[yo]at h ⊢
  split
  ·exact⟨rfl,rfl⟩
  ·rename_i h0;rw[if_neg h0]at h;have h2:¬0<(aeg (xl y) (y::l)).2.1:=fun q=>h ((aqu _ _).2.2.2 q)
   unfold ahf;rw[if_neg h2]
   split<;>exact⟨rfl,rfl⟩
theorem aty (b:List UInt8) (h:(jh b).d=0):b.length<1024:=by
 cases b with
 | nil=>simp
 | cons y l=>
  rw[yo]at h
  split at h
  ·exact absurd h dc
  ·have h1:=(aqu _ _).1.1 h;exact(ala (xl y) (y::l)).2 h1.1 h1.2
def NmQ (Q:Nat→Prop) (w:World) (L:List Value) (m:NmD):Prop:=∃x y,L=nmC m x y ∧(∃A c,x=.slice A m.s.ids.length c∧qf Q w A (m.s.ids.map (Value.int .i64)))∧∃A c,y=.slice A m.u.L.length c∧qf Q w A (vsC m.u.L)
theorem NmV.toQ {lo:Nat} {w:World} {C:Array Value} {m:NmD} (h:NmV lo w C m):NmQ (Bk lo w) w C.toList m:=by
 obtain⟨x,y,rfl,h1,h2⟩:=h;exact⟨x,y,rfl,h1,h2⟩
theorem NmQ.keep {Q:Nat→Prop} {w w':World} {L:List Value} {m:NmD} (h:NmQ Q w L m) (hk:∀b,Q b→w'.heap[b]?=w.heap[b]?):NmQ Q w' L m:=by
 obtain⟨x,y,h0,⟨A,c,h1,h2⟩,⟨B,d,h3,h4⟩⟩:=h;exact⟨x,y,h0,⟨A,c,h1,h2.keep hk⟩,⟨B,d,h3,h4.keep hk⟩⟩
theorem NmQ.less {Q R:Nat→Prop} {w:World} {L:List Value} {m:NmD} (h:NmQ Q w L m) (hr:∀b,Q b→R b):NmQ R w L m:=by
 obtain⟨x,y,h0,⟨A,c,h1,h2⟩,⟨B,d,h3,h4⟩⟩:=h;exact⟨x,y,h0,⟨A,c,h1,h2.less hr⟩,⟨B,d,h3,h4.less hr⟩⟩
theorem NmQ.len {Q:Nat→Prop} {w:World} {L:List Value} {m:NmD} (h:NmQ Q w L m):L.length=65:=by
 obtain⟨x,y,rfl,-⟩:=h;exact a6y _ _ _
theorem NmQ.ones {Q:Nat→Prop} {w:World} {L:List Value} {m:NmD} (h:NmQ Q w L m):∀v∈L,v.oneCell'=true:=by
 obtain⟨x,y,rfl,⟨A,c,rfl,-⟩,⟨B,d,rfl,-⟩⟩:=h;exact vm (anp _) (anq _) (avw _ rfl) (ant _) (awv _ rfl)
theorem NmQ.zero (Q:Nat→Prop) (w:World):NmQ Q w ab7 aq4:=⟨.slice none 0 0,.slice none 0 0,rfl,⟨none,0,rfl,qf.nil _ _ _⟩,⟨none,0,rfl,qf.nil _ _ _⟩⟩
theorem aed.zero (Q:Nat→Prop) (w:World):aed Q w jn aaf:=by
 refine⟨_,_,_,_,_,rfl,a37 (v:=List.replicate 32 0) rfl (ahn 32),kt,a36 (v:=List.replicate 8 0) rfl (ahn 8),a35 om om,kt⟩
def ItM (Q:Nat→Prop) (w:World) (L:List Value) (x:ItD):Prop:=∃U N T,L=itL x.pr x.od U N T∧aed Q w U x.U∧NmQ Q w N x.N∧ae9 Q w T x.T
theorem ItM.keep {Q:Nat→Prop} {w w':World} {L:List Value} {x:ItD} (h:ItM Q w L x) (hk:∀b,Q b→w'.heap[b]?=w.heap[b]?):ItM Q w' L x:=by
 obtain⟨U,N,T,h0,h1,h2,h3⟩:=h;exact⟨U,N,T,h0,h1.keep hk,h2.keep hk,h3.keep hk⟩
theorem ItM.less {Q R:Nat→Prop} {w:World} {L:List Value} {x:ItD} (h:ItM Q w L x) (hr:∀b,Q b→R b):ItM R w L x:=by
 obtain⟨U,N,T,h0,h1,h2,h3⟩:=h;exact⟨U,N,T,h0,h1.less hr,h2.less hr,h3.less hr⟩
theorem ItM.len {Q:Nat→Prop} {w:World} {L:List Value} {x:ItD} (h:ItM Q w L x):L.length=120:=by
 obtain⟨U,N,T,rfl,h1,h2,h3⟩:=h;simp[itL,h1.len,h2.len,h3.len]
theorem ItM.ones {Q:Nat→Prop} {w:World} {L:List Value} {x:ItD} (h:ItM Q w L x):∀v∈L,v.oneCell'=true:=by
 obtain⟨U,N,T,rfl,h1,h2,h3⟩:=h;intro v hv;simp only[itL,List.mem_cons,List.mem_append]at hv;rcases hv with rfl|rfl|hv|hv|hv
 ·rfl
 ·rfl
 ·exact h1.ones v hv
 ·exact h2.ones v hv
 ·exact h3.ones v hv
theorem ItM.zero (Q:Nat→Prop) (w:World):ItM Q w adb ad0:=⟨_,_,_,rfl,aed.zero Q w,NmQ.zero Q w,ae9.zero Q w⟩
def acr (Q:Nat→Prop) (w:World) (Ls:List (List Value)) (X:List ItD):Prop:=Ls.length=X.length∧∀k (h:k<Ls.length) (h':k<X.length),ItM Q w Ls[k] X[k]
theorem acr.nil (Q:Nat→Prop) (w:World):acr Q w [] []:=⟨rfl,fun k h=>absurd h (Nat.not_lt_zero _)⟩
theorem acr.keep {Q:Nat→Prop} {w w':World} {Ls:List (List Value)} {X:List ItD} (h:acr Q w Ls X) (hk:∀b,Q b→w'.heap[b]?=w.heap[b]?):acr Q w' Ls X:=⟨h.1,fun k a b=>(h.2 k a b).keep hk⟩
theorem acr.less {Q R:Nat→Prop} {w:World} {Ls:List (List Value)} {X:List ItD} (h:acr Q w Ls X) (hr:∀b,Q b→R b):acr R w Ls X:=⟨h.1,fun k a b=>(h.2 k a b).less hr⟩
theorem acr.app {Q:Nat→Prop} {w:World} {Ls Ms:List (List Value)} {X Y:List ItD} (h:acr Q w Ls X) (h':acr Q w Ms Y):acr Q w (Ls++Ms) (X++Y):=by
 refine⟨by rw[List.length_append,List.length_append,h.1,h'.1],fun k a b=>?_⟩
 by_cases hk:k<Ls.length
 ·rw[List.getElem_append_left hk,List.getElem_append_left (by rw[← h.1];exact hk)];exact h.2 k hk _
 ·rw[List.getElem_append_right om,List.getElem_append_right (by rw[← h.1];omega)];simp only[h.1];exact h'.2 _ _ _
theorem acr.one {Q:Nat→Prop} {w:World} {L:List Value} {x:ItD} (h:ItM Q w L x):acr Q w [L] [x]:=⟨rfl,fun k a b=>by
 obtain rfl:k=0:=by simpa using a
 exact h⟩
theorem acr.flat_len {Q:Nat→Prop} {w:World} {Ls:List (List Value)} {X:List ItD} (h:acr Q w Ls X):Ls.flatten.length=X.length*120:=by
 obtain⟨h1,h2⟩:=h
 induction Ls generalizing X with
 | nil=>rw[List.length_nil]at h1;rw[← h1];rfl
 | cons L Ls ih=>
  cases X with
  | nil=>cases h1
  | cons x X=>
   have:=ih (X:=X) (by simpa using h1) (fun k a b=>h2 (k+1) (by simpa using a) (by simpa using b));have h0:L.length=120:=(h2 0 sm sm).len;rw[List.flatten_cons,List.length_append,this,h0,List.length_cons];omega
theorem acr.ones {Q:Nat→Prop} {w:World} {Ls:List (List Value)} {X:List ItD} (h:acr Q w Ls X):∀v∈Ls.flatten,v.oneCell'=true:=by
 intro v hv;obtain⟨L,hL,hv⟩:=List.mem_flatten.1 hv;obtain⟨k,hk,rfl⟩:=List.getElem_of_mem hL;exact(h.2 k hk (by rw[← h.1];exact hk)).ones v hv
theorem acr.at_ {Q:Nat→Prop} {w:World} {Ls:List (List Value)} {X:List ItD} (h:acr Q w Ls X) (k:Nat) (hk:k<X.length):∃A L D,Ls.flatten=A++L++D∧A.length=k*120∧ItM Q w L X[k]:=by
 have hk':k<Ls.length:=by rw[h.1];exact hk
 refine⟨(Ls.take k).flatten,Ls[k],(Ls.drop (k+1)).flatten,?_,?_,h.2 k hk' hk⟩
 ·have e:Ls=Ls.take k++Ls[k]::Ls.drop (k+1):=by rw[← List.drop_eq_getElem_cons hk',List.take_append_drop]
  conv=>lhs;rw[e]
  rw[List.flatten_append,List.flatten_cons,List.append_assoc]
 ·have:acr Q w (Ls.take k) (X.take k):=⟨by rw[List.length_take,List.length_take,h.1],fun j a b=>by
   rw[List.getElem_take,List.getElem_take];exact h.2 j _ _⟩
  rw[this.flat_len,List.length_take,Nat.min_eq_left (Nat.le_of_lt hk)]
theorem ao3 {Q:Nat→Prop} {w:World} {A:Option Addr} {l:List UInt8} (h:qf Q w A (bsV l)) (n c:Nat) (hn:l.length=n):(convert 22 9 (.slice A n c)).run Tryz.prog w=.ok (.string (toS l)) w:=by
 subst hn;cases l with
 | nil=>
  cases A with
  | none=>exact run_convert_bytes_nil (P:=Tryz.prog) w 22 5 underlying22 underlying5 0 c 9 underlying9
  | some a=>exact afv (P:=Tryz.prog) w 22 9 5 a c [] underlying22 underlying5 underlying9 (fun j hj=>absurd hj (Nat.not_lt_zero _))
 | cons x r=>
  obtain⟨b,off,rfl,-,-⟩:=h 0 (bV x) rfl
  have e:∀l:List UInt8,l.map ((fun n:Int=>UInt8.ofNat n.toNat) ∘ fun y:UInt8=>(y.toNat:Int))=l:=fun l=>by
   induction l with
   | nil=>rfl
   | cons y l ih=>rw[List.map_cons,ih];simp
  have:=afv (P:=Tryz.prog) w 22 9 5 ⟨b,off,none⟩ c ((x::r).map fun y=>(y.toNat:Int)) underlying22 underlying5 underlying9 (fun j hj=>by
   have hj':j<(x::r).length:=by simpa using hj
   obtain⟨b',off',q,-,hc⟩:=h j _ (vi hj');injection q with q;injection q with q1 q2;subst q1 q2
   rw[acc,hc,List.getElem_map];rfl)
  rw[List.length_map,List.map_map,e]at this;exact this
def bjx:Array (Nat×Nat):=#[(0,1),(1,1),(2,48),(50,65),(115,5)]
theorem a7z {L:List Value} (hl:L.length=48) (w:World):(Instr.build 64 #[(2,.agg L.toArray)]).run Tryz.prog w=.ok (.agg (itL 0 false L ab7 acu).toArray) w:=by
 refine adl (z:=ada) (pl:=bjx) underlying64 (acn w) kr ?_;show Instr.fill _ ada ((2,.agg L.toArray)::[])=_;rw[aay (off:=2) (L:=L) rfl (by rw[hl];rfl) (by rw[hl];decide)];show some _=some _
 congr 2
 exact af0 [Value.int .i64 0,.bool false] jn (ab7++acu) L (by rw[hl];rfl)
theorem a7x {L:List Value} (hl:L.length=65) (w:World):(Instr.build 64 #[(3,.agg L.toArray)]).run Tryz.prog w=.ok (.agg (itL 0 false jn L acu).toArray) w:=by
 refine adl (z:=ada) (pl:=bjx) underlying64 (acn w) kr ?_;show Instr.fill _ ada ((3,.agg L.toArray)::[])=_;rw[aay (off:=50) (L:=L) rfl (by rw[hl];rfl) (by rw[hl];decide)];show some _=some _
 congr 2
 exact af0 (Value.int .i64 0::.bool false::jn) ab7 acu L (by rw[hl];rfl)
theorem a7y {L:List Value} (hl:L.length=5) (w:World):(Instr.build 64 #[(4,.agg L.toArray)]).run Tryz.prog w=.ok (.agg (itL 0 false jn ab7 L).toArray) w:=by
 refine adl (z:=ada) (pl:=bjx) underlying64 (acn w) kr ?_;show Instr.fill _ ada ((4,.agg L.toArray)::[])=_;rw[aay (off:=115) (L:=L) rfl (by rw[hl];rfl) (by rw[hl];decide)];show some _=some _
 congr 2
 have:=af0 (Value.int .i64 0::.bool false::(jn++ab7)) acu [] L (by rw[hl];rfl);simp only[List.append_nil]at this;exact this
theorem akd {L:List Value} {Q:Nat→Prop} {w:World} {x:ItD} (h:ItM Q w L x):L.toArray.all (·.oneCell')=true:=k9 fun v hv=>h.ones v (by simpa using hv)
theorem ake {L:List Value} (h:L.length=120):(Tryz.prog.info? 64).map (·.size)=some L.toArray.size:=by
 rw[List.size_toArray,h];kernel_rfl
theorem aau {W:World} {b:Nat} {L0 C:List Value} (h:Blk W b L0) (hl:C.length=L0.length):W.there b 0 C.toArray.size:=by
 rw[List.size_toArray,hl];exact h.there 0 _ om
theorem ac2 {W W':World} {b:Nat} {L0 C:List Value} (h:Blk W b L0) (hl:C.length=L0.length) (hs:qp W W' b 0 C.toArray.toList):Blk W' b C:=h.all (by simpa using hs) hl
theorem api {W:World} {b:Nat} {C:List Value} (h:Blk W b C) (hl:C.length=120):(loadVar 64 ⟨b,0,none⟩).run Tryz.prog W=.ok (.agg C.toArray) W:=
 run_loadVar_mid (P:=Tryz.prog) W b 0 64 C _ h.rg underlying64 sm (by rw[hl];kernel_rfl)
def axe (r:ItD×Nat×Int) (w:World) (e:Ending) (w':World):Prop:=∃L,e=.returned (.tuple #[.agg L.toArray,.int .i64 r.2.1,.int .i64 r.2.2])∧ItM (Bk w.1.size w') w' L r.1∧Below w.1.size w w'
theorem a4o {w:World} {V:Value} (x:Int×Nat×aid) (HF:∀W,Below w.1.size w W→Hid (Calls Tryz.prog 42 #[V] W (a2p x W))) :
 Calls Tryz.prog 41 #[V] w (axe ({ad0 with U:=x.2.2},x.2.1,x.1) w):=by
 have HZ:=fun W=>hid (acn W)
 have HZU:=fun W=>hid (ae8 W)
 obtain⟨E,n,u⟩:=x;unfold a2p at HF;dsimp only at *;go_enter func41,ntmps41;go_wp2_with (refine qc rfl 64 rfl ada (HZ _).out ?_;intro W1 hW1;have HK1:=hid (Blk.newL (L:=adb) hW1 rfl);have HB1:=hid hW1.bel;have HS1:=hid hW1.sz;clear hW1);refine(HF _ HB1.out).out.mono ?_;rintro e w1 ⟨L,rfl,hq,hb⟩;have HQ1:=hid hq;have HL:=hid hq.len;have HK2:=hid (HK1.out.on hb);have HB2:=hid (qb HB1.out hb);have HLT:=hid hb.size;have HB0:=fun W=>hid (a7z HL.out W)
 have HON:=hid (k9 (C:=L.toArray) (fun v hv=>hq.ones v (by simpa using hv)));have HSZ:=hid (ak4 HL.out);have hit:∀W,(∀b,W1.1.size≤b∧b<w1.1.size→W.heap[b]?=w1.heap[b]?)→ItM (fun b=>W1.1.size≤b∧b<w1.1.size) W (itL 0 false L ab7 acu) {ad0 with U:=u}:=fun W hk=>⟨_,_,_,rfl,hq.keep hk,NmQ.zero _ _,ae9.zero _ _⟩
 have HIT:=hid hit;have HION:=hid (akd (hit w1 fun _ _=>rfl));have HISZ:=hid (ake (hit w1 fun _ _=>rfl).len);have HILN:=hid (hit w1 fun _ _=>rfl).len;generalize hC:itL 0 false L ab7 acu=C at *;have HCC:=hid hC;clear hb HB1 HK1 HF hq hit hC
 go_wp2_with (first
  | (refine qc rfl 38 rfl aal (HZU _).out ?_;intro W2 hW2;have HU2:=hid (Blk.newL (L:=jn) hW2 rfl);have HK3:=hid (HK2.out.on hW2.bel);have HB3:=hid (qb HB2.out hW2.bel);have HP2:=hid (fun b (q:b<w1.1.size)=>hW2.bel.block b q);clear hW2)
  | (refine qe rfl 38 _ _ rfl w1.1.size 0 L.toArray rfl rfl (ae2 HU2.out rfl HL.out) HSZ.out HON.out ?_;intro W3 hs;have HU3:=hid (ak3 HU2.out hs HL.out);have HK4:=hid (HK3.out.far hs (by have:=HK2.out.lt;omega));have HB4:=hid (HB3.out.trans (hs.below HB2.out.size));have HP3:=hid (fun b (q:b<w1.1.size)=>(hs.far b (Nat.ne_of_lt q)).trans (HP2.out b q));clear hs)
  | refine wpList_load_mid rfl 38 _ rfl w1.1.size 0 rfl L _ HU3.out.rg underlying38 sm (by rw[HL.out];kernel_rfl) ?_
  | refine zg (u:=.agg L.toArray) rfl 64 2 _ rfl rfl (HB0 _).out ?_
  | (refine qe rfl 64 _ _ rfl w.1.size 0 C.toArray rfl rfl (aau HK4.out HILN.out) HISZ.out HION.out ?_;intro W5 hs;have HK5:=hid (ac2 HK4.out HILN.out hs);have HB5:=hid (HB4.out.trans (hs.below (Nat.le_refl _)));have HP5:=hid (And.intro hs.sz (fun b (q:W1.1.size≤b∧b<w1.1.size)=>(hs.far b (by have:=HS1.out;omega)).trans (HP3.out b q.2)));have HZ3:=hid (HU3.out.lt);clear hs))
 have HLD:=hid (api HK5.out HILN.out);refine bodyPost_ret (v:=.tuple #[.agg C.toArray,.int .i64 n,.int .i64 E]) (by rw[zj rfl];simp[asAddr,Result.andThen,HLD.out]) rfl ⟨C,rfl,?_,HB5.out⟩;exact(HIT.out W5 HP5.out.2).less fun b q=>⟨by have:=HS1.out;omega,by rw[HP5.out.1];exact Nat.lt_trans q.2 HZ3.out⟩
theorem bd6 {L:List Value} (h:L.length=5):(Tryz.prog.info? 62).map (·.size)=some L.toArray.size:=by
 rw[List.size_toArray,h];kernel_rfl
theorem bdn {L:List Value} (h:L.length=65):(Tryz.prog.info? 58).map (·.size)=some L.toArray.size:=by
 rw[List.size_toArray,h];kernel_rfl
theorem a6e (w:World):(zeroValue 58).run Tryz.prog w=.ok (.agg ab7.toArray) w:=by kernel_rfl
theorem a4n {w:World} {V:Value} (x:Int×Nat×an9) (HF:∀W,Below w.1.size w W→Hid (Calls Tryz.prog 46 #[V] W (acb x W))) :
 Calls Tryz.prog 45 #[V] w (axe ({ad0 with T:=x.2.2},x.2.1,x.1) w):=by
 have HZ:=fun W=>hid (acn W)
 have HZU:=fun W=>hid (acp W)
 obtain⟨E,n,u⟩:=x;unfold acb at HF;dsimp only at *;go_enter func45,ntmps45;go_wp2_with (refine qc rfl 64 rfl ada (HZ _).out ?_;intro W1 hW1;have HK1:=hid (Blk.newL (L:=adb) hW1 rfl);have HB1:=hid hW1.bel;have HS1:=hid hW1.sz;clear hW1);refine(HF _ HB1.out).out.mono ?_;rintro e w1 ⟨L,rfl,hq,hb⟩;have HQ1:=hid hq;have HL:=hid hq.len;have HK2:=hid (HK1.out.on hb);have HB2:=hid (qb HB1.out hb);have HLT:=hid hb.size;have HB0:=fun W=>hid (a7y HL.out W)
 have HON:=hid (k9 (C:=L.toArray) (fun v hv=>hq.ones v (by simpa using hv)));have HSZ:=hid (bd6 HL.out);have hit:∀W,(∀b,W1.1.size≤b∧b<w1.1.size→W.heap[b]?=w1.heap[b]?)→ItM (fun b=>W1.1.size≤b∧b<w1.1.size) W (itL 0 false jn ab7 L) {ad0 with T:=u}:=fun W hk=>⟨_,_,_,rfl,aed.zero _ _,NmQ.zero _ _,hq.keep hk⟩
 have HIT:=hid hit;have HION:=hid (akd (hit w1 fun _ _=>rfl));have HISZ:=hid (ake (hit w1 fun _ _=>rfl).len);have HILN:=hid (hit w1 fun _ _=>rfl).len;generalize hC:itL 0 false jn ab7 L=C at *;have HCC:=hid hC;clear hb HB1 HK1 HF hq hit hC
 go_wp2_with (first
  | (refine qc rfl 62 rfl pkA (HZU _).out ?_;intro W2 hW2;have HU2:=hid (Blk.newL (L:=pkA.toList) hW2 rfl);have HK3:=hid (HK2.out.on hW2.bel);have HB3:=hid (qb HB2.out hW2.bel);have HP2:=hid (fun b (q:b<w1.1.size)=>hW2.bel.block b q);clear hW2)
  | (refine qe rfl 62 _ _ rfl w1.1.size 0 L.toArray rfl rfl (aau HU2.out HL.out) HSZ.out HON.out ?_;intro W3 hs;have HU3:=hid (ac2 HU2.out HL.out hs);have HK4:=hid (HK3.out.far hs (by have:=HK2.out.lt;omega));have HB4:=hid (HB3.out.trans (hs.below HB2.out.size));have HP3:=hid (fun b (q:b<w1.1.size)=>(hs.far b (Nat.ne_of_lt q)).trans (HP2.out b q));clear hs)
  | refine wpList_load_mid rfl 62 _ rfl w1.1.size 0 rfl L _ HU3.out.rg underlying62 sm (by rw[HL.out];kernel_rfl) ?_
  | refine zg (u:=.agg L.toArray) rfl 64 4 _ rfl rfl (HB0 _).out ?_
  | (refine qe rfl 64 _ _ rfl w.1.size 0 C.toArray rfl rfl (aau HK4.out HILN.out) HISZ.out HION.out ?_;intro W5 hs;have HK5:=hid (ac2 HK4.out HILN.out hs);have HB5:=hid (HB4.out.trans (hs.below (Nat.le_refl _)));have HP5:=hid (And.intro hs.sz (fun b (q:W1.1.size≤b∧b<w1.1.size)=>(hs.far b (by have:=HS1.out;omega)).trans (HP3.out b q.2)));have HZ3:=hid (HU3.out.lt);clear hs))
 have HLD:=hid (api HK5.out HILN.out);refine bodyPost_ret (v:=.tuple #[.agg C.toArray,.int .i64 n,.int .i64 E]) (by rw[zj rfl];simp[asAddr,Result.andThen,HLD.out]) rfl ⟨C,rfl,?_,HB5.out⟩;exact(HIT.out W5 HP5.out.2).less fun b q=>⟨by have:=HS1.out;omega,by rw[HP5.out.1];exact Nat.lt_trans q.2 HZ3.out⟩
theorem a9k {w:World} (A:Option Addr) (c:Nat) (l:List UInt8) (hA:qf (fun _=>True) w A (bsV l)) (hll:l.length≤1000000) (hlc:l.length≤c) (x:NmD×Nat×Int) (HF:∀W,Below w.1.size w W→Hid (Calls Tryz.prog 44 #[.string (ac6 l)] W (a2b x W))) :
 Calls Tryz.prog 43 #[.slice A l.length c] w (axe ({ad0 with N:=x.1},x.2.1,x.2.2) w):=by
 have HZ:=fun W=>hid (acn W)
 have HZU:=fun W=>hid (a6e W)
 obtain⟨u,n,E⟩:=x;unfold a2b at HF;dsimp only at *;obtain⟨k,hk⟩:∃k:Nat,min (l.length:Int) 82=(k:Int):=⟨min l.length 82,by omega⟩;have hk1:(k:Int) ≤(l.length:Int):=by omega
 have hk0:(0:Int) ≤(k:Int):=Int.natCast_nonneg _;have hkc:(k:Int) ≤(c:Int):=by omega
 have hkl:(l.take 82).length=k:=by rw[List.length_take];omega
 have HCV:∀W,Below w.1.size w W→Hid (∀d,(convert 22 9 (.slice A k d)).run Tryz.prog W=.ok (.string (ac6 l)) W):=fun W hW=>hid fun d=>ao3 (by have:=(hA.lt.below hW (fun b q=>q.2)).first 82;rwa [yf]at this) k d hkl
 generalize ac6 l=t at *;generalize l.length=ln at *;clear hkl hA;go_enter func43,ntmps43;go_upto_region 1 with(refine qc rfl 64 rfl ada (HZ _).out ?_;intro W1 hW1;have HK1:=hid (Blk.newL (L:=adb) hW1 rfl);have HB1:=hid hW1.bel;have HS1:=hid hW1.sz;clear hW1)
 have hcv:=(HCV W1 HB1.out).out;go_wp2_with fail;refine(HF _ HB1.out).out.mono ?_;rintro e w1 ⟨Ca,rfl,hqv,hb⟩;obtain⟨L,rfl⟩:∃L:List Value,Ca=L.toArray:=⟨Ca.toList,by simp⟩;have hq:NmQ (fun b=>W1.1.size≤b∧b<w1.1.size) w1 L u:=by have:=hqv.toQ;rwa [List.toList_toArray]at this
 clear hqv hcv HCV;have HQ1:=hid hq;have HL:=hid hq.len;have HK2:=hid (HK1.out.on hb);have HB2:=hid (qb HB1.out hb);have HLT:=hid hb.size;have HB0:=fun W=>hid (a7x HL.out W)
 have HON:=hid (k9 (C:=L.toArray) (fun v hv=>hq.ones v (by simpa using hv)));have HSZ:=hid (bdn HL.out);have hit:∀W,(∀b,W1.1.size≤b∧b<w1.1.size→W.heap[b]?=w1.heap[b]?)→ItM (fun b=>W1.1.size≤b∧b<w1.1.size) W (itL 0 false jn L acu) {ad0 with N:=u}:=fun W hk=>⟨_,_,_,rfl,aed.zero _ _,hq.keep hk,ae9.zero _ _⟩
 have HIT:=hid hit;have HION:=hid (akd (hit w1 fun _ _=>rfl));have HISZ:=hid (ake (hit w1 fun _ _=>rfl).len);have HILN:=hid (hit w1 fun _ _=>rfl).len;generalize hC:itL 0 false jn L acu=C at *;have HCC:=hid hC;clear hb HB1 HK1 HF hq hit hC
 go_wp2_with (first
  | (refine qc rfl 58 rfl ab7.toArray (HZU _).out ?_;intro W2 hW2;have HU2:=hid (Blk.newL (L:=ab7) hW2 rfl);have HK3:=hid (HK2.out.on hW2.bel);have HB3:=hid (qb HB2.out hW2.bel);have HP2:=hid (fun b (q:b<w1.1.size)=>hW2.bel.block b q);clear hW2)
  | (refine qe rfl 58 _ _ rfl w1.1.size 0 L.toArray rfl rfl (aau HU2.out HL.out) HSZ.out HON.out ?_;intro W3 hs;have HU3:=hid (ac2 HU2.out HL.out hs);have HK4:=hid (HK3.out.far hs (by have:=HK2.out.lt;omega));have HB4:=hid (HB3.out.trans (hs.below HB2.out.size));have HP3:=hid (fun b (q:b<w1.1.size)=>(hs.far b (Nat.ne_of_lt q)).trans (HP2.out b q));clear hs)
  | refine wpList_load_mid rfl 58 _ rfl w1.1.size 0 rfl L _ HU3.out.rg underlying58 sm (by rw[HL.out];kernel_rfl) ?_
  | refine zg (u:=.agg L.toArray) rfl 64 3 _ rfl rfl (HB0 _).out ?_
  | (refine qe rfl 64 _ _ rfl w.1.size 0 C.toArray rfl rfl (aau HK4.out HILN.out) HISZ.out HION.out ?_;intro W5 hs;have HK5:=hid (ac2 HK4.out HILN.out hs);have HB5:=hid (HB4.out.trans (hs.below (Nat.le_refl _)));have HP5:=hid (And.intro hs.sz (fun b (q:W1.1.size≤b∧b<w1.1.size)=>(hs.far b (by have:=HS1.out;omega)).trans (HP3.out b q.2)));have HZ3:=hid (HU3.out.lt);clear hs))
 have HLD:=hid (api HK5.out HILN.out);refine bodyPost_ret (v:=.tuple #[.agg C.toArray,.int .i64 n,.int .i64 E]) (by rw[zj rfl];simp[asAddr,Result.andThen,HLD.out]) rfl ⟨C,rfl,?_,HB5.out⟩;exact(HIT.out W5 HP5.out.2).less fun b q=>⟨by have:=HS1.out;omega,by rw[HP5.out.1];exact Nat.lt_trans q.2 HZ3.out⟩
def a2r (v:VeD) (w:World) (e:Ending) (w':World):Prop:=∃L,e=.returned (.agg (veL v.d v.p v.n v.e L).toArray)∧ItM (Bk w.1.size w') w' L v.x∧Below w.1.size w w'
def bfd:Array (Nat×Nat):=#[(0,1),(1,1),(2,1),(3,1),(4,120)]
theorem a6t (d p n e:Int) {L:List Value} (hl:L.length=120):Instr.fill (fun i=>bfd[i]?) (veA d p n e) [(4,.agg L.toArray)]=some (veL d p n e L).toArray:=by
 rw[aay (off:=4) (L:=L) rfl (by rw[hl];rfl) (by rw[hl];show 4+120≤124;omega)];show some _=some _
 congr 2
 have:=af0 [Value.int .i64 d,.int .i64 p,.int .i64 n,.int .i64 e] adb [] L (by rw[hl];rfl);simp only[List.append_nil]at this;exact this
theorem ado {d p n e:Int} (k:Nat) (x:Int) (hk:k<4) (r:List (Nat×Value)):Instr.fill (fun i=>bfd[i]?) (veA d p n e) ((k,.int .i64 x)::r)=Instr.fill (fun i=>bfd[i]?) (veA (if k=0 then x else d) (if k=1 then x else p) (if k=2 then x else n) (if k=3 then x else e)) r:=by
 have:k=0∨k=1∨k=2∨k=3:=by omega
 rcases this with rfl|rfl|rfl|rfl
 ·rw[aay (off:=0) (L:=[.int .i64 x]) rfl rfl (by show 0+1≤124;omega)];rfl
 ·rw[aay (off:=1) (L:=[.int .i64 x]) rfl rfl (by show 1+1≤124;omega)];rfl
 ·rw[aay (off:=2) (L:=[.int .i64 x]) rfl rfl (by show 2+1≤124;omega)];rfl
 ·rw[aay (off:=3) (L:=[.int .i64 x]) rfl rfl (by show 3+1≤124;omega)];rfl
theorem a20 {L:List Value} (hl:L.length=120) (p n:Int) (w:World):(Instr.build 66 #[(0,.int .i64 2),(1,.int .i64 p),(2,.int .i64 n),(4,.agg L.toArray)]).run Tryz.prog w=.ok (.agg (veL 2 p n 0 L).toArray) w:=by
 refine adl (z:=veA 0 0 0 0) (pl:=bfd) underlying66 (aec w) kr ?_;show Instr.fill _ (veA 0 0 0 0) ((0,.int .i64 2)::(1,.int .i64 p)::(2,.int .i64 n)::(4,.agg L.toArray)::[])=_;rw[ado 0 _ dc,ado 1 _ dc,ado 2 _ dc];exact a6t _ _ _ _ hl
theorem axu {L:List Value} (hl:L.length=120) (p n e:Int) (w:World):(Instr.build 66 #[(0,.int .i64 2),(1,.int .i64 p),(2,.int .i64 n),(3,.int .i64 e),(4,.agg L.toArray)]).run Tryz.prog w=.ok (.agg (veL 2 p n e L).toArray) w:=by
 refine adl (z:=veA 0 0 0 0) (pl:=bfd) underlying66 (aec w) kr ?_;show Instr.fill _ (veA 0 0 0 0) ((0,.int .i64 2)::(1,.int .i64 p)::(2,.int .i64 n)::(3,.int .i64 e)::(4,.agg L.toArray)::[])=_;rw[ado 0 _ dc,ado 1 _ dc,ado 2 _ dc,ado 3 _ dc];exact a6t _ _ _ _ hl
theorem axt (p:Int) (w:World):(Instr.build 64 #[(0,.int .i64 p),(1,.bool true)]).run Tryz.prog w=.ok (.agg (itL p true jn ab7 acu).toArray) w:=by kernel_rfl
theorem ase {P:Program} {ops:Array Oper} {rest:List Oper} {o:Oper} {a:Act} {w:World} {Q:Exit→Act→World→Prop} (hgd:o.guard=none) (t:TypeId) (x0 x1 x2 x3 x4:Operand) (ho:o.op=.build t #[(0,x0),(1,x1),(2,x2),(3,x3),(4,x4)]) {u0 u1 u2 u3 u4 v:Value} (h0:a.eval x0=u0) (h1:a.eval x1=u1) (h2:a.eval x2=u2) (h3:a.eval x3=u3) (h4:a.eval x4=u4) (hr:(Instr.build t #[(0,u0),(1,u1),(2,u2),(3,u3),(4,u4)]).run P w=.ok v w)
 (h:wpList P ops Q rest (a.put o.dst v) w):wpList P ops Q (o::rest) a w:=aa1 hgd t _ ho #[(0,u0),(1,u1),(2,u2),(3,u3),(4,u4)] (by simp[h0,h1,h2,h3,h4]) hr h
theorem asd {P:Program} {ops:Array Oper} {rest:List Oper} {o:Oper} {a:Act} {w:World} {Q:Exit→Act→World→Prop} (hgd:o.guard=none) (t:TypeId) (x0 x1 x2 x4:Operand) (ho:o.op=.build t #[(0,x0),(1,x1),(2,x2),(4,x4)]) {u0 u1 u2 u4 v:Value} (h0:a.eval x0=u0) (h1:a.eval x1=u1) (h2:a.eval x2=u2) (h4:a.eval x4=u4) (hr:(Instr.build t #[(0,u0),(1,u1),(2,u2),(4,u4)]).run P w=.ok v w)
 (h:wpList P ops Q rest (a.put o.dst v) w):wpList P ops Q (o::rest) a w:=aa1 hgd t _ ho #[(0,u0),(1,u1),(2,u2),(4,u4)] (by simp[h0,h1,h2,h4]) hr h
theorem aw0 {d p n e:Int} {L:List Value} (h:L.length=120):(veL d p n e L).length=124:=by simp[veL,h]
theorem a68 {W:World} {b:Nat} {C:List Value} (h:Blk W b C) (hl:C.length=124):(loadVar 66 ⟨b,0,none⟩).run Tryz.prog W=.ok (.agg C.toArray) W:=
 run_loadVar_mid (P:=Tryz.prog) W b 0 66 C _ h.rg underlying66 sm (by rw[hl];kernel_rfl)
theorem aqs {d p n e:Int} {L:List Value} (h:∀v∈L,v.oneCell'=true):(veL d p n e L).toArray.all (·.oneCell')=true:=k9 fun v hv=>by
 simp only[veL,List.mem_cons]at hv;rcases hv with rfl|rfl|rfl|rfl|hv
 ·rfl
 ·rfl
 ·rfl
 ·rfl
 ·exact h v hv
theorem aqt {C:List Value} (h:C.length=124):(Tryz.prog.info? 66).map (·.size)=some C.toArray.size:=by
 rw[List.size_toArray,h];kernel_rfl
theorem ItM.odd (Q:Nat→Prop) (w:World) (p:Int):ItM Q w (itL p true jn ab7 acu) {ad0 with pr:=p,od:=true}:=⟨_,_,_,rfl,aed.zero Q w,NmQ.zero Q w,ae9.zero Q w⟩
theorem ItM.proto {Q:Nat→Prop} {w:World} {L:List Value} {x:ItD} (h:ItM Q w L x):∃R,L=.int .i64 x.pr::R∧∀p w',(∀b,Q b→w'.heap[b]?=w.heap[b]?)→ItM Q w' (.int .i64 p::R) {x with pr:=p}:=by
 obtain⟨U,N,T,rfl,h1,h2,h3⟩:=h;exact⟨_,rfl,fun p w' hk=>⟨U,N,T,rfl,h1.keep hk,h2.keep hk,h3.keep hk⟩⟩
theorem bea {Q:Nat→Prop} {w:World} (A:Option Addr) (c:Nat) (x:UInt8) (l:List UInt8) (p:Int) (r:ItD×Nat×Int) (h:qf Q w A (bsV (x::l))) (hp:xl x=p) (hp0:p≠0) (hm:(x::l).length≤1000000) (hn1:r.2.1≤1000000)
 (HF:∀W,Below w.1.size w W→Hid (Calls Tryz.prog (apo p) #[.slice A (x::l).length c] W (axe r W))) :
 Calls Tryz.prog 10 #[.slice A (x::l).length c] w (a2r (ahf p r) w):=by
 have HZ:=fun W=>hid (aec W)
 have HZI:=fun W=>hid (acn W)
 have HP:∀W,Hid (Calls Tryz.prog 13 #[.int .u8 (x.toNat:Int)] W fun e w'=>e=.returned (.int .i64 p)∧W=w'):=fun W=>hid (by have:=ahy x W;rw[hp]at this;exact this)
 have HO:∀W,Hid (Calls Tryz.prog 26 #[.int .i64 p] W fun e w'=>e=.returned (.agg #[.func (Fn.func (apo p)) #[] #[]])∧Below W.1.size W w'):=fun W=>hid (atd p W)
 obtain⟨b,off,rfl,-,hc⟩:=h 0 (bV x) rfl;have hb:=aas hc;have HC:∀W,Below w.1.size w W→Hid (W.cell? ⟨b,off,none⟩=some (.int .u8 (x.toNat:Int))):=fun W hW=>hid ((hW.cell (p:=⟨b,off+0,none⟩) hb).trans hc)
 have hl:(0:Int)<((x::l).length:Int):=by simp only[List.length_cons];omega
 obtain⟨y,n,E⟩:=r;have HE:=hid (show ahf p (y,n,E)=if 0<n then(if E=0 then⟨2,p,n,0,{y with pr:=p}⟩else⟨2,p,n,E,{ad0 with pr:=p,od:=true}⟩)else if E=2 then⟨0,p,0,0,ad0⟩else⟨1,p,0,E,ad0⟩from rfl);generalize ahf p (y,n,E)=res at *;generalize (x::l).length=L at *;have HCL:=fun x W=>bcb p x W
 generalize apo p=F at *;have hl0:((L:Int)==0)=false:=by rw[beq_eq_false_iff_ne];omega
 have hpb:(p==0)=false:=by rw[beq_eq_false_iff_ne];exact hp0
 unfold axe at HF;dsimp only at *;clear hc hb hp h hp0;have HFD:=fun W=>asr F W
 go_enter func10,ntmps10;go_upto_region 3 with(refine qc rfl 66 rfl (veA 0 0 0 0) (HZ _).out ?_;intro W1 hW1;have HK1:=hid (Blk.newL (L:=veL 0 0 0 0 adb) hW1 rfl);have HBB1:=hid hW1.bel;clear hW1)
 have c0:=(HC _ HBB1.out).out;go_wp2_with (refine(HP _).out.mono ?_;rintro e w' ⟨rfl,rfl⟩);refine(HO _).out.mono ?_;rintro e w2 ⟨rfl,hb⟩;have HK2:=hid (HK1.out.on hb);have HBB2:=hid (qb HBB1.out hb);clear hb HK1 HBB1 c0 HO;go_wp2_with fail;refine(HF _ HBB2.out).out.mono ?_;rintro e w3 ⟨I,rfl,hit,hb⟩;have HK3:=hid (HK2.out.on hb);have HBB3:=hid (qb HBB2.out hb);have HIL:=hid hit.len;have HION:=hid (akd hit);have HISZ:=hid (ake hit.len);obtain⟨R,hR,hpr⟩:=hit.proto;have HPR:=hid hpr;have HRI:=hid hR;have HW23:=hid (And.intro HK2.out.lt hb.size);clear hb HK2 HBB2 HF hit hR hpr
 go_upto_region 7 with(first
  | (refine qc rfl 64 rfl ada (HZI _).out ?_;intro W4 hW;have HI4:=hid (Blk.newL (L:=adb) hW rfl);have HK4:=hid (HK3.out.on hW.bel);have HBB4:=hid (qb HBB3.out hW.bel);have HP4:=hid (fun b (q:b<w3.1.size)=>hW.bel.block b q);clear hW)
  | (refine qe rfl 64 _ _ rfl w3.1.size 0 I.toArray rfl rfl (aau HI4.out HIL.out) HISZ.out HION.out ?_;intro W5 hs;have HI5:=hid (ac2 HI4.out HIL.out hs);have HK5:=hid (HK4.out.far hs (by have:=HK3.out.lt;omega));have HBB5:=hid (HBB4.out.trans (hs.below HBB3.out.size));have HP5:=hid (fun b (q:b<w3.1.size)=>(hs.far b (Nat.ne_of_lt q)).trans (HP4.out b q));clear hs))
 have hi5:=HI5.out;rw[HRI.out]at hi5;have i0:=hi5.cell 0 (v:=.int .i64 y.pr) rfl;have j0:=HI5.out.fz 0;have hst:qp W5 (W5.setCell ⟨w3.1.size,0,none⟩ (.int .i64 p)) w3.1.size 0 [.int .i64 p]:=ze (HI5.out.there 0 1 (by rw[HIL.out];omega));have HK6:Hid (Blk (W5.setCell ⟨w3.1.size,0,none⟩ (.int .i64 p)) w.1.size (veL 0 0 0 0 adb)):=hid (HK5.out.far hst (by have:=HK3.out.lt;omega));have HBB6:Hid (Below w.1.size w (W5.setCell ⟨w3.1.size,0,none⟩ (.int .i64 p))):=hid (HBB5.out.trans (hst.below HBB3.out.size))
 have HI6:Hid (Blk (W5.setCell ⟨w3.1.size,0,none⟩ (.int .i64 p)) w3.1.size (.int .i64 p::R)):=hid (by
  have:=Blk.put (A:=[]) (M:=[Value.int .i64 y.pr]) (D:=R) hi5 hst rfl rfl
  simpa using this)
 have HP6:=hid (fun b (q:b<w3.1.size)=>(hst.far b (Nat.ne_of_lt q)).trans (HP5.out b q));have HRL:Hid (R.length=119):=hid (by have:=HIL.out;rw[HRI.out]at this;simpa using this);clear hst HK5 HBB5 HBB4 HK4 HI4 hi5 HP4 HP5;go_upto_region 8 with fail;clear i0 j0 HI5;generalize W5.setCell ⟨w3.1.size,0,none⟩ (.int .i64 p)=W6 at *
 by_cases hn:0<n
 ·have hnI:(0:Int)<(n:Int):=by omega
  by_cases hE:E=0
  ·subst hE;have hre:=HE.out;rw[if_pos hn,if_pos rfl]at hre;have HRE:=hid hre;have HIT:=hid (HPR.out p W6 (fun b q=>HP6.out b q.2));have HI7:=hid (HIT.out.len);have HB0:=fun W=>hid (a20 HI7.out p n W)
   have HVL:=hid (aw0 (d:=2) (p:=p) (n:=n) (e:=0) HI7.out);have HVO:=hid (aqs (d:=2) (p:=p) (n:=n) (e:=0) HIT.out.ones);have HVS:=hid (aqt HVL.out);clear hre hn
   go_wp2_with (first
    | refine wpList_load_mid rfl 64 _ rfl w3.1.size 0 rfl (.int .i64 p::R) _ HI6.out.rg underlying64 sm (by rw[HI7.out];kernel_rfl) ?_
    | refine asd (u0:=.int .i64 2) (u1:=.int .i64 p) (u2:=.int .i64 n) (u4:=.agg (Value.int .i64 p::R).toArray) rfl 66 _ _ _ _ rfl rfl rfl rfl rfl (HB0 _).out ?_
    | (refine qe rfl 66 _ _ rfl w.1.size 0 (veL 2 p n 0 (.int .i64 p::R)).toArray rfl rfl (aau HK6.out HVL.out) HVS.out HVO.out ?_;intro W7 hs;have HK7:=hid (ac2 HK6.out HVL.out hs);have HB7:=hid (HBB6.out.trans (hs.below (Nat.le_refl _)));have HP7:=hid (And.intro hs.sz hs.far);clear hs))
   try go_frame
   have HLD:=hid (a68 HK7.out HVL.out);have HLT:=hid HI6.out.lt;refine bodyPost_ret (v:=.agg (veL 2 p n 0 (.int .i64 p::R)).toArray) (by rw[v9 rfl];simp[asAddr,Result.andThen,HLD.out]) rfl ?_;rw[HRE.out];refine⟨_,rfl,(HIT.out.keep fun b q=>HP7.out.2 b (by have:=HW23.out;have:=q.1;omega)).less fun b q=>⟨by have:=HW23.out;have:=q.1;omega,?_⟩,HB7.out⟩;rw[HP7.out.1];have:=q.2;have:=HLT.out;omega
  ·have heb:(E != 0)=true:=by rw[bne_iff_ne];exact hE
   have hre:=HE.out;rw[if_pos hn,if_neg hE]at hre;have HRE:=hid hre;have HIT:=hid (ItM.odd (fun _=>False) W6 p);have HI7:=hid (HIT.out.len);have HB0:=fun W=>hid (axu HI7.out p n E W)
   have HB1:=fun W=>hid (axt p W)
   have HVL:=hid (aw0 (d:=2) (p:=p) (n:=n) (e:=E) HI7.out);have HVO:=hid (aqs (d:=2) (p:=p) (n:=n) (e:=E) HIT.out.ones);have HVS:=hid (aqt HVL.out);clear hre hn hE
   go_wp2_with (first
    | refine acm (u:=.int .i64 p) (u':=.bool true) rfl 64 0 1 _ _ rfl rfl rfl (HB1 _).out ?_
    | refine ase (u0:=.int .i64 2) (u1:=.int .i64 p) (u2:=.int .i64 n) (u3:=.int .i64 E) (u4:=.agg (itL p true jn ab7 acu).toArray) rfl 66 _ _ _ _ _ rfl rfl rfl rfl rfl rfl (HB0 _).out ?_
    | (refine qe rfl 66 _ _ rfl w.1.size 0 (veL 2 p n E (itL p true jn ab7 acu)).toArray rfl rfl (aau HK6.out HVL.out) HVS.out HVO.out ?_;intro W7 hs;have HK7:=hid (ac2 HK6.out HVL.out hs);have HB7:=hid (HBB6.out.trans (hs.below (Nat.le_refl _)));clear hs))
   try go_frame
   have HLD:=hid (a68 HK7.out HVL.out);refine bodyPost_ret (v:=.agg (veL 2 p n E (itL p true jn ab7 acu)).toArray) (by rw[v9 rfl];simp[asAddr,Result.andThen,HLD.out]) rfl ?_;rw[HRE.out];exact⟨_,rfl,ItM.odd _ _ p,HB7.out⟩
 ·obtain rfl:n=0:=by omega
  have HB1:=fun W=>hid (aow 0 p W)
  have HB2:=fun W=>hid (al8 1 p E W)
  have hre:=HE.out;rw[if_neg hn]at hre;clear hn
  by_cases h2:E=2
  ·subst h2;rw[if_pos rfl]at hre;have HRE:=hid hre;clear hre
   go_wp2_with (first
    | refine acm (u:=.int .i64 0) (u':=.int .i64 p) rfl 66 0 1 _ _ rfl rfl rfl (HB1 _).out ?_
    | (refine qe rfl 66 _ _ rfl w.1.size 0 (veA 0 p 0 0) rfl rfl (HK6.out.there 0 124 (Nat.le_refl _)) (af6 _ _ _ _) (af5 _ _ _ _) ?_;intro W7 hs;have HK7:=hid (HK6.out.all hs rfl);have HB7:=hid (HBB6.out.trans (hs.below (Nat.le_refl _)));clear hs))
   try go_frame
   have HLD:=hid (run_loadVar_mid (P:=Tryz.prog) W7 w.1.size 0 66 (veA 0 p 0 0).toList _ HK7.out.rg underlying66 rfl kr);refine bodyPost_ret (v:=.agg (veA 0 p 0 0)) (by rw[v9 rfl];simp[asAddr,Result.andThen,HLD.out]) rfl ?_;rw[HRE.out];exact⟨adb,rfl,ItM.zero _ _,HB7.out⟩
  ·have he2:(E==2)=false:=by rw[beq_eq_false_iff_ne];exact h2
   rw[if_neg h2]at hre;have HRE:=hid hre;clear hre h2
   go_wp2_with (first
    | refine ai2 (u:=.int .i64 1) (u':=.int .i64 p) (u'':=.int .i64 E) rfl 66 0 1 3 _ _ _ rfl rfl rfl rfl (HB2 _).out ?_
    | (refine qe rfl 66 _ _ rfl w.1.size 0 (veA 1 p 0 E) rfl rfl (HK6.out.there 0 124 (Nat.le_refl _)) (af6 _ _ _ _) (af5 _ _ _ _) ?_;intro W7 hs;have HK7:=hid (HK6.out.all hs rfl);have HB7:=hid (HBB6.out.trans (hs.below (Nat.le_refl _)));clear hs))
   try go_frame
   have HLD:=hid (run_loadVar_mid (P:=Tryz.prog) W7 w.1.size 0 66 (veA 1 p 0 E).toList _ HK7.out.rg underlying66 rfl kr);refine bodyPost_ret (v:=.agg (veA 1 p 0 E)) (by rw[v9 rfl];simp[asAddr,Result.andThen,HLD.out]) rfl ?_;rw[HRE.out];exact⟨adb,rfl,ItM.zero _ _,HB7.out⟩
theorem axe.of {r r':ItD×Nat×Int} {w:World} {e:Ending} {w':World} (h:axe r w e w') (hr:r=r'):axe r' w e w':=hr▸h
theorem a9i {Q:Nat→Prop} {w:World} (A:Option Addr) (c:Nat) (l:List UInt8) (h:qf Q w A (bsV l)) (hm:l.length≤1000000) (hc:l.length≤c):Calls Tryz.prog 10 #[.slice A l.length c] w (a2r (jh l) w):=by
 cases l with
 | nil=>
  refine(a9j A c w).mono ?_;rintro e w' ⟨rfl,hb⟩;exact⟨adb,rfl,ItM.zero _ _,hb⟩
 | cons x l=>
  by_cases hp:xl x=0
  ·rw[yo,if_pos hp];refine(a4m A c x l h hp (by unfold maxLen;omega)).mono ?_;rintro e w' ⟨rfl,hb⟩;exact⟨adb,rfl,ItM.zero _ _,hb⟩
  ·rw[yo,if_neg hp];have hfl:=fun W (hW:Below w.1.size w W)=>h.lt.below hW (fun b q=>q.2)
   have hsz:=(ala (xl x) (x::l)).1
   refine bea A c x l _ _ h rfl hp hm (by
    rcases Nat.eq_zero_or_pos (aeg (xl x) (x::l)).2.1 with q|q
    ·omega
    ·have:=hsz q;omega) fun W hW=>hid ?_
   rcases ahz x with q|q|q|q
   ·exact absurd q hp
   ·rw[q];refine(a4o (af4 (x::l)) fun W' hW'=>hid (ar8 A c (x::l) (hfl W' (qb hW hW')) hm hc)).mono fun e w' hd=>hd.of ?_
    unfold aeg;rw[if_pos rfl]
   ·rw[q];refine(a9k A c (x::l) ((hfl W hW).less fun _ _=>trivial) hm hc (aaj (ac6 (x::l))) fun W' hW'=>hid (au8 (by rw[as7];omega))).mono fun e w' hd=>hd.of ?_
    unfold aeg;rw[if_neg dc,if_pos rfl]
   ·rw[q];refine(a4n (abq (x::l)) fun W' hW'=>hid (a1f A c (x::l) (hfl W' (qb hW hW')) hm hc)).mono fun e w' hd=>hd.of ?_
    unfold aeg;rw[if_neg dc,if_neg dc]
theorem bfe {W:World} {b:Nat} {d p n e:Int} {L:List Value} (h:Blk W b (veL d p n e L)):W.cell? ⟨b,0,none⟩=some (.int .i64 d)∧W.cell? ⟨b,1,none⟩=some (.int .i64 p)∧W.cell? ⟨b,2,none⟩=some (.int .i64 n)∧W.cell? ⟨b,3,none⟩=some (.int .i64 e)∧W.rangeAt b 4 L:=
 ⟨h.cell 0 rfl,h.cell 1 rfl,h.cell 2 rfl,h.cell 3 rfl,fun j v hv=>h.cell (4+j) (by rw[show 4+j=j+1+1+1+1 from by omega];exact hv)⟩
end Go.Proofs.YtdkhlkfleggbaaaGreat
