/- The contract of the reference's Take of layer 22: where there is a sentence. -/
import Derived.Test.YtoabkoniegmkaaaGreatJ42
import Derived.Deep.RegionWith
import Derived.Test.YtoabkoniegmkaaaGreatJ41
import Derived.Test.YtoabkoniegmkaaaGreatJ40
import Derived.Test.YtoabkoniegmkaaaGreatJ00
import Derived.Test.YtoabkoniegmkaaaGreatJ26
import Derived.Test.YtoabkoniegmkaaaGreatJ31
namespace Go.Proofs.YtoabkoniegmkaaaGreat
set_option linter.unusedVariables false
open Go.RowKit
def partsL (P:List UInt8):ByteArray×ByteArray×List ByteArray:=
  (toS (P.take 2),toS ((P.drop 2).take 3),if 5 < P.length then (splitC (P.drop 6)).map toS else [])
def BodyOk (P:List UInt8):Prop:=
  5≤P.length∧P.length≤76∧(∀ c∈P.take 5,signP (c.toNat:Int)=true)∧(∀ c∈P,letterP (c.toNat:Int)=true)∧(5 < P.length→P[5]?=some 44)
def wholeL (P:List UInt8) (x y:UInt8) (M:List UInt8):List UInt8:=36 :: (P++[42,x,y,13,10]++M)
theorem toList_B22 (l:List UInt8):(toS l).data.toList=l:=by simp [toS]
theorem size_B22 (l:List UInt8):(toS l).size=l.length:=by show l.toArray.size=_;simp
theorem get_B (l:List UInt8) (i:Nat) (h:i < (toS l).size):(toS l)[i]=l[i]'(by rw [size_B22] at h;exact h):=by
  show (toS l).data[i]=_
  simp [toS]
theorem unhex_letters {x y:UInt8} {v:Int} (h:unhexL [x,y]=some v):isR (x.toNat:Int)=true∧isR (y.toNat:Int)=true:=by
  have h':(if isR (x.toNat:Int) && isR (y.toNat:Int) then some (16 * valR (x.toNat:Int)+valR (y.toNat:Int)) else none)=some v:=h
  split at h'
  · rename_i hc;rw [Bool.and_eq_true] at hc;exact hc
  · cases h'
theorem isR_ok {c:Int} (h:isR c=true):okC c=true∧c≠13∧c≠42:=by
  have h1:=of_decide_eq_true h
  refine⟨?_,by omega,by omega⟩
  unfold okC
  rw [Bool.or_eq_true]
  right
  unfold letterP
  rw [decide_eq_true_eq]
  omega
theorem scanE_run (t:ByteArray):∀ (k f i:Nat),k < f→(∀ j,i≤j→j < i+k→∃ h:j < t.size,okC (t[j].toNat:Int)=true∧(t[j].toNat:Int)≠13)→(∃ h:i+k < t.size,(t[i+k].toNat:Int)=13)→scanE t f i=(i+k,0):=by
  intro k
  induction k with
  | zero=>
    intro f i hf _ ⟨h,hc⟩
    obtain⟨f,rfl⟩:∃ g,f=g+1:=⟨f - 1,by omega⟩
    exact scanE_13 t f i h hc
  | succ k ih=>
    intro f i hf hall ⟨h,hc⟩
    obtain⟨f,rfl⟩:∃ g,f=g+1:=⟨f - 1,by omega⟩
    obtain⟨h0,h1,h2⟩:=hall i (Nat.le_refl _) (by omega)
    rw [scanE_ok t f i h0 h2 h1,ih f (i+1) (by omega) (fun j a b=>hall j (by omega) (by omega)) (by rw [show i+1+k=i+(k+1) from by omega];exact⟨h,hc⟩)]
    rw [show i+1+k=i+(k+1) from by omega]
theorem scanE_all (t:ByteArray):∀ (f i j:Nat),scanE t f i=(j,0)→(∀ q,i≤q→q < j→∃ h:q < t.size,okC (t[q].toNat:Int)=true∧(t[q].toNat:Int)≠13)∧∃ h:j < t.size,(t[j].toNat:Int)=13:=by
  intro f
  induction f with
  | zero=>intro i j h;simp [scanE] at h
  | succ f ih=>
    intro i j h
    unfold scanE at h
    by_cases hi:i < t.size
    · rw [dif_pos hi] at h
      by_cases h13:(t[i].toNat:Int)=13
      · rw [if_pos h13] at h
        injection h with h _
        subst h
        exact⟨fun q a b=>absurd a (by omega),hi,h13⟩
      · rw [if_neg h13] at h
        by_cases ho:okC (t[i].toNat:Int)=true
        · rw [if_pos ho] at h
          obtain⟨a1,a2⟩:=ih _ _ h
          refine⟨fun q a b=>?_,a2⟩
          by_cases hq:q=i
          · subst hq;exact⟨hi,ho,h13⟩
          · exact a1 q (by omega) b
        · rw [if_neg ho] at h
          simp at h
    · rw [dif_neg hi] at h
      simp at h
theorem letter_ok {c:Int} (h:letterP c=true):okC c=true∧c≠13∧c≠42:=by
  have h1:=of_decide_eq_true h
  exact⟨by unfold okC;rw [h,Bool.or_true],by omega,by omega⟩
theorem letter_of {c:Int} (h:okC c=true) (h42:c≠42):letterP c=true:=by
  unfold okC at h
  rw [Bool.or_eq_true,beq_iff_eq] at h
  exact h.resolve_left h42
section
variable {P : List UInt8} {x y : UInt8} {M : List UInt8}
theorem whole_len:(wholeL P x y M).length=P.length+6+M.length:=by simp [wholeL];omega
theorem whole_at (j:Nat) (h1:1≤j) (h2:j < P.length+4) (hj:j < (wholeL P x y M).length):∃ h:j - 1 < (P++[42,x,y]).length,(wholeL P x y M)[j]=(P++[42,x,y])[j - 1]:=by
  have hl:(P++[42,x,y]).length=P.length+3:=by simp
  refine⟨by omega,?_⟩
  obtain⟨j,rfl⟩:∃ i,j=i+1:=⟨j - 1,by omega⟩
  have e:wholeL P x y M=36 :: ((P++[42,x,y])++([13,10]++M)):=by simp [wholeL]
  simp only [e,List.getElem_cons_succ,Nat.add_sub_cancel]
  rw [List.getElem_append_left (by omega)]
theorem whole_drop:(wholeL P x y M).drop (P.length+4)=13 :: 10 :: M:=by
  have e:wholeL P x y M=(36 :: (P++[42,x,y]))++(13 :: 10 :: M):=by simp [wholeL]
  rw [e,List.drop_left' (by simp)]
theorem whole_line:((wholeL P x y M).drop 1).take (P.length+3)=P++[42,x,y]:=by
  have e:(wholeL P x y M).drop 1=(P++[42,x,y])++(13 :: 10 :: M):=by simp [wholeL]
  rw [e,List.take_left' (by simp)]
theorem drop_at {l q:List UInt8} {n:Nat} {c:UInt8} (h:l.drop n=c :: q):l[n]?=some c∧l.drop (n+1)=q:=by
  constructor
  · have:=List.getElem?_drop (xs:=l) (i:=n) (j:=0)
    rw [h] at this
    simpa using this.symm
  · have:l.drop (n+1)=(l.drop n).drop 1:=by rw [List.drop_drop]
    rw [this,h];rfl
theorem endE_form (hP:BodyOk P) (hu:unhexL [x,y]=some ((xorL P).toNat:Int)):endE (toS (wholeL P x y M))=(P.length+4,0):=by
  obtain⟨p1,p2,p3,p4,p5⟩:=hP
  obtain⟨ux,uy⟩:=unhex_letters hu
  have hl:=whole_len (P:=P) (x:=x) (y:=y) (M:=M)
  unfold endE
  rw [scanE_run (toS (wholeL P x y M)) (P.length+3) 80 1 (by omega),show 1+(P.length+3)=P.length+4 from by omega]
  · intro j h1 h2
    have hj:j < (toS (wholeL P x y M)).size:=by rw [size_B22];omega
    refine⟨hj,?_⟩
    rw [get_B _ _ hj]
    obtain⟨h3,h4⟩:=whole_at (P:=P) (x:=x) (y:=y) (M:=M) j h1 (by omega) (by omega)
    rw [h4]
    have hm:(P++[42,x,y])[j - 1]∈P++[42,x,y]:=List.getElem_mem h3
    have key:∀ c∈P++[42,x,y],okC (c.toNat:Int)=true∧(c.toNat:Int)≠13:=by
      intro c hc
      rcases List.mem_append.1 hc with h | h
      · have:=letter_ok (p4 c h);exact⟨this.1,this.2.1⟩
      · have:c=42∨c=x∨c=y:=by simpa using h
        rcases this with rfl | rfl | rfl
        · exact⟨by decide,by decide⟩
        · exact⟨(isR_ok ux).1,(isR_ok ux).2.1⟩
        · exact⟨(isR_ok uy).1,(isR_ok uy).2.1⟩
    exact key _ hm
  · have hj:1+(P.length+3) < (toS (wholeL P x y M)).size:=by rw [size_B22];omega
    refine⟨hj,?_⟩
    obtain⟨h1,_⟩:=drop_at (whole_drop (P:=P) (x:=x) (y:=y) (M:=M))
    rw [get_B _ _ hj]
    rw [List.getElem?_eq_getElem (by omega)] at h1
    injection h1 with h1
    have:(wholeL P x y M)[1+(P.length+3)]'(by omega)=13:=by rw [← h1];congr 1;omega
    rw [this]
    rfl
theorem line_form (hP:BodyOk P) (hu:unhexL [x,y]=some ((xorL P).toNat:Int)):lineB (toS (wholeL P x y M))=toS (P++[42,x,y]):=by
  rw [lineB_ok (endE_form hP hu),extract_list,toList_B22,show P.length+4 - 1=P.length+3 from by omega,whole_line]
theorem formed_form (hP:BodyOk P) {v:Int} (hu:unhexL [x,y]=some v):formedB (toS (P++[42,x,y]))=true:=by
  obtain⟨p1,p2,p3,p4,p5⟩:=hP
  have hl:(P++[42,x,y]).length=P.length+3:=by simp
  have hz:(toS (P++[42,x,y])).size=P.length+3:=by rw [size_B22,hl]
  have hno:∀ c∈P,c≠42:=fun c hc h42=>by have:=(letter_ok (p4 c hc)).2.2;rw [h42] at this;exact this rfl
  have ht5:(P++[42,x,y]).take 5=P.take 5:=by rw [List.take_append_of_le_length p1]
  refine formed_of hz p1 ?_ ?_ ?_ ?_ (v:=v) ?_
  · rw [get_B _ _ (by omega),List.getElem_append_right (by omega)]
    simp
  · rw [toList_B22,starsN_append,starsN_none hno,starsN_cons42,unhex_no_star hu]
  · unfold signsP allB
    rw [Bool.and_eq_true,decide_eq_true_eq,data_extract,toList_B22,List.drop_zero,Nat.sub_zero,ht5,ByteArray.size_extract,List.all_eq_true]
    exact⟨by omega,p3⟩
  · by_cases h:P.length=5
    · exact .inl h
    · right
      rw [toList_B22,List.getElem?_append_left (by omega)]
      exact p5 (by omega)
  · rw [last_two,toList_B22,show (P++[42,x,y]).drop (P.length+1)=[x,y] from by simp [List.drop_append,List.drop_eq_nil_of_le]]
    exact hu
theorem take_form (hP:BodyOk P) (hu:unhexL [x,y]=some ((xorL P).toNat:Int)):takeS (toS (wholeL P x y M))=(partsL P,P.length+6,0):=by
  have hl:=whole_len (P:=P) (x:=x) (y:=y) (M:=M)
  have hE:=endE_form (M:=M) hP hu
  obtain⟨_,h10⟩:=drop_at (whole_drop (P:=P) (x:=x) (y:=y) (M:=M))
  obtain⟨h10,_⟩:=drop_at h10
  rw [takeS_5 (by rw [size_B22];omega) (by rw [toList_B22];rfl) (by rw [hE]) (by rw [hE,size_B22];show ¬ _ < P.length+4+2;omega) (by rw [hE,toList_B22];exact h10) (by rw [line_form hP hu];exact formed_form hP hu)]
  rw [line_form hP hu,hE]
  have ho:=openB_form P x y
  rw [if_pos hu] at ho
  have ho':openB (toS (P++[42,x,y]))=some (toS P):=ho
  rw [ho']
  have e1:(toS P).extract 0 2=toS (P.take 2):=by rw [extract_list,toList_B22];rfl
  have e2:(toS P).extract 2 5=toS ((P.drop 2).take 3):=by rw [extract_list,toList_B22]
  have e3:splitB ((toS P).extract 6 (toS P).size)=(splitC (P.drop 6)).map toS:=by
    unfold splitB
    rw [data_extract,toList_B22,size_B22,List.take_of_length_le (by rw [List.length_drop];exact Nat.le_refl _)]
  show (((toS P).extract 0 2,(toS P).extract 2 5,if 5 < (toS P).size then splitB ((toS P).extract 6 (toS P).size) else []),P.length+4+2,(0:Int))=_
  rw [e1,e2,e3,size_B22]
  rfl
end
theorem B_toList22 (t:ByteArray):toS t.data.toList=t:=toB_data t
theorem unhex_two {l:List UInt8} {v:Int} (h:unhexL l=some v):∃ x y,l=[x,y]:=by
  unfold unhexL at h
  split at h
  · rename_i a b;exact⟨a,b,rfl⟩
  · cases h
theorem takeS_zero {t:ByteArray} (h:(takeS t).2.2=0):t.data.toList[0]?=some 36∧(endE t).2=0∧¬ t.size < (endE t).1+2∧t.data.toList[(endE t).1+1]?=some 10∧formedB (lineB t)=true∧(openB (lineB t)).isSome=true:=by
  by_cases h0:t.size=0
  · rw [takeS_0 h0] at h;cases h
  by_cases h1:t.data.toList[0]?=some 36
  · by_cases h2:(endE t).2=0
    · by_cases h3:t.size < (endE t).1+2
      · rw [takeS_3 h0 h1 h2 h3] at h;cases h
      · by_cases h4:t.data.toList[(endE t).1+1]?≠some 10∨formedB (lineB t)=false
        · rw [takeS_4 h0 h1 h2 h3 h4] at h;cases h
        · have h5:t.data.toList[(endE t).1+1]?=some 10:=Classical.not_not.1 fun k=>h4 (.inl k)
          have h6:formedB (lineB t)=true:=by cases hf:formedB (lineB t) with
            | true=>rfl
            | false=>exact absurd (.inr hf) h4
          refine⟨h1,h2,h3,h5,h6,?_⟩
          rw [takeS_5 h0 h1 h2 h3 h5 h6] at h
          cases ho:openB (lineB t) with
          | none=>rw [ho] at h;cases h
          | some b=>rfl
    · rw [takeS_2 h0 h1 h2] at h;exact absurd h h2
  · rw [takeS_1 h0 h1] at h;cases h
theorem takeS_err {t:ByteArray} (h:(takeS t).2.2≠0):takeS t=((ByteArray.empty,ByteArray.empty,[]),0,(takeS t).2.2):=by
  by_cases h0:t.size=0
  · rw [takeS_0 h0]
  by_cases h1:t.data.toList[0]?=some 36
  · by_cases h2:(endE t).2=0
    · by_cases h3:t.size < (endE t).1+2
      · rw [takeS_3 h0 h1 h2 h3]
      · by_cases h4:t.data.toList[(endE t).1+1]?≠some 10∨formedB (lineB t)=false
        · rw [takeS_4 h0 h1 h2 h3 h4]
        · have h5:t.data.toList[(endE t).1+1]?=some 10:=Classical.not_not.1 fun k=>h4 (.inl k)
          have h6:formedB (lineB t)=true:=by cases hf:formedB (lineB t) with
            | true=>rfl
            | false=>exact absurd (.inr hf) h4
          rw [takeS_5 h0 h1 h2 h3 h5 h6] at h ⊢
          cases ho:openB (lineB t) with
          | none=>rfl
          | some b=>rw [ho] at h;exact absurd rfl h
    · rw [takeS_2 h0 h1 h2]
  · rw [takeS_1 h0 h1]
theorem getElem?_B (t:ByteArray) (j:Nat) (h:j < t.size):t.data.toList[j]?=some t[j]:=by
  rw [List.getElem?_eq_getElem (by rw [size_list];exact h)]
  rfl
theorem take_is {t:ByteArray} (h:(takeS t).2.2=0):∃ P x y M,t=toS (wholeL P x y M)∧BodyOk P∧unhexL [x,y]=some ((xorL P).toNat:Int):=by
  obtain⟨h1,h2,h3,h4,h5,h6⟩:=takeS_zero h
  obtain⟨i,hi⟩:∃ i,endE t=(i,0):=⟨(endE t).1,by rw [← h2]⟩
  obtain⟨b1,b2,b3⟩:=scanE_spec t 80 1 i hi
  obtain⟨s1,s2,s3⟩:=scanE_all t 80 1 i hi
  rw [hi] at h3 h4
  have hL:=lineB_ok hi
  rw [hL] at h5 h6
  have hlist:(t.extract 1 i).data.toList=(t.data.toList.drop 1).take (i - 1):=by rw [data_extract]
  obtain⟨L,hLe⟩:∃ L,t.extract 1 i=L:=⟨_,rfl⟩
  have hls:L.size=i - 1:=by rw [← hLe,ByteArray.size_extract];omega
  rw [hLe] at h5 h6 hlist
  unfold formedB at h5
  rw [Bool.and_eq_true,Bool.and_eq_true,Bool.and_eq_true,Bool.and_eq_true] at h5
  obtain⟨⟨⟨⟨q1,q2⟩,q3⟩,q4⟩,q5⟩:=h5
  have k1:=of_decide_eq_true q1
  obtain⟨n,hn⟩:∃ n,L.size=n+3:=⟨L.size - 3,by omega⟩
  have hix:Lib.indexByte L.data.toList 42=(n:Int):=by have:=of_decide_eq_true q2;unfold cutI at this;omega
  obtain⟨i1,i2,i3⟩:=index_at _ _ n hix
  obtain⟨b,hb⟩:=Option.isSome_iff_exists.1 h6
  unfold openB at hb
  rw [if_neg (by omega)] at hb
  split at hb
  · rename_i hc
    obtain⟨_,hu⟩:=hc
    rw [show L.size - 3=n from by omega,last_two] at hu
    obtain⟨x,y,hxy⟩:=unhex_two hu
    have hPl:(L.data.toList.take n).length=n:=by rw [List.length_take];omega
    have hP:(L.extract 0 n).data.toList=L.data.toList.take n:=by rw [data_extract];rfl
    have hsum:sumI (L.extract 0 n)=((xorL (L.data.toList.take n)).toNat:Int):=by unfold sumI;rw [hP]
    have hall:∀ c∈L.data.toList,okC (c.toNat:Int)=true:=by
      intro c hc
      rw [hlist] at hc
      obtain⟨j,hj,rfl⟩:=List.getElem_of_mem hc
      rw [List.length_take,List.length_drop] at hj
      obtain⟨g,ok,_⟩:=s1 (j+1) (by omega) (by omega)
      have e:((t.data.toList.drop 1).take (i - 1))[j]'(by rw [List.length_take,List.length_drop];exact hj)=t[j+1]:=by
        rw [List.getElem_take,List.getElem_drop]
        have:=getElem?_B t (j+1) g
        rw [List.getElem?_eq_getElem (by rw [size_list];exact g)] at this
        injection this with this
        rw [← this]
        congr 1
        omega
      rw [e]
      exact ok
    refine⟨L.data.toList.take n,x,y,t.data.toList.drop (i+2),?_,⟨by omega,by omega,?_,?_,?_⟩,by rw [← hxy,hu,hsum]⟩
    · have e1:t.data.toList=t.data.toList.take i++t.data.toList.drop i:=(List.take_append_drop _ _).symm
      have e2:t.data.toList.drop i=13 :: 10 :: t.data.toList.drop (i+2):=by
        have g1:i < t.data.toList.length:=by rw [size_list];omega
        have g2:i+1 < t.data.toList.length:=by rw [size_list];omega
        rw [List.drop_eq_getElem_cons g1,List.drop_eq_getElem_cons g2]
        have v2:t.data.toList[i+1]=10:=by rw [List.getElem?_eq_getElem g2] at h4;injection h4
        have v1:t.data.toList[i]=13:=by
          have:=(byte_at t i (by omega) 13).2 (by rw [s3];rfl)
          rw [List.getElem?_eq_getElem g1] at this;injection this
        rw [v1,v2]
      have e3:t.data.toList.take i=36 :: L.data.toList:=by
        rw [hlist]
        cases hd:t.data.toList with
        | nil=>rw [hd] at h1;cases h1
        | cons a l=>
          rw [hd] at h1
          have:a=36:=by simpa using h1
          subst this
          obtain⟨i,rfl⟩:∃ j,i=j+1:=⟨i - 1,by omega⟩
          rfl
      refine (B_toList22 t).symm.trans (congrArg toS (e1.trans ?_))
      rw [e2,e3]
      have i2':=i2
      rw [hxy] at i2'
      generalize L.data.toList.take n=Q at i2' ⊢
      rw [i2']
      simp [wholeL]
    · intro c hc
      rw [List.take_take,Nat.min_eq_left (by omega)] at hc
      unfold signsP allB at q3
      rw [Bool.and_eq_true,data_extract,List.all_eq_true] at q3
      exact q3.2 c hc
    · intro c hc
      refine letter_of (hall c (List.mem_of_mem_take hc)) ?_
      intro h42
      exact i3 c hc (UInt8.toNat_inj.1 (by have e:(42:UInt8).toNat=42:=rfl;omega))
    · intro h
      rw [hPl] at h
      rw [Bool.or_eq_true,decide_eq_true_eq,decide_eq_true_eq] at q5
      rw [List.getElem?_take_of_lt h]
      exact q5.resolve_left (by omega)
  · cases hb
theorem splitC_join (l:List UInt8):((splitC l).flatMap fun f=>44 :: f)=44 :: l:=by
  induction l with
  | nil=>rfl
  | cons b l ih=>
    by_cases hb:b=44
    · rw [hb,splitC_comma,List.flatMap_cons,ih];rfl
    · rw [splitC_cons b l hb]
      cases hs:splitC l with
      | nil=>exact absurd hs (splitC_ne l)
      | cons h r=>
        rw [hs,List.flatMap_cons] at ih
        have ih':h++(r.flatMap fun f=>44 :: f)=l:=by simpa using ih
        show (44 :: ([b]++h))++(r.flatMap fun f=>44 :: f)=44 :: b :: l
        rw [← ih']
        simp
theorem splitC_flat (gs:List (List UInt8)):∀ f:List UInt8,(∀ c∈f,c≠44)→(∀ g∈gs,∀ c∈g,c≠44)→splitC (f++gs.flatMap fun g=>44 :: g)=f :: gs:=by
  induction gs with
  | nil=>intro f h _;rw [List.flatMap_nil,List.append_nil,splitC_none _ h]
  | cons g gs ih=>
    intro f h hg
    rw [List.flatMap_cons,List.cons_append,splitC_at _ _ h,ih g (hg g (by simp)) (fun q hq=>hg q (by simp [hq]))]
section
variable {P : List UInt8} (hP : BodyOk P)
include hP
theorem body_parts:bodyL22 (partsL P).1 (partsL P).2.1 (partsL P).2.2=P:=by
  obtain⟨p1,p2,p3,p4,p5⟩:=hP
  unfold bodyL22 partsL
  rw [toList_B22,toList_B22]
  have e:P=P.take 2++(P.drop 2).take 3++P.drop 5:=by
    conv=>lhs;rw [← List.take_append_drop 5 P,show (5:Nat)=2+3 from rfl,List.take_add]
  by_cases h:5 < P.length
  · have hd:P.drop 5=44 :: P.drop 6:=by
      rw [List.drop_eq_getElem_cons h]
      have:=p5 h
      rw [List.getElem?_eq_getElem h] at this
      injection this with this
      rw [this]
    show _++_++List.flatMap _ (if 5 < P.length then _ else _)=P
    rw [if_pos h]
    conv=>rhs;rw [e,hd,← splitC_join]
    rw [List.flatMap_map]
    simp only [toList_B22]
  · show _++_++List.flatMap _ (if 5 < P.length then _ else _)=P
    rw [if_neg h,List.flatMap_nil]
    have e5:P.drop 5=[]:=List.drop_eq_nil_of_le (by omega)
    rw [e5] at e
    exact e.symm
end
theorem toB_append22 (a b:List UInt8):toS a++toS b=toS (a++b):=by
  apply ByteArray.ext
  simp [toS,ByteArray.data_append]
theorem textS_form (T Y:ByteArray) (fs:List ByteArray):∃ x y,unhexL [x,y]=some ((xorL (bodyL22 T Y fs)).toNat:Int)∧∀ M,textS T Y fs++toS M=toS (wholeL (bodyL22 T Y fs) x y M):=by
  have hs:sumI ⟨(bodyL22 T Y fs).toArray⟩=((xorL (bodyL22 T Y fs)).toNat:Int):=by simp [sumI]
  have hb:=sumI_bd ⟨(bodyL22 T Y fs).toArray⟩
  have h:=unhex_hexL (sumI ⟨(bodyL22 T Y fs).toArray⟩) hb.1 hb.2
  refine⟨_,_,by rw [← hs];exact h,fun M=>?_⟩
  unfold textS
  rw [sealB_form]
  show toS [36]++toS _++toS [13,10]++toS M=_
  rw [toB_append22,toB_append22,toB_append22]
  congr 1
  simp [wholeL]
theorem take_put22 {T Y:ByteArray} {fs:List ByteArray} {M:ByteArray} (h:(putS T Y fs).2=0):(putS T Y fs).1.size≤82∧takeS ((putS T Y fs).1++M)=((T,Y,fs),(putS T Y fs).1.size,0):=by
  obtain⟨o,hz,he⟩:(signsP T 2 && signsP Y 3 && fs.all (allB fieldP))=true∧(textS T Y fs).size≤82∧putS T Y fs=(textS T Y fs,0):=by
    unfold putS at h ⊢
    split at h
    · cases h
    · rename_i h1
      split at h
      · cases h
      · rename_i h2
        exact⟨by cases hh:(signsP T 2 && signsP Y 3 && fs.all (allB fieldP)) with | true=>rfl | false=>exact absurd hh h1,by omega,by rw [if_neg h1,if_neg h2]⟩
  rw [he]
  refine⟨hz,?_⟩
  obtain⟨x,y,hu,ht⟩:=textS_form T Y fs
  have hts:=textS_size T Y fs
  rw [Bool.and_eq_true,Bool.and_eq_true] at o
  obtain⟨⟨o1,o2⟩,o3⟩:=o
  unfold signsP at o1 o2
  rw [Bool.and_eq_true,decide_eq_true_eq] at o1 o2
  have z1:=size_list T
  have z2:=size_list Y
  have a1:∀ c∈T.data.toList,signP (c.toNat:Int)=true:=by have:=o1.2;unfold allB at this;rw [List.all_eq_true] at this;exact this
  have a2:∀ c∈Y.data.toList,signP (c.toNat:Int)=true:=by have:=o2.2;unfold allB at this;rw [List.all_eq_true] at this;exact this
  have a3:∀ f∈fs,∀ c∈f.data.toList,fieldP (c.toNat:Int)=true:=by
    intro f hf
    rw [List.all_eq_true] at o3
    have:=o3 f hf
    unfold allB at this;rw [List.all_eq_true] at this;exact this
  have l1:(T.data.toList++Y.data.toList).length=5:=by rw [List.length_append];omega
  have ht5:(bodyL22 T Y fs).take 5=T.data.toList++Y.data.toList:=by unfold bodyL22;rw [List.take_left' l1]
  have hd5:(bodyL22 T Y fs).drop 5=fs.flatMap fun f=>44 :: f.data.toList:=by unfold bodyL22;rw [List.drop_left' l1]
  have sl:∀ c:Int,signP c=true→letterP c=true:=by
    intro c h
    have:=of_decide_eq_true h
    unfold letterP
    rw [decide_eq_true_eq]
    omega
  have hlen:(bodyL22 T Y fs).length=5+(fs.flatMap fun f=>44 :: f.data.toList).length:=by unfold bodyL22;rw [List.length_append,l1]
  have hP:BodyOk (bodyL22 T Y fs):=by
    refine⟨by omega,by omega,?_,?_,?_⟩
    · rw [ht5]
      intro c hc
      exact (List.mem_append.1 hc).elim (a1 c) (a2 c)
    · intro c hc
      unfold bodyL22 at hc
      rcases List.mem_append.1 hc with hc | hc
      · exact sl _ ((List.mem_append.1 hc).elim (a1 c) (a2 c))
      · obtain⟨f,hf,hc⟩:=List.mem_flatMap.1 hc
        rcases List.mem_cons.1 hc with rfl | hc
        · decide
        · have:=a3 f hf c hc
          unfold fieldP at this
          rw [Bool.and_eq_true] at this
          exact this.1
    · intro h
      have:(bodyL22 T Y fs)[5]?=((bodyL22 T Y fs).drop 5)[0]?:=by rw [List.getElem?_drop]
      rw [this,hd5]
      cases fs with
      | nil=>rw [hlen] at h;simp at h
      | cons f gs=>rfl
  have key:partsL (bodyL22 T Y fs)=(T,Y,fs):=by
    have k1:(bodyL22 T Y fs).take 2=T.data.toList:=by
      have:(bodyL22 T Y fs).take 2=((bodyL22 T Y fs).take 5).take 2:=by rw [List.take_take];rfl
      rw [this,ht5,List.take_left' (by omega)]
    have k2:((bodyL22 T Y fs).drop 2).take 3=Y.data.toList:=by
      have:((bodyL22 T Y fs).drop 2).take 3=((bodyL22 T Y fs).take 5).drop 2:=by rw [List.drop_take]
      rw [this,ht5,List.drop_left' (by omega)]
    have k3:(if 5 < (bodyL22 T Y fs).length then (splitC ((bodyL22 T Y fs).drop 6)).map toS else [])=fs:=by
      cases fs with
      | nil=>rw [if_neg (by rw [hlen];simp)]
      | cons f gs=>
        have d6:(bodyL22 T Y (f :: gs)).drop 6=f.data.toList++(gs.map fun g=>g.data.toList).flatMap fun g=>44 :: g:=by
          have:(bodyL22 T Y (f :: gs)).drop 6=((bodyL22 T Y (f :: gs)).drop 5).drop 1:=by rw [List.drop_drop]
          rw [this,hd5,List.flatMap_cons,List.flatMap_map]
          rfl
        have noc:∀ g∈f :: gs,∀ c∈g.data.toList,c≠44:=by
          intro g hg c hc h44
          have:=a3 g hg c hc
          rw [h44] at this
          exact absurd this (by decide)
        rw [if_pos (by rw [hlen,List.flatMap_cons,List.length_append,List.length_cons];omega),d6,splitC_flat _ _ (noc f (by simp)) (by
          intro q hq c hc
          obtain⟨g,hg,rfl⟩:=List.mem_map.1 hq
          exact noc g (by simp [hg]) c hc),List.map_cons,List.map_map,B_toList22]
        congr 1
        exact (List.map_congr_left (fun g _=>B_toList22 g)).trans (List.map_id gs)
    unfold partsL
    rw [k1,k2,k3,B_toList22,B_toList22]
  show takeS (textS T Y fs++M)=((T,Y,fs),(textS T Y fs).size,0)
  have hm:=ht M.data.toList
  rw [B_toList22] at hm
  rw [hm,take_form hP hu,key,hts]
theorem len_data (t:ByteArray):t.data.toList.length=t.size:=by rw [Array.length_toList];rfl
theorem body_parts_le (t y:ByteArray):∀ fs:List ByteArray,fs.length+t.size+y.size≤(bodyL22 t y fs).length∧∀ f∈fs,f.size≤(bodyL22 t y fs).length:=by
  intro fs
  have e1:=len_data t
  have e2:=len_data y
  have key:fs.length≤(fs.flatMap fun f=>(44:UInt8) :: f.data.toList).length∧∀ f∈fs,f.size≤(fs.flatMap fun f=>(44:UInt8) :: f.data.toList).length:=by
    induction fs with
    | nil=>exact⟨Nat.zero_le _,fun f hf=>by simp at hf⟩
    | cons g l ih=>
      have e3:=len_data g
      rw [List.flatMap_cons,List.length_append,List.length_cons,List.length_cons]
      refine⟨by omega,fun f hf=>?_⟩
      rcases List.mem_cons.1 hf with rfl | hf
      · omega
      · have:=ih.2 f hf;omega
  unfold bodyL22
  rw [List.length_append,List.length_append]
  exact⟨by omega,fun f hf=>by have:=key.2 f hf;omega⟩
theorem takeS_body {t:ByteArray} (h:(takeS t).2.2=0):∃ P x y M,BodyOk P∧t=toS (wholeL P x y M)∧unhexL [x,y]=some ((xorL P).toNat:Int)∧takeS t=(partsL P,P.length+6,0):=by
  obtain⟨P,x,y,M,rfl,hP,hu⟩:=take_is h
  exact⟨P,x,y,M,hP,rfl,hu,take_form hP hu⟩
theorem takeS_fields (t:ByteArray):(takeS t).1.2.2.length≤76∧(∀ f∈(takeS t).1.2.2,f.size≤76)∧(takeS t).1.1.size≤76∧(takeS t).1.2.1.size≤76:=by
  by_cases h:(takeS t).2.2=0
  · obtain⟨P,x,y,M,hP,-,-,e⟩:=takeS_body h
    rw [e]
    have hb:=body_parts hP
    have h1:=body_parts_le (partsL P).1 (partsL P).2.1 (partsL P).2.2
    rw [hb] at h1
    have h2:=hP.2.1
    exact⟨by simp only;omega,fun f hf=>Nat.le_trans (h1.2 f hf) h2,by simp only;omega,by simp only;omega⟩
  · rw [takeS_err h]
    exact⟨Nat.zero_le _,fun f hf=>by simp at hf,Nat.zero_le _,Nat.zero_le _⟩
theorem r30Same_any {lo lo':Nat} {C D:Array Value} {m:NmD} {w:World} (hC:NmV lo w C m) (hD:NmV lo' w D m) (h1:m.s.ids.length≤1000000) (h2:m.u.L.length≤1000000) :
    Calls Tryz.prog 13 #[.agg C,.agg D] w fun e w'=>e=.returned (.bool true)∧Below w.heap.size w w':=by
  obtain⟨x,y,rfl,⟨A,c,rfl,hA⟩,⟨B,d,rfl,hB⟩⟩:=hC
  obtain⟨x',y',rfl,⟨A',c',rfl,hA'⟩,⟨B',d',rfl,hB'⟩⟩:=hD
  exact r30Same_go (A:=A) (B:=B) (A':=A') (B':=B') (n:=m.s.ids.length) (p:=m.u.L.length)
    (fun W hb=>r27Same_same m.s.a m.s.f m.s.p0.1 m.s.p0.2 m.s.p1.1 m.s.p1.2 m.s.p2.1 m.s.p2.2 A A' m.s.ids.length c c' m.s.ids W rfl (bk_on hA hb).ints (bk_on hA' hb).ints h1)
    (fun W hb=>r29Same_same m.u.T m.u.N m.u.S B B' m.u.L.length d d' m.u.L W rfl (bk_on hB hb).vws (bk_on hB' hb).vws h2)
def few30 (m:NmD):Bool:=decide (m.t.size≤100∧m.s.ids.length≤20∧m.u.L.length≤20)
set_option maxRecDepth 8000 in
set_option maxHeartbeats 2000000 in
theorem r30Few_go {m:NmD} {A B:Option Addr} {n c p d:Nat} {w:World} (b1 b2 b3:Bool) (h1:decide ((m.t.size:Int)≤100)=b1) (h2:decide ((n:Int)≤20)=b2) (h3:decide ((p:Int)≤20)=b3) (g1:m.t.size≤maxLen) (g2:n≤maxLen) (g3:p≤maxLen) :
    Calls Tryz.prog 16 #[.agg (nmC m (.slice A n c) (.slice B p d)).toArray] w fun e w'=>e=.returned (.bool (b1 && b2 && b3))∧Below w.heap.size w w':=by
  unfold maxLen at g1 g2 g3
  go_enter Tryz.func16,Tryz.ntmps16
  go_upto_region 1 with (refine wpList_box_new rfl _ _ rfl (nmC m (.slice A n c) (.slice B p d)).toArray rfl ?_;intro W1 hW1;have H1:Hid (Blk W1 w.heap.size (nmC m (.slice A n c) (.slice B p d))):=Blk.new hW1;have HB1:=Lib.hid hW1.bel;clear hW1)
  have a1:=H1.out.cell 1 rfl
  have a2:=H1.out.cell 46 rfl
  have a3:=H1.out.cell 64 rfl
  have H3:=Lib.hid h3
  clear h3
  cases b1 <;> cases b2 <;> simp only [decide_eq_true_eq,decide_eq_false_iff_not,Int.not_le] at h1 h2 <;> go_wp2_with fail
  all_goals first
    | (exfalso;omega)
    | (go_ret;exact⟨rfl,HB1.out⟩)
    | (go_ret;exact⟨congrArg (fun b=>Ending.returned (.bool b)) H3.out,HB1.out⟩)
theorem r30Few_any {lo:Nat} {C:Array Value} {m:NmD} {w:World} (hC:NmV lo w C m) (g1:m.t.size≤maxLen) (g2:m.s.ids.length≤maxLen) (g3:m.u.L.length≤maxLen) :
    Calls Tryz.prog 16 #[.agg C] w fun e w'=>e=.returned (.bool (few30 m))∧Below w.heap.size w w':=by
  obtain⟨x,y,rfl,⟨A,c,rfl,hA⟩,⟨B,d,rfl,hB⟩⟩:=hC
  have:=r30Few_go (m:=m) (A:=A) (B:=B) (n:=m.s.ids.length) (c:=c) (p:=m.u.L.length) (d:=d) (w:=w) _ _ _ rfl rfl rfl g1 g2 g3
  refine this.mono ?_
  rintro e w' ⟨rfl,hb⟩
  refine⟨?_,hb⟩
  congr 2
  unfold few30
  rw [Bool.eq_iff_iff]
  simp
  omega
theorem results_cell_tmp2 {fn:Func} {p u v:Tmp} {ty:TypeId} (h:fn.results=#[.cell p ty,.tmp u,.tmp v]) (tmps:Array Value) (P:Program) (w:World) :
    (results fn tmps).run P w =
      ((asAddr (tmps.getD p undef)).run P w).andThen fun a w₁=>((loadVar ty a).run P w₁).andThen fun v' w₂=>.ok (.tuple #[v',tmps.getD u undef,tmps.getD v undef]) w₂:=by
  simp only [results,h]
  simp [Sem.run_bind,Result.andThen]
def enc30 (m:NmD):ByteArray×Int:=if (put30 m).2=0 then putS (put30 m).1.1 (put30 m).1.2.1 (put30 m).1.2.2 else (ByteArray.empty,(put30 m).2)
def dec30 (t:ByteArray):NmD×Nat×Int:=if (takeS t).2.2=0 then ((take30 (takeS t).1.1 (takeS t).1.2.1 (takeS t).1.2.2).1,(takeS t).2.1,(take30 (takeS t).1.1 (takeS t).1.2.1 (takeS t).1.2.2).2) else (zD30,0,(takeS t).2.2)
def EncOut (x:ByteArray×Int) (w:World) (e:Ending) (w':World):Prop:=e=.returned (.tuple #[.string x.1,.int .i64 x.2])∧Below w.heap.size w w'
def DecOut (x:NmD×Nat×Int) (w:World) (e:Ending) (w':World):Prop:=∃ C,e=.returned (.tuple #[.agg C,.int .i64 (x.2.1:Int),.int .i64 x.2.2])∧NmV w.heap.size w' C x.1∧Below w.heap.size w w'
set_option maxRecDepth 8000 in
set_option maxHeartbeats 2000000 in
theorem nmEncode_go {lo:Nat} {C:Array Value} {m:NmD} {X:(ByteArray×ByteArray×List ByteArray)×Int} {Y:ByteArray×Int} {w:World} (hC:Hid (NmV lo w C m)) (HP:∀ W,Below w.heap.size w W→Hid (Calls Tryz.prog 17 #[.agg C] W (SenOut X W)))
    (HS:Hid (X.2=0→∀ A c W,Strs W W.heap.size A X.1.2.2→Calls Tryz.prog 34 #[.agg #[.string X.1.1,.string X.1.2.1,.slice A X.1.2.2.length c]] W (EncOut Y W))) :
    Calls Tryz.prog 15 #[.agg C] w (EncOut (if X.2=0 then Y else (ByteArray.empty,X.2)) w):=by
  obtain⟨⟨t,y,fs⟩,E⟩:=X
  obtain⟨n,hn⟩:∃ n,fs.length=n:=⟨_,rfl⟩
  have HN:=Lib.hid hn
  have HSZ:Hid ((Tryz.prog.info? 46).map (·.size)=some C.toList.length):=by rw [Array.length_toList];exact nm_sizeC hC.out
  obtain⟨Z,hZ⟩:∃ Z:ByteArray×Int,(if E=0 then Y else (ByteArray.empty,E))=Z:=⟨_,rfl⟩
  have HZ:=Lib.hid hZ
  show Calls _ _ _ _ (EncOut (if E=0 then Y else (ByteArray.empty,E)) w)
  rw [hZ]
  clear hn hZ
  go_enter Tryz.func15,Tryz.ntmps15
  go_wp2_with (first
    | (refine wpList_box_new rfl _ _ rfl C rfl ?_;intro W1 hW1;have H1:=Lib.hid (Blk.new hW1);have HB1:=Lib.hid hW1.bel;clear hW1)
    | refine wpList_load_mid rfl 46 _ rfl w.heap.size 0 rfl C.toList _ H1.out.rg Tryz.underlying46 rfl HSZ.out ?_)
  refine (HP _ HB1.out).out.mono ?_
  rintro e W2 ⟨v,rfl,⟨A,c,rfl,hs⟩,hb⟩
  have HST:=Lib.hid hs
  have HB2:=Lib.hid (bthen HB1.out hb)
  clear hs hb H1 HB1 HP
  have HST:Hid (Strs W2 W2.heap.size A fs):=HST
  dsimp only
  rw [HN.out]
  by_cases h0:E=0
  · subst h0
    have hq:=HS.out rfl
    rw [HN.out] at hq
    have HQ:=Lib.hid hq
    clear hq HS
    have HZ0:Hid (Y=Z):=(if_pos rfl).symm.trans HZ.out
    have HA:=Lib.hid (below_new W2 (.cells #[.string t,.string y,.slice A n c] 24))
    go_wp2_with fail
    refine (HQ.out A c _ ((HST.out.below HA.out (Nat.le_refl _)).more HA.out.size)).mono ?_
    rintro e W3 ⟨rfl,hb⟩
    have HB3:=Lib.hid (bthen (bthen HB2.out HA.out) hb)
    clear hb
    go_wp2_with fail
    go_ret2
    rw [← HZ0.out]
    exact⟨rfl,HB3.out⟩
  · have HZ0:Hid ((ByteArray.empty,E)=Z):=(if_neg h0).symm.trans HZ.out
    have hne:(E != 0)=true:=by rw [bne_iff_ne];exact h0
    have HA:=Lib.hid (below_new W2 (.cells #[.string t,.string y,.slice A n c] 24))
    go_wp2_with fail
    go_ret2
    rw [← HZ0.out]
    exact⟨rfl,bthen HB2.out HA.out⟩
set_option maxRecDepth 8000 in
set_option maxHeartbeats 2000000 in
theorem r30Encode_go {lo:Nat} {C:Array Value} {m:NmD} {X:(ByteArray×ByteArray×List ByteArray)×Int} {Y:ByteArray×Int} {w:World} (hC:Hid (NmV lo w C m)) (HP:∀ W,Below w.heap.size w W→Hid (Calls Tryz.prog 18 #[.agg C] W (SenOut X W)))
    (HS:Hid (X.2=0→∀ A c W,Strs W W.heap.size A X.1.2.2→Calls Tryz.prog 41 #[.agg #[.string X.1.1,.string X.1.2.1,.slice A X.1.2.2.length c]] W (EncOut Y W))) :
    Calls Tryz.prog 19 #[.agg C] w (EncOut (if X.2=0 then Y else (ByteArray.empty,X.2)) w):=by
  obtain⟨⟨t,y,fs⟩,E⟩:=X
  obtain⟨n,hn⟩:∃ n,fs.length=n:=⟨_,rfl⟩
  have HN:=Lib.hid hn
  have HSZ:Hid ((Tryz.prog.info? 46).map (·.size)=some C.toList.length):=by rw [Array.length_toList];exact nm_sizeC hC.out
  obtain⟨Z,hZ⟩:∃ Z:ByteArray×Int,(if E=0 then Y else (ByteArray.empty,E))=Z:=⟨_,rfl⟩
  have HZ:=Lib.hid hZ
  show Calls _ _ _ _ (EncOut (if E=0 then Y else (ByteArray.empty,E)) w)
  rw [hZ]
  clear hn hZ
  go_enter Tryz.func19,Tryz.ntmps19
  go_wp2_with (first
    | (refine wpList_box_new rfl _ _ rfl C rfl ?_;intro W1 hW1;have H1:=Lib.hid (Blk.new hW1);have HB1:=Lib.hid hW1.bel;clear hW1)
    | refine wpList_load_mid rfl 46 _ rfl w.heap.size 0 rfl C.toList _ H1.out.rg Tryz.underlying46 rfl HSZ.out ?_)
  refine (HP _ HB1.out).out.mono ?_
  rintro e W2 ⟨v,rfl,⟨A,c,rfl,hs⟩,hb⟩
  have HST:=Lib.hid hs
  have HB2:=Lib.hid (bthen HB1.out hb)
  clear hs hb H1 HB1 HP
  have HST:Hid (Strs W2 W2.heap.size A fs):=HST
  dsimp only
  rw [HN.out]
  by_cases h0:E=0
  · subst h0
    have hq:=HS.out rfl
    rw [HN.out] at hq
    have HQ:=Lib.hid hq
    clear hq HS
    have HZ0:Hid (Y=Z):=(if_pos rfl).symm.trans HZ.out
    have HA:=Lib.hid (below_new W2 (.cells #[.string t,.string y,.slice A n c] 24))
    go_wp2_with fail
    refine (HQ.out A c _ ((HST.out.below HA.out (Nat.le_refl _)).more HA.out.size)).mono ?_
    rintro e W3 ⟨rfl,hb⟩
    have HB3:=Lib.hid (bthen (bthen HB2.out HA.out) hb)
    clear hb
    go_wp2_with fail
    go_ret2
    rw [← HZ0.out]
    exact⟨rfl,HB3.out⟩
  · have HZ0:Hid ((ByteArray.empty,E)=Z):=(if_neg h0).symm.trans HZ.out
    have hne:(E != 0)=true:=by rw [bne_iff_ne];exact h0
    have HA:=Lib.hid (below_new W2 (.cells #[.string t,.string y,.slice A n c] 24))
    go_wp2_with fail
    go_ret2
    rw [← HZ0.out]
    exact⟨rfl,bthen HB2.out HA.out⟩
set_option maxRecDepth 8000 in
set_option maxHeartbeats 2000000 in
theorem nmDecode_any {t:ByteArray} {w:World} (ht:t.size≤1000000):Calls Tryz.prog 11 #[.string t] w (DecOut (dec30 t) w):=by
  obtain⟨⟨⟨T,Y,fs⟩,N,E⟩,hX⟩:∃ x,takeS t=x:=⟨_,rfl⟩
  have hz:fs.length≤1000000∧∀ f∈fs,f.size≤1000000:=by have:=takeS_fields t;rw [hX] at this;exact⟨Nat.le_trans this.1 (by omega),fun f hf=>Nat.le_trans (this.2.1 f hf) (by omega)⟩
  obtain⟨⟨m,F⟩,hm⟩:∃ x,take30 T Y fs=x:=⟨_,rfl⟩
  have HD:Hid (dec30 t=if E=0 then (m,N,F) else (zD30,0,E)):=by unfold dec30;rw [hX];simp only;rw [hm];exact rfl
  have HT:∀ W,Hid (Calls Tryz.prog 30 #[.string t] W (SenPost ((T,Y,fs),N,E) W)):=fun W=>by rw [← hX];exact Take_any t W ht
  have HK:∀ A c W,Strs W W.heap.size A fs→Hid (Calls Tryz.prog 9 #[.agg #[.string T,.string Y,.slice A fs.length c]] W (NmOut (m,F) W)):=fun A c W hs=>by rw [← hm];exact nmTake_any hs hz.1 hz.2
  obtain⟨n,hn⟩:∃ n,fs.length=n:=⟨_,rfl⟩
  have HN:=Lib.hid hn
  rw [hn] at HK
  clear hX hz hm hn ht
  go_enter Tryz.func11,Tryz.ntmps11
  go_wp2_with (refine wpList_alloc_new rfl 46 rfl zNm (zero_Nm _) ?_;intro W1 hW1;have HR1:=Lib.hid (Blk.newL (L:=nmL 0 ByteArray.empty zGga zRmc zGsa zVtg zGsv) hW1 rfl);have HB1:=Lib.hid hW1.bel;have HZ1:=Lib.hid hW1.sz;clear hW1)
  refine (HT _).out.mono ?_
  rintro e W2 ⟨A,c,rfl,hs,hf,hb⟩
  have HST:=Lib.hid hs
  have HR2:=Lib.hid (HR1.out.on hb)
  have HB2:=Lib.hid (bthen HB1.out hb)
  have HZ2:Hid (w.heap.size < W2.heap.size):=HR2.out.lt
  clear hs hf hb HR1 HB1 HT
  have HST:Hid (Strs W2 W2.heap.size A fs):=HST
  dsimp only
  rw [HN.out]
  by_cases h0:E=0
  · subst h0
    have HX:Hid (dec30 t=(m,N,F)):=HD.out.trans (if_pos rfl)
    clear HD
    go_upto_region 2 with (first
      | (refine wpList_alloc_new rfl 24 rfl #[.string ByteArray.empty,.string ByteArray.empty,.slice none 0 0] (by kernel_rfl) ?_;intro W3 hW3;have HS3:=Lib.hid (Blk.newL (L:=[.string ByteArray.empty,.string ByteArray.empty,.slice none 0 0]) hW3 rfl);have HR3:=Lib.hid (HR2.out.grew hW3);have HB3:=Lib.hid (bthen HB2.out hW3.bel);have HT3:=Lib.hid ((HST.out.below hW3.bel (Nat.le_refl _)).more hW3.bel.size);have HL3:=Lib.hid hW3.bel;clear hW3 HR2)
      | (refine wpList_store_in rfl 24 _ _ rfl W2.heap.size 0 #[.string T,.string Y,.slice A n c] rfl rfl (HS3.out.there 0 3 (by decide)) sen_size (Ones.arr (L:=[.string T,.string Y,.slice A n c]) (Ones.of rfl)) ?_;intro W4 hW4;have HS4:Hid (Blk W4 W2.heap.size [.string T,.string Y,.slice A n c]):=HS3.out.all hW4 rfl;have HR4:=Lib.hid (HR3.out.far hW4 (by have:=HZ2.out;omega));have HL4:=Lib.hid (HL3.out.trans (hW4.below (Nat.le_refl _)));have HT4:Hid (Strs W4 W4.heap.size A fs):=(HST.out.below HL4.out (Nat.le_refl _)).more HL4.out.size;have HB4:=Lib.hid (bthen HB2.out HL4.out);clear hW4 HS3 HR3 HB3 HT3 HL3))
    try go_frame
    go_wp2_with (refine wpList_load_mid rfl 24 _ rfl W2.heap.size 0 rfl [.string T,.string Y,.slice A n c] _ HS4.out.rg Tryz.underlying24 rfl sen_size ?_)
    refine (HK A c _ HT4.out).out.mono ?_
    rintro e W5 ⟨D,rfl,hd,hb⟩
    have HD:=Lib.hid hd
    have HR5:=Lib.hid (HR4.out.on hb)
    have HB5:=Lib.hid (bthen HB4.out hb)
    have HZ5:Hid (w.heap.size < W4.heap.size∧w.heap.size < W5.heap.size):=⟨HR4.out.lt,HR5.out.lt⟩
    clear hd hb HS4 HR4 HT4 HB4 HL4 HK
    dsimp only
    go_wp2_with (first
      | (refine wpList_alloc_new rfl 46 rfl zNm (zero_Nm _) ?_;intro W6 hW6;have HA:=Lib.hid (Blk.newL (L:=nmL 0 ByteArray.empty zGga zRmc zGsa zVtg zGsv) hW6 rfl);have HR6:=Lib.hid (HR5.out.grew hW6);have HB6:=Lib.hid (bthen HB5.out hW6.bel);have HL6:=Lib.hid hW6.bel;clear hW6 HR5)
      | (refine wpList_store_in rfl 46 _ _ rfl W5.heap.size 0 D rfl rfl (nm_thereC HA.out zLens HD.out) (nm_sizeC HD.out) HD.out.ones ?_;intro W7 hW7;have HM7:Hid (Blk W7 W5.heap.size D.toList):=HA.out.all hW7 (nm_lenC HD.out);have HR7:=Lib.hid (HR6.out.far hW7 (by have:=HZ5.out;omega));have HL7:=Lib.hid (HL6.out.trans (hW7.below (Nat.le_refl _)));have HB7:=Lib.hid (bthen HB5.out HL7.out);clear hW7 HR6 HA HB6 HL6)
      | refine wpList_load_mid rfl 46 _ rfl W5.heap.size 0 rfl D.toList _ HM7.out.rg Tryz.underlying46 rfl (by rw [Array.length_toList];exact nm_sizeC HD.out) ?_
      | (refine wpList_store_in rfl 46 _ _ rfl w.heap.size 0 D rfl rfl (nm_thereC HR7.out zLens HD.out) (nm_sizeC HD.out) HD.out.ones ?_;intro W8 hW8;have HM8:Hid (Blk W8 w.heap.size D.toList):=HR7.out.all hW8 (nm_lenC HD.out);have HB8:=Lib.hid (HB7.out.trans (hW8.below (Nat.le_refl _)));have HD8:=Lib.hid ((HD.out.on HL7.out).far hW8 HZ5.out.1);clear hW8 HR7 HB7))
    have HLD:=Lib.hid (run_loadVar_mid (P:=Tryz.prog) _ w.heap.size 0 46 _ _ HM8.out.rg Tryz.underlying46 rfl (by rw [Array.length_toList];exact nm_sizeC HD.out))
    refine bodyPost_ret (v:=.tuple #[.agg D,.int .i64 (N:Int),.int .i64 F]) (by rw [results_cell_tmp2 rfl];simp [asAddr,Result.andThen,HLD.out]) rfl ?_
    rw [HX.out]
    exact⟨D,rfl,HD8.out.less (by have:=HZ5.out;omega),HB8.out⟩
  · have HX:Hid (dec30 t=(zD30,0,E)):=HD.out.trans (if_neg h0)
    have hne:(E != 0)=true:=by rw [bne_iff_ne];exact h0
    clear HD HK
    go_wp2_with (first
      | (refine wpList_alloc_new rfl 24 rfl #[.string ByteArray.empty,.string ByteArray.empty,.slice none 0 0] (by kernel_rfl) ?_;intro W3 hW3;have HS3:=Lib.hid (Blk.newL (L:=[.string ByteArray.empty,.string ByteArray.empty,.slice none 0 0]) hW3 rfl);have HR3:=Lib.hid (HR2.out.grew hW3);have HB3:=Lib.hid (bthen HB2.out hW3.bel);clear hW3 HR2)
      | (refine wpList_store_in rfl 24 _ _ rfl W2.heap.size 0 #[.string T,.string Y,.slice A n c] rfl rfl (HS3.out.there 0 3 (by decide)) sen_size (Ones.arr (L:=[.string T,.string Y,.slice A n c]) (Ones.of rfl)) ?_;intro W4 hW4;have HR4:=Lib.hid (HR3.out.far hW4 (by have:=HZ2.out;omega));have HB4:=Lib.hid (HB3.out.trans (hW4.below (by have:=HZ2.out;omega)));clear hW4 HS3 HR3 HB3)
      | refine wpList_build0 rfl 46 rfl (build_Nm0 _) ?_
      | (refine wpList_store_in rfl 46 _ _ rfl w.heap.size 0 zNm rfl rfl (nm_thereC HR4.out zLens (NmV.zero 0 w)) (nm_sizeC (NmV.zero 0 w)) (NmV.zero 0 w).ones ?_;intro W7 hW7;have HM7:Hid (Blk W7 w.heap.size zNm.toList):=HR4.out.all hW7 (nm_lenC (NmV.zero 0 w));have HB7:=Lib.hid (HB4.out.trans (hW7.below (Nat.le_refl _)));clear hW7 HR4 HB4))
    have HLD:=Lib.hid (run_loadVar_mid (P:=Tryz.prog) _ w.heap.size 0 46 _ _ HM7.out.rg Tryz.underlying46 rfl (by rw [Array.length_toList];exact nm_sizeC (NmV.zero 0 w)))
    refine bodyPost_ret (v:=.tuple #[.agg zNm,.int .i64 0,.int .i64 E]) (by rw [results_cell_tmp2 rfl];simp [asAddr,Result.andThen,HLD.out]) rfl ?_
    rw [HX.out]
    exact⟨zNm,rfl,NmV.zero _ _,HB7.out⟩
def exD:NmD:=⟨4,⟨#[71,80]⟩,zeroF,zeroM,zeroS,zV4,zeroG⟩
def exT:ByteArray:=⟨#[36,71,80,86,84,71,44,44,44,44,44,44,44,44,42,53,50,13,10]⟩
theorem ex_enc:enc30 exD=(exT,0):=by decide +kernel
theorem ex_dec:(dec30 exT).2=(19,0)∧(dec30 exT).1=exD:=by
  refine⟨by decide +kernel,?_⟩
  kernel_rfl
theorem ex_list:(exT.toList==[36,71,80,86,84,71,44,44,44,44,44,44,44,44,42,53,50,13,10])=true:=by
  rw [ByteArray.toList_eq]
  rfl
theorem build_ex (w:World):(Instr.build 46 #[(0,.int .i64 4),(1,.string ⟨#[71,80]⟩)]).run Tryz.prog w=.ok (.agg (nmL 4 ⟨#[71,80]⟩ zGga zRmc zGsa zVtg zGsv).toArray) w:=by kernel_rfl
theorem exV (lo:Nat) (w:World):NmV lo w (nmL 4 ⟨#[71,80]⟩ zGga zRmc zGsa zVtg zGsv).toArray exD:=⟨_,_,rfl,SlI.nil _ _,SlV.nil _ _⟩
theorem num30_any (E:Int) (w:World):Calls Tryz.prog 14 #[.int .i64 E] w fun e w'=>e=.returned (.int .i64 E)∧w=w':=by
  go_enter Tryz.func14,Tryz.ntmps14
  go_wp2
  go_ret
  exact⟨rfl,rfl⟩
set_option maxRecDepth 8000 in
set_option maxHeartbeats 4000000 in
theorem knows30_any (w:World):Calls Tryz.prog 8 #[] w fun e w'=>e=.returned (.bool true)∧Below w.heap.size w w':=by
  have HE:∀ W,Hid (Calls Tryz.prog 15 #[.agg (nmL 4 ⟨#[71,80]⟩ zGga zRmc zGsa zVtg zGsv).toArray] W (EncOut (exT,0) W)):=fun W=>by rw [← ex_enc];exact nmEncode_go (X:=put30 exD) (Y:=putS (put30 exD).1.1 (put30 exD).1.2.1 (put30 exD).1.2.2) (exV 0 W) (fun W' hb=>nmPut_vtg (exV 0 W') rfl (by decide) (by decide)) fun _ A c W' hs=>Put_any (put30 exD).1.1 (put30 exD).1.2.1 (put30 exD).1.2.2 A c W' (by decide +kernel) (by decide +kernel) hs
  have HD:∀ W,Hid (Calls Tryz.prog 11 #[.string exT] W (DecOut (exD,19,0) W)):=fun W=>by
    have h:=nmDecode_any (t:=exT) (w:=W) (by decide)
    rw [show dec30 exT=(exD,19,0) from Prod.ext ex_dec.2 ex_dec.1] at h
    exact h
  have HB:=fun W=>Lib.hid (build_ex W)
  go_enter Tryz.func8,Tryz.ntmps8
  go_wp2_with (refine wpList_build2 (u:=.int .i64 4) (u':=.string ⟨#[71,80]⟩) rfl 46 0 1 _ _ rfl rfl rfl (HB _).out ?_)
  refine (HE _).out.mono ?_
  rintro e W1 ⟨rfl,hb1⟩
  have HB1:=Lib.hid hb1
  clear hb1
  dsimp only
  go_wp2_with fail
  refine (HD _).out.mono ?_
  rintro e W2 ⟨D,rfl,hd,hb⟩
  have HDD:=Lib.hid hd
  have HB2:=Lib.hid (bthen HB1.out hb)
  clear hd hb HB1 HD HE
  dsimp only
  go_upto_region 3 with (first
    | (refine wpList_alloc_new rfl 46 rfl zNm (zero_Nm _) ?_;intro W6 hW6;have HA:=Lib.hid (Blk.newL (L:=nmL 0 ByteArray.empty zGga zRmc zGsa zVtg zGsv) hW6 rfl);have HL6:=Lib.hid hW6.bel;clear hW6)
    | (refine wpList_store_in rfl 46 _ _ rfl W2.heap.size 0 D rfl rfl (nm_thereC HA.out zLens HDD.out) (nm_sizeC HDD.out) HDD.out.ones ?_;intro W7 hW7;have HM7:Hid (Blk W7 W2.heap.size D.toList):=HA.out.all hW7 (nm_lenC HDD.out);have HL7:=Lib.hid (HL6.out.trans (hW7.below (Nat.le_refl _)));have HB7:=Lib.hid (bthen HB2.out HL7.out);clear hW7 HA HL6))
  try go_frame
  try (apply wp_seq_k;intro K_ HK_)
  apply wp_region_lit
  have ex1:(exT.toList==[36,71,80,86,84,71,44,44,44,44,44,44,44,44,42,53,50,13,10])=true:=ex_list
  repeat (fail_if_success (with_reducible show Calls _ _ _ _ _)
          first | go_values | go_skip | go_guarded | go_step | go_upon)
  refine (num30_any _ _).mono ?_
  rintro e W' ⟨rfl,rfl⟩
  dsimp only
  repeat (fail_if_success (with_reducible show Oper.wp _ ⟨some 24, _, _, _, _, _⟩ _ _ _ _)
          first | go_values | go_skip | go_guarded | go_step | go_upon)
  refine wp_load_mid _ _ rfl W2.heap.size 0 rfl D.toList _ HM7.out.rg Tryz.underlying46 rfl (by rw [Array.length_toList];exact nm_sizeC HDD.out) ?_
  have hbx:=build_ex
  repeat (fail_if_success (with_reducible show Calls _ _ _ _ _)
          first | go_values | go_skip | go_guarded | go_step | go_upon)
  refine (r30Same_any (HDD.out.on HL7.out) (exV 0 _) (by decide) (by decide)).mono ?_
  rintro e W8 ⟨rfl,hb⟩
  have HB8:=Lib.hid (bthen HB7.out hb)
  clear hb HM7 HL7 HB7
  dsimp only
  repeat (fail_if_success (with_reducible show Calls _ _ _ _ _)
          first | go_values | go_skip | go_guarded | go_step | go_upon)
  refine (num30_any _ _).mono ?_
  rintro e W' ⟨rfl,rfl⟩
  go_wp2_with fail
  go_ret
  exact⟨rfl,HB8.out⟩
theorem only30_ids {t:ByteArray} {m:NmD} (h1:m.s.ids.length≤1000000) (h2:m.u.L.length≤1000000):(only30 t m).s.ids.length≤1000000∧(only30 t m).u.L.length≤1000000:=by
  have e1:zeroS.ids.length≤1000000:=by decide
  have e2:zeroG.L.length≤1000000:=by decide
  unfold only30
  split
  · exact⟨e1,e2⟩
  split
  · exact⟨e1,e2⟩
  split
  · exact⟨h1,e2⟩
  split
  · exact⟨e1,e2⟩
  split
  · exact⟨e1,h2⟩
  · exact⟨e1,e2⟩
end Go.Proofs.YtoabkoniegmkaaaGreat
