/- Layer 23: fits; digits. -/
import Derived.Test.YtaiepcgfofpmjaaGreatS08
import Derived.Lib.TrimByte
namespace Go.Proofs.YtaiepcgfofpmjaaGreat
set_option linter.unusedVariables false
open Go.RowKit
def digF:Nat→Nat→Nat→List UInt8
  | 0,_,_=>[]
  | f+1,n,l=>if 0 < n∨0 < l then digF f (n / 10) (l - 1)++[UInt8.ofNat (48+n % 10)] else []
def digL (n l:Nat):List UInt8:=digF 20 n l
theorem digF_stop (f:Nat):digF f 0 0=[]:=by cases f <;> simp [digF]
theorem digF_step (f n l:Nat) (h:0 < n∨0 < l):digF (f+1) n l=digF f (n / 10) (l - 1)++[UInt8.ofNat (48+n % 10)]:=by rw [digF,if_pos h]
theorem digF_len (f:Nat):∀ n l,(digF f n l).length≤f:=by
  induction f with
  | zero=>intro n l;simp [digF]
  | succ f ih=>
    intro n l
    unfold digF
    split
    · have:=ih (n / 10) (l - 1);simp;omega
    · simp
def Tail (w:World) (g:Nat) (suf:List UInt8):Prop:=
  (∀ j,j < 20→∃ v,w.cell? ⟨g,j,none⟩=some v)∧∀ j (h:j < suf.length),w.cell? ⟨g,20 - suf.length+j,none⟩=some (.int .u8 (suf[j].toNat:Int))
theorem Tail.put {w:World} {g:Nat} {suf:List UInt8} (h:Tail w g suf) (a:Nat) (ha:a+suf.length=19) (c:UInt8) (z:Int) (hz:z=(c.toNat:Int)):Tail (w.setCell ⟨g,a,none⟩ (.int .u8 z)) g (c :: suf):=by
  subst hz
  obtain⟨h1,h2⟩:=h
  have key:∀ j,j≠a→(w.setCell ⟨g,a,none⟩ (.int .u8 (c.toNat:Int))).cell? ⟨g,j,none⟩=w.cell? ⟨g,j,none⟩:=fun j hj=>World.cell?_setCell_other w _ _ _ (fun e=>by injection e with _ e;exact hj e.symm)
  obtain⟨v,hv⟩:=h1 a (by omega)
  have same:(w.setCell ⟨g,a,none⟩ (.int .u8 (c.toNat:Int))).cell? ⟨g,a,none⟩=some (.int .u8 (c.toNat:Int)):=World.cell?_setCell_same w _ _ hv
  refine⟨fun j hj=>?_,fun j hj=>?_⟩
  · by_cases e:j=a
    · subst e;exact⟨_,same⟩
    · rw [key j e];exact h1 j hj
  · cases j with
    | zero=>
      rw [List.length_cons,show 20 - (suf.length+1)+0=a from by omega]
      exact same
    | succ j=>
      rw [List.length_cons] at hj ⊢
      rw [show 20 - (suf.length+1)+(j+1)=20 - suf.length+j from by omega,key _ (by omega)]
      exact h2 j (by omega)
theorem digits_new (w:World) (o:Array Value) (T:TypeId) (ho:o.size=20):Tail (w.alloc (.cells o T)) w.heap.size []:=by
  refine⟨fun j hj=>?_,fun j hj=>absurd hj (by simp)⟩
  rw [World.cell?_alloc_new]
  exact⟨o[j]'(by omega),by rw [Array.getElem?_eq_getElem]⟩
def toB (l:List UInt8):ByteArray:=⟨l.toArray⟩
theorem B_toList (t:ByteArray):toB t.data.toList=t:=by obtain⟨⟨l⟩⟩:=t;rfl
theorem toList_B (l:List UInt8):(toB l).data.toList=l:=by simp [toB]
theorem size_B (l:List UInt8):(toB l).size=l.length:=by show l.toArray.size=_;simp
theorem toB_append (a b:List UInt8):toB a++toB b=toB (a++b):=by
  apply ByteArray.ext
  simp [toB,ByteArray.data_append]
theorem toList_len (s:ByteArray):s.toList.length=s.size:=by rw [ByteArray.toList_eq];simp
set_option maxRecDepth 8000 in
set_option maxHeartbeats 2000000 in
theorem r23DigitsW_any (n l:Nat) (w:World) (hn:n≤9223372036854775807) (hl:l≤18) :
    Calls Tryz.prog 103 #[.int .i64 (n:Int),.int .i64 (l:Int)] w fun e w'=>e=.returned (.string (toB (digL n l)))∧Below w.heap.size w w':=by
  have HN19:Hid (n < 10 ^ (20 - 0 - 1)):=by
    have:(10:Nat) ^ (20 - 0 - 1)=10000000000000000000:=by decide
    show n < _
    omega
  have kc:=run_conv1 (P:=Tryz.prog) 22 9 5 Tryz.underlying22 Tryz.underlying5 Tryz.underlying9
  go_enter Tryz.func103,Tryz.ntmps103
  go_wp2
  go_loopw [0,5] (fun v s wr=>∃ (m:Nat) (S:ByteArray),v=.int .i64 (m:Int)∧s=.string S∧S.size≤20∧m≤9223372036854775807∧Hid (m < 10 ^ (20 - S.size - 1))∧Hid (digL n l=digF (20 - S.size) m (l - S.size)++S.data.toList)∧Hid (Below w.heap.size w wr)) (fun _ s _=>20 - Lib.strSize s)
  case atStart=>
    exact⟨n,⟨#[]⟩,rfl,rfl,by decide,hn,HN19,Lib.hid (by show digL n l=digF 20 n (l - 0)++[];rw [List.append_nil];rfl),Lib.hid (Below.refl _ _)⟩
  case round=>
    obtain⟨m,S,rfl,rfl,hz,hm,hp,hd,hb⟩:=hrel
    by_cases hgo:0 < m∨S.size < l
    · have hz1:S.size < 20:=by
        have h2:=hp.out
        rcases Nat.lt_or_ge S.size 20 with h | h
        · exact h
        · have e:20 - S.size - 1=0:=by omega
          rw [e] at h2
          have:m < 1:=h2
          omega
      have hp2:Hid (m / 10 < 10 ^ (20 - (S.size+1) - 1)):=by
        have h2:=hp.out
        show _ < _
        by_cases e:S.size=19
        · rw [e] at h2 ⊢
          have:m < 1:=h2
          show m / 10 < 1
          omega
        · rw [show 20 - S.size - 1=(20 - (S.size+1) - 1)+1 from by omega,Nat.pow_succ] at h2
          omega
      have hd2:Hid (digL n l=digF (20 - (S.size+1)) (m / 10) (l - (S.size+1))++(UInt8.ofNat (48+m % 10) :: S.data.toList)):=by
        show _=_
        rw [hd.out,show 20 - S.size=(20 - (S.size+1))+1 from by omega,digF_step _ _ _ (by omega),List.append_assoc]
        rfl
      have hgo2:0 < (m:Int)∨(m:Int)≤0∧(S.size:Int) < (l:Int):=by omega
      have hof:UInt8.ofNat (48+m % 10)=48+UInt8.ofNat (m % 10):=by rw [UInt8.ofNat_add];rfl
      rw [hof] at hd2
      have hnext:Hid (∃ (m2:Nat) (S2:ByteArray),Value.int .i64 ((m:Int) / 10)=.int .i64 (m2:Int)∧Value.string (⟨#[48+UInt8.ofNat (m % 10)]⟩++S)=.string S2∧S2.size≤20∧m2≤9223372036854775807∧Hid (m2 < 10 ^ (20 - S2.size - 1))∧Hid (digL n l=digF (20 - S2.size) m2 (l - S2.size)++S2.data.toList)):=by
        have z1:(ByteArray.mk #[48+UInt8.ofNat (m % 10)]++S).size=S.size+1:=by
          rw [ByteArray.size_append]
          have:(ByteArray.mk #[48+UInt8.ofNat (m % 10)]).size=1:=rfl
          omega
        refine⟨m / 10,_,rfl,rfl,by omega,by omega,by rw [z1];exact hp2,?_⟩
        rw [z1]
        show _=_
        rw [hd2.out]
        congr 1
      have hbn:Hid (∀ z:Int,Below w.heap.size w (wr.alloc (.cells #[.int .u8 z] 5))):=fun z=>hb.out.alloc hb.out.size _
      have hms:20 - Lib.strSize (.string (⟨#[48+UInt8.ofNat (m % 10)]⟩++S)) < 20 - Lib.strSize (.string S):=by
        rw [Lib.strSize_string,Lib.strSize_string,ByteArray.size_append]
        have:(ByteArray.mk #[48+UInt8.ofNat (m % 10)]).size=1:=rfl
        omega
      have HMS:=Lib.hid hms
      clear hp hd hgo hof hd2 hp2 hms HN19 hn
      rcases hgo2 with h | ⟨h,h'⟩
      · go_wp2
        go_round
        case rel=>
          obtain⟨m2,S2,q1,q2,q3,q4,q5,q6⟩:=hnext.out
          exact⟨m2,S2,q1,q2,q3,q4,q5,q6,Lib.hid (hbn.out _)⟩
        case measure=>exact HMS.out
      · obtain rfl:m=0:=by omega
        clear h
        go_wp2
        go_round
        case rel=>
          obtain⟨m2,S2,q1,q2,q3,q4,q5,q6⟩:=hnext.out
          exact⟨m2,S2,q1,q2,q3,q4,q5,q6,Lib.hid (hbn.out _)⟩
        case measure=>exact HMS.out
    · have h1:(m:Int)≤0:=by omega
      have h2:(l:Int)≤(S.size:Int):=by omega
      have hres:Hid (digL n l=S.data.toList):=by
        have h3:=hd.out
        rw [show m=0 from by omega,show l - S.size=0 from by omega,digF_stop] at h3
        exact h3
      clear hp hd hgo HN19 hn hm
      go_wp2
      go_ret
      exact⟨by rw [hres.out,B_toList];rfl,hb.out⟩
end Go.Proofs.YtaiepcgfofpmjaaGreat
