/- Parts. -/
import Derived.Lib.IndexBytes
import Derived.Lib.Bytealg
import Derived.Lib.IndexEntry
import Derived.Test.YtdkhlkfleggbaaaGreatQ30
import Derived.Test.YtdkhlkfleggbaaaGreatQ25
import Derived.Test.YtdkhlkfleggbaaaGreatQ08
namespace Go.Proofs.YtdkhlkfleggbaaaGreat
set_option maxHeartbeats 2000000
set_option maxRecDepth 8000
open Lib (hid)
open Tryz
set_option linter.unusedVariables false
open Go.RowKit
set_option maxRecDepth 100000 in
theorem aer (s:ByteArray) (c:Int) (w:World) :
 Calls prog 130 #[.string s,.int .u8 c] w fun e w'=>e=.returned (.int .i64 (Lib.indexByte s.data.toList c.toNat.toUInt8))∧w=w':=by
 go_enter func130,ntmps130;go_wp2;rw[run_callFunc_extern func203 kr kr kr (e:=Extern.BytealgIndexByte.indexByte) kr,Lib.run_indexByteString];simp only[Result.andThen];rw[Oper.upon_value];go_wp2;go_ret;exact⟨rfl,rfl⟩
set_option maxRecDepth 100000 in
theorem ari (s:ByteArray) (c:Int) (w:World) :
 Calls prog 97 #[.string s,.int .u8 c] w fun e w'=>e=.returned (.int .i64 (Lib.indexByte s.data.toList c.toNat.toUInt8))∧w=w':=by
 go_enter func97,ntmps97;go_wp2_with fail;refine(aer _ _ _).mono ?_;rintro e w' ⟨rfl,rfl⟩;go_wp2;go_ret;exact⟨rfl,rfl⟩
theorem air (s:ByteArray) (c:UInt8) (w:World) :
 Calls prog 204 #[.string s,.string ⟨#[c]⟩] w fun e w'=>e=.returned (.int .i64 (Lib.indexByte s.data.toList c))∧w=w':=by
 go_enter func204,ntmps204;go_wp2_with (go_at_call 130;refine(aer _ _ _).mono ?_;rintro e w' ⟨rfl,rfl⟩)
 ·have h:([c]==s.toList)=true:=by assumption
  go_ret;refine⟨?_,rfl⟩;have e:s.data.toList=[c]:=by rw[← Lib.toList_data];exact(beq_iff_eq.1 h).symm
  rw[e];simp[Lib.indexByte]
 ·go_ret;exact⟨rfl,rfl⟩
def ae2 (s:ByteArray) (c:UInt8):Int:=Lib.indexByte s.data.toList c
theorem a4e (s:ByteArray) (c:UInt8) (w:World) (h:Hid (ae2 s c<0)) :
 Calls prog 134 #[.string s,.string ⟨#[c]⟩] w fun e w'=>e=.returned (.tuple #[.string s,.string ByteArray.empty,.bool false])∧Below w.1.size w w':=by
 obtain⟨I,hI⟩:∃I,I=Lib.indexByte s.data.toList c:=⟨_,rfl⟩;have hn:I<0:=by rw[hI];exact h.out
 have HI:=hid hI;clear hI;go_enter func134,ntmps134;go_wp2_with fail;refine(air _ _ _).mono ?_;rintro e w' ⟨rfl,rfl⟩;rw[← HI.out];go_wp2_with fail
 go_ret3
 exact⟨rfl,Below.refl _ _⟩
theorem azt (s:ByteArray) (c:UInt8) (i:Nat) (w:World) (hs:s.size≤1000000) (hi:i<s.size) (h:Hid (ae2 s c=(i:Int))) :
 Calls prog 134 #[.string s,.string ⟨#[c]⟩] w fun e w'=>e=.returned (.tuple #[.string (s.extract 0 i),.string (s.extract (i+1) s.size),.bool true])∧Below w.1.size w w':=by
 have i1:(0:Int) ≤(i:Int):=Int.natCast_nonneg _;have i2:(i:Int) ≤(s.size:Int):=by omega
 have i5:(0:Int) ≤(i:Int)+1:=by omega
 have i6:(i:Int)+1 ≤(s.size:Int):=by omega
 have i4:IntKind.i64.wrap ((i:Int)+1)=(i:Int)+1:=IntWalk.i64_in _ om;have i7:((i:Int)+1).toNat=i+1:=by omega
 go_enter func134,ntmps134;go_wp2_with fail;refine(air _ _ _).mono ?_;rintro e w' ⟨rfl,rfl⟩;rw[show Lib.indexByte s.data.toList c=(i:Int)from h.out];go_wp2_with fail
 go_quiet (fail)
 go_wp2_with fail
 go_ret3
 exact⟨rfl,aab (Below.refl _ _) _⟩
theorem bjp (s:ByteArray) (c:UInt8) (w:World) (h:Hid (ae2 s c<0)) :
 Calls prog 101 #[.string s,.string ⟨#[c]⟩] w fun e w'=>e=.returned (.tuple #[.string s,.string ByteArray.empty,.bool false])∧Below w.1.size w w':=by
 go_enter func101,ntmps101;go_wp2_with fail;refine(a4e _ _ _ h).mono ?_;rintro e w1 ⟨rfl,hb⟩;go_wp2_with fail
 go_ret3
 exact⟨rfl,hb⟩
theorem bf9 (s:ByteArray) (c:UInt8) (i:Nat) (w:World) (hs:s.size≤1000000) (hi:i<s.size) (h:Hid (ae2 s c=(i:Int))) :
 Calls prog 101 #[.string s,.string ⟨#[c]⟩] w fun e w'=>e=.returned (.tuple #[.string (s.extract 0 i),.string (s.extract (i+1) s.size),.bool true])∧Below w.1.size w w':=by
 go_enter func101,ntmps101;go_wp2_with fail;refine(azt _ _ i _ hs hi h).mono ?_;rintro e w1 ⟨rfl,hb⟩;go_wp2_with fail
 go_ret3
 exact⟨rfl,hb⟩
def okC (c:Int):Bool:=c==42 || acv c
def v9 (t:ByteArray):Nat→Nat→Nat×Int
 | 0,_=>(0,7)
 | f+1,i=>if h:i<t.size then(if(t[i].toNat:Int)=13 then(i,0)else if okC (t[i].toNat:Int)then v9 t f (i+1)else(0,3))else(0,2)
def ja (t:ByteArray):Nat×Int:=v9 t 80 1
def ke (t:ByteArray):ByteArray:=if(ja t).2=0 then t.extract 1 (ja t).1 else ByteArray.empty
theorem a0t (t:ByteArray) (f i:Nat) (h:i<t.size) (hc:(t[i].toNat:Int)=13):v9 t (f+1) i=(i,0):=by
 unfold v9;rw[dif_pos h,if_pos hc]
theorem aqk (t:ByteArray) (f i:Nat) (h:i<t.size) (hc:(t[i].toNat:Int)≠13) (ho:okC (t[i].toNat:Int)=true):v9 t (f+1) i=v9 t f (i+1):=by
 rw[v9,dif_pos h,if_neg hc,if_pos ho]
theorem bah (t:ByteArray) (f i:Nat) (h:i<t.size) (hc:(t[i].toNat:Int)≠13) (ho:okC (t[i].toNat:Int)=false):v9 t (f+1) i=(0,3):=by
 rw[v9,dif_pos h,if_neg hc,if_neg (by rw[ho];decide)]
theorem a0u (t:ByteArray) (f i:Nat) (h:¬i<t.size):v9 t (f+1) i=(0,2):=by
 rw[v9,dif_neg h]
theorem ad4 (t:ByteArray) (w:World) (hm:t.size≤1000000) :
 Calls prog 79 #[.string t] w fun e w'=>e=.returned (.tuple #[.string (ke t),.int .i64 (ja t).2])∧w=w':=by
 go_enter func79,ntmps79;go_wp2
 go_loop [4] (fun i=>∃k:Nat,1≤k∧k≤81∧i=.int .i64 k∧Hid (v9 t (81-k) k=ja t)) (fun i=>81-(intOf i).toNat)
 case atStart=>exact⟨1,by omega,by omega,rfl,rfl⟩
 case round=>
  obtain⟨k,hk0,hk,rfl,he⟩:=hrel
  by_cases h81:k<81
  ·have hf:Hid (81-k=(80-k)+1):=by show _=_;omega
   by_cases hlt:k<t.size
   ·have hu:=t[k].toNat_lt
    by_cases h13:(t[k].toNat:Int)=13
    ·have HE:Hid (ja t=(k,0)):=by show _=_;rw[← he.out,hf.out,a0t t _ k hlt h13]
     have hb:((t[k].toNat:Int)==13)=true:=by rw[beq_iff_eq];exact h13
     clear h13;go_wp2_with fail
     go_ret2
     exact⟨by first|(unfold ke;rw[HE.out];rfl)|(rw[HE.out];rfl),rfl⟩
    ·have hb:((t[k].toNat:Int)==13)=false:=by rw[beq_eq_false_iff_ne];exact h13
     cases hl:acv (t[k].toNat:Int)with
     | true=>
      have HE:Hid (v9 t (81-(k+1)) (k+1)=ja t):=by show _=_;rw[← he.out,hf.out,aqk t _ k hlt h13 (by unfold okC;rw[hl];simp)];rw[show 81-(k+1)=80-k from by omega]
      have hn42:(t[k].toNat:Int)≠42:=by intro h;rw[h]at hl;exact absurd hl dc
      have hb42:((t[k].toNat:Int) != 42)=true:=by rw[bne_iff_ne];exact hn42
      have HL:=hid hl;clear hl h13 hn42;go_wp2_with fail;refine(ajh _ _).mono ?_;rintro e w' ⟨rfl,rfl⟩;rw[HL.out];go_wp2_with fail
      go_round
      case rel=>exact⟨k+1,by omega,by omega,by go_num,HE⟩
      case measure=>simp[intOf];omega
     | false=>
      by_cases h42:(t[k].toNat:Int)=42
      ·have HE:Hid (v9 t (81-(k+1)) (k+1)=ja t):=by show _=_;rw[← he.out,hf.out,aqk t _ k hlt h13 (by unfold okC;rw[h42];rfl)];rw[show 81-(k+1)=80-k from by omega]
       have hb42:((t[k].toNat:Int) != 42)=false:=by rw[bne_eq_false_iff_eq];exact h42
       have HL:=hid hl;clear hl h13 h42;go_wp2_with fail
       first
        | (refine(ajh _ _).mono ?_
           rintro e w' ⟨rfl,rfl⟩;rw[HL.out];go_wp2_with fail)
        | skip
       go_round
       case rel=>exact⟨k+1,by omega,by omega,by go_num,HE⟩
       case measure=>simp[intOf];omega
      ·have HE:Hid (ja t=(0,3)):=by show _=_;rw[← he.out,hf.out,bah t _ k hlt h13 (by unfold okC;rw[hl,beq_eq_false_iff_ne.2 h42];rfl)]
       have hb42:((t[k].toNat:Int) != 42)=true:=by rw[bne_iff_ne];exact h42
       have HL:=hid hl;clear hl h13 h42;go_wp2_with fail;refine(ajh _ _).mono ?_;rintro e w' ⟨rfl,rfl⟩;rw[HL.out];go_wp2_with fail
       go_ret2
       exact⟨by first|(unfold ke;rw[HE.out];rfl)|(rw[HE.out];rfl),rfl⟩
   ·have HE:Hid (ja t=(0,2)):=by show _=_;rw[← he.out,hf.out,a0u t _ k hlt]
    go_wp2_with fail
    go_ret2
    exact⟨by first|(unfold ke;rw[HE.out];rfl)|(rw[HE.out];rfl),rfl⟩
  ·have HE:Hid (ja t=(0,7)):=by show _=_;rw[← he.out,show 81-k=0 from by omega];rfl
   go_wp2_with fail
   go_ret2
   exact⟨by first|(unfold ke;rw[HE.out];rfl)|(rw[HE.out];rfl),rfl⟩
def acq (l:List UInt8):Nat:=l.count 42
theorem ai2 (a b:List UInt8):acq (a++b)=acq a+acq b:=by simp[acq]
theorem aav (s:ByteArray) (w:World):Calls prog 97 #[.string s,.int .u8 42] w fun e w'=>e=.returned (.int .i64 (ae2 s 42))∧w=w':=ari s 42 w
def zt (l:ByteArray):Bool:=
 decide (8≤l.size) && decide (ae2 l 42=(l.size:Int)-3) && acc (l.extract 0 5) 5 && (jr (l.extract (l.size-3+1) l.size).data.toList).isSome && (decide (l.size=8) || decide (l.data.toList[5]?=some 44))
theorem au5 (l:ByteArray) (w:World) (h:l.size<8):Calls prog 80 #[.string l] w fun e w'=>e=.returned (.bool false)∧Below w.1.size w w':=by
 go_enter func80,ntmps80;go_wp2;go_ret;exact⟨rfl,Below.refl _ _⟩
theorem au4 (l:ByteArray) (n:Nat) (I:Int) (w:World) (h0:n+3≤l.size) (h1:l.size≤n+3) (h5:5≤n) (hm:l.size≤1000000) (e1:(l.size:Int)-3=(n:Int)) (hI:Hid (ae2 l 42=I)) (hne:(I != (n:Int))=true) :
 Calls prog 80 #[.string l] w fun e w'=>e=.returned (.bool false)∧Below w.1.size w w':=by
 go_enter func80,ntmps80;go_wp2_with fail;refine(aav _ _).mono ?_;rintro e w' ⟨rfl,rfl⟩;rw[hI.out];go_wp2_with fail;go_ret;exact⟨rfl,Below.refl _ _⟩
theorem au6 (l:ByteArray) (n:Nat) (w:World) (h0:n+3≤l.size) (h1:l.size≤n+3) (h5:5≤n) (hm:l.size≤1000000) (e1:(l.size:Int)-3=(n:Int)) (hI:Hid (ae2 l 42=(n:Int))) (hs:Hid (acc (l.extract 0 5) 5=false)) :
 Calls prog 80 #[.string l] w fun e w'=>e=.returned (.bool false)∧Below w.1.size w w':=by
 go_enter func80,ntmps80;go_wp2_with fail;refine(aav _ _).mono ?_;rintro e w' ⟨rfl,rfl⟩;rw[hI.out];go_wp2_with fail;refine(ah6 _ 5 _).mono ?_;rintro e w1 ⟨rfl,hb1⟩;rw[hs.out];go_wp2_with fail;go_ret;exact⟨rfl,hb1⟩
theorem au7 (l:ByteArray) (n:Nat) (w:World) (h0:n+3≤l.size) (h1:l.size≤n+3) (h5:5≤n) (hm:l.size≤1000000) (e1:(l.size:Int)-3=(n:Int)) (hI:Hid (ae2 l 42=(n:Int))) (hs:Hid (acc (l.extract 0 5) 5=true))
 (hu:Hid (jr (l.extract (n+1) l.size).data.toList=none)) :
 Calls prog 80 #[.string l] w fun e w'=>e=.returned (.bool false)∧Below w.1.size w w':=by
 go_enter func80,ntmps80;go_wp2_with fail;refine(aav _ _).mono ?_;rintro e w' ⟨rfl,rfl⟩;rw[hI.out];go_wp2_with fail;refine(ah6 _ 5 _).mono ?_;rintro e w1 ⟨rfl,hb1⟩;rw[hs.out];go_wp2_with fail;refine(aop _ _ hu).mono ?_;rintro e w2 ⟨rfl,hb2⟩;go_wp2_with fail;go_ret;exact⟨rfl,qb hb1 hb2⟩
theorem ay2 (l:ByteArray) (n:Nat) (v:Int) (w:World) (h0:n+3≤l.size) (h1:l.size≤n+3) (h5:5≤n) (h6:n≤5) (hm:l.size≤1000000) (e1:(l.size:Int)-3=(n:Int)) (hI:Hid (ae2 l 42=(n:Int))) (hs:Hid (acc (l.extract 0 5) 5=true))
 (hu:Hid (jr (l.extract (n+1) l.size).data.toList=some v)) :
 Calls prog 80 #[.string l] w fun e w'=>e=.returned (.bool true)∧Below w.1.size w w':=by
 have hb:((n:Int)==5)=true:=by rw[beq_iff_eq];omega
 go_enter func80,ntmps80;go_wp2_with fail;refine(aav _ _).mono ?_;rintro e w' ⟨rfl,rfl⟩;rw[hI.out];go_wp2_with fail;refine(ah6 _ 5 _).mono ?_;rintro e w1 ⟨rfl,hb1⟩;rw[hs.out];go_wp2_with fail;refine(af0 _ v _ hu).mono ?_;rintro e w2 ⟨rfl,hb2⟩;go_wp2_with fail;go_ret;exact⟨rfl,qb hb1 hb2⟩
theorem a3z (l:ByteArray) (n:Nat) (v:Int) (b:Bool) (w:World) (h0:n+3≤l.size) (h1:l.size≤n+3) (h5:6≤n) (hm:l.size≤1000000) (e1:(l.size:Int)-3=(n:Int)) (hI:Hid (ae2 l 42=(n:Int))) (hs:Hid (acc (l.extract 0 5) 5=true))
 (hu:Hid (jr (l.extract (n+1) l.size).data.toList=some v)) (hc:(((l[5]'(by omega)).toNat:Int)==44)=b) :
 Calls prog 80 #[.string l] w fun e w'=>e=.returned (.bool b)∧Below w.1.size w w':=by
 have hb:((n:Int)==5)=false:=by rw[beq_eq_false_iff_ne];omega
 go_enter func80,ntmps80;go_wp2_with fail;refine(aav _ _).mono ?_;rintro e w' ⟨rfl,rfl⟩;rw[hI.out];go_wp2_with fail;refine(ah6 _ 5 _).mono ?_;rintro e w1 ⟨rfl,hb1⟩;rw[hs.out];go_wp2_with fail;refine(af0 _ v _ hu).mono ?_;rintro e w2 ⟨rfl,hb2⟩;go_wp2_with fail;go_ret;exact⟨rfl,qb hb1 hb2⟩
theorem bcn (s:ByteArray) (n:Nat) (h:n<s.size):(s.data.toList[n]?=some 44) ↔(s[n].toNat:Int)=44:=by
 rw[aug s n h];constructor
 ·intro h;injection h with h
  rw[h];rfl
 ·intro h
  congr 1
  apply UInt8.toNat_inj.1;have:(44:UInt8).toNat=44:=rfl;omega
theorem agc (l:ByteArray) (w:World) (hm:l.size≤1000000):Calls prog 80 #[.string l] w fun e w'=>e=.returned (.bool (zt l))∧Below w.1.size w w':=by
 by_cases h8:l.size<8
 ·have hf:zt l=false:=by unfold zt;rw[decide_eq_false (by omega:¬8≤l.size)];rfl
  rw[hf];exact au5 l w h8
 ·obtain⟨n,hn⟩:∃n,l.size=n+3:=⟨l.size-3,by omega⟩;have e1:(l.size:Int)-3=(n:Int):=by omega
  have e2:l.size-3=n:=by omega
  have d8:decide (8≤l.size)=true:=decide_eq_true om
  by_cases hI:ae2 l 42=(n:Int)
  ·have dI:decide (ae2 l 42=(l.size:Int)-3)=true:=decide_eq_true om;cases hs:acc (l.extract 0 5) 5 with
   | false=>
    have hf:zt l=false:=by unfold zt;rw[hs];simp
    rw[hf];exact au6 l n w om om om hm e1 hI hs
   | true=>
    cases hu:jr (l.extract (n+1) l.size).data.toList with
    | none=>
     have hf:zt l=false:=by unfold zt;rw[e2,hu];simp
     rw[hf];exact au7 l n w om om om hm e1 hI hs hu
    | some v=>
     have hf:zt l=(decide (l.size=8) || decide (l.data.toList[5]?=some 44)):=by unfold zt;rw[e2,hu,d8,dI,hs];rfl
     rw[hf]
     by_cases h5:n=5
     ·rw[decide_eq_true (by omega:l.size=8),Bool.true_or];exact ay2 l n v w om om om om hm e1 hI hs hu
     ·rw[decide_eq_false (by omega:¬l.size=8),Bool.false_or];refine a3z l n v _ w om om om hm e1 hI hs hu ?_;have hc:=bcn l 5 om
      by_cases h:((l[5]'(by omega)).toNat:Int)=44
      ·rw[decide_eq_true (hc.2 h),beq_iff_eq];exact h
      ·rw[decide_eq_false (fun h'=>h (hc.1 h')),beq_eq_false_iff_ne];exact h
  ·have hf:zt l=false:=by unfold zt;rw[decide_eq_false (by omega:¬ae2 l 42=(l.size:Int)-3)];simp
   rw[hf];exact au4 l n _ w om om om hm e1 rfl (by rw[bne_iff_ne];exact hI)
def kt:List UInt8→List (List UInt8)
 | []=>[[]]
 | b::l=>if b=44 then []::kt l else match kt l with
  | []=>[[b]]
  | h::r=>(b::h)::r
theorem ah8 (l:List UInt8):kt l≠[]:=by
 cases l with
 | nil=>simp[kt]
 | cons b l=>
  unfold kt
  split
  ·simp
  ·split<;>simp
def aiq (p:List UInt8):List (List UInt8)→List (List UInt8)
 | []=>[p]
 | h::r=>(p++h)::r
theorem am4 (b:UInt8) (l:List UInt8) (h:b≠44):kt (b::l)=aiq [b] (kt l):=by
 rw[kt,if_neg h];cases hs:kt l with
 | nil=>exact absurd hs (ah8 l)
 | cons x r=>rfl
theorem akw (l:List UInt8):kt (44::l)=[]::kt l:=by rw[kt,if_pos rfl]
theorem azp (p q:List UInt8) (x:List (List UInt8)) (hx:x≠[]):aiq p (aiq q x)=aiq (p++q) x:=by
 cases x with
 | nil=>exact absurd rfl hx
 | cons h r=>simp[aiq]
theorem a9e (x:List (List UInt8)) (hx:x≠[]):aiq [] x=x:=by
 cases x with
 | nil=>exact absurd rfl hx
 | cons h r=>simp[aiq]
theorem ai1 (p q:List UInt8) (h:∀c∈p,c≠44):kt (p++q)=aiq p (kt q):=by
 induction p with
 | nil=>rw[List.nil_append,a9e _ (ah8 q)]
 | cons b p ih=>
  rw[List.cons_append,am4 b _ (h b sm),ih (fun c hc=>h c (by simp[hc])),azp _ _ _ (ah8 q)];rfl
theorem a1j (p:List UInt8) (h:∀c∈p,c≠44):kt p=[p]:=by
 have:=ai1 p [] h;rw[List.append_nil]at this;rw[this];simp[kt,aiq]
theorem ba7 (p q:List UInt8) (h:∀c∈p,c≠44):kt (p++44::q)=p::kt q:=by
 rw[ai1 p _ h,akw];simp[aiq]
theorem a9i (l:List UInt8) (c:UInt8) (h:Lib.indexByte l c<0):∀x∈l,x≠c:=by
 induction l with
 | nil=>intro x hx;simp at hx
 | cons b l ih=>
  unfold Lib.indexByte at h
  by_cases hb:b==c
  ·rw[if_pos hb]at h;omega
  ·rw[if_neg hb]at h;have hge:=Lib.indexByte_ge l c
   by_cases hl:Lib.indexByte l c==-1
   ·have:Lib.indexByte l c<0:=by rw[beq_iff_eq]at hl;omega
    intro x hx;rcases List.mem_cons.1 hx with rfl|hx
    ·simpa using hb
    ·exact ih this x hx
   ·rw[if_neg hl]at h;rw[beq_iff_eq]at hl;omega
theorem azq (l:List UInt8) (c:UInt8):∀i:Nat,Lib.indexByte l c=(i:Int)→i<l.length∧l=l.take i++c::l.drop (i+1)∧∀x∈l.take i,x≠c:=by
 induction l with
 | nil=>intro i h;simp[Lib.indexByte]at h
 | cons b l ih=>
  intro i h;unfold Lib.indexByte at h
  by_cases hb:b==c
  ·rw[if_pos hb]at h;have:i=0:=by omega
   subst this;have:b=c:=by simpa using hb
   subst this;exact⟨by simp,by simp,fun x hx=>by simp at hx⟩
  ·rw[if_neg hb]at h
   by_cases hl:Lib.indexByte l c==-1
   ·rw[if_pos hl]at h;omega
   ·rw[if_neg hl]at h;have hge:=Lib.indexByte_ge l c;obtain⟨j,rfl⟩:∃j,i=j+1:=⟨i-1,by rw[beq_iff_eq]at hl;omega⟩;obtain⟨h1,h2,h3⟩:=ih j om;refine⟨by simp;omega,?_,?_⟩
    ·rw[List.take_succ_cons,List.drop_succ_cons,List.cons_append,← h2]
    ·intro x hx;rw[List.take_succ_cons]at hx;rcases List.mem_cons.1 hx with rfl|hx
     ·simpa using hb
     ·exact h3 x hx
def toS (l:List UInt8):ByteArray:=⟨l.toArray⟩
def vc (s:ByteArray):List ByteArray:=(kt s.data.toList).map toS
theorem a10 (s:ByteArray):toS s.data.toList=s:=by obtain⟨⟨l⟩⟩:=s;rfl
theorem vz (s:ByteArray) (a b:Nat):s.extract a b=toS ((s.data.toList.drop a).take (b-a)):=by
 obtain⟨⟨l⟩⟩:=s;exact ByteArray.extract_mk l a b
theorem ba6 (s:ByteArray) (h:ae2 s 44<0):vc s=[s]:=by
 unfold vc;rw[a1j _ (a9i _ _ h),List.map_singleton,a10]
theorem ba5 (s:ByteArray) (i:Nat) (h:ae2 s 44=(i:Int)):i<s.size∧vc s=s.extract 0 i::vc (s.extract (i+1) s.size):=by
 obtain⟨h1,h2,h3⟩:=azq _ _ i h;have hl:s.data.toList.length=s.size:=by simp
 refine⟨by omega,?_⟩;have e1:s.extract 0 i=toS (s.data.toList.take i):=by rw[vz];simp
 have e2:s.extract (i+1) s.size=toS (s.data.toList.drop (i+1)):=by
  rw[vz,List.take_of_length_le (by rw[List.length_drop];omega)]
 rw[e1,e2];unfold vc
 have e3:kt s.data.toList=s.data.toList.take i::kt (s.data.toList.drop (i+1)):=by
  conv=>lhs;rw[h2]
  exact ba7 _ _ h3
 rw[e3];rfl
theorem a1m {w:World} {B:Nat} {e:TypeId} {A:Option Addr} {n c:Nat} {fs:List ByteArray} (h:w.ownsRow B e 1 (.slice A n c) n (fs.map Value.string)):fs.length=n∧vy w w.1.size A fs∧aaq B A:=by
 have hl:fs.length=n:=by have:=h.1;simpa using this
 refine⟨hl,?_,fun a ha=>?_⟩
 ·intro k hk;rcases h.2 with⟨hv,h0⟩|⟨g,cap,cur,hv,_,hg,_⟩
  ·omega
  ·have hA:A=some ⟨g,0,none⟩:=by injection hv
   subst hA;have hc:=h.cells (g:=g) rfl k (.string fs[k]) (by simp[hk])
   exact⟨g,0,rfl,(Array.getElem?_eq_some_iff.1 hg).1,by
    have:(⟨g,0,none⟩:Addr).add k=⟨g,0+k,none⟩:=by unfold Addr.add;split<;>simp_all
    rw[← this];exact hc⟩
 ·rcases h.2 with⟨hv,h0⟩|⟨g,cap,cur,hv,hb,hg,_⟩
  ·have hA:A=none:=by injection hv
   rw[hA]at ha;cases ha
  ·have hA:A=some ⟨g,0,none⟩:=by injection hv
   rw[hA]at ha;injection ha with ha
   rw[← ha];exact hb
theorem atg {w w':World} {B:Nat} {e:TypeId} {size n:Nat} {v:Value} {xs:List Value} (h:w.ownsRow B e size v n xs) (hb:Below w.1.size w w'):w'.ownsRow B e size v n xs:=
 h.kept (row:=none) ⟨hb.os,hb.tape,hb.output,hb.size,fun i hi _=>hb.block i hi⟩ (Classical.em _)
theorem beq {w:World} {B:Nat} {e:TypeId} {size n:Nat} {v:Value} {xs:List Value} (h:w.ownsRow B e size v n xs):∃A c,v=.slice A n c:=by
 rcases h.2 with⟨hv,h0⟩|⟨g,cap,cur,hv,_⟩
 ·exact⟨none,0,by rw[hv,h0]⟩
 ·exact⟨_,_,hv⟩
def a7j:Value→Nat
 | .string s=>s.size
 | _=>0
theorem bfk:(prog.info? 9).map (fun i=>(i.zero,i.size,i.bytes))=some (some (.string ByteArray.empty),1,16):=by kernel_rfl
def bcc (fs:List ByteArray) (w:World) (e:Ending) (w':World):Prop:=
 ∃A c,e=.returned (.slice A fs.length c)∧vy w' w'.1.size A fs∧aaq w.1.size A∧Below w.1.size w w'
theorem bgv (S:ByteArray) (w:World) (hm:S.size≤100000) :
 Calls prog 82 #[.string S] w (bcc (vc S) w):=by
 obtain⟨i0,hi,hz0,hz1,hz2⟩:=info_parts bfk;go_enter func82,ntmps82;go_wp2
 go_step3
 go_wp2
 go_step3
 go_wp2;have hS0:Hid (vc S=[]++vc S):=rfl
 go_loopw [0,3] (fun sv v wr=>∃(s:ByteArray) (parts:List ByteArray),sv=.string s∧parts.length+s.size≤S.size∧Hid (wr.ownsRow w.1.size 9 1 v parts.length (parts.map Value.string))∧Below w.1.size w wr∧Hid (vc S=parts++vc s)) (fun sv _ _=>a7j sv)
 case atStart=>exact⟨S,[],rfl,by simp,World.ownsRow_nil _ _ _ _,Below.refl _ _,hS0⟩
 case round=>
  obtain⟨s,parts,rfl,hlen,hown,hbr,hsp⟩:=hrel;have hzr:=hbr.size
  by_cases hc:ae2 s 44<0
  ·have HN:=hid (ba6 s hc);have HC:=hid hc;clear hc;go_wp2_with fail;refine(bjp s 44 _ HC).mono ?_;rintro e w1 ⟨rfl,hb1⟩;have hs1:=hb1.size;have HO:=hid (atg hown.out hb1);go_wp2_with (at_builtin;refine wpList_append_own _ rfl _ _ 148 rfl w.1.size 9 i0 (.string ByteArray.empty) 1 16 underlying148 hi hz0 hz1 hz2 rfl dc _ _ _ rfl (HO.out.alloc _) ⟨w1.1.size,0,none⟩ 1 1 [.string s] rfl rfl ?c1 ?c2 ?c3 ?c4 ?c5 ?_)
   case c1=>exact cell_one_new _ _ _
   case c2=>intro u hu;simp at hu;subst hu;rfl
   case c3=>unfold maxLen;omega
   case c4=>omega
   case c5=>simp;omega
   intro v' w2 hown' hgrow _;have hbb:Hid (Below w.1.size w w2):=(((hbr.trans (hb1.mono om)).alloc om _).grown hgrow (by simp;omega) (fun k hk=>(HO.out.lt k hk).1));obtain⟨A,c,hv⟩:=beq hown'
   have hst:Hid ((vc S).length=parts.length+1∧vy w2 w2.1.size A (vc S)∧aaq w.1.size A):=by
    have e1:vc S=parts++[s]:=by rw[hsp.out,HN.out]
    have h2:w2.ownsRow w.1.size 9 1 (.slice A (parts.length+1) c) (parts.length+1) ((parts++[s]).map Value.string):=by rw[← hv];simpa using hown'
    rw[e1];exact a1m h2
   clear hown' hgrow hsp;rw[hv];go_wp2_with fail;rw[Exit.noGoto_ret];go_ret;exact⟨A,c,by rw[hst.out.1];rfl,hst.out.2.1,hst.out.2.2,hbb.out⟩
  ·obtain⟨i,hci⟩:∃i:Nat,ae2 s 44=(i:Int):=⟨(ae2 s 44).toNat,by omega⟩;obtain⟨hil,hsa⟩:=ba5 s i hci;have HN:=hid hsa;have HC:=hid hci;clear hc hci hsa;go_wp2_with fail;refine(bf9 s 44 i _ om hil HC).mono ?_;rintro e w1 ⟨rfl,hb1⟩;have hs1:=hb1.size;have HO:=hid (atg hown.out hb1);go_wp2_with (at_builtin;refine wpList_append_own _ rfl _ _ 148 rfl w.1.size 9 i0 (.string ByteArray.empty) 1 16 underlying148 hi hz0 hz1 hz2 rfl dc _ _ _ rfl (HO.out.alloc _) ⟨w1.1.size,0,none⟩ 1 1 [.string (s.extract 0 i)] rfl rfl ?d1 ?d2 ?d3 ?d4 ?d5 ?_)
   case d1=>exact cell_one_new _ _ _
   case d2=>intro u hu;simp at hu;subst hu;rfl
   case d3=>unfold maxLen;omega
   case d4=>omega
   case d5=>simp;omega
   intro v' w2 hown' hgrow _;have hbb:Hid (Below w.1.size w w2):=(((hbr.trans (hb1.mono om)).alloc om _).grown hgrow (by simp;omega) (fun k hk=>(HO.out.lt k hk).1));have hown2:Hid (w2.ownsRow w.1.size 9 1 v' (parts++[s.extract 0 i]).length ((parts++[s.extract 0 i]).map Value.string)):=by show w2.ownsRow _ _ _ _ _ _;simpa using hown'
   have hsp2:Hid (vc S=(parts++[s.extract 0 i])++vc (s.extract (i+1) s.size)):=by show _=_;rw[hsp.out,HN.out];simp
   clear hown' hgrow hsp;go_wp2_with fail
   go_roundw
   case rel=>
    refine⟨s.extract (i+1) s.size,parts++[s.extract 0 i],rfl,?_,hown2,hbb.out,hsp2⟩;rw[List.length_append,List.length_singleton,ByteArray.size_extract];omega
   case measure=>
    simp only[a7j,ByteArray.size_extract];omega
def jg (t:ByteArray):(ByteArray×ByteArray×List ByteArray)×Nat×Int:=
 if t.size=0 then((ByteArray.empty,ByteArray.empty,[]),0,2)
 else if t.data.toList[0]?≠some 36 then((ByteArray.empty,ByteArray.empty,[]),0,3)
 else if(ja t).2≠0 then((ByteArray.empty,ByteArray.empty,[]),0,(ja t).2)
 else if t.size<(ja t).1+2 then((ByteArray.empty,ByteArray.empty,[]),0,2)
 else if t.data.toList[(ja t).1+1]?≠some 10∨zt (ke t)=false then((ByteArray.empty,ByteArray.empty,[]),0,3)
 else match v6 (ke t)with
  | none=>((ByteArray.empty,ByteArray.empty,[]),0,4)
  | some b=>((b.extract 0 2,b.extract 2 5,if 5<b.size then vc (b.extract 6 b.size)else []),(ja t).1+2,0)
def kh (r:(ByteArray×ByteArray×List ByteArray)×Nat×Int) (w:World) (e:Ending) (w':World):Prop:=
 ∃A c,e=.returned (.tuple #[.agg #[.string r.1.1,.string r.1.2.1,.slice A r.1.2.2.length c],.int .i64 (r.2.1:Int),.int .i64 r.2.2])∧vy w' w'.1.size A r.1.2.2∧aaq w.1.size A∧Below w.1.size w w'
theorem kh.err (n:Int) {w w':World} (hb:Below w.1.size w w'):kh ((ByteArray.empty,ByteArray.empty,[]),0,n) w (.returned (.tuple #[.agg #[.string ⟨#[]⟩,.string ⟨#[]⟩,.slice none 0 0],.int .i64 0,.int .i64 n])) w':=
 ⟨none,0,rfl,fun k hk=>absurd hk sm,aaq.none_,hb⟩
theorem agh (t:ByteArray):∀f i j:Nat,v9 t f i=(j,0)→i≤j∧j<i+f∧j<t.size:=by
 intro f
 induction f with
 | zero=>intro i j h;simp[v9]at h
 | succ f ih=>
  intro i j h;unfold v9 at h
  by_cases hi:i<t.size
  ·rw[dif_pos hi]at h
   by_cases h13:(t[i].toNat:Int)=13
   ·rw[if_pos h13]at h;have:i=j:=by injection h
    omega
   ·rw[if_neg h13]at h
    by_cases ho:okC (t[i].toNat:Int)=true
    ·rw[if_pos ho]at h;have:=ih _ _ h;omega
    ·rw[if_neg ho]at h;simp at h
  ·rw[dif_neg hi]at h;simp at h
theorem a1s (w:World) (g:Nat) (p:Addr) (hp:p.block≠g) (x v0 v1 v2 o0 o1 o2:Value) (h0:w.cell? ⟨g,0,none⟩=some o0) (h1:w.cell? ⟨g,1,none⟩=some o1) (h2:w.cell? ⟨g,2,none⟩=some o2) :
 ((((w.setCell p x).setCell ⟨g,0,none⟩ v0).setCell ⟨g,1,none⟩ v1).setCell ⟨g,2,none⟩ v2).cell? ⟨g,0,none⟩=some v0 ∧
 ((((w.setCell p x).setCell ⟨g,0,none⟩ v0).setCell ⟨g,1,none⟩ v1).setCell ⟨g,2,none⟩ v2).cell? ⟨g,1,none⟩=some v1 ∧
 ((((w.setCell p x).setCell ⟨g,0,none⟩ v0).setCell ⟨g,1,none⟩ v1).setCell ⟨g,2,none⟩ v2).cell? ⟨g,2,none⟩=some v2:=by
 have k:∀j,(w.setCell p x).cell? ⟨g,j,none⟩=w.cell? ⟨g,j,none⟩:=fun j=>World.cell?_setCell_other w p _ x (fun e=>by subst e;exact hp rfl)
 have n01:(⟨g,1,none⟩:Addr) ≠⟨g,0,none⟩:=by simp
 have n02:(⟨g,2,none⟩:Addr) ≠⟨g,0,none⟩:=by simp
 have n12:(⟨g,2,none⟩:Addr) ≠⟨g,1,none⟩:=by simp
 have n10:(⟨g,0,none⟩:Addr) ≠⟨g,1,none⟩:=by simp
 refine⟨?_,?_,?_⟩
 ·rw[World.cell?_setCell_other _ _ _ _ n02,World.cell?_setCell_other _ _ _ _ n01];exact World.cell?_setCell_same _ _ _ ((k 0).trans h0)
 ·rw[World.cell?_setCell_other _ _ _ _ n12];exact World.cell?_setCell_same _ _ _ ((World.cell?_setCell_other _ _ _ _ n10).trans ((k 1).trans h1))
 ·refine World.cell?_setCell_same _ _ _ (((World.cell?_setCell_other _ _ _ _ (fun e=>n12 e.symm)).trans ((World.cell?_setCell_other _ _ _ _ (fun e=>n02 e.symm)).trans ((k 2).trans h2))))
theorem ayc {s:ByteArray} (h:s.size=0):s=ByteArray.empty:=by
 obtain⟨⟨l⟩⟩:=s;cases l with
 | nil=>rfl
 | cons a l=>simp[ByteArray.size]at h
theorem aub (w:World):Calls prog 62 #[.string ByteArray.empty] w (kh ((ByteArray.empty,ByteArray.empty,[]),0,2) w):=by
 go_enter func62,ntmps62;go_wp2;exact bodyPost_ret (v:=.tuple #[.agg #[.string ⟨#[]⟩,.string ⟨#[]⟩,.slice none 0 0],.int .i64 0,.int .i64 2]) (by simp[results,results62,go_sem]) rfl (kh.err 2 (qa _ _))
theorem a2v (t:ByteArray) (w:World) (hz:0<t.size) (h1:t.toList.isEmpty=false) (h2:(t.toList==[])=false) (hc:(((t[0]'hz).toNat:Int) != 36)=true):Calls prog 62 #[.string t] w (kh ((ByteArray.empty,ByteArray.empty,[]),0,3) w):=by
 go_enter func62,ntmps62;go_wp2;exact bodyPost_ret (v:=.tuple #[.agg #[.string ⟨#[]⟩,.string ⟨#[]⟩,.slice none 0 0],.int .i64 0,.int .i64 3]) (by simp[results,results62,go_sem]) rfl (kh.err 3 (qa _ _))
theorem a72 (t:ByteArray) (n:Int) (w:World) (hm:t.size≤1000000) (hz:0<t.size) (h1:t.toList.isEmpty=false) (h2:(t.toList==[])=false) (hc:(((t[0]'hz).toNat:Int) != 36)=false) (he:Hid ((ja t).2=n)) (hn:(n != 0)=true) :
 Calls prog 62 #[.string t] w (kh ((ByteArray.empty,ByteArray.empty,[]),0,n) w):=by
 go_enter func62,ntmps62;go_wp2_with fail;refine(ad4 t _ hm).mono ?_;rintro e w' ⟨rfl,rfl⟩;rw[he.out];go_wp2_with fail;exact bodyPost_ret (v:=.tuple #[.agg #[.string ⟨#[]⟩,.string ⟨#[]⟩,.slice none 0 0],.int .i64 0,.int .i64 n]) (by simp[results,results62,go_sem]) rfl (kh.err n (qa _ _))
theorem a2w (t L:ByteArray) (i:Nat) (w:World) (hm:t.size≤1000000) (hz:0<t.size) (h1:t.toList.isEmpty=false) (h2:(t.toList==[])=false) (hc:(((t[0]'hz).toNat:Int) != 36)=false) (he:Hid ((ja t).2=0)) (hL:Hid (ke t=L))
 (hi:1≤i) (hl0:L.size+1≤i) (hl1:i≤L.size+1) (hs:t.size<i+2) (hi80:i≤80) :
 Calls prog 62 #[.string t] w (kh ((ByteArray.empty,ByteArray.empty,[]),0,2) w):=by
 go_enter func62,ntmps62;go_wp2_with fail;refine(ad4 t _ hm).mono ?_;rintro e w' ⟨rfl,rfl⟩;rw[he.out,hL.out];go_wp2_with fail;exact bodyPost_ret (v:=.tuple #[.agg #[.string ⟨#[]⟩,.string ⟨#[]⟩,.slice none 0 0],.int .i64 0,.int .i64 2]) (by simp[results,results62,go_sem]) rfl (kh.err 2 (qa _ _))
theorem bcg (t L:ByteArray) (i:Nat) (w:World) (hm:t.size≤1000000) (hz:0<t.size) (h1:t.toList.isEmpty=false) (h2:(t.toList==[])=false) (hc:(((t[0]'hz).toNat:Int) != 36)=false) (he:Hid ((ja t).2=0)) (hL:Hid (ke t=L))
 (hi:1≤i) (hl0:L.size+1≤i) (hl1:i≤L.size+1) (hs:i+2≤t.size) (hi80:i≤80) (e1:1 +(L.size:Int)+2-1=((i+1:Nat):Int)) (ht:(((t[i+1]'(by omega)).toNat:Int) != 10)=true) :
 Calls prog 62 #[.string t] w (kh ((ByteArray.empty,ByteArray.empty,[]),0,3) w):=by
 go_enter func62,ntmps62;go_wp2_with fail;refine(ad4 t _ hm).mono ?_;rintro e w' ⟨rfl,rfl⟩;rw[he.out,hL.out];go_wp2_with fail;exact bodyPost_ret (v:=.tuple #[.agg #[.string ⟨#[]⟩,.string ⟨#[]⟩,.slice none 0 0],.int .i64 0,.int .i64 3]) (by simp[results,results62,go_sem]) rfl (kh.err 3 (qa _ _))
theorem axw (t L:ByteArray) (i:Nat) (w:World) (hm:t.size≤1000000) (hz:0<t.size) (h1:t.toList.isEmpty=false) (h2:(t.toList==[])=false) (hc:(((t[0]'hz).toNat:Int) != 36)=false) (he:Hid ((ja t).2=0)) (hL:Hid (ke t=L))
 (hi:1≤i) (hl0:L.size+1≤i) (hl1:i≤L.size+1) (hs:i+2≤t.size) (hi80:i≤80) (e1:1 +(L.size:Int)+2-1=((i+1:Nat):Int)) (ht:(((t[i+1]'(by omega)).toNat:Int) != 10)=false) (hf:Hid (zt L=false)) :
 Calls prog 62 #[.string t] w (kh ((ByteArray.empty,ByteArray.empty,[]),0,3) w):=by
 go_enter func62,ntmps62;go_wp2_with fail;refine(ad4 t _ hm).mono ?_;rintro e w' ⟨rfl,rfl⟩;rw[he.out,hL.out];go_wp2_with fail;refine(agc L _ om).mono ?_;rintro e w1 ⟨rfl,hb1⟩;rw[hf.out];obtain⟨c1,f1⟩:=qv hb1;have hz1:=hb1.size;simp at hz1;have hz2:w.1.size<w1.1.size:=by omega
 go_wp2_with fail;refine bodyPost_ret (v:=.tuple #[.agg #[.string ⟨#[]⟩,.string ⟨#[]⟩,.slice none 0 0],.int .i64 0,.int .i64 3]) (by simp[results,results62,go_sem,c1]) rfl (kh.err 3 ?_);exact(((qb (qa _ _) hb1).setCell (p:=⟨w.1.size,0,none⟩) (Nat.le_refl _) _).setCell (p:=⟨w.1.size,1,none⟩) (Nat.le_refl _) _).setCell (p:=⟨w.1.size,2,none⟩) (Nat.le_refl _) _
theorem a74 (t L:ByteArray) (i:Nat) (w:World) (hm:t.size≤1000000) (hz:0<t.size) (h1:t.toList.isEmpty=false) (h2:(t.toList==[])=false) (hc:(((t[0]'hz).toNat:Int) != 36)=false) (he:Hid ((ja t).2=0)) (hL:Hid (ke t=L))
 (hi:1≤i) (hl0:L.size+1≤i) (hl1:i≤L.size+1) (hs:i+2≤t.size) (hi80:i≤80) (e1:1 +(L.size:Int)+2-1=((i+1:Nat):Int)) (ht:(((t[i+1]'(by omega)).toNat:Int) != 10)=false) (hf:Hid (zt L=true)) (ho:Hid (v6 L=none)) :
 Calls prog 62 #[.string t] w (kh ((ByteArray.empty,ByteArray.empty,[]),0,4) w):=by
 go_enter func62,ntmps62;go_wp2_with fail;refine(ad4 t _ hm).mono ?_;rintro e w' ⟨rfl,rfl⟩;rw[he.out,hL.out];go_wp2_with fail;refine(agc L _ om).mono ?_;rintro e w1 ⟨rfl,hb1⟩;rw[hf.out];go_wp2_with fail;refine(aof L _ om).mono ?_;rintro e w2 ⟨rfl,hb2⟩;rw[ho.out];have hb12:=qb hb1 hb2;obtain⟨c1,f1⟩:=qv hb12;have hz1:=hb12.size;simp at hz1;have hz2:w.1.size<w2.1.size:=by omega
 go_wp2_with fail;refine bodyPost_ret (v:=.tuple #[.agg #[.string ⟨#[]⟩,.string ⟨#[]⟩,.slice none 0 0],.int .i64 0,.int .i64 4]) (by simp[results,results62,go_sem,c1]) rfl (kh.err 4 ?_);exact(((qb (qa _ _) hb12).setCell (p:=⟨w.1.size,0,none⟩) (Nat.le_refl _) _).setCell (p:=⟨w.1.size,1,none⟩) (Nat.le_refl _) _).setCell (p:=⟨w.1.size,2,none⟩) (Nat.le_refl _) _
theorem a71 (t L b:ByteArray) (i:Nat) (w:World) (hm:t.size≤1000000) (hz:0<t.size) (h1:t.toList.isEmpty=false) (h2:(t.toList==[])=false) (hc:(((t[0]'hz).toNat:Int) != 36)=false) (he:Hid ((ja t).2=0)) (hL:Hid (ke t=L))
 (hi:1≤i) (hl0:L.size+1≤i) (hl1:i≤L.size+1) (hs:i+2≤t.size) (hi80:i≤80) (e1:1 +(L.size:Int)+2-1=((i+1:Nat):Int)) (ht:(((t[i+1]'(by omega)).toNat:Int) != 10)=false) (hf:Hid (zt L=true)) (ho:Hid (v6 L=some b)) (hb5:b.size≤5) (hb6:5≤b.size) :
 Calls prog 62 #[.string t] w (kh ((b.extract 0 2,b.extract 2 5,[]),i+2,0) w):=by
 have i1:(2:Int) ≤(b.size:Int):=by omega
 have i2:(5:Int) ≤(b.size:Int):=by omega
 go_enter func62,ntmps62;go_wp2_with fail;refine(ad4 t _ hm).mono ?_;rintro e w' ⟨rfl,rfl⟩;rw[he.out,hL.out];go_wp2_with fail;refine(agc L _ om).mono ?_;rintro e w1 ⟨rfl,hb1⟩;rw[hf.out];go_wp2_with fail;refine(aof L _ om).mono ?_;rintro e w2 ⟨rfl,hb2⟩;rw[ho.out];have hb12:=qb hb1 hb2;obtain⟨c1,f1⟩:=qv hb12;have hz1:=hb12.size;simp at hz1;have hz2:w.1.size<w2.1.size:=by omega
 go_wp2_with fail
 go_region_with (fail)
 go_wp2_with fail;refine bodyPost_ret (v:=.tuple #[.agg #[.string (b.extract 0 2),.string (b.extract 2 5),.slice none 0 0],.int .i64 (1 +(L.size:Int)+2),.int .i64 0]) (by simp[results,results62,go_sem,c1,hz2]) rfl ⟨none,0,?_,fun k hk=>absurd hk sm,aaq.none_,?_⟩
 ·rw[show (1 +(L.size:Int)+2)=((i+2:Nat):Int)from by omega];rfl
 ·exact ab7 (((((qb (qa _ _) hb12).setCell (p:=⟨w.1.size,0,none⟩) (Nat.le_refl _) _).setCell (p:=⟨w.1.size,1,none⟩) (Nat.le_refl _) _).setCell (p:=⟨w.1.size,2,none⟩) (Nat.le_refl _) _).alloc (by simp;omega) _)
theorem a73 (t L b:ByteArray) (i:Nat) (w:World) (hm:t.size≤1000000) (hz:0<t.size) (h1:t.toList.isEmpty=false) (h2:(t.toList==[])=false) (hc:(((t[0]'hz).toNat:Int) != 36)=false) (he:Hid ((ja t).2=0)) (hL:Hid (ke t=L))
 (hi:1≤i) (hl0:L.size+1≤i) (hl1:i≤L.size+1) (hs:i+2≤t.size) (hi80:i≤80) (e1:1 +(L.size:Int)+2-1=((i+1:Nat):Int)) (ht:(((t[i+1]'(by omega)).toNat:Int) != 10)=false) (hf:Hid (zt L=true)) (ho:Hid (v6 L=some b)) (hb6:6≤b.size) (hbm:b.size≤1000) :
 Calls prog 62 #[.string t] w (kh ((b.extract 0 2,b.extract 2 5,vc (b.extract 6 b.size)),i+2,0) w):=by
 have i1:(2:Int) ≤(b.size:Int):=by omega
 have i2:(5:Int) ≤(b.size:Int):=by omega
 have i3:(6:Int) ≤(b.size:Int):=by omega
 obtain⟨S,hS⟩:∃S,S=b.extract 6 b.size:=⟨_,rfl⟩;have hSz:S.size≤1000:=by rw[hS,ByteArray.size_extract];omega
 rw[← hS];have HS:=hid hS;clear hS;go_enter func62,ntmps62;go_wp2_with fail;refine(ad4 t _ hm).mono ?_;rintro e w' ⟨rfl,rfl⟩;rw[he.out,hL.out];go_wp2_with fail;refine(agc L _ om).mono ?_;rintro e w1 ⟨rfl,hb1⟩;rw[hf.out];go_wp2_with fail;refine(aof L _ om).mono ?_;rintro e w2 ⟨rfl,hb2⟩;rw[ho.out];have hb12:=qb hb1 hb2;obtain⟨c1,f1⟩:=qv hb12;have hz1:=hb12.size;simp at hz1;have hz2:w.1.size<w2.1.size:=by omega
 go_wp2_with fail
 go_region_with (fail)
 go_wp2_with fail;rw[← HS.out];refine(bgv S _ om).mono ?_;rintro e w3 ⟨A,c,rfl,hst,hfr,hb3⟩;obtain⟨c3,f3⟩:=qv hb3;have hz3:=hb3.size;simp at hz3;have hz4:w2.1.size<w3.1.size:=by omega
 have hz5:w.1.size<w3.1.size:=by omega
 have HST:=hid hst;clear hst;obtain⟨n,hn⟩:∃n,n=(vc S).length:=⟨_,rfl⟩;rw[← hn];have HN:=hid hn;clear hn;have HFR:=hid hfr;clear hfr;go_wp2_with fail
 have k2:∀o,w3.cell? ⟨w.1.size,o,none⟩=(w.alloc (.cells #[.string ⟨#[]⟩,.string ⟨#[]⟩,.slice none 0 0] 150)).cell? ⟨w.1.size,o,none⟩:=fun o=>by
  rw[c3 w.1.size o (by simp;omega)];show (w2.alloc _).cell? _=_;rw[World.cell?_alloc_lt w2 _ ⟨w.1.size,o,none⟩ hz2];exact c1 w.1.size o sm
 obtain⟨q0,q1,q2⟩:=a1s w3 w.1.size ⟨w2.1.size,2,none⟩ (by show w2.1.size≠_;omega) (.slice A n c) (.string (b.extract 0 2)) (.string (b.extract 2 5)) (.slice A n c) (.string ⟨#[]⟩) (.string ⟨#[]⟩) (.slice none 0 0)
  ((k2 0).trans (by rw[World.cell?_alloc_new];rfl)) ((k2 1).trans (by rw[World.cell?_alloc_new];rfl)) ((k2 2).trans (by rw[World.cell?_alloc_new];rfl))
 have hfr2:aaq (w2.1.size+1) A:=by have:=HFR.out;simpa using this
 have hst2:vy _ w3.1.size A (vc S):=(((HST.out.setCell hfr2 (p:=⟨w2.1.size,2,none⟩) (Nat.lt_succ_self _) (.slice A n c)).setCell hfr2 (p:=⟨w.1.size,0,none⟩) (by show w.1.size<_;omega) (.string (b.extract 0 2))).setCell hfr2 (p:=⟨w.1.size,1,none⟩) (by show w.1.size<_;omega) (.string (b.extract 2 5))).setCell hfr2 (p:=⟨w.1.size,2,none⟩) (by show w.1.size<_;omega) (.slice A n c);refine bodyPost_ret (v:=.tuple #[.agg #[.string (b.extract 0 2),.string (b.extract 2 5),.slice A n c],.int .i64 (1 +(L.size:Int)+2),.int .i64 0]) (by simp[results,results62,go_sem,q0,q1,q2]) rfl ⟨A,c,?_,by simpa using hst2,hfr2.less om,?_⟩
 ·rw[show (1 +(L.size:Int)+2)=((i+2:Nat):Int)from by omega,HN.out]
 ·have hb0:Below w.1.size w w3:=(ab7 ((qb (qa _ _) hb12).alloc om _)).trans (hb3.mono (by simp;omega));exact(((hb0.setCell (p:=⟨w2.1.size,2,none⟩) (by show w.1.size≤w2.1.size;omega) _).setCell (p:=⟨w.1.size,0,none⟩) (Nat.le_refl _) _).setCell (p:=⟨w.1.size,1,none⟩) (Nat.le_refl _) _).setCell (p:=⟨w.1.size,2,none⟩) (Nat.le_refl _) _
theorem aw6 (s:ByteArray):s.toList.length=s.size:=by rw[ByteArray.toList_eq];simp
theorem alt {s:ByteArray} (h:0<s.size):s.toList.isEmpty=false ∧(s.toList==[])=false:=by
 have hl:=aw6 s;cases hs:s.toList with
 | nil=>rw[hs]at hl;simp at hl;omega
 | cons a l=>exact⟨rfl,rfl⟩
theorem ahv (s:ByteArray) (n:Nat) (h:n<s.size) (c:UInt8):(s.data.toList[n]?=some c) ↔(s[n].toNat:Int)=(c.toNat:Int):=by
 rw[aug s n h];constructor
 ·intro h;injection h with h
  rw[h]
 ·intro h
  congr 1
  apply UInt8.toNat_inj.1;omega
theorem aha {t:ByteArray} {i:Nat} (h:ja t=(i,0)):ke t=t.extract 1 i:=by unfold ke;rw[h];rfl
theorem a4m {l b:ByteArray} (h:v6 l=some b):b.size+3=l.size:=by
 unfold v6 at h
 by_cases hs:l.size<3
 ·rw[if_pos hs]at h;cases h
 ·rw[if_neg hs]at h
  split at h
  ·injection h with h
   rw[← h,ByteArray.size_extract];omega
  ·cases h
theorem au3 {l:ByteArray} (h:zt l=true):8≤l.size:=by
 rcases Nat.lt_or_ge l.size 8 with h8|h8
 ·unfold zt at h;rw[decide_eq_false (by omega:¬8≤l.size)]at h;cases h
 ·exact h8
theorem an7 {t:ByteArray} (h:t.size=0):jg t=((ByteArray.empty,ByteArray.empty,[]),0,2):=by unfold jg;rw[if_pos h]
theorem ak1 {t:ByteArray} (h0:¬t.size=0) (h:t.data.toList[0]?≠some 36):jg t=((ByteArray.empty,ByteArray.empty,[]),0,3):=by unfold jg;rw[if_neg h0,if_pos h]
theorem aia {t:ByteArray} (h0:¬t.size=0) (h1:t.data.toList[0]?=some 36) (h:(ja t).2≠0):jg t=((ByteArray.empty,ByteArray.empty,[]),0,(ja t).2):=by
 unfold jg;rw[if_neg h0,if_neg (fun k=>k h1),if_pos h]
theorem an8 {t:ByteArray} (h0:¬t.size=0) (h1:t.data.toList[0]?=some 36) (h2:(ja t).2=0) (h:t.size<(ja t).1+2):jg t=((ByteArray.empty,ByteArray.empty,[]),0,2):=by
 unfold jg;rw[if_neg h0,if_neg (fun k=>k h1),if_neg (fun k=>k h2),if_pos h]
theorem aib {t:ByteArray} (h0:¬t.size=0) (h1:t.data.toList[0]?=some 36) (h2:(ja t).2=0) (h3:¬t.size<(ja t).1+2) (h:t.data.toList[(ja t).1+1]?≠some 10∨zt (ke t)=false):jg t=((ByteArray.empty,ByteArray.empty,[]),0,3):=by
 unfold jg;rw[if_neg h0,if_neg (fun k=>k h1),if_neg (fun k=>k h2),if_neg h3,if_pos h]
theorem aic {t:ByteArray} (h0:¬t.size=0) (h1:t.data.toList[0]?=some 36) (h2:(ja t).2=0) (h3:¬t.size<(ja t).1+2) (h4:t.data.toList[(ja t).1+1]?=some 10) (h5:zt (ke t)=true) :
 jg t=match v6 (ke t)with
  | none=>((ByteArray.empty,ByteArray.empty,[]),0,4)
  | some b=>((b.extract 0 2,b.extract 2 5,if 5<b.size then vc (b.extract 6 b.size)else []),(ja t).1+2,0):=by
 unfold jg;rw[if_neg h0,if_neg (fun k=>k h1),if_neg (fun k=>k h2),if_neg h3,if_neg (fun k=>k.elim (fun a=>a h4) (fun a=>by rw[h5]at a;cases a))]
 all_goals (cases v6 (ke t)<;>rfl)
theorem bce (t:ByteArray) (w:World) (hm:t.size≤1000000):Calls prog 62 #[.string t] w (kh (jg t) w):=by
 by_cases h0:t.size=0
 ·rw[an7 h0];have:=ayc h0;subst this;exact aub w
 ·have hz:0<t.size:=by omega
  obtain⟨f1,f2⟩:=alt hz
  by_cases h1:t.data.toList[0]?=some 36
  ·have hc:(((t[0]'hz).toNat:Int) != 36)=false:=by rw[bne_eq_false_iff_eq];exact(ahv t 0 hz 36).1 h1
   by_cases h2:(ja t).2=0
   ·obtain⟨i,hi⟩:∃i,ja t=(i,0):=⟨(ja t).1,by rw[← h2]⟩;obtain⟨b1,b2,b3⟩:=agh t 80 1 i hi;have hL:=aha hi;have hi1:(ja t).1=i:=by rw[hi]
    have hls:(t.extract 1 i).size=i-1:=by rw[ByteArray.size_extract];omega
    by_cases h3:t.size<(ja t).1+2
    ·rw[an8 h0 h1 h2 h3];exact a2w t _ i w hm hz f1 f2 hc h2 hL b1 om om om om
    ·have hlt:i+1<t.size:=by omega
     by_cases h4:t.data.toList[(ja t).1+1]?=some 10
     ·have ht:(((t[i+1]'hlt).toNat:Int) != 10)=false:=by rw[bne_eq_false_iff_eq];rw[hi1]at h4;exact(ahv t (i+1) hlt 10).1 h4
      cases h5:zt (t.extract 1 i)with
      | false=>
       rw[aib h0 h1 h2 h3 (.inr (by rw[hL];exact h5))];exact axw t _ i w hm hz f1 f2 hc h2 hL b1 om om om om om ht h5
      | true=>
       rw[aic h0 h1 h2 h3 h4 (by rw[hL];exact h5),hL];have h8:=au3 h5;cases h6:v6 (t.extract 1 i)with
       | none=>exact a74 t _ i w hm hz f1 f2 hc h2 hL b1 om om om om om ht h5 h6
       | some b=>
        have hbs:=a4m h6;show Calls prog _ _ _ (kh ((b.extract 0 2,b.extract 2 5,if 5<b.size then vc (b.extract 6 b.size)else []),(ja t).1+2,0) w);rw[hi1]
        by_cases h7:5<b.size
        ·rw[if_pos h7];exact a73 t _ b i w hm hz f1 f2 hc h2 hL b1 om om om om om ht h5 h6 h7 om
        ·rw[if_neg h7];exact a71 t _ b i w hm hz f1 f2 hc h2 hL b1 om om om om om ht h5 h6 om om
     ·have ht:(((t[i+1]'hlt).toNat:Int) != 10)=true:=by rw[bne_iff_ne];rw[hi1]at h4;exact fun h=>h4 ((ahv t (i+1) hlt 10).2 h)
      rw[aib h0 h1 h2 h3 (.inl h4)];exact bcg t _ i w hm hz f1 f2 hc h2 hL b1 om om om om om ht
   ·rw[aia h0 h1 h2];exact a72 t _ w hm hz f1 f2 hc rfl (by rw[bne_iff_ne];exact h2)
  ·have hc:(((t[0]'hz).toNat:Int) != 36)=true:=by rw[bne_iff_ne];exact fun h=>h1 ((ahv t 0 hz 36).2 h)
   rw[ak1 h0 h1];exact a2v t w hz f1 f2 hc
theorem aa5 (s:ByteArray) (a b:Nat):(s.extract a b).data.toList=(s.data.toList.drop a).take (b-a):=by rw[vz];rfl
theorem adw (s:ByteArray):s.data.toList.length=s.size:=by simp
theorem bdh {l p q:List UInt8} {c:UInt8} (h:l=p++c::q) (hp:∀x∈p,x≠c):Lib.indexByte l c=(p.length:Int):=by
 subst h
 induction p with
 | nil=>simp[Lib.indexByte]
 | cons b p ih=>
  have hb:¬(b==c)=true:=by simpa using hp b sm
  have i1:=ih (fun x hx=>hp x (by simp[hx]));rw[List.cons_append,Lib.indexByte,if_neg hb,i1,if_neg (by rw[beq_iff_eq];omega),List.length_cons];omega
theorem bj9 (l:List UInt8) (n:Nat) (h:n<l.length):l=l.take n++l[n]::l.drop (n+1):=by
 rw[List.getElem_cons_drop,List.take_append_drop]
theorem am5 {l:List UInt8} (h:∀x∈l,x≠42):acq l=0:=by
 unfold acq;rw[List.count_eq_zero];exact fun hm=>h 42 hm rfl
theorem a1k {l:List UInt8} (h:acq l=0):∀x∈l,x≠42:=by
 intro x hx h42;subst h42;unfold acq at h;rw[List.count_eq_zero]at h;exact h hx
theorem ai3 (l:List UInt8):acq (42::l)=acq l+1:=by simp[acq]
theorem asl {l:List UInt8} {v:Int} (h:jr l=some v):acq l=0:=by
 unfold jr at h
 split at h
 ·rename_i a b
  split at h
  ·rename_i hc;rw[Bool.and_eq_true]at hc;apply am5;intro x hx;have:x=a∨x=b:=by simpa using hx
   rcases this with rfl|rfl
   ·intro h42;rw[h42]at hc;exact absurd hc.1 dc
   ·intro h42;rw[h42]at hc;exact absurd hc.2 dc
  ·cases h
 ·cases h
theorem azs {L:ByteArray} {n:Nat}:(L.extract (n+1) L.size).data.toList=L.data.toList.drop (n+1):=by
 rw[aa5,List.take_of_length_le (by rw[List.length_drop,adw];exact Nat.le_refl _)]
section
variable {L : ByteArray} {n : Nat} (hn : L.size = n + 3)
include hn
theorem a81 (h5:5≤n) (hs:(L[n]'(by omega)).toNat=42) (h1:acq L.data.toList=1) (hg:acc (L.extract 0 5) 5=true) (hc:n=5∨L.data.toList[5]?=some 44) {v:Int} (hu:jr (L.extract (n+1) L.size).data.toList=some v):zt L=true:=by
 have hl:n<L.data.toList.length:=by rw[adw];omega
 have hat:L.data.toList[n]=42:=by
  have h:=(ahv L n om 42).2 (by have e:(42:UInt8).toNat=42:=rfl;omega);rw[List.getElem?_eq_getElem hl]at h;injection h
 have hp:=bj9 L.data.toList n hl;rw[hat]at hp
 have hno:∀x∈L.data.toList.take n,x≠42:=by
  apply a1k;rw[hp,ai2,ai3]at h1;omega
 have hi:=bdh hp hno;rw[List.length_take,Nat.min_eq_left (Nat.le_of_lt hl)]at hi;unfold zt ae2;rw[hi,show L.size-3+1=n+1 from by omega,hu,hg,decide_eq_true (by omega:8≤L.size),decide_eq_true (by omega:(n:Int)=(L.size:Int)-3)];rcases hc with h|h
 ·rw[decide_eq_true (by omega:L.size=8)];rfl
 ·rw[h];simp
end
def age (P:List UInt8):ByteArray×ByteArray×List ByteArray:=
 (toS (P.take 2),toS ((P.drop 2).take 3),if 5<P.length then(kt (P.drop 6)).map toS else [])
def ai6 (P:List UInt8):Prop:=
 5≤P.length∧P.length≤76 ∧(∀c∈P.take 5,aey (c.toNat:Int)=true) ∧(∀c∈P,acv (c.toNat:Int)=true) ∧(5<P.length→P[5]?=some 44)
def vu (P:List UInt8) (x y:UInt8) (M:List UInt8):List UInt8:=36::(P++[42,x,y,13,10]++M)
theorem jk (l:List UInt8):(toS l).data.toList=l:=by simp[toS]
theorem vm (l:List UInt8):(toS l).size=l.length:=by show l.toArray.size=_;simp
theorem ay9 (l:List UInt8) (i:Nat) (h:i<(toS l).size):(toS l)[i]=l[i]'(by rw[vm]at h;exact h):=by
 show (toS l).data[i]=_;simp[toS]
theorem ask {x y:UInt8} {v:Int} (h:jr [x,y]=some v):isR (x.toNat:Int)=true∧isR (y.toNat:Int)=true:=by
 have h':(if isR (x.toNat:Int) && isR (y.toNat:Int)then some (16*aft (x.toNat:Int)+aft (y.toNat:Int))else none)=some v:=h
 split at h'
 ·rename_i hc;rw[Bool.and_eq_true]at hc;exact hc
 ·cases h'
theorem ave {c:Int} (h:isR c=true):okC c=true∧c≠13∧c≠42:=by
 have h1:=of_decide_eq_true h;refine⟨?_,by omega,by omega⟩;unfold okC;rw[Bool.or_eq_true];right;unfold acv;rw[decide_eq_true_eq];omega
theorem bai (t:ByteArray):∀(k f i:Nat),k<f →(∀j,i≤j→j<i+k→∃h:j<t.size,okC (t[j].toNat:Int)=true ∧(t[j].toNat:Int)≠13) →(∃h:i+k<t.size,(t[i+k].toNat:Int)=13)→v9 t f i=(i+k,0):=by
 intro k
 induction k with
 | zero=>
  intro f i hf _ ⟨h,hc⟩;obtain⟨f,rfl⟩:∃g,f=g+1:=⟨f-1,by omega⟩;exact a0t t f i h hc
 | succ k ih=>
  intro f i hf hall ⟨h,hc⟩;obtain⟨f,rfl⟩:∃g,f=g+1:=⟨f-1,by omega⟩;obtain⟨h0,h1,h2⟩:=hall i (Nat.le_refl _) om;rw[aqk t f i h0 h2 h1,ih f (i+1) om (fun j a b=>hall j om om) (by rw[show i+1+k=i +(k+1)from by omega];exact⟨h,hc⟩)];rw[show i+1+k=i +(k+1)from by omega]
theorem bag (t:ByteArray):∀(f i j:Nat),v9 t f i=(j,0) →(∀q,i≤q→q<j→∃h:q<t.size,okC (t[q].toNat:Int)=true ∧(t[q].toNat:Int)≠13)∧∃h:j<t.size,(t[j].toNat:Int)=13:=by
 intro f
 induction f with
 | zero=>intro i j h;simp[v9]at h
 | succ f ih=>
  intro i j h;unfold v9 at h
  by_cases hi:i<t.size
  ·rw[dif_pos hi]at h
   by_cases h13:(t[i].toNat:Int)=13
   ·rw[if_pos h13]at h;injection h with h _
    subst h;exact⟨fun q a b=>absurd a om,hi,h13⟩
   ·rw[if_neg h13]at h
    by_cases ho:okC (t[i].toNat:Int)=true
    ·rw[if_pos ho]at h;obtain⟨a1,a2⟩:=ih _ _ h;refine⟨fun q a b=>?_,a2⟩
     by_cases hq:q=i
     ·subst hq;exact⟨hi,ho,h13⟩
     ·exact a1 q om b
    ·rw[if_neg ho]at h;simp at h
  ·rw[dif_neg hi]at h;simp at h
theorem as8 {c:Int} (h:acv c=true):okC c=true∧c≠13∧c≠42:=by
 have h1:=of_decide_eq_true h;exact⟨by unfold okC;rw[h,Bool.or_true],by omega,by omega⟩
theorem a9l {c:Int} (h:okC c=true) (h42:c≠42):acv c=true:=by
 unfold okC at h;rw[Bool.or_eq_true,beq_iff_eq]at h;exact h.resolve_left h42
section
variable {P : List UInt8} {x y : UInt8} {M : List UInt8}
theorem aif:(vu P x y M).length=P.length+6+M.length:=by simp[vu];omega
theorem bf1 (j:Nat) (h1:1≤j) (h2:j<P.length+4) (hj:j<(vu P x y M).length):∃h:j-1<(P++[42,x,y]).length,(vu P x y M)[j]=(P++[42,x,y])[j-1]:=by
 have hl:(P++[42,x,y]).length=P.length+3:=by simp
 refine⟨by omega,?_⟩;obtain⟨j,rfl⟩:∃i,j=i+1:=⟨j-1,by omega⟩;have e:vu P x y M=36::((P++[42,x,y]) ++([13,10]++M)):=by simp[vu]
 simp only[e,List.getElem_cons_succ,Nat.add_sub_cancel];rw[List.getElem_append_left om]
theorem arc:(vu P x y M).drop (P.length+4)=13::10::M:=by
 have e:vu P x y M=(36::(P++[42,x,y])) ++(13::10::M):=by simp[vu]
 rw[e,List.drop_left' sm]
theorem a6r:((vu P x y M).drop 1).take (P.length+3)=P++[42,x,y]:=by
 have e:(vu P x y M).drop 1=(P++[42,x,y]) ++(13::10::M):=by simp[vu]
 rw[e,List.take_left' sm]
theorem auv {l q:List UInt8} {n:Nat} {c:UInt8} (h:l.drop n=c::q):l[n]?=some c∧l.drop (n+1)=q:=by
 constructor
 ·have:=List.getElem?_drop (xs:=l) (i:=n) (j:=0);rw[h]at this
  simpa using this.symm
 ·have:l.drop (n+1)=(l.drop n).drop 1:=by rw[List.drop_drop]
  rw[this,h];rfl
theorem as0 (hP:ai6 P) (hu:jr [x,y]=some ((ajw P).toNat:Int)):ja (toS (vu P x y M))=(P.length+4,0):=by
 obtain⟨p1,p2,p3,p4,p5⟩:=hP;obtain⟨ux,uy⟩:=ask hu;have hl:=aif (P:=P) (x:=x) (y:=y) (M:=M);unfold ja;rw[bai (toS (vu P x y M)) (P.length+3) 80 1 om,show 1 +(P.length+3)=P.length+4 from by omega]
 ·intro j h1 h2;have hj:j<(toS (vu P x y M)).size:=by rw[vm];omega
  refine⟨hj,?_⟩;rw[ay9 _ _ hj];obtain⟨h3,h4⟩:=bf1 (P:=P) (x:=x) (y:=y) (M:=M) j h1 om om;rw[h4];have hm:(P++[42,x,y])[j-1]∈P++[42,x,y]:=List.getElem_mem h3
  have key:∀c∈P++[42,x,y],okC (c.toNat:Int)=true ∧(c.toNat:Int)≠13:=by
   intro c hc;rcases List.mem_append.1 hc with h|h
   ·have:=as8 (p4 c h);exact⟨this.1,this.2.1⟩
   ·have:c=42∨c=x∨c=y:=by simpa using h
    rcases this with rfl|rfl|rfl
    ·exact⟨by decide,by decide⟩
    ·exact⟨(ave ux).1,(ave ux).2.1⟩
    ·exact⟨(ave uy).1,(ave uy).2.1⟩
  exact key _ hm
 ·have hj:1 +(P.length+3)<(toS (vu P x y M)).size:=by rw[vm];omega
  refine⟨hj,?_⟩;obtain⟨h1,_⟩:=auv (arc (P:=P) (x:=x) (y:=y) (M:=M));rw[ay9 _ _ hj];rw[List.getElem?_eq_getElem om]at h1;injection h1 with h1
  have:(vu P x y M)[1 +(P.length+3)]'(by omega)=13:=by rw[← h1];congr 1;omega
  rw[this];rfl
theorem as9 (hP:ai6 P) (hu:jr [x,y]=some ((ajw P).toNat:Int)):ke (toS (vu P x y M))=toS (P++[42,x,y]):=by
 rw[aha (as0 hP hu),vz,jk,show P.length+4-1=P.length+3 from by omega,a6r]
theorem ay3 (hP:ai6 P) {v:Int} (hu:jr [x,y]=some v):zt (toS (P++[42,x,y]))=true:=by
 obtain⟨p1,p2,p3,p4,p5⟩:=hP;have hl:(P++[42,x,y]).length=P.length+3:=by simp
 have hz:(toS (P++[42,x,y])).size=P.length+3:=by rw[vm,hl]
 have hno:∀c∈P,c≠42:=fun c hc h42=>by have:=(as8 (p4 c hc)).2.2;rw[h42]at this;exact this rfl
 have ht5:(P++[42,x,y]).take 5=P.take 5:=by rw[List.take_append_of_le_length p1]
 refine a81 hz p1 ?_ ?_ ?_ ?_ (v:=v) ?_
 ·rw[ay9 _ _ om,List.getElem_append_right om];simp
 ·rw[jk,ai2,am5 hno,ai3,asl hu]
 ·unfold acc auf;rw[Bool.and_eq_true,decide_eq_true_eq,aa5,jk,List.drop_zero,Nat.sub_zero,ht5,ByteArray.size_extract,List.all_eq_true];exact⟨by omega,p3⟩
 ·by_cases h:P.length=5
  ·exact .inl h
  ·right;rw[jk,List.getElem?_append_left om];exact p5 om
 ·rw[azs,jk,show (P++[42,x,y]).drop (P.length+1)=[x,y]from by simp[List.drop_append,List.drop_eq_nil_of_le]];exact hu
theorem atz (hP:ai6 P) (hu:jr [x,y]=some ((ajw P).toNat:Int)):jg (toS (vu P x y M))=(age P,P.length+6,0):=by
 have hl:=aif (P:=P) (x:=x) (y:=y) (M:=M);have hE:=as0 (M:=M) hP hu;obtain⟨_,h10⟩:=auv (arc (P:=P) (x:=x) (y:=y) (M:=M));obtain⟨h10,_⟩:=auv h10;rw[aic (by rw[vm];omega) (by rw[jk];rfl) (by rw[hE]) (by rw[hE,vm];show ¬_<P.length+4+2;omega) (by rw[hE,jk];exact h10) (by rw[as9 hP hu];exact ay3 hP hu)];rw[as9 hP hu,hE];have ho:=a4l P x y;rw[if_pos hu]at ho;have ho':v6 (toS (P++[42,x,y]))=some (toS P):=ho;rw[ho'];have e1:(toS P).extract 0 2=toS (P.take 2):=by rw[vz,jk];rfl
 have e2:(toS P).extract 2 5=toS ((P.drop 2).take 3):=by rw[vz,jk]
 have e3:vc ((toS P).extract 6 (toS P).size)=(kt (P.drop 6)).map toS:=by
  unfold vc;rw[aa5,jk,vm,List.take_of_length_le (by rw[List.length_drop];exact Nat.le_refl _)]
 show (((toS P).extract 0 2,(toS P).extract 2 5,if 5<(toS P).size then vc ((toS P).extract 6 (toS P).size)else []),P.length+4+2,(0:Int))=_;rw[e1,e2,e3,vm];rfl
end
theorem a2f (t:ByteArray):toS t.data.toList=t:=a10 t
theorem bbr {l:List UInt8} {v:Int} (h:jr l=some v):∃x y,l=[x,y]:=by
 unfold jr at h
 split at h
 ·rename_i a b;exact⟨a,b,rfl⟩
 ·cases h
theorem a56 {t:ByteArray} (h:(jg t).2.2=0):t.data.toList[0]?=some 36 ∧(ja t).2=0∧¬t.size<(ja t).1+2∧t.data.toList[(ja t).1+1]?=some 10∧zt (ke t)=true ∧(v6 (ke t)).isSome=true:=by
 by_cases h0:t.size=0
 ·rw[an7 h0]at h;cases h
 by_cases h1:t.data.toList[0]?=some 36
 ·by_cases h2:(ja t).2=0
  ·by_cases h3:t.size<(ja t).1+2
   ·rw[an8 h0 h1 h2 h3]at h;cases h
   ·by_cases h4:t.data.toList[(ja t).1+1]?≠some 10∨zt (ke t)=false
    ·rw[aib h0 h1 h2 h3 h4]at h;cases h
    ·have h5:t.data.toList[(ja t).1+1]?=some 10:=Classical.not_not.1 fun k=>h4 (.inl k)
     have h6:zt (ke t)=true:=by cases hf:zt (ke t)with
      | true=>rfl
      | false=>exact absurd (.inr hf) h4
     refine⟨h1,h2,h3,h5,h6,?_⟩;rw[aic h0 h1 h2 h3 h5 h6]at h;cases ho:v6 (ke t)with
     | none=>rw[ho]at h;cases h
     | some b=>rfl
  ·rw[aia h0 h1 h2]at h;exact absurd h h2
 ·rw[ak1 h0 h1]at h;cases h
theorem bbe {t:ByteArray} (h:(jg t).2.2≠0):jg t=((ByteArray.empty,ByteArray.empty,[]),0,(jg t).2.2):=by
 by_cases h0:t.size=0
 ·rw[an7 h0]
 by_cases h1:t.data.toList[0]?=some 36
 ·by_cases h2:(ja t).2=0
  ·by_cases h3:t.size<(ja t).1+2
   ·rw[an8 h0 h1 h2 h3]
   ·by_cases h4:t.data.toList[(ja t).1+1]?≠some 10∨zt (ke t)=false
    ·rw[aib h0 h1 h2 h3 h4]
    ·have h5:t.data.toList[(ja t).1+1]?=some 10:=Classical.not_not.1 fun k=>h4 (.inl k)
     have h6:zt (ke t)=true:=by cases hf:zt (ke t)with
      | true=>rfl
      | false=>exact absurd (.inr hf) h4
     rw[aic h0 h1 h2 h3 h5 h6]at h ⊢;cases ho:v6 (ke t)with
     | none=>rfl
     | some b=>rw[ho]at h;exact absurd rfl h
  ·rw[aia h0 h1 h2]
 ·rw[ak1 h0 h1]
theorem a30 (t:ByteArray) (j:Nat) (h:j<t.size):t.data.toList[j]?=some t[j]:=by
 rw[List.getElem?_eq_getElem (by rw[adw];exact h)];rfl
theorem a7m {t:ByteArray} (h:(jg t).2.2=0):∃P x y M,t=toS (vu P x y M)∧ai6 P∧jr [x,y]=some ((ajw P).toNat:Int):=by
 obtain⟨h1,h2,h3,h4,h5,h6⟩:=a56 h;obtain⟨i,hi⟩:∃i,ja t=(i,0):=⟨(ja t).1,by rw[← h2]⟩;obtain⟨b1,b2,b3⟩:=agh t 80 1 i hi;obtain⟨s1,s2,s3⟩:=bag t 80 1 i hi;rw[hi]at h3 h4;have hL:=aha hi;rw[hL]at h5 h6;have hlist:(t.extract 1 i).data.toList=(t.data.toList.drop 1).take (i-1):=by rw[aa5]
 obtain⟨L,hLe⟩:∃L,t.extract 1 i=L:=⟨_,rfl⟩;have hls:L.size=i-1:=by rw[← hLe,ByteArray.size_extract];omega
 rw[hLe]at h5 h6 hlist;unfold zt at h5;rw[Bool.and_eq_true,Bool.and_eq_true,Bool.and_eq_true,Bool.and_eq_true]at h5;obtain⟨⟨⟨⟨q1,q2⟩,q3⟩,q4⟩,q5⟩:=h5;have k1:=of_decide_eq_true q1;obtain⟨n,hn⟩:∃n,L.size=n+3:=⟨L.size-3,by omega⟩;have hix:Lib.indexByte L.data.toList 42=(n:Int):=by have:=of_decide_eq_true q2;unfold ae2 at this;omega
 obtain⟨i1,i2,i3⟩:=azq _ _ n hix;obtain⟨b,hb⟩:=Option.isSome_iff_exists.1 h6;unfold v6 at hb;rw[if_neg om]at hb
 split at hb
 ·rename_i hc;obtain⟨_,hu⟩:=hc;rw[show L.size-3=n from by omega,azs]at hu;obtain⟨x,y,hxy⟩:=bbr hu;have hPl:(L.data.toList.take n).length=n:=by rw[List.length_take];omega
  have hP:(L.extract 0 n).data.toList=L.data.toList.take n:=by rw[aa5];rfl
  have hsum:awz (L.extract 0 n)=((ajw (L.data.toList.take n)).toNat:Int):=by unfold awz;rw[hP]
  have hall:∀c∈L.data.toList,okC (c.toNat:Int)=true:=by
   intro c hc;rw[hlist]at hc;obtain⟨j,hj,rfl⟩:=List.getElem_of_mem hc;rw[List.length_take,List.length_drop]at hj;obtain⟨g,ok,_⟩:=s1 (j+1) om om
   have e:((t.data.toList.drop 1).take (i-1))[j]'(by rw[List.length_take,List.length_drop];exact hj)=t[j+1]:=by
    rw[List.getElem_take,List.getElem_drop];have:=a30 t (j+1) g;rw[List.getElem?_eq_getElem (by rw[adw];exact g)]at this;injection this with this
    rw[← this]
    congr 1
    omega
   rw[e];exact ok
  refine⟨L.data.toList.take n,x,y,t.data.toList.drop (i+2),?_,⟨by omega,by omega,?_,?_,?_⟩,by rw[← hxy,hu,hsum]⟩
  ·have e1:t.data.toList=t.data.toList.take i++t.data.toList.drop i:=(List.take_append_drop _ _).symm
   have e2:t.data.toList.drop i=13::10::t.data.toList.drop (i+2):=by
    have g1:i<t.data.toList.length:=by rw[adw];omega
    have g2:i+1<t.data.toList.length:=by rw[adw];omega
    rw[List.drop_eq_getElem_cons g1,List.drop_eq_getElem_cons g2];have v2:t.data.toList[i+1]=10:=by rw[List.getElem?_eq_getElem g2]at h4;injection h4
    have v1:t.data.toList[i]=13:=by
     have:=(ahv t i om 13).2 (by rw[s3];rfl);rw[List.getElem?_eq_getElem g1]at this;injection this
    rw[v1,v2]
   have e3:t.data.toList.take i=36::L.data.toList:=by
    rw[hlist];cases hd:t.data.toList with
    | nil=>rw[hd]at h1;cases h1
    | cons a l=>
     rw[hd]at h1;have:a=36:=by simpa using h1
     subst this;obtain⟨i,rfl⟩:∃j,i=j+1:=⟨i-1,by omega⟩;rfl
   refine(a2f t).symm.trans (congrArg toS (e1.trans ?_));rw[e2,e3];have i2':=i2;rw[hxy]at i2';generalize L.data.toList.take n=Q at i2' ⊢;rw[i2'];simp[vu]
  ·intro c hc;rw[List.take_take,Nat.min_eq_left om]at hc;unfold acc auf at q3;rw[Bool.and_eq_true,aa5,List.all_eq_true]at q3;exact q3.2 c hc
  ·intro c hc;refine a9l (hall c (List.mem_of_mem_take hc)) ?_;intro h42;exact i3 c hc (UInt8.toNat_inj.1 (by have e:(42:UInt8).toNat=42:=rfl;omega))
  ·intro h;rw[hPl]at h;rw[Bool.or_eq_true,decide_eq_true_eq,decide_eq_true_eq]at q5;rw[List.getElem?_take_of_lt h];exact q5.resolve_left om
 ·cases hb
theorem a1i (l:List UInt8):((kt l).flatMap fun f=>44::f)=44::l:=by
 induction l with
 | nil=>rfl
 | cons b l ih=>
  by_cases hb:b=44
  ·rw[hb,akw,List.flatMap_cons,ih];rfl
  ·rw[am4 b l hb];cases hs:kt l with
   | nil=>exact absurd hs (ah8 l)
   | cons h r=>
    rw[hs,List.flatMap_cons]at ih;have ih':h ++(r.flatMap fun f=>44::f)=l:=by simpa using ih
    show (44::([b]++h)) ++(r.flatMap fun f=>44::f)=44::b::l;rw[← ih'];simp
section
variable {P : List UInt8} (hP : ai6 P)
include hP
theorem a24:aj5 (age P).1 (age P).2.1 (age P).2.2=P:=by
 obtain⟨p1,p2,p3,p4,p5⟩:=hP;unfold aj5 age;rw[jk,jk]
 have e:P=P.take 2 ++(P.drop 2).take 3++P.drop 5:=by
  conv=>lhs;rw[← List.take_append_drop 5 P,show (5:Nat)=2+3 from rfl,List.take_add]
 by_cases h:5<P.length
 ·have hd:P.drop 5=44::P.drop 6:=by
   rw[List.drop_eq_getElem_cons h];have:=p5 h;rw[List.getElem?_eq_getElem h]at this;injection this with this
   rw[this]
  show _++_++List.flatMap _ (if 5<P.length then _ else _)=P;rw[if_pos h]
  conv=>rhs;rw[e,hd,← a1i]
  rw[List.flatMap_map];simp only[jk]
 ·show _++_++List.flatMap _ (if 5<P.length then _ else _)=P;rw[if_neg h,List.flatMap_nil];have e5:P.drop 5=[]:=List.drop_eq_nil_of_le om;rw[e5]at e;exact e.symm
end
theorem aqj (l m:List UInt8):∀f i,(v9 (toS l) f i).2≠2→v9 (toS (l++m)) f i=v9 (toS l) f i:=by
 intro f
 induction f with
 | zero=>intro i _;rfl
 | succ f ih=>
  intro i h
  by_cases hi:i<(toS l).size
  ·have hi':i<(toS (l++m)).size:=by rw[vm]at hi ⊢;rw[List.length_append];omega
   have e:(toS (l++m))[i]=(toS l)[i]:=by
    rw[ay9 _ _ hi,ay9 _ _ hi',List.getElem_append_left]
   unfold v9 at h ⊢;rw[dif_pos hi]at h ⊢;rw[dif_pos hi',e]
   split
   ·rfl
   ·rename_i h13;rw[if_neg h13]at h
    split
    ·rename_i ho;rw[if_pos ho]at h;exact ih _ h
    ·rfl
  ·unfold v9 at h;rw[dif_neg hi]at h;exact absurd rfl h
theorem bbg (l m:List UInt8) (h:(jg (toS l)).2.2≠2):jg (toS (l++m))=jg (toS l):=by
 by_cases h0:(toS l).size=0
 ·rw[an7 h0]at h;exact absurd rfl h
 have h0':¬(toS (l++m)).size=0:=by rw[vm]at h0 ⊢;rw[List.length_append];omega
 have get:∀j,j<l.length →(toS (l++m)).data.toList[j]?=(toS l).data.toList[j]?:=fun j hj=>by rw[jk,jk,List.getElem?_append_left hj]
 have hz:(toS l).size=l.length:=vm l
 by_cases h1:(toS l).data.toList[0]?=some 36
 ·have h1':(toS (l++m)).data.toList[0]?=some 36:=by rw[get 0 om];exact h1
  by_cases h2:(ja (toS l)).2=0
  ·have hE:ja (toS (l++m))=ja (toS l):=aqj l m 80 1 (by show (ja (toS l)).2≠2;omega);have h2':(ja (toS (l++m))).2=0:=by rw[hE];exact h2
   by_cases h3:(toS l).size<(ja (toS l)).1+2
   ·rw[an8 h0 h1 h2 h3]at h;exact absurd rfl h
   ·have h3':¬(toS (l++m)).size<(ja (toS (l++m))).1+2:=by rw[hE];rw[vm]at h3 ⊢;rw[List.length_append];omega
    obtain⟨i,hi⟩:∃i,ja (toS l)=(i,0):=⟨(ja (toS l)).1,by rw[← h2]⟩;have hi':ja (toS (l++m))=(i,0):=by rw[hE];exact hi
    have hLn:ke (toS (l++m))=ke (toS l):=by
     rw[aha hi,aha hi',vz,vz,jk,jk];rw[hi]at h3;have b1:=(agh (toS l) 80 1 i hi).1
     congr 1
     rw[List.drop_append_of_le_length om,List.take_append_of_le_length (by rw[List.length_drop];omega)]
    have g4:(toS (l++m)).data.toList[(ja (toS l)).1+1]?=(toS l).data.toList[(ja (toS l)).1+1]?:=get _ om;rw[← hE]at g4
    by_cases h4:(toS l).data.toList[(ja (toS l)).1+1]?≠some 10∨zt (ke (toS l))=false
    ·rw[aib h0 h1 h2 h3 h4,aib h0' h1' h2' h3' (by rw[g4,hE,hLn];exact h4)]
    ·have h5:(toS l).data.toList[(ja (toS l)).1+1]?=some 10:=Classical.not_not.1 fun k=>h4 (.inl k)
     have h6:zt (ke (toS l))=true:=by cases hf:zt (ke (toS l))with
      | true=>rfl
      | false=>exact absurd (.inr hf) h4
     rw[aic h0 h1 h2 h3 h5 h6,aic h0' h1' h2' h3' (by rw[g4,hE];exact h5) (by rw[hLn];exact h6),hLn,hE]
  ·have hE:ja (toS (l++m))=ja (toS l):=aqj l m 80 1 (by
    show (ja (toS l)).2≠2;rw[aia h0 h1 h2]at h;exact h)
   rw[aia h0 h1 h2,aia h0' h1' (by rw[hE];exact h2),hE]
 ·have h1':¬(toS (l++m)).data.toList[0]?=some 36:=by rw[get 0 om];exact h1
  rw[ak1 h0 h1,ak1 h0' h1']
theorem apx (t:ByteArray):t.data.toList.length=t.size:=by rw[Array.length_toList];rfl
theorem ars (t y:ByteArray):∀fs:List ByteArray,fs.length+t.size+y.size ≤(aj5 t y fs).length∧∀f∈fs,f.size ≤(aj5 t y fs).length:=by
 intro fs;have e1:=apx t;have e2:=apx y
 have key:fs.length ≤(fs.flatMap fun f=>(44:UInt8)::f.data.toList).length∧∀f∈fs,f.size ≤(fs.flatMap fun f=>(44:UInt8)::f.data.toList).length:=by
  induction fs with
  | nil=>exact⟨Nat.zero_le _,fun f hf=>by simp at hf⟩
  | cons g l ih=>
   have e3:=apx g;rw[List.flatMap_cons,List.length_append,List.length_cons,List.length_cons];refine⟨by omega,fun f hf=>?_⟩;rcases List.mem_cons.1 hf with rfl|hf
   ·omega
   ·have:=ih.2 f hf;omega
 unfold aj5;rw[List.length_append,List.length_append];exact⟨by omega,fun f hf=>by have:=key.2 f hf;omega⟩
theorem a54 {t:ByteArray} (h:(jg t).2.2=0):∃P x y M,ai6 P∧t=toS (vu P x y M)∧jr [x,y]=some ((ajw P).toNat:Int)∧jg t=(age P,P.length+6,0):=by
 obtain⟨P,x,y,M,rfl,hP,hu⟩:=a7m h;exact⟨P,x,y,M,hP,rfl,hu,atz hP hu⟩
theorem aw2 (t:ByteArray):(jg t).1.2.2.length≤76 ∧(∀f∈(jg t).1.2.2,f.size≤76) ∧(jg t).1.1.size≤76 ∧(jg t).1.2.1.size≤76:=by
 by_cases h:(jg t).2.2=0
 ·obtain⟨P,x,y,M,hP,-,-,e⟩:=a54 h;rw[e];have hb:=a24 hP;have h1:=ars (age P).1 (age P).2.1 (age P).2.2;rw[hb]at h1;have h2:=hP.2.1;exact⟨by simp only;omega,fun f hf=>Nat.le_trans (h1.2 f hf) h2,by simp only;omega,by simp only;omega⟩
 ·rw[bbe h];exact⟨Nat.zero_le _,fun f hf=>by simp at hf,Nat.zero_le _,Nat.zero_le _⟩
theorem a0c {lo lo':Nat} {C D:Array Value} {m:NmD} {w:World} (hC:NmV lo w C m) (hD:NmV lo' w D m) (h1:m.s.ids.length≤1000000) (h2:m.u.L.length≤1000000) :
 Calls prog 28 #[.agg C,.agg D] w fun e w'=>e=.returned (.bool true)∧Below w.1.size w w':=by
 obtain⟨x,y,rfl,⟨A,c,rfl,hA⟩,⟨B,d,rfl,hB⟩⟩:=hC;obtain⟨x',y',rfl,⟨A',c',rfl,hA'⟩,⟨B',d',rfl,hB'⟩⟩:=hD
 exact a43 (A:=A) (B:=B) (A':=A') (B':=B') (n:=m.s.ids.length) (p:=m.u.L.length)
  (fun W hb=>avw m.s.a m.s.f m.s.p0.1 m.s.p0.2 m.s.p1.1 m.s.p1.2 m.s.p2.1 m.s.p2.2 A A' m.s.ids.length c c' m.s.ids W rfl (ass hA hb).ints (ass hA' hb).ints h1)
  (fun W hb=>avx m.u.T m.u.N m.u.S B B' m.u.L.length d d' m.u.L W rfl (ass hB hb).vws (ass hB' hb).vws h2)
theorem aew {fn:Func} {p u v:Tmp} {ty:TypeId} (h:fn.results=#[.cell p ty,.tmp u,.tmp v]) (tmps:Array Value) (P:Program) (w:World) :
 (results fn tmps).run P w =
  ((asAddr (tmps.getD p undef)).run P w).andThen fun a w₁=>((loadVar ty a).run P w₁).andThen fun v' w₂=>.ok (.tuple #[v',tmps.getD u undef,tmps.getD v undef]) w₂:=by
 simp only[results,h];simp[Sem.run_bind,Result.andThen]
def ym (t:ByteArray):NmD×Nat×Int:=if(jg t).2.2=0 then((aei (jg t).1.1 (jg t).1.2.1 (jg t).1.2.2).1,(jg t).2.1,(aei (jg t).1.1 (jg t).1.2.1 (jg t).1.2.2).2)else(arg,0,(jg t).2.2)
def a2l (x:NmD×Nat×Int) (w:World) (e:Ending) (w':World):Prop:=∃C,e=.returned (.tuple #[.agg C,.int .i64 (x.2.1:Int),.int .i64 x.2.2])∧NmV w.1.size w' C x.1∧Below w.1.size w w'
theorem avh {t:ByteArray} {w:World} (ht:t.size≤1000000):Calls prog 44 #[.string t] w (a2l (ym t) w):=by
 obtain⟨⟨⟨T,Y,fs⟩,N,E⟩,hX⟩:∃x,jg t=x:=⟨_,rfl⟩;have hz:fs.length≤1000000∧∀f∈fs,f.size≤1000000:=by have:=aw2 t;rw[hX]at this;exact⟨Nat.le_trans this.1 om,fun f hf=>Nat.le_trans (this.2.1 f hf) om⟩
 obtain⟨⟨m,F⟩,hm⟩:∃x,aei T Y fs=x:=⟨_,rfl⟩;have HD:Hid (ym t=if E=0 then(m,N,F)else(arg,0,E)):=by unfold ym;rw[hX];simp only;rw[hm];exact rfl
 have HT:∀W,Hid (Calls prog 62 #[.string t] W (kh ((T,Y,fs),N,E) W)):=fun W=>by rw[← hX];exact bce t W ht
 have HK:∀A c W,vy W W.1.size A fs→Hid (Calls prog 63 #[.agg #[.string T,.string Y,.slice A fs.length c]] W (bim (m,F) W)):=fun A c W hs=>by rw[← hm];exact a4i hs hz.1 hz.2
 obtain⟨n,hn⟩:∃n,fs.length=n:=⟨_,rfl⟩;have HN:=hid hn;rw[hn]at HK;clear hX hz hm hn ht;go_enter func44,ntmps44;go_wp2_with (refine qc rfl 58 rfl zNm (acx _) ?_;intro W1 hW1;have HR1:=hid (Blk.newL (L:=nmL 0 ByteArray.empty zz xd xt xh xy) hW1 rfl);have HB1:=hid hW1.bel;have HZ1:=hid hW1.sz;clear hW1);refine(HT _).out.mono ?_;rintro e W2 ⟨A,c,rfl,hs,hf,hb⟩;have HST:=hid hs;have HR2:=hid (HR1.out.on hb);have HB2:=hid (qb HB1.out hb);have HZ2:Hid (w.1.size<W2.1.size):=HR2.out.lt;clear hs hf hb HR1 HB1 HT;have HST:Hid (vy W2 W2.1.size A fs):=HST;dsimp only;rw[HN.out]
 by_cases h0:E=0
 ·subst h0;have HX:Hid (ym t=(m,N,F)):=HD.out.trans (if_pos rfl);clear HD
  go_upto_region 2 with(first
   | (refine qc rfl 150 rfl #[.string ByteArray.empty,.string ByteArray.empty,.slice none 0 0] kr ?_;intro W3 hW3;have HS3:=hid (Blk.newL (L:=[.string ByteArray.empty,.string ByteArray.empty,.slice none 0 0]) hW3 rfl);have HR3:=hid (HR2.out.grew hW3);have HB3:=hid (qb HB2.out hW3.bel);have HT3:=hid ((HST.out.below hW3.bel (Nat.le_refl _)).more hW3.bel.size);have HL3:=hid hW3.bel;clear hW3 HR2)
   | (refine qe rfl 150 _ _ rfl W2.1.size 0 #[.string T,.string Y,.slice A n c] rfl rfl (HS3.out.there 0 3 dc) aku (xj.arr (L:=[.string T,.string Y,.slice A n c]) (xj.of rfl)) ?_;intro W4 hW4;have HS4:Hid (Blk W4 W2.1.size [.string T,.string Y,.slice A n c]):=HS3.out.all hW4 rfl;have HR4:=hid (HR3.out.far hW4 (by have:=HZ2.out;omega));have HL4:=hid (HL3.out.trans (hW4.below (Nat.le_refl _)));have HT4:Hid (vy W4 W4.1.size A fs):=(HST.out.below HL4.out (Nat.le_refl _)).more HL4.out.size;have HB4:=hid (qb HB2.out HL4.out);clear hW4 HS3 HR3 HB3 HT3 HL3))
  try go_frame
  go_wp2_with (refine wpList_load_mid rfl 150 _ rfl W2.1.size 0 rfl [.string T,.string Y,.slice A n c] _ HS4.out.rg underlying150 rfl aku ?_);refine(HK A c _ HT4.out).out.mono ?_;rintro e W5 ⟨D,rfl,hd,hb⟩;have HD:=hid hd;have HR5:=hid (HR4.out.on hb);have HB5:=hid (qb HB4.out hb);have HZ5:Hid (w.1.size<W4.1.size∧w.1.size<W5.1.size):=⟨HR4.out.lt,HR5.out.lt⟩;clear hd hb HS4 HR4 HT4 HB4 HL4 HK;dsimp only
  go_wp2_with (first
   | (refine qc rfl 58 rfl zNm (acx _) ?_;intro W6 hW6;have HA:=hid (Blk.newL (L:=nmL 0 ByteArray.empty zz xd xt xh xy) hW6 rfl);have HR6:=hid (HR5.out.grew hW6);have HB6:=hid (qb HB5.out hW6.bel);have HL6:=hid hW6.bel;clear hW6 HR5)
   | (refine qe rfl 58 _ _ rfl W5.1.size 0 D rfl rfl (adt HA.out qo HD.out) (aah HD.out) HD.out.ones ?_;intro W7 hW7;have HM7:Hid (Blk W7 W5.1.size D.toList):=HA.out.all hW7 (ah1 HD.out);have HR7:=hid (HR6.out.far hW7 (by have:=HZ5.out;omega));have HL7:=hid (HL6.out.trans (hW7.below (Nat.le_refl _)));have HB7:=hid (qb HB5.out HL7.out);clear hW7 HR6 HA HB6 HL6)
   | refine wpList_load_mid rfl 58 _ rfl W5.1.size 0 rfl D.toList _ HM7.out.rg underlying58 rfl (by rw[Array.length_toList];exact aah HD.out) ?_
   | (refine qe rfl 58 _ _ rfl w.1.size 0 D rfl rfl (adt HR7.out qo HD.out) (aah HD.out) HD.out.ones ?_;intro W8 hW8;have HM8:Hid (Blk W8 w.1.size D.toList):=HR7.out.all hW8 (ah1 HD.out);have HB8:=hid (HB7.out.trans (hW8.below (Nat.le_refl _)));have HD8:=hid ((HD.out.on HL7.out).far hW8 HZ5.out.1);clear hW8 HR7 HB7))
  have HLD:=hid (run_loadVar_mid (P:=prog) _ w.1.size 0 58 _ _ HM8.out.rg underlying58 rfl (by rw[Array.length_toList];exact aah HD.out));refine bodyPost_ret (v:=.tuple #[.agg D,.int .i64 (N:Int),.int .i64 F]) (by rw[aew rfl];simp[asAddr,Result.andThen,HLD.out]) rfl ?_;rw[HX.out];exact⟨D,rfl,HD8.out.less (by have:=HZ5.out;omega),HB8.out⟩
 ·have HX:Hid (ym t=(arg,0,E)):=HD.out.trans (if_neg h0);have hne:(E != 0)=true:=by rw[bne_iff_ne];exact h0
  clear HD HK
  go_wp2_with (first
   | (refine qc rfl 150 rfl #[.string ByteArray.empty,.string ByteArray.empty,.slice none 0 0] kr ?_;intro W3 hW3;have HS3:=hid (Blk.newL (L:=[.string ByteArray.empty,.string ByteArray.empty,.slice none 0 0]) hW3 rfl);have HR3:=hid (HR2.out.grew hW3);have HB3:=hid (qb HB2.out hW3.bel);clear hW3 HR2)
   | (refine qe rfl 150 _ _ rfl W2.1.size 0 #[.string T,.string Y,.slice A n c] rfl rfl (HS3.out.there 0 3 dc) aku (xj.arr (L:=[.string T,.string Y,.slice A n c]) (xj.of rfl)) ?_;intro W4 hW4;have HR4:=hid (HR3.out.far hW4 (by have:=HZ2.out;omega));have HB4:=hid (HB3.out.trans (hW4.below (by have:=HZ2.out;omega)));clear hW4 HS3 HR3 HB3)
   | refine zy rfl 58 rfl (asv _) ?_
   | (refine qe rfl 58 _ _ rfl w.1.size 0 zNm rfl rfl (adt HR4.out qo (NmV.zero 0 w)) (aah (NmV.zero 0 w)) (NmV.zero 0 w).ones ?_;intro W7 hW7;have HM7:Hid (Blk W7 w.1.size zNm.toList):=HR4.out.all hW7 (ah1 (NmV.zero 0 w));have HB7:=hid (HB4.out.trans (hW7.below (Nat.le_refl _)));clear hW7 HR4 HB4))
  have HLD:=hid (run_loadVar_mid (P:=prog) _ w.1.size 0 58 _ _ HM7.out.rg underlying58 rfl (by rw[Array.length_toList];exact aah (NmV.zero 0 w)));refine bodyPost_ret (v:=.tuple #[.agg zNm,.int .i64 0,.int .i64 E]) (by rw[aew rfl];simp[asAddr,Result.andThen,HLD.out]) rfl ?_;rw[HX.out];exact⟨zNm,rfl,NmV.zero _ _,HB7.out⟩
theorem acu {α:Type} (b m:List α) (i n:Nat) (h:i+n≤b.length):((b++m).drop i).take n=(b.drop i).take n:=by
 rw[List.drop_append_of_le_length om,List.take_append_of_le_length (by rw[List.length_drop];omega)]
theorem vv (b m:List UInt8) (i:Nat) (h:i<b.length):zx (b++m) i=zx b i:=by
 unfold zx;rw[List.getD_eq_getElem?_getD,List.getD_eq_getElem?_getD,List.getElem?_append_left h]
theorem ax2:∀(b m:List UInt8),vo b=false→vo (b++m)=false
 | [],_,h=>by cases h
 | [x],[],h=>h
 | [x],y::_,h=>by
  have h':decide (x.toNat=181)=false:=h;show (decide (x.toNat=181) && decide (y.toNat=98))=false;rw[h'];rfl
 | x::y::_,_,h=>h
theorem aui:∀(b m:List UInt8),2≤b.length→vo (b++m)=vo b
 | [],_,h=>by simp at h
 | [x],_,h=>by simp at h
 | x::y::_,_,_=>rfl
theorem a82 (b m:List UInt8) (h:(abk b).e≠2):abk (b++m)=abk b:=by
 cases hb:vo b with
 | false=>
  unfold abk;rw[if_pos (ax2 b m hb),if_pos hb]
 | true=>
  by_cases h6:b.length<6
  ·exfalso;apply h;unfold abk;rw[if_neg (by rw[hb];decide),if_pos h6];rfl
  ·have h6':¬(b++m).length<6:=by rw[List.length_append];omega
   have hb2:vo (b++m)=true:=by rw[aui b m om,hb]
   have q1:¬vo b=false:=by rw[hb];decide
   have q2:¬vo (b++m)=false:=by rw[hb2];decide
   unfold abk;rw[if_neg q2,if_neg h6',if_neg q1,if_neg h6,vv b m 4 om,vv b m 5 om,vv b m 2 om,vv b m 3 om];have hN:∀N,(zx b 4).toNat+256*(zx b 5).toNat=N→N≤N:=fun _ _=>Nat.le_refl _
   by_cases h7:1016<(zx b 4).toNat+256*(zx b 5).toNat
   ·rw[if_pos h7,if_pos h7]
   ·rw[if_neg h7,if_neg h7]
    by_cases h8:b.length<(zx b 4).toNat+256*(zx b 5).toNat+8
    ·exfalso;apply h;unfold abk;rw[if_neg (by rw[hb];decide),if_neg h6,if_neg h7,if_pos h8];rfl
    ·rw[if_neg h8,if_neg (by rw[List.length_append];omega),acu b m 2 _ om,acu b m 6 _ om]
theorem a83 (b:List UInt8):((abk b).e=0→8 ≤(abk b).n ∧(abk b).n≤1024 ∧(abk b).n≤b.length) ∧((abk b).e=2→b.length<1024):=by
 unfold abk aes
 repeat' split
 all_goals first|exact⟨fun h=>absurd h dc,fun h=>absurd h dc⟩|(refine⟨fun h=>?_,fun h=>?_⟩<;>dsimp only at h ⊢<;>first|omega|(exact absurd h dc))
theorem bbp (b m:List UInt8) (h:0<(agm b).2.1 ∨(agm b).1≠2):agm (b++m)=agm b:=by
 have h2:(abk b).e≠2:=by
  intro q;unfold agm at h;rw[if_neg (by rw[q];decide)]at h;rcases h with h|h
  ·exact absurd h sm
  ·exact h q
 unfold agm;rw[a82 b m h2]
theorem bbq (b:List UInt8):(0<(agm b).2.1→8 ≤(agm b).2.1 ∧(agm b).2.1≤1024 ∧(agm b).2.1≤b.length) ∧((agm b).2.1=0 →(agm b).1=2→b.length<1024):=by
 have hs:=a83 b;unfold agm
 split
 ·rename_i h0;have:=hs.1 h0;dsimp only;exact⟨fun _=>this,fun q=>by omega⟩
 ·dsimp only;exact⟨fun q=>absurd q sm,fun _=>hs.2⟩
def adj (b:List UInt8):ByteArray:=toS (b.take 82)
theorem ato (t:ByteArray):∀f i,(v9 t f i).2=2→t.size<i+f
 | 0,i,h=>by simp[v9]at h
 | f+1,i,h=>by
  unfold v9 at h
  split at h
  ·split at h
   ·cases h
   ·split at h
    ·have:=ato t f (i+1) h;omega
    ·cases h
  ·omega
theorem bbf {t:ByteArray} (h:(jg t).2.2=2):t.size<82:=by
 unfold jg at h
 split at h
 ·omega
 split at h
 ·cases h
 split at h
 ·have:=ato t 80 1 h;omega
 rename_i h2
 split at h
 ·rename_i h3;have he:(ja t).2=0:=by simpa using h2
  have h4:=agh t 80 1 (ja t).1 (by unfold ja at he ⊢;rw[← he]);omega
 split at h
 ·cases h
 ·revert h;cases v6 (ke t)with
  | none=>intro h;cases h
  | some b=>intro h;cases h
theorem a55 {t:ByteArray} (h:(jg t).2.2=0):8 ≤(jg t).2.1 ∧(jg t).2.1≤82 ∧(jg t).2.1≤t.size:=by
 obtain⟨P,x,y,M,e,hP,hu⟩:=a7m h;have hz:t.size=P.length+6+M.length:=by rw[e,vm,aif]
 rw[e,atz hP hu];have h1:=hP.1;have h2:=hP.2.1;dsimp only;rw[vm,aif];omega
theorem atc (b:List UInt8):(adj b).size=min 82 b.length:=by
 unfold adj;rw[vm,List.length_take]
theorem a3h {t:ByteArray} (h:0<(ym t).2.1 ∨(ym t).2.2≠2):(jg t).2.2≠2:=by
 intro q;unfold ym at h;rw[if_neg (by rw[q];decide)]at h;rcases h with h|h
 ·exact absurd h sm
 ·exact h q
theorem a9q (b m:List UInt8) (h:0<(ym (adj b)).2.1 ∨(ym (adj b)).2.2≠2):ym (adj (b++m))=ym (adj b):=by
 have h2:=a3h h
 have e:adj (b++m)=toS (b.take 82++m.take (82-b.length)):=by
  unfold adj;rw[List.take_append]
 have ht:jg (adj (b++m))=jg (adj b):=by rw[e];exact bbg _ _ h2
 unfold ym;rw[ht]
theorem a3g (b:List UInt8):(0<(ym (adj b)).2.1→8 ≤(ym (adj b)).2.1 ∧(ym (adj b)).2.1≤1024 ∧(ym (adj b)).2.1≤b.length) ∧((ym (adj b)).2.1=0 →(ym (adj b)).2.2=2→b.length<1024):=by
 have hz:=atc b;generalize adj b=t at *;unfold ym
 split
 ·rename_i h0;have:=a55 h0;dsimp only;exact⟨fun _=>by omega,fun q=>by omega⟩
 ·dsimp only;exact⟨fun q=>absurd q sm,fun _ q=>by have:=bbf q;omega⟩
theorem bbl (b m:List UInt8) (h:0<(abv b).2.1 ∨(abv b).1≠2):abv (b++m)=abv b:=by
 unfold abv at h ⊢;dsimp only at h ⊢
 by_cases h0:b.length=0
 ·rw[if_pos h0]at h;exact absurd h sm
 rw[if_neg h0]at h ⊢;rw[if_neg (by rw[List.length_append];omega),vv b m 0 om]
 by_cases h1:zx b 0≠254
 ·rw[if_pos h1,if_pos h1]
 rw[if_neg h1]at h ⊢;rw[if_neg h1]
 by_cases h2:b.length<6
 ·rw[if_pos h2]at h;exact absurd h sm
 rw[if_neg h2]at h ⊢;rw[if_neg (by rw[List.length_append];omega),vv b m 5 om,vv b m 1 om];generalize (zx b 5).toNat=i at *;generalize yi (xe (i:Int)).2=w at *
 by_cases h3:w=0
 ·rw[if_pos h3,if_pos h3]
 rw[if_neg h3]at h ⊢;rw[if_neg h3]
 by_cases h4:(zx b 1).toNat≠w
 ·rw[if_pos h4,if_pos h4]
 rw[if_neg h4]at h ⊢;rw[if_neg h4]
 by_cases h5:b.length<w+8
 ·rw[if_pos h5]at h;exact absurd h sm
 rw[if_neg h5,if_neg (by rw[List.length_append];omega),acu b m 1 _ om,acu b m 6 _ om,vv b m (w+6) om,vv b m (w+7) om,vv b m 2 om,vv b m 3 om,vv b m 4 om]
theorem bbm (b:List UInt8):(0<(abv b).2.1→8 ≤(abv b).2.1 ∧(abv b).2.1≤1024 ∧(abv b).2.1≤b.length) ∧((abv b).2.1=0 →(abv b).1=2→b.length<1024):=by
 have hw:=(zx b 1).toNat_lt;unfold abv;dsimp only;generalize (zx b 5).toNat=i at *;generalize yi (xe (i:Int)).2=w at *
 repeat' split
 all_goals (refine⟨fun q=>?_,fun q r=>?_⟩<;>dsimp only at *<;>first|omega|exact absurd q dc|exact absurd r dc)
structure ItD where
 pr:Int
 od:Bool
 U:aen
 N:NmD
 T:ag1
def ael:ItD:=⟨0,false,aao,arg,yx⟩
def ad1 (p:Int) (b:List UInt8):ItD×Nat×Int:=
 if p=1 then({ael with U:=(agm b).2.2},(agm b).2.1,(agm b).1)
 else if p=2 then({ael with N:=(ym (adj b)).1},(ym (adj b)).2.1,(ym (adj b)).2.2)
 else({ael with T:=(abv b).2.2},(abv b).2.1,(abv b).1)
theorem a8t (p:Int) (b m:List UInt8) (h:0<(ad1 p b).2.1 ∨(ad1 p b).2.2≠2):ad1 p (b++m)=ad1 p b:=by
 unfold ad1 at h ⊢
 split
 ·rename_i h1;rw[if_pos h1]at h;rw[bbp b m h]
 ·rename_i h1;rw[if_neg h1]at h
  split
  ·rename_i h2;rw[if_pos h2]at h;rw[a9q b m h]
  ·rename_i h2;rw[if_neg h2]at h;rw[bbl b m h]
theorem ali (p:Int) (b:List UInt8):(0<(ad1 p b).2.1→8 ≤(ad1 p b).2.1 ∧(ad1 p b).2.1≤1024 ∧(ad1 p b).2.1≤b.length) ∧((ad1 p b).2.1=0 →(ad1 p b).2.2=2→b.length<1024):=by
 unfold ad1
 split
 ·exact bbq b
 split
 ·exact a3g b
 ·exact bbm b
structure VeD where
 d:Int
 p:Int
 n:Nat
 e:Int
 x:ItD
def bmb:VeD:=⟨0,0,0,0,ael⟩
def agw (p:Int) (r:ItD×Nat×Int):VeD:=
 if 0<r.2.1 then(if r.2.2=0 then⟨2,p,r.2.1,0,{r.1 with pr:=p}⟩else⟨2,p,r.2.1,r.2.2,{ael with pr:=p,od:=true}⟩)
 else if r.2.2=2 then⟨0,p,0,0,ael⟩else⟨1,p,0,r.2.2,ael⟩
def zm:List UInt8→VeD
 | []=>bmb
 | x::l=>if jp x=0 then⟨1,0,0,3,ael⟩else agw (jp x) (ad1 (jp x) (x::l))
theorem vw (x:UInt8) (l:List UInt8):zm (x::l)=if jp x=0 then⟨1,0,0,3,ael⟩else agw (jp x) (ad1 (jp x) (x::l)):=rfl
theorem alx (x:UInt8):jp x=0∨jp x=1∨jp x=2∨jp x=3:=by
 unfold jp
 repeat' split
 all_goals simp
theorem bfz (p:Int) (r:ItD×Nat×Int):(agw p r).p=p:=by
 unfold agw;repeat' split
 all_goals rfl
theorem aq6 (p:Int) (r:ItD×Nat×Int):((agw p r).d=0↔r.2.1=0∧r.2.2=2) ∧((agw p r).d=0 ∨(agw p r).d=1 ∨(agw p r).d=2) ∧((agw p r).d=2↔0<r.2.1):=by
 unfold agw
 by_cases h1:0<r.2.1
 ·have h0:¬r.2.1=0:=by omega
  rw[if_pos h1]
  split<;>simp[h1,h0]
 ·have h0:r.2.1=0:=by omega
  rw[if_neg h1]
  split<;>simp_all
theorem bla (p:Int) (r:ItD×Nat×Int):(agw p r).n=r.2.1:=by
 unfold agw;repeat' split
 all_goals first|rfl|(show (0:Nat)=_;omega)
theorem bbt (b m:List UInt8) (h:(zm b).d≠0):zm (b++m)=zm b:=by
 cases b with
 | nil=>exact absurd rfl h
 | cons x l=>
  show zm (x::(l++m))=zm (x::l);rw[vw]at h;rw[vw,vw]
  split
  ·rfl
  ·rename_i h0;rw[if_neg h0]at h;have:=(aq6 (jp x) (ad1 (jp x) (x::l))).1
   rw[← List.cons_append,a8t _ _ m (by
    rcases Nat.eq_zero_or_pos (ad1 (jp x) (x::l)).2.1 with q|q
    ·exact .inr fun r=>h (this.2 ⟨q,r⟩)
    ·exact .inl q)]
theorem bk9 (b:List UInt8) (x:UInt8) (h:b[0]?=some x):(zm b).p=jp x:=by
 cases b with
 | nil=>cases h
 | cons y l=>
  injection h with h;subst h
  rw[vw]
  split
  ·rename_i h0;exact h0.symm
  ·exact bfz _ _
theorem bk8 (b:List UInt8):(zm b).d=0 ∨(zm b).d=1 ∨(zm b).d=2:=by
 cases b with
 | nil=>exact .inl rfl
 | cons y l=>
  rw[vw]
  split
  ·exact .inr (.inl rfl)
  ·exact(aq6 _ _).2.1
theorem ame (b:List UInt8) (h:(zm b).d=2):8 ≤(zm b).n ∧(zm b).n≤1024 ∧(zm b).n≤b.length ∧(zm b).x.pr=(zm b).p ∧((zm b).p=1 ∨(zm b).p=2 ∨(zm b).p=3):=by
 cases b with
 | nil=>exact absurd h dc
 | cons y l=>
  rw[vw]at h ⊢
  split
  ·rename_i h0;rw[if_pos h0]at h;exact absurd h dc
  ·rename_i h0;rw[if_neg h0]at h;have h2:=(aq6 _ _).2.2.1 h;have h3:=(ali (jp y) (y::l)).1 h2;have hp:=alx y;rw[bla,bfz];refine⟨h3.1,h3.2.1,h3.2.2,?_,by rcases hp with q|q|q|q<;>simp_all⟩;unfold agw;rw[if_pos h2]
   split<;>rfl
theorem a7p (b:List UInt8) (h:(zm b).d≠2):(zm b).n=0 ∧(zm b).x=ael:=by
 cases b with
 | nil=>exact⟨rfl,rfl⟩
 | cons y l=>
  rw[vw]at h ⊢
  split
  ·exact⟨rfl,rfl⟩
  ·rename_i h0;rw[if_neg h0]at h;have h2:¬0<(ad1 (jp y) (y::l)).2.1:=fun q=>h ((aq6 _ _).2.2.2 q)
   unfold agw;rw[if_neg h2]
   split<;>exact⟨rfl,rfl⟩
theorem bbu (b:List UInt8) (h:(zm b).d=0):b.length<1024:=by
 cases b with
 | nil=>simp
 | cons y l=>
  rw[vw]at h
  split at h
  ·exact absurd h dc
  ·have h1:=(aq6 _ _).1.1 h;exact(ali (jp y) (y::l)).2 h1.1 h1.2
def acd (v:VeD):Nat:=max v.n 1
def aiw:Nat→List UInt8→List VeD×List UInt8
 | 0,l=>([],l)
 | f+1,l=>if(zm l).d=0 then([],l)else(zm l::(aiw f (l.drop (acd (zm l)))).1,(aiw f (l.drop (acd (zm l)))).2)
def q6 (l:List UInt8):List VeD×List UInt8:=aiw l.length l
theorem at1 {l:List UInt8} (h:(zm l).d≠0):0<l.length:=by
 cases l with
 | nil=>exact absurd rfl h
 | cons x l=>simp
theorem ah9 (v:VeD):1≤acd v:=by unfold acd;omega
theorem aky {l:List UInt8} (h:(zm l).d≠0):acd (zm l)≤l.length:=by
 have h1:=at1 h;unfold acd
 by_cases h2:(zm l).d=2
 ·have:=ame l h2;omega
 ·have:=(a7p l h2).1;omega
theorem atp:∀(f g:Nat) (l:List UInt8),l.length≤f→l.length≤g→aiw f l=aiw g l
 | 0,0,l,_,_=>rfl
 | 0,g+1,l,hf,_=>by
  obtain rfl:l=[]:=List.eq_nil_of_length_eq_zero om;rfl
 | f+1,0,l,_,hg=>by
  obtain rfl:l=[]:=List.eq_nil_of_length_eq_zero om;rfl
 | f+1,g+1,l,hf,hg=>by
  unfold aiw
  by_cases h:(zm l).d=0
  ·rw[if_pos h,if_pos h]
  ·have h1:=at1 h;have h2:=ah9 (zm l);rw[if_neg h,if_neg h,atp f g _ (by rw[List.length_drop];omega) (by rw[List.length_drop];omega)]
theorem afo {l:List UInt8} (h:(zm l).d=0):q6 l=([],l):=by
 cases l with
 | nil=>rfl
 | cons x l=>
  show aiw (l.length+1) (x::l)=_;unfold aiw;rw[if_pos h]
theorem ab1 {l:List UInt8} (h:(zm l).d≠0):q6 l=(zm l::(q6 (l.drop (acd (zm l)))).1,(q6 (l.drop (acd (zm l)))).2):=by
 cases l with
 | nil=>exact absurd rfl h
 | cons x l=>
  have h2:=ah9 (zm (x::l));show aiw (l.length+1) (x::l)=_;rw[aiw,if_neg h,atp l.length _ _ (by rw[List.length_drop,List.length_cons];omega) (Nat.le_refl _)];rfl
theorem a0x:q6 []=([],[]):=rfl
theorem akt {P:List UInt8→Prop} (h0:∀l,(zm l).d=0→P l) (h1:∀l,(zm l).d≠0→P (l.drop (acd (zm l)))→P l):∀l,P l:=by
 intro l;obtain⟨n,hn⟩:∃n,l.length≤n:=⟨_,Nat.le_refl _⟩
 induction n generalizing l with
 | zero=>
  obtain rfl:l=[]:=List.eq_nil_of_length_eq_zero om;exact h0 _ rfl
 | succ n ih=>
  by_cases h:(zm l).d=0
  ·exact h0 l h
  ·have h2:=ah9 (zm l);exact h1 l h (ih _ (by rw[List.length_drop];omega))
theorem a0w (l m:List UInt8):q6 (l++m)=((q6 l).1 ++(q6 ((q6 l).2++m)).1,(q6 ((q6 l).2++m)).2):=by
 revert m;refine akt (P:=fun l=>∀m,q6 (l++m)=((q6 l).1 ++(q6 ((q6 l).2++m)).1,(q6 ((q6 l).2++m)).2)) ?_ ?_ l
 ·intro l h m;rw[afo h];rfl
 ·intro l h ih m;have e:=bbt l m h;have h':(zm (l++m)).d≠0:=by rw[e];exact h
  rw[ab1 h',ab1 h,e,List.drop_append_of_le_length (aky h),ih m];rfl
theorem ah3 (l:List UInt8):(zm (q6 l).2).d=0 ∧(q6 l).2.length<1024∧∃A,l=A ++(q6 l).2∧A.length=((q6 l).1.map acd).sum:=by
 refine akt (P:=fun l=>(zm (q6 l).2).d=0 ∧(q6 l).2.length<1024∧∃A,l=A ++(q6 l).2∧A.length=((q6 l).1.map acd).sum) ?_ ?_ l
 ·intro l h;rw[afo h];exact⟨h,bbu l h,[],rfl,rfl⟩
 ·intro l h ⟨h1,h2,A,h3,h4⟩;rw[ab1 h];refine⟨h1,h2,l.take (acd (zm l))++A,?_,?_⟩
  ·rw[List.append_assoc,← h3,List.take_append_drop]
  ·rw[List.length_append,h4,List.length_take,Nat.min_eq_left (aky h)];simp
theorem a0v {P:VeD→Prop} (hP:∀l,(zm l).d≠0→P (zm l)) (l:List UInt8):∀v∈(q6 l).1,P v:=by
 refine akt (P:=fun l=>∀v∈(q6 l).1,P v) ?_ ?_ l
 ·intro l h;rw[afo h];intro v hv;cases hv
 ·intro l h ih;rw[ab1 h];intro v hv;rcases List.mem_cons.1 hv with rfl|hv
  ·exact hP l h
  ·exact ih v hv
def ayh (v:VeD):Nat:=if v.d=1 then 9+v.p.toNat else if v.x.od then 5+v.p.toNat else 1+v.p.toNat
def acl (C:List Int) (v:VeD):List Int:=q8 C (ayh v) 1
def abb (C:List Int) (V:List VeD):List Int:=V.foldl acl C
theorem apg (C:List Int) (v:VeD):(acl C v).length=C.length:=yg _ _ _
theorem alf (C:List Int) (V:List VeD):(abb C V).length=C.length:=by
 unfold abb
 induction V generalizing C with
 | nil=>rfl
 | cons v V ih=>rw[List.foldl_cons,ih,apg]
theorem a8o (C:List Int) (V U:List VeD):abb C (V++U)=abb (abb C V) U:=List.foldl_append
def xw (V:List VeD):List ItD:=(V.filter fun v=>decide (v.d=2)).map (·.x)
theorem apt (V U:List VeD):xw (V++U)=xw V++xw U:=by simp[xw]
def ayr:VeD:=⟨1,0,0,3,ael⟩
theorem bbs {x:UInt8} {l:List UInt8} (h:jp x=0):zm (x::l)=ayr:=by rw[vw,if_pos h];rfl
def NmQ (Q:Nat→Prop) (w:World) (L:List Value) (m:NmD):Prop:=∃x y,L=nmC m x y ∧(∃A c,x=.slice A m.s.ids.length c∧qf Q w A (m.s.ids.map (Value.int .i64)))∧∃A c,y=.slice A m.u.L.length c∧qf Q w A (vsC m.u.L)
theorem NmV.toQ {lo:Nat} {w:World} {C:Array Value} {m:NmD} (h:NmV lo w C m):NmQ (Bk lo w) w C.toList m:=by
 obtain⟨x,y,rfl,h1,h2⟩:=h;exact⟨x,y,rfl,h1,h2⟩
theorem NmQ.keep {Q:Nat→Prop} {w w':World} {L:List Value} {m:NmD} (h:NmQ Q w L m) (hk:∀b,Q b→w'.heap[b]?=w.heap[b]?):NmQ Q w' L m:=by
 obtain⟨x,y,h0,⟨A,c,h1,h2⟩,⟨B,d,h3,h4⟩⟩:=h;exact⟨x,y,h0,⟨A,c,h1,h2.keep hk⟩,⟨B,d,h3,h4.keep hk⟩⟩
theorem NmQ.less {Q R:Nat→Prop} {w:World} {L:List Value} {m:NmD} (h:NmQ Q w L m) (hr:∀b,Q b→R b):NmQ R w L m:=by
 obtain⟨x,y,h0,⟨A,c,h1,h2⟩,⟨B,d,h3,h4⟩⟩:=h;exact⟨x,y,h0,⟨A,c,h1,h2.less hr⟩,⟨B,d,h3,h4.less hr⟩⟩
theorem NmQ.toV {Q:Nat→Prop} {w:World} {L:List Value} {m:NmD} (h:NmQ Q w L m) (hq:∀b,Q b→b<w.1.size):NmV 0 w L.toArray m:=by
 obtain⟨x,y,rfl,h1,h2⟩:=h.less (R:=Bk 0 w) fun b q=>⟨Nat.zero_le _,hq b q⟩
 exact⟨x,y,rfl,h1,h2⟩
theorem NmQ.len {Q:Nat→Prop} {w:World} {L:List Value} {m:NmD} (h:NmQ Q w L m):L.length=65:=by
 obtain⟨x,y,rfl,-⟩:=h;exact a7c _ _ _
theorem NmQ.ones {Q:Nat→Prop} {w:World} {L:List Value} {m:NmD} (h:NmQ Q w L m):∀v∈L,v.oneCell'=true:=by
 obtain⟨x,y,rfl,⟨A,c,rfl,-⟩,⟨B,d,rfl,-⟩⟩:=h;exact v5 (an5 _) (an6 _) (av9 _ rfl) (an9 _) (aw7 _ rfl)
theorem NmQ.zero (Q:Nat→Prop) (w:World):NmQ Q w acg arg:=⟨.slice none 0 0,.slice none 0 0,rfl,⟨none,0,rfl,qf.nil _ _ _⟩,⟨none,0,rfl,qf.nil _ _ _⟩⟩
theorem adz.zero (Q:Nat→Prop) (w:World):adz Q w kf aao:=by
 refine⟨_,_,_,_,_,rfl,a4d (v:=List.replicate 32 0) rfl (ahu 32),vg,a4c (v:=List.replicate 8 0) rfl (ahu 8),a4b om om,vg⟩
def ItM (Q:Nat→Prop) (w:World) (L:List Value) (x:ItD):Prop:=∃U N T,L=itL x.pr x.od U N T∧adz Q w U x.U∧NmQ Q w N x.N∧ae0 Q w T x.T
theorem ItM.keep {Q:Nat→Prop} {w w':World} {L:List Value} {x:ItD} (h:ItM Q w L x) (hk:∀b,Q b→w'.heap[b]?=w.heap[b]?):ItM Q w' L x:=by
 obtain⟨U,N,T,h0,h1,h2,h3⟩:=h;exact⟨U,N,T,h0,h1.keep hk,h2.keep hk,h3.keep hk⟩
theorem ItM.less {Q R:Nat→Prop} {w:World} {L:List Value} {x:ItD} (h:ItM Q w L x) (hr:∀b,Q b→R b):ItM R w L x:=by
 obtain⟨U,N,T,h0,h1,h2,h3⟩:=h;exact⟨U,N,T,h0,h1.less hr,h2.less hr,h3.less hr⟩
theorem ItM.len {Q:Nat→Prop} {w:World} {L:List Value} {x:ItD} (h:ItM Q w L x):L.length=120:=by
 obtain⟨U,N,T,rfl,h1,h2,h3⟩:=h;simp[itL,h1.len,h2.len,h3.len]
theorem ItM.ones {Q:Nat→Prop} {w:World} {L:List Value} {x:ItD} (h:ItM Q w L x):∀v∈L,v.oneCell'=true:=by
 obtain⟨U,N,T,rfl,h1,h2,h3⟩:=h;intro v hv;simp only[itL,List.mem_cons,List.mem_append]at hv;rcases hv with rfl|rfl|hv|hv|hv
 ·rfl
 ·rfl
 ·exact h1.ones v hv
 ·exact h2.ones v hv
 ·exact h3.ones v hv
theorem ItM.zero (Q:Nat→Prop) (w:World):ItM Q w adc ael:=⟨_,_,_,rfl,adz.zero Q w,NmQ.zero Q w,ae0.zero Q w⟩
def ab4 (Q:Nat→Prop) (w:World) (Ls:List (List Value)) (X:List ItD):Prop:=Ls.length=X.length∧∀k (h:k<Ls.length) (h':k<X.length),ItM Q w Ls[k] X[k]
theorem ab4.nil (Q:Nat→Prop) (w:World):ab4 Q w [] []:=⟨rfl,fun k h=>absurd h (Nat.not_lt_zero _)⟩
theorem ab4.keep {Q:Nat→Prop} {w w':World} {Ls:List (List Value)} {X:List ItD} (h:ab4 Q w Ls X) (hk:∀b,Q b→w'.heap[b]?=w.heap[b]?):ab4 Q w' Ls X:=⟨h.1,fun k a b=>(h.2 k a b).keep hk⟩
theorem ab4.less {Q R:Nat→Prop} {w:World} {Ls:List (List Value)} {X:List ItD} (h:ab4 Q w Ls X) (hr:∀b,Q b→R b):ab4 R w Ls X:=⟨h.1,fun k a b=>(h.2 k a b).less hr⟩
theorem ab4.app {Q:Nat→Prop} {w:World} {Ls Ms:List (List Value)} {X Y:List ItD} (h:ab4 Q w Ls X) (h':ab4 Q w Ms Y):ab4 Q w (Ls++Ms) (X++Y):=by
 refine⟨by rw[List.length_append,List.length_append,h.1,h'.1],fun k a b=>?_⟩
 by_cases hk:k<Ls.length
 ·rw[List.getElem_append_left hk,List.getElem_append_left (by rw[← h.1];exact hk)];exact h.2 k hk _
 ·rw[List.getElem_append_right om,List.getElem_append_right (by rw[← h.1];omega)];simp only[h.1];exact h'.2 _ _ _
theorem ab4.one {Q:Nat→Prop} {w:World} {L:List Value} {x:ItD} (h:ItM Q w L x):ab4 Q w [L] [x]:=⟨rfl,fun k a b=>by
 obtain rfl:k=0:=by simpa using a
 exact h⟩
theorem ab4.flat_len {Q:Nat→Prop} {w:World} {Ls:List (List Value)} {X:List ItD} (h:ab4 Q w Ls X):Ls.flatten.length=X.length*120:=by
 obtain⟨h1,h2⟩:=h
 induction Ls generalizing X with
 | nil=>rw[List.length_nil]at h1;rw[← h1];rfl
 | cons L Ls ih=>
  cases X with
  | nil=>cases h1
  | cons x X=>
   have:=ih (X:=X) (by simpa using h1) (fun k a b=>h2 (k+1) (by simpa using a) (by simpa using b));have h0:L.length=120:=(h2 0 sm sm).len;rw[List.flatten_cons,List.length_append,this,h0,List.length_cons];omega
theorem ab4.ones {Q:Nat→Prop} {w:World} {Ls:List (List Value)} {X:List ItD} (h:ab4 Q w Ls X):∀v∈Ls.flatten,v.oneCell'=true:=by
 intro v hv;obtain⟨L,hL,hv⟩:=List.mem_flatten.1 hv;obtain⟨k,hk,rfl⟩:=List.getElem_of_mem hL;exact(h.2 k hk (by rw[← h.1];exact hk)).ones v hv
theorem ab4.at_ {Q:Nat→Prop} {w:World} {Ls:List (List Value)} {X:List ItD} (h:ab4 Q w Ls X) (k:Nat) (hk:k<X.length):∃A L D,Ls.flatten=A++L++D∧A.length=k*120∧ItM Q w L X[k]:=by
 have hk':k<Ls.length:=by rw[h.1];exact hk
 refine⟨(Ls.take k).flatten,Ls[k],(Ls.drop (k+1)).flatten,?_,?_,h.2 k hk' hk⟩
 ·have e:Ls=Ls.take k++Ls[k]::Ls.drop (k+1):=by rw[← List.drop_eq_getElem_cons hk',List.take_append_drop]
  conv=>lhs;rw[e]
  rw[List.flatten_append,List.flatten_cons,List.append_assoc]
 ·have:ab4 Q w (Ls.take k) (X.take k):=⟨by rw[List.length_take,List.length_take,h.1],fun j a b=>by
   rw[List.getElem_take,List.getElem_take];exact h.2 j _ _⟩
  rw[this.flat_len,List.length_take,Nat.min_eq_left (Nat.le_of_lt hk)]
