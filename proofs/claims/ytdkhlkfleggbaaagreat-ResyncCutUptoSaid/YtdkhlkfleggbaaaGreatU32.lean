/- Parts. -/
import Derived.Lib.IndexBytes
import Derived.Lib.Bytealg
import Derived.Lib.IndexEntry
import Derived.Test.YtdkhlkfleggbaaaGreatU31
import Derived.Test.YtdkhlkfleggbaaaGreatU26
import Derived.Test.YtdkhlkfleggbaaaGreatU07
namespace Go.Proofs.YtdkhlkfleggbaaaGreat
set_option maxHeartbeats 2000000
set_option maxRecDepth 8000
open Lib (hid)
open Tryz
set_option linter.unusedVariables false
open Go.RowKit
set_option maxRecDepth 100000 in
theorem aep (s:ByteArray) (c:Int) (w:World) :
 Calls prog 130 #[.string s,.int .u8 c] w fun e w'=>e=.returned (.int .i64 (Lib.indexByte s.data.toList c.toNat.toUInt8))∧w=w':=by
 go_enter func130,ntmps130;go_wp2;rw[run_callFunc_extern func203 kr kr kr (e:=Extern.BytealgIndexByte.indexByte) kr,Lib.run_indexByteString];simp only[Result.andThen];rw[Oper.upon_value];go_wp2;go_ret;exact⟨rfl,rfl⟩
set_option maxRecDepth 100000 in
theorem aru (s:ByteArray) (c:Int) (w:World) :
 Calls prog 97 #[.string s,.int .u8 c] w fun e w'=>e=.returned (.int .i64 (Lib.indexByte s.data.toList c.toNat.toUInt8))∧w=w':=by
 go_enter func97,ntmps97;go_wp2_with fail;refine(aep _ _ _).mono ?_;rintro e w' ⟨rfl,rfl⟩;go_wp2;go_ret;exact⟨rfl,rfl⟩
theorem ai7 (s:ByteArray) (c:UInt8) (w:World) :
 Calls prog 204 #[.string s,.string ⟨#[c]⟩] w fun e w'=>e=.returned (.int .i64 (Lib.indexByte s.data.toList c))∧w=w':=by
 go_enter func204,ntmps204;go_wp2_with (go_at_call 130;refine(aep _ _ _).mono ?_;rintro e w' ⟨rfl,rfl⟩)
 ·have h:([c]==s.toList)=true:=by assumption
  go_ret;refine⟨?_,rfl⟩;have e:s.data.toList=[c]:=by rw[← Lib.toList_data];exact(b1o.1 h).symm
  rw[e];simp[Lib.indexByte]
 ·go_ret;exact⟨rfl,rfl⟩
def ae1 (s:ByteArray) (c:UInt8):Int:=Lib.indexByte s.data.toList c
theorem a44 (s:ByteArray) (c:UInt8) (w:World) (h:Hid (ae1 s c<0)) :
 Calls prog 134 #[.string s,.string ⟨#[c]⟩] w fun e w'=>e=.returned (.tuple #[.string s,.string ByteArray.empty,.bool false])∧Below w.1.size w w':=by
 obtain⟨I,hI⟩:∃I,I=Lib.indexByte s.data.toList c:=⟨_,rfl⟩;have hn:I<0:=by rw[hI];exact h.out
 have HI:=hid hI;clear hI;go_enter func134,ntmps134;go_wp2_with fail;refine(ai7 _ _ _).mono ?_;rintro e w' ⟨rfl,rfl⟩;rw[← HI.out];go_wp2_with fail
 go_ret3
 exact⟨rfl,n6 _ _⟩
theorem a0c (s:ByteArray) (c:UInt8) (i:Nat) (w:World) (hs:s.size≤1000000) (hi:i<s.size) (h:Hid (ae1 s c=(i:Int))) :
 Calls prog 134 #[.string s,.string ⟨#[c]⟩] w fun e w'=>e=.returned (.tuple #[.string (s.extract 0 i),.string (s.extract (i+1) s.size),.bool true])∧Below w.1.size w w':=by
 have i1:(0:Int) ≤(i:Int):=n8 _;have i2:(i:Int) ≤(s.size:Int):=by omega
 have i5:(0:Int) ≤(i:Int)+1:=by omega
 have i6:(i:Int)+1 ≤(s.size:Int):=by omega
 have i4:IntKind.i64.wrap ((i:Int)+1)=(i:Int)+1:=b00 _ om;have i7:((i:Int)+1).toNat=i+1:=by omega
 go_enter func134,ntmps134;go_wp2_with fail;refine(ai7 _ _ _).mono ?_;rintro e w' ⟨rfl,rfl⟩;rw[show Lib.indexByte s.data.toList c=(i:Int)from h.out];go_wp2_with fail
 go_quiet (fail)
 go_wp2_with fail
 go_ret3
 exact⟨rfl,aad (n6 _ _) _⟩
theorem bkr (s:ByteArray) (c:UInt8) (w:World) (h:Hid (ae1 s c<0)) :
 Calls prog 101 #[.string s,.string ⟨#[c]⟩] w fun e w'=>e=.returned (.tuple #[.string s,.string ByteArray.empty,.bool false])∧Below w.1.size w w':=by
 go_enter func101,ntmps101;go_wp2_with fail;refine(a44 _ _ _ h).mono ?_;rintro e w1 ⟨rfl,hb⟩;go_wp2_with fail
 go_ret3
 exact⟨rfl,hb⟩
theorem bg4 (s:ByteArray) (c:UInt8) (i:Nat) (w:World) (hs:s.size≤1000000) (hi:i<s.size) (h:Hid (ae1 s c=(i:Int))) :
 Calls prog 101 #[.string s,.string ⟨#[c]⟩] w fun e w'=>e=.returned (.tuple #[.string (s.extract 0 i),.string (s.extract (i+1) s.size),.bool true])∧Below w.1.size w w':=by
 go_enter func101,ntmps101;go_wp2_with fail;refine(a0c _ _ i _ hs hi h).mono ?_;rintro e w1 ⟨rfl,hb⟩;go_wp2_with fail
 go_ret3
 exact⟨rfl,hb⟩
def okC (c:Int):Bool:=c==42 || acv c
def yd (t:ByteArray):Nat→Nat→Nat×Int
 | 0,_=>(0,7)
 | f+1,i=>if h:i<t.size then(if(t[i].toNat:Int)=13 then(i,0)else if okC (t[i].toNat:Int)then yd t f (i+1)else(0,3))else(0,2)
def jb (t:ByteArray):Nat×Int:=yd t 80 1
def ka (t:ByteArray):ByteArray:=if(jb t).2=0 then t.extract 1 (jb t).1 else ByteArray.empty
theorem a1c (t:ByteArray) (f i:Nat) (h:i<t.size) (hc:(t[i].toNat:Int)=13):yd t (f+1) i=(i,0):=by
 unfold yd;rw[b5i h,if_pos hc]
theorem aqx (t:ByteArray) (f i:Nat) (h:i<t.size) (hc:(t[i].toNat:Int)≠13) (ho:okC (t[i].toNat:Int)=true):yd t (f+1) i=yd t f (i+1):=by
 rw[yd,b5i h,if_neg hc,if_pos ho]
theorem ba9 (t:ByteArray) (f i:Nat) (h:i<t.size) (hc:(t[i].toNat:Int)≠13) (ho:okC (t[i].toNat:Int)=false):yd t (f+1) i=(0,3):=by
 rw[yd,b5i h,if_neg hc,if_neg (by rw[ho];decide)]
theorem a1d (t:ByteArray) (f i:Nat) (h:¬i<t.size):yd t (f+1) i=(0,2):=by
 rw[yd,dif_neg h]
theorem ad2 (t:ByteArray) (w:World) (hm:t.size≤1000000) :
 Calls prog 79 #[.string t] w fun e w'=>e=.returned (.tuple #[.string (ka t),.int .i64 (jb t).2])∧w=w':=by
 go_enter func79,ntmps79;go_wp2
 go_loop [4] (fun i=>∃k:Nat,1≤k∧k≤81∧i=.int .i64 k∧Hid (yd t (81-k) k=jb t)) (fun i=>81-(intOf i).toNat)
 case atStart=>exact⟨1,by omega,by omega,rfl,rfl⟩
 case round=>
  obtain⟨k,hk0,hk,rfl,he⟩:=hrel
  by_cases h81:k<81
  ·have hf:Hid (81-k=(80-k)+1):=by show _=_;omega
   by_cases hlt:k<t.size
   ·have hu:=t[k].toNat_lt
    by_cases h13:(t[k].toNat:Int)=13
    ·have HE:Hid (jb t=(k,0)):=by show _=_;rw[← he.out,hf.out,a1c t _ k hlt h13]
     have hb:((t[k].toNat:Int)==13)=true:=by rw[b1o];exact h13
     clear h13;go_wp2_with fail
     go_ret2
     exact⟨by first|(unfold ka;rw[HE.out];rfl)|(rw[HE.out];rfl),rfl⟩
    ·have hb:((t[k].toNat:Int)==13)=false:=by rw[l6];exact h13
     cases hl:acv (t[k].toNat:Int)with
     | true=>
      have HE:Hid (yd t (81-(k+1)) (k+1)=jb t):=by show _=_;rw[← he.out,hf.out,aqx t _ k hlt h13 (by unfold okC;rw[hl];simp)];rw[show 81-(k+1)=80-k from by omega]
      have hn42:(t[k].toNat:Int)≠42:=by intro h;rw[h]at hl;exact absurd hl dc
      have hb42:((t[k].toNat:Int) != 42)=true:=by rw[b0g];exact hn42
      have HL:=hid hl;clear hl h13 hn42;go_wp2_with fail;refine(ajx _ _).mono ?_;rintro e w' ⟨rfl,rfl⟩;rw[HL.out];go_wp2_with fail
      go_round
      case rel=>exact⟨k+1,by omega,by omega,by go_num,HE⟩
      case measure=>simp[intOf];omega
     | false=>
      by_cases h42:(t[k].toNat:Int)=42
      ·have HE:Hid (yd t (81-(k+1)) (k+1)=jb t):=by show _=_;rw[← he.out,hf.out,aqx t _ k hlt h13 (by unfold okC;rw[h42];rfl)];rw[show 81-(k+1)=80-k from by omega]
       have hb42:((t[k].toNat:Int) != 42)=false:=by rw[t7];exact h42
       have HL:=hid hl;clear hl h13 h42;go_wp2_with fail
       first
        | (refine(ajx _ _).mono ?_
           rintro e w' ⟨rfl,rfl⟩;rw[HL.out];go_wp2_with fail)
        | skip
       go_round
       case rel=>exact⟨k+1,by omega,by omega,by go_num,HE⟩
       case measure=>simp[intOf];omega
      ·have HE:Hid (jb t=(0,3)):=by show _=_;rw[← he.out,hf.out,ba9 t _ k hlt h13 (by unfold okC;rw[hl,l6.2 h42];rfl)]
       have hb42:((t[k].toNat:Int) != 42)=true:=by rw[b0g];exact h42
       have HL:=hid hl;clear hl h13 h42;go_wp2_with fail;refine(ajx _ _).mono ?_;rintro e w' ⟨rfl,rfl⟩;rw[HL.out];go_wp2_with fail
       go_ret2
       exact⟨by first|(unfold ka;rw[HE.out];rfl)|(rw[HE.out];rfl),rfl⟩
   ·have HE:Hid (jb t=(0,2)):=by show _=_;rw[← he.out,hf.out,a1d t _ k hlt]
    go_wp2_with fail
    go_ret2
    exact⟨by first|(unfold ka;rw[HE.out];rfl)|(rw[HE.out];rfl),rfl⟩
  ·have HE:Hid (jb t=(0,7)):=by show _=_;rw[← he.out,show 81-k=0 from by omega];rfl
   go_wp2_with fail
   go_ret2
   exact⟨by first|(unfold ka;rw[HE.out];rfl)|(rw[HE.out];rfl),rfl⟩
def acs (l:List UInt8):Nat:=l.count 42
theorem ajj (a b:List UInt8):acs (a++b)=acs a+acs b:=by simp[acs]
theorem aay (s:ByteArray) (w:World):Calls prog 97 #[.string s,.int .u8 42] w fun e w'=>e=.returned (.int .i64 (ae1 s 42))∧w=w':=aru s 42 w
def zt (l:ByteArray):Bool:=
 decide (8≤l.size) && decide (ae1 l 42=(l.size:Int)-3) && acf (l.extract 0 5) 5 && (jq (l.extract (l.size-3+1) l.size).data.toList).isSome && (decide (l.size=8) || decide (l.data.toList[5]?=some 44))
theorem avl (l:ByteArray) (w:World) (h:l.size<8):Calls prog 80 #[.string l] w fun e w'=>e=.returned (.bool false)∧Below w.1.size w w':=by
 go_enter func80,ntmps80;go_wp2;go_ret;exact⟨rfl,n6 _ _⟩
theorem avk (l:ByteArray) (n:Nat) (I:Int) (w:World) (h0:n+3≤l.size) (h1:l.size≤n+3) (h5:5≤n) (hm:l.size≤1000000) (e1:(l.size:Int)-3=(n:Int)) (hI:Hid (ae1 l 42=I)) (hne:(I != (n:Int))=true) :
 Calls prog 80 #[.string l] w fun e w'=>e=.returned (.bool false)∧Below w.1.size w w':=by
 go_enter func80,ntmps80;go_wp2_with fail;refine(aay _ _).mono ?_;rintro e w' ⟨rfl,rfl⟩;rw[hI.out];go_wp2_with fail;go_ret;exact⟨rfl,n6 _ _⟩
theorem avm (l:ByteArray) (n:Nat) (w:World) (h0:n+3≤l.size) (h1:l.size≤n+3) (h5:5≤n) (hm:l.size≤1000000) (e1:(l.size:Int)-3=(n:Int)) (hI:Hid (ae1 l 42=(n:Int))) (hs:Hid (acf (l.extract 0 5) 5=false)) :
 Calls prog 80 #[.string l] w fun e w'=>e=.returned (.bool false)∧Below w.1.size w w':=by
 go_enter func80,ntmps80;go_wp2_with fail;refine(aay _ _).mono ?_;rintro e w' ⟨rfl,rfl⟩;rw[hI.out];go_wp2_with fail;refine(aim _ 5 _).mono ?_;rintro e w1 ⟨rfl,hb1⟩;rw[hs.out];go_wp2_with fail;go_ret;exact⟨rfl,hb1⟩
theorem avn (l:ByteArray) (n:Nat) (w:World) (h0:n+3≤l.size) (h1:l.size≤n+3) (h5:5≤n) (hm:l.size≤1000000) (e1:(l.size:Int)-3=(n:Int)) (hI:Hid (ae1 l 42=(n:Int))) (hs:Hid (acf (l.extract 0 5) 5=true))
 (hu:Hid (jq (l.extract (n+1) l.size).data.toList=none)) :
 Calls prog 80 #[.string l] w fun e w'=>e=.returned (.bool false)∧Below w.1.size w w':=by
 go_enter func80,ntmps80;go_wp2_with fail;refine(aay _ _).mono ?_;rintro e w' ⟨rfl,rfl⟩;rw[hI.out];go_wp2_with fail;refine(aim _ 5 _).mono ?_;rintro e w1 ⟨rfl,hb1⟩;rw[hs.out];go_wp2_with fail;refine(ao0 _ _ hu).mono ?_;rintro e w2 ⟨rfl,hb2⟩;go_wp2_with fail;go_ret;exact⟨rfl,qb hb1 hb2⟩
theorem azl (l:ByteArray) (n:Nat) (v:Int) (w:World) (h0:n+3≤l.size) (h1:l.size≤n+3) (h5:5≤n) (h6:n≤5) (hm:l.size≤1000000) (e1:(l.size:Int)-3=(n:Int)) (hI:Hid (ae1 l 42=(n:Int))) (hs:Hid (acf (l.extract 0 5) 5=true))
 (hu:Hid (jq (l.extract (n+1) l.size).data.toList=some v)) :
 Calls prog 80 #[.string l] w fun e w'=>e=.returned (.bool true)∧Below w.1.size w w':=by
 have hb:((n:Int)==5)=true:=by rw[b1o];omega
 go_enter func80,ntmps80;go_wp2_with fail;refine(aay _ _).mono ?_;rintro e w' ⟨rfl,rfl⟩;rw[hI.out];go_wp2_with fail;refine(aim _ 5 _).mono ?_;rintro e w1 ⟨rfl,hb1⟩;rw[hs.out];go_wp2_with fail;refine(afv _ v _ hu).mono ?_;rintro e w2 ⟨rfl,hb2⟩;go_wp2_with fail;go_ret;exact⟨rfl,qb hb1 hb2⟩
theorem a4p (l:ByteArray) (n:Nat) (v:Int) (b:Bool) (w:World) (h0:n+3≤l.size) (h1:l.size≤n+3) (h5:6≤n) (hm:l.size≤1000000) (e1:(l.size:Int)-3=(n:Int)) (hI:Hid (ae1 l 42=(n:Int))) (hs:Hid (acf (l.extract 0 5) 5=true))
 (hu:Hid (jq (l.extract (n+1) l.size).data.toList=some v)) (hc:(((l[5]'(by omega)).toNat:Int)==44)=b) :
 Calls prog 80 #[.string l] w fun e w'=>e=.returned (.bool b)∧Below w.1.size w w':=by
 have hb:((n:Int)==5)=false:=by rw[l6];omega
 go_enter func80,ntmps80;go_wp2_with fail;refine(aay _ _).mono ?_;rintro e w' ⟨rfl,rfl⟩;rw[hI.out];go_wp2_with fail;refine(aim _ 5 _).mono ?_;rintro e w1 ⟨rfl,hb1⟩;rw[hs.out];go_wp2_with fail;refine(afv _ v _ hu).mono ?_;rintro e w2 ⟨rfl,hb2⟩;go_wp2_with fail;go_ret;exact⟨rfl,qb hb1 hb2⟩
theorem bdf (s:ByteArray) (n:Nat) (h:n<s.size):(s.data.toList[n]?=some 44) ↔(s[n].toNat:Int)=44:=by
 rw[aux s n h];constructor
 ·intro h;injection h with h
  rw[h];rfl
 ·intro h
  congr 1
  apply b1p.1;have:(44:UInt8).toNat=44:=rfl;omega
theorem aga (l:ByteArray) (w:World) (hm:l.size≤1000000):Calls prog 80 #[.string l] w fun e w'=>e=.returned (.bool (zt l))∧Below w.1.size w w':=by
 by_cases h8:l.size<8
 ·have hf:zt l=false:=by unfold zt;rw[o3 (by omega:¬8≤l.size)];rfl
  rw[hf];exact avl l w h8
 ·obtain⟨n,hn⟩:∃n,l.size=n+3:=⟨l.size-3,by omega⟩;have e1:(l.size:Int)-3=(n:Int):=by omega
  have e2:l.size-3=n:=by omega
  have d8:decide (8≤l.size)=true:=p9 om
  by_cases hI:ae1 l 42=(n:Int)
  ·have dI:decide (ae1 l 42=(l.size:Int)-3)=true:=p9 om;cases hs:acf (l.extract 0 5) 5 with
   | false=>
    have hf:zt l=false:=by unfold zt;rw[hs];simp
    rw[hf];exact avm l n w om om om hm e1 hI hs
   | true=>
    cases hu:jq (l.extract (n+1) l.size).data.toList with
    | none=>
     have hf:zt l=false:=by unfold zt;rw[e2,hu];simp
     rw[hf];exact avn l n w om om om hm e1 hI hs hu
    | some v=>
     have hf:zt l=(decide (l.size=8) || decide (l.data.toList[5]?=some 44)):=by unfold zt;rw[e2,hu,d8,dI,hs];rfl
     rw[hf]
     by_cases h5:n=5
     ·rw[p9 (by omega:l.size=8),Bool.true_or];exact azl l n v w om om om om hm e1 hI hs hu
     ·rw[o3 (by omega:¬l.size=8),Bool.false_or];refine a4p l n v _ w om om om hm e1 hI hs hu ?_;have hc:=bdf l 5 om
      by_cases h:((l[5]'(by omega)).toNat:Int)=44
      ·rw[p9 (hc.2 h),b1o];exact h
      ·rw[o3 (fun h'=>h (hc.1 h')),l6];exact h
  ·have hf:zt l=false:=by unfold zt;rw[o3 (by omega:¬ae1 l 42=(l.size:Int)-3)];simp
   rw[hf];exact avk l n _ w om om om hm e1 rfl (by rw[b0g];exact hI)
def ks:List UInt8→List (List UInt8)
 | []=>[[]]
 | b::l=>if b=44 then []::ks l else match ks l with
  | []=>[[b]]
  | h::r=>(b::h)::r
theorem aio (l:List UInt8):ks l≠[]:=by
 cases l with
 | nil=>simp[ks]
 | cons b l=>
  unfold ks
  split
  ·simp
  ·split<;>simp
def ai6 (p:List UInt8):List (List UInt8)→List (List UInt8)
 | []=>[p]
 | h::r=>(p++h)::r
theorem ani (b:UInt8) (l:List UInt8) (h:b≠44):ks (b::l)=ai6 [b] (ks l):=by
 rw[ks,if_neg h];cases hs:ks l with
 | nil=>exact absurd hs (aio l)
 | cons x r=>rfl
theorem ale (l:List UInt8):ks (44::l)=[]::ks l:=by rw[ks,if_pos rfl]
theorem az7 (p q:List UInt8) (x:List (List UInt8)) (hx:x≠[]):ai6 p (ai6 q x)=ai6 (p++q) x:=by
 cases x with
 | nil=>exact absurd rfl hx
 | cons h r=>simp[ai6]
theorem a94 (x:List (List UInt8)) (hx:x≠[]):ai6 [] x=x:=by
 cases x with
 | nil=>exact absurd rfl hx
 | cons h r=>simp[ai6]
theorem aji (p q:List UInt8) (h:∀c∈p,c≠44):ks (p++q)=ai6 p (ks q):=by
 induction p with
 | nil=>rw[b03,a94 _ (aio q)]
 | cons b p ih=>
  rw[b02,ani b _ (h b sm),ih (fun c hc=>h c (by simp[hc])),az7 _ _ _ (aio q)];rfl
theorem a10 (p:List UInt8) (h:∀c∈p,c≠44):ks p=[p]:=by
 have:=aji p [] h;rw[b0k]at this;rw[this];simp[ks,ai6]
theorem bb0 (p q:List UInt8) (h:∀c∈p,c≠44):ks (p++44::q)=p::ks q:=by
 rw[aji p _ h,ale];simp[ai6]
theorem a98 (l:List UInt8) (c:UInt8) (h:Lib.indexByte l c<0):∀x∈l,x≠c:=by
 induction l with
 | nil=>intro x hx;simp at hx
 | cons b l ih=>
  unfold Lib.indexByte at h
  by_cases hb:b==c
  ·rw[if_pos hb]at h;omega
  ·rw[if_neg hb]at h;have hge:=Lib.indexByte_ge l c
   by_cases hl:Lib.indexByte l c==-1
   ·have:Lib.indexByte l c<0:=by rw[b1o]at hl;omega
    intro x hx;rcases b0z.1 hx with rfl|hx
    ·simpa using hb
    ·exact ih this x hx
   ·rw[if_neg hl]at h;rw[b1o]at hl;omega
theorem az8 (l:List UInt8) (c:UInt8):∀i:Nat,Lib.indexByte l c=(i:Int)→i<l.length∧l=l.take i++c::l.drop (i+1)∧∀x∈l.take i,x≠c:=by
 induction l with
 | nil=>intro i h;simp[Lib.indexByte]at h
 | cons b l ih=>
  intro i h;unfold Lib.indexByte at h
  by_cases hb:b==c
  ·rw[if_pos hb]at h;have:i=0:=by omega
   subst this;have:b=c:=by simpa using hb
   subst this;exact⟨by simp,by simp,fun x hx=>by simp at hx⟩
  ·rw[if_neg hb]at h
   by_cases hl:Lib.indexByte l c==-1
   ·rw[if_pos hl]at h;omega
   ·rw[if_neg hl]at h;have hge:=Lib.indexByte_ge l c;obtain⟨j,rfl⟩:∃j,i=j+1:=⟨i-1,by rw[b1o]at hl;omega⟩;obtain⟨h1,h2,h3⟩:=ih j om;refine⟨by simp;omega,?_,?_⟩
    ·rw[b28,b4g,b02,← h2]
    ·intro x hx;rw[b28]at hx;rcases b0z.1 hx with rfl|hx
     ·simpa using hb
     ·exact h3 x hx
def toS (l:List UInt8):ByteArray:=⟨l.toArray⟩
def vc (s:ByteArray):List ByteArray:=(ks s.data.toList).map toS
theorem a2h (s:ByteArray):toS s.data.toList=s:=by obtain⟨⟨l⟩⟩:=s;rfl
theorem v7 (s:ByteArray) (a b:Nat):s.extract a b=toS ((s.data.toList.drop a).take (b-a)):=by
 obtain⟨⟨l⟩⟩:=s;exact b4b l a b
theorem bbz (s:ByteArray) (h:ae1 s 44<0):vc s=[s]:=by
 unfold vc;rw[a10 _ (a98 _ _ h),List.map_singleton,a2h]
theorem bby (s:ByteArray) (i:Nat) (h:ae1 s 44=(i:Int)):i<s.size∧vc s=s.extract 0 i::vc (s.extract (i+1) s.size):=by
 obtain⟨h1,h2,h3⟩:=az8 _ _ i h;have hl:s.data.toList.length=s.size:=by simp
 refine⟨by omega,?_⟩;have e1:s.extract 0 i=toS (s.data.toList.take i):=by rw[v7];simp
 have e2:s.extract (i+1) s.size=toS (s.data.toList.drop (i+1)):=by
  rw[v7,b08 (by rw[l8];omega)]
 rw[e1,e2];unfold vc
 have e3:ks s.data.toList=s.data.toList.take i::ks (s.data.toList.drop (i+1)):=by
  conv=>lhs;rw[h2]
  exact bb0 _ _ h3
 rw[e3];rfl
theorem a13 {w:World} {B:Nat} {e:TypeId} {A:Option Addr} {n c:Nat} {fs:List ByteArray} (h:w.ownsRow B e 1 (.slice A n c) n (fs.map Value.string)):fs.length=n∧vw w w.1.size A fs∧aar B A:=by
 have hl:fs.length=n:=by have:=h.1;simpa using this
 refine⟨hl,?_,fun a ha=>?_⟩
 ·intro k hk;rcases h.2 with⟨hv,h0⟩|⟨g,cap,cur,hv,_,hg,_⟩
  ·omega
  ·have hA:A=some ⟨g,0,none⟩:=by injection hv
   subst hA;have hc:=h.cells (g:=g) rfl k (.string fs[k]) (by simp[hk])
   exact⟨g,0,rfl,(o9.1 hg).1,by
    have:(⟨g,0,none⟩:Addr).add k=⟨g,0+k,none⟩:=by unfold Addr.add;split<;>simp_all
    rw[← this];exact hc⟩
 ·rcases h.2 with⟨hv,h0⟩|⟨g,cap,cur,hv,hb,hg,_⟩
  ·have hA:A=none:=by injection hv
   rw[hA]at ha;cases ha
  ·have hA:A=some ⟨g,0,none⟩:=by injection hv
   rw[hA]at ha;injection ha with ha
   rw[← ha];exact hb
theorem atv {w w':World} {B:Nat} {e:TypeId} {size n:Nat} {v:Value} {xs:List Value} (h:w.ownsRow B e size v n xs) (hb:Below w.1.size w w'):w'.ownsRow B e size v n xs:=
 h.kept (row:=none) ⟨hb.os,hb.tape,hb.output,hb.size,fun i hi _=>hb.block i hi⟩ (Classical.em _)
theorem bfg {w:World} {B:Nat} {e:TypeId} {size n:Nat} {v:Value} {xs:List Value} (h:w.ownsRow B e size v n xs):∃A c,v=.slice A n c:=by
 rcases h.2 with⟨hv,h0⟩|⟨g,cap,cur,hv,_⟩
 ·exact⟨none,0,by rw[hv,h0]⟩
 ·exact⟨_,_,hv⟩
def a8b:Value→Nat
 | .string s=>s.size
 | _=>0
theorem bgc:(prog.info? 9).map (fun i=>(i.zero,i.size,i.bytes))=some (some (.string ByteArray.empty),1,16):=by kernel_rfl
def bc5 (fs:List ByteArray) (w:World) (e:Ending) (w':World):Prop:=
 ∃A c,e=.returned (.slice A fs.length c)∧vw w' w'.1.size A fs∧aar w.1.size A∧Below w.1.size w w'
theorem bhs (S:ByteArray) (w:World) (hm:S.size≤100000) :
 Calls prog 82 #[.string S] w (bc5 (vc S) w):=by
 obtain⟨i0,hi,hz0,hz1,hz2⟩:=info_parts bgc;go_enter func82,ntmps82;go_wp2
 go_step3
 go_wp2
 go_step3
 go_wp2;have hS0:Hid (vc S=[]++vc S):=rfl
 go_loopw [0,3] (fun sv v wr=>∃(s:ByteArray) (parts:List ByteArray),sv=.string s∧parts.length+s.size≤S.size∧Hid (wr.ownsRow w.1.size 9 1 v parts.length (parts.map Value.string))∧Below w.1.size w wr∧Hid (vc S=parts++vc s)) (fun sv _ _=>a8b sv)
 case atStart=>exact⟨S,[],rfl,by simp,b2q _ _ _ _,n6 _ _,hS0⟩
 case round=>
  obtain⟨s,parts,rfl,hlen,hown,hbr,hsp⟩:=hrel;have hzr:=hbr.size
  by_cases hc:ae1 s 44<0
  ·have HN:=hid (bbz s hc);have HC:=hid hc;clear hc;go_wp2_with fail;refine(bkr s 44 _ HC).mono ?_;rintro e w1 ⟨rfl,hb1⟩;have hs1:=hb1.size;have HO:=hid (atv hown.out hb1);go_wp2_with (at_builtin;refine b4x _ rfl _ _ 148 rfl w.1.size 9 i0 (.string ByteArray.empty) 1 16 underlying148 hi hz0 hz1 hz2 rfl dc _ _ _ rfl (HO.out.alloc _) ⟨w1.1.size,0,none⟩ 1 1 [.string s] rfl rfl ?c1 ?c2 ?c3 ?c4 ?c5 ?_)
   case c1=>exact cell_one_new _ _ _
   case c2=>intro u hu;simp at hu;subst hu;rfl
   case c3=>unfold maxLen;omega
   case c4=>omega
   case c5=>simp;omega
   intro v' w2 hown' hgrow _;have hbb:Hid (Below w.1.size w w2):=(((hbr.trans (hb1.mono om)).alloc om _).grown hgrow (by simp;omega) (fun k hk=>(HO.out.lt k hk).1));obtain⟨A,c,hv⟩:=bfg hown'
   have hst:Hid ((vc S).length=parts.length+1∧vw w2 w2.1.size A (vc S)∧aar w.1.size A):=by
    have e1:vc S=parts++[s]:=by rw[hsp.out,HN.out]
    have h2:w2.ownsRow w.1.size 9 1 (.slice A (parts.length+1) c) (parts.length+1) ((parts++[s]).map Value.string):=by rw[← hv];simpa using hown'
    rw[e1];exact a13 h2
   clear hown' hgrow hsp;rw[hv];go_wp2_with fail;rw[b5e];go_ret;exact⟨A,c,by rw[hst.out.1];rfl,hst.out.2.1,hst.out.2.2,hbb.out⟩
  ·obtain⟨i,hci⟩:∃i:Nat,ae1 s 44=(i:Int):=⟨(ae1 s 44).toNat,by omega⟩;obtain⟨hil,hsa⟩:=bby s i hci;have HN:=hid hsa;have HC:=hid hci;clear hc hci hsa;go_wp2_with fail;refine(bg4 s 44 i _ om hil HC).mono ?_;rintro e w1 ⟨rfl,hb1⟩;have hs1:=hb1.size;have HO:=hid (atv hown.out hb1);go_wp2_with (at_builtin;refine b4x _ rfl _ _ 148 rfl w.1.size 9 i0 (.string ByteArray.empty) 1 16 underlying148 hi hz0 hz1 hz2 rfl dc _ _ _ rfl (HO.out.alloc _) ⟨w1.1.size,0,none⟩ 1 1 [.string (s.extract 0 i)] rfl rfl ?d1 ?d2 ?d3 ?d4 ?d5 ?_)
   case d1=>exact cell_one_new _ _ _
   case d2=>intro u hu;simp at hu;subst hu;rfl
   case d3=>unfold maxLen;omega
   case d4=>omega
   case d5=>simp;omega
   intro v' w2 hown' hgrow _;have hbb:Hid (Below w.1.size w w2):=(((hbr.trans (hb1.mono om)).alloc om _).grown hgrow (by simp;omega) (fun k hk=>(HO.out.lt k hk).1));have hown2:Hid (w2.ownsRow w.1.size 9 1 v' (parts++[s.extract 0 i]).length ((parts++[s.extract 0 i]).map Value.string)):=by show w2.ownsRow _ _ _ _ _ _;simpa using hown'
   have hsp2:Hid (vc S=(parts++[s.extract 0 i])++vc (s.extract (i+1) s.size)):=by show _=_;rw[hsp.out,HN.out];simp
   clear hown' hgrow hsp;go_wp2_with fail
   go_roundw
   case rel=>
    refine⟨s.extract (i+1) s.size,parts++[s.extract 0 i],rfl,?_,hown2,hbb.out,hsp2⟩;rw[d7,List.length_singleton,b0u];omega
   case measure=>
    simp only[a8b,b0u];omega
def jh (t:ByteArray):(ByteArray×ByteArray×List ByteArray)×Nat×Int:=
 if t.size=0 then((ByteArray.empty,ByteArray.empty,[]),0,2)
 else if t.data.toList[0]?≠some 36 then((ByteArray.empty,ByteArray.empty,[]),0,3)
 else if(jb t).2≠0 then((ByteArray.empty,ByteArray.empty,[]),0,(jb t).2)
 else if t.size<(jb t).1+2 then((ByteArray.empty,ByteArray.empty,[]),0,2)
 else if t.data.toList[(jb t).1+1]?≠some 10∨zt (ka t)=false then((ByteArray.empty,ByteArray.empty,[]),0,3)
 else match yb (ka t)with
  | none=>((ByteArray.empty,ByteArray.empty,[]),0,4)
  | some b=>((b.extract 0 2,b.extract 2 5,if 5<b.size then vc (b.extract 6 b.size)else []),(jb t).1+2,0)
def ke (r:(ByteArray×ByteArray×List ByteArray)×Nat×Int) (w:World) (e:Ending) (w':World):Prop:=
 ∃A c,e=.returned (.tuple #[.agg #[.string r.1.1,.string r.1.2.1,.slice A r.1.2.2.length c],.int .i64 (r.2.1:Int),.int .i64 r.2.2])∧vw w' w'.1.size A r.1.2.2∧aar w.1.size A∧Below w.1.size w w'
theorem ke.err (n:Int) {w w':World} (hb:Below w.1.size w w'):ke ((ByteArray.empty,ByteArray.empty,[]),0,n) w (.returned (.tuple #[.agg #[.string ⟨#[]⟩,.string ⟨#[]⟩,.slice none 0 0],.int .i64 0,.int .i64 n])) w':=
 ⟨none,0,rfl,fun k hk=>absurd hk sm,aar.none_,hb⟩
theorem agi (t:ByteArray):∀f i j:Nat,yd t f i=(j,0)→i≤j∧j<i+f∧j<t.size:=by
 intro f
 induction f with
 | zero=>intro i j h;simp[yd]at h
 | succ f ih=>
  intro i j h;unfold yd at h
  by_cases hi:i<t.size
  ·rw[b5i hi]at h
   by_cases h13:(t[i].toNat:Int)=13
   ·rw[if_pos h13]at h;have:i=j:=by injection h
    omega
   ·rw[if_neg h13]at h
    by_cases ho:okC (t[i].toNat:Int)=true
    ·rw[if_pos ho]at h;have:=ih _ _ h;omega
    ·rw[if_neg ho]at h;simp at h
  ·rw[dif_neg hi]at h;simp at h
theorem a19 (w:World) (g:Nat) (p:Addr) (hp:p.block≠g) (x v0 v1 v2 o0 o1 o2:Value) (h0:w.cell? ⟨g,0,none⟩=some o0) (h1:w.cell? ⟨g,1,none⟩=some o1) (h2:w.cell? ⟨g,2,none⟩=some o2) :
 ((((w.setCell p x).setCell ⟨g,0,none⟩ v0).setCell ⟨g,1,none⟩ v1).setCell ⟨g,2,none⟩ v2).cell? ⟨g,0,none⟩=some v0 ∧
 ((((w.setCell p x).setCell ⟨g,0,none⟩ v0).setCell ⟨g,1,none⟩ v1).setCell ⟨g,2,none⟩ v2).cell? ⟨g,1,none⟩=some v1 ∧
 ((((w.setCell p x).setCell ⟨g,0,none⟩ v0).setCell ⟨g,1,none⟩ v1).setCell ⟨g,2,none⟩ v2).cell? ⟨g,2,none⟩=some v2:=by
 have k:∀j,(w.setCell p x).cell? ⟨g,j,none⟩=w.cell? ⟨g,j,none⟩:=fun j=>a9 w p _ x (fun e=>by subst e;exact hp rfl)
 have n01:(⟨g,1,none⟩:Addr) ≠⟨g,0,none⟩:=by simp
 have n02:(⟨g,2,none⟩:Addr) ≠⟨g,0,none⟩:=by simp
 have n12:(⟨g,2,none⟩:Addr) ≠⟨g,1,none⟩:=by simp
 have n10:(⟨g,0,none⟩:Addr) ≠⟨g,1,none⟩:=by simp
 refine⟨?_,?_,?_⟩
 ·rw[a9 _ _ _ _ n02,a9 _ _ _ _ n01];exact b0t _ _ _ ((k 0).trans h0)
 ·rw[a9 _ _ _ _ n12];exact b0t _ _ _ ((a9 _ _ _ _ n10).trans ((k 1).trans h1))
 ·refine b0t _ _ _ (((a9 _ _ _ _ (fun e=>n12 e.symm)).trans ((a9 _ _ _ _ (fun e=>n02 e.symm)).trans ((k 2).trans h2))))
theorem ayr {s:ByteArray} (h:s.size=0):s=ByteArray.empty:=by
 obtain⟨⟨l⟩⟩:=s;cases l with
 | nil=>rfl
 | cons a l=>simp[ByteArray.size]at h
theorem aur (w:World):Calls prog 62 #[.string ByteArray.empty] w (ke ((ByteArray.empty,ByteArray.empty,[]),0,2) w):=by
 go_enter func62,ntmps62;go_wp2;exact b9 (v:=.tuple #[.agg #[.string ⟨#[]⟩,.string ⟨#[]⟩,.slice none 0 0],.int .i64 0,.int .i64 2]) (by simp[results,results62,go_sem]) rfl (ke.err 2 (qa _ _))
theorem a3h (t:ByteArray) (w:World) (hz:0<t.size) (h1:t.toList.isEmpty=false) (h2:(t.toList==[])=false) (hc:(((t[0]'hz).toNat:Int) != 36)=true):Calls prog 62 #[.string t] w (ke ((ByteArray.empty,ByteArray.empty,[]),0,3) w):=by
 go_enter func62,ntmps62;go_wp2;exact b9 (v:=.tuple #[.agg #[.string ⟨#[]⟩,.string ⟨#[]⟩,.slice none 0 0],.int .i64 0,.int .i64 3]) (by simp[results,results62,go_sem]) rfl (ke.err 3 (qa _ _))
theorem a8r (t:ByteArray) (n:Int) (w:World) (hm:t.size≤1000000) (hz:0<t.size) (h1:t.toList.isEmpty=false) (h2:(t.toList==[])=false) (hc:(((t[0]'hz).toNat:Int) != 36)=false) (he:Hid ((jb t).2=n)) (hn:(n != 0)=true) :
 Calls prog 62 #[.string t] w (ke ((ByteArray.empty,ByteArray.empty,[]),0,n) w):=by
 go_enter func62,ntmps62;go_wp2_with fail;refine(ad2 t _ hm).mono ?_;rintro e w' ⟨rfl,rfl⟩;rw[he.out];go_wp2_with fail;exact b9 (v:=.tuple #[.agg #[.string ⟨#[]⟩,.string ⟨#[]⟩,.slice none 0 0],.int .i64 0,.int .i64 n]) (by simp[results,results62,go_sem]) rfl (ke.err n (qa _ _))
theorem a3i (t L:ByteArray) (i:Nat) (w:World) (hm:t.size≤1000000) (hz:0<t.size) (h1:t.toList.isEmpty=false) (h2:(t.toList==[])=false) (hc:(((t[0]'hz).toNat:Int) != 36)=false) (he:Hid ((jb t).2=0)) (hL:Hid (ka t=L))
 (hi:1≤i) (hl0:L.size+1≤i) (hl1:i≤L.size+1) (hs:t.size<i+2) (hi80:i≤80) :
 Calls prog 62 #[.string t] w (ke ((ByteArray.empty,ByteArray.empty,[]),0,2) w):=by
 go_enter func62,ntmps62;go_wp2_with fail;refine(ad2 t _ hm).mono ?_;rintro e w' ⟨rfl,rfl⟩;rw[he.out,hL.out];go_wp2_with fail;exact b9 (v:=.tuple #[.agg #[.string ⟨#[]⟩,.string ⟨#[]⟩,.slice none 0 0],.int .i64 0,.int .i64 2]) (by simp[results,results62,go_sem]) rfl (ke.err 2 (qa _ _))
theorem bc9 (t L:ByteArray) (i:Nat) (w:World) (hm:t.size≤1000000) (hz:0<t.size) (h1:t.toList.isEmpty=false) (h2:(t.toList==[])=false) (hc:(((t[0]'hz).toNat:Int) != 36)=false) (he:Hid ((jb t).2=0)) (hL:Hid (ka t=L))
 (hi:1≤i) (hl0:L.size+1≤i) (hl1:i≤L.size+1) (hs:i+2≤t.size) (hi80:i≤80) (e1:1 +(L.size:Int)+2-1=((i+1:Nat):Int)) (ht:(((t[i+1]'(by omega)).toNat:Int) != 10)=true) :
 Calls prog 62 #[.string t] w (ke ((ByteArray.empty,ByteArray.empty,[]),0,3) w):=by
 go_enter func62,ntmps62;go_wp2_with fail;refine(ad2 t _ hm).mono ?_;rintro e w' ⟨rfl,rfl⟩;rw[he.out,hL.out];go_wp2_with fail;exact b9 (v:=.tuple #[.agg #[.string ⟨#[]⟩,.string ⟨#[]⟩,.slice none 0 0],.int .i64 0,.int .i64 3]) (by simp[results,results62,go_sem]) rfl (ke.err 3 (qa _ _))
theorem ayd (t L:ByteArray) (i:Nat) (w:World) (hm:t.size≤1000000) (hz:0<t.size) (h1:t.toList.isEmpty=false) (h2:(t.toList==[])=false) (hc:(((t[0]'hz).toNat:Int) != 36)=false) (he:Hid ((jb t).2=0)) (hL:Hid (ka t=L))
 (hi:1≤i) (hl0:L.size+1≤i) (hl1:i≤L.size+1) (hs:i+2≤t.size) (hi80:i≤80) (e1:1 +(L.size:Int)+2-1=((i+1:Nat):Int)) (ht:(((t[i+1]'(by omega)).toNat:Int) != 10)=false) (hf:Hid (zt L=false)) :
 Calls prog 62 #[.string t] w (ke ((ByteArray.empty,ByteArray.empty,[]),0,3) w):=by
 go_enter func62,ntmps62;go_wp2_with fail;refine(ad2 t _ hm).mono ?_;rintro e w' ⟨rfl,rfl⟩;rw[he.out,hL.out];go_wp2_with fail;refine(aga L _ om).mono ?_;rintro e w1 ⟨rfl,hb1⟩;rw[hf.out];obtain⟨c1,f1⟩:=qy hb1;have hz1:=hb1.size;simp at hz1;have hz2:w.1.size<w1.1.size:=by omega
 go_wp2_with fail;refine b9 (v:=.tuple #[.agg #[.string ⟨#[]⟩,.string ⟨#[]⟩,.slice none 0 0],.int .i64 0,.int .i64 3]) (by simp[results,results62,go_sem,c1]) rfl (ke.err 3 ?_);exact(((qb (qa _ _) hb1).setCell (p:=⟨w.1.size,0,none⟩) (a8 _) _).setCell (p:=⟨w.1.size,1,none⟩) (a8 _) _).setCell (p:=⟨w.1.size,2,none⟩) (a8 _) _
theorem a8t (t L:ByteArray) (i:Nat) (w:World) (hm:t.size≤1000000) (hz:0<t.size) (h1:t.toList.isEmpty=false) (h2:(t.toList==[])=false) (hc:(((t[0]'hz).toNat:Int) != 36)=false) (he:Hid ((jb t).2=0)) (hL:Hid (ka t=L))
 (hi:1≤i) (hl0:L.size+1≤i) (hl1:i≤L.size+1) (hs:i+2≤t.size) (hi80:i≤80) (e1:1 +(L.size:Int)+2-1=((i+1:Nat):Int)) (ht:(((t[i+1]'(by omega)).toNat:Int) != 10)=false) (hf:Hid (zt L=true)) (ho:Hid (yb L=none)) :
 Calls prog 62 #[.string t] w (ke ((ByteArray.empty,ByteArray.empty,[]),0,4) w):=by
 go_enter func62,ntmps62;go_wp2_with fail;refine(ad2 t _ hm).mono ?_;rintro e w' ⟨rfl,rfl⟩;rw[he.out,hL.out];go_wp2_with fail;refine(aga L _ om).mono ?_;rintro e w1 ⟨rfl,hb1⟩;rw[hf.out];go_wp2_with fail;refine(aoo L _ om).mono ?_;rintro e w2 ⟨rfl,hb2⟩;rw[ho.out];have hb12:=qb hb1 hb2;obtain⟨c1,f1⟩:=qy hb12;have hz1:=hb12.size;simp at hz1;have hz2:w.1.size<w2.1.size:=by omega
 go_wp2_with fail;refine b9 (v:=.tuple #[.agg #[.string ⟨#[]⟩,.string ⟨#[]⟩,.slice none 0 0],.int .i64 0,.int .i64 4]) (by simp[results,results62,go_sem,c1]) rfl (ke.err 4 ?_);exact(((qb (qa _ _) hb12).setCell (p:=⟨w.1.size,0,none⟩) (a8 _) _).setCell (p:=⟨w.1.size,1,none⟩) (a8 _) _).setCell (p:=⟨w.1.size,2,none⟩) (a8 _) _
theorem a8q (t L b:ByteArray) (i:Nat) (w:World) (hm:t.size≤1000000) (hz:0<t.size) (h1:t.toList.isEmpty=false) (h2:(t.toList==[])=false) (hc:(((t[0]'hz).toNat:Int) != 36)=false) (he:Hid ((jb t).2=0)) (hL:Hid (ka t=L))
 (hi:1≤i) (hl0:L.size+1≤i) (hl1:i≤L.size+1) (hs:i+2≤t.size) (hi80:i≤80) (e1:1 +(L.size:Int)+2-1=((i+1:Nat):Int)) (ht:(((t[i+1]'(by omega)).toNat:Int) != 10)=false) (hf:Hid (zt L=true)) (ho:Hid (yb L=some b)) (hb5:b.size≤5) (hb6:5≤b.size) :
 Calls prog 62 #[.string t] w (ke ((b.extract 0 2,b.extract 2 5,[]),i+2,0) w):=by
 have i1:(2:Int) ≤(b.size:Int):=by omega
 have i2:(5:Int) ≤(b.size:Int):=by omega
 go_enter func62,ntmps62;go_wp2_with fail;refine(ad2 t _ hm).mono ?_;rintro e w' ⟨rfl,rfl⟩;rw[he.out,hL.out];go_wp2_with fail;refine(aga L _ om).mono ?_;rintro e w1 ⟨rfl,hb1⟩;rw[hf.out];go_wp2_with fail;refine(aoo L _ om).mono ?_;rintro e w2 ⟨rfl,hb2⟩;rw[ho.out];have hb12:=qb hb1 hb2;obtain⟨c1,f1⟩:=qy hb12;have hz1:=hb12.size;simp at hz1;have hz2:w.1.size<w2.1.size:=by omega
 go_wp2_with fail
 go_region_with (fail)
 go_wp2_with fail;refine b9 (v:=.tuple #[.agg #[.string (b.extract 0 2),.string (b.extract 2 5),.slice none 0 0],.int .i64 (1 +(L.size:Int)+2),.int .i64 0]) (by simp[results,results62,go_sem,c1,hz2]) rfl ⟨none,0,?_,fun k hk=>absurd hk sm,aar.none_,?_⟩
 ·rw[show (1 +(L.size:Int)+2)=((i+2:Nat):Int)from by omega];rfl
 ·exact aca (((((qb (qa _ _) hb12).setCell (p:=⟨w.1.size,0,none⟩) (a8 _) _).setCell (p:=⟨w.1.size,1,none⟩) (a8 _) _).setCell (p:=⟨w.1.size,2,none⟩) (a8 _) _).alloc (by simp;omega) _)
theorem a8s (t L b:ByteArray) (i:Nat) (w:World) (hm:t.size≤1000000) (hz:0<t.size) (h1:t.toList.isEmpty=false) (h2:(t.toList==[])=false) (hc:(((t[0]'hz).toNat:Int) != 36)=false) (he:Hid ((jb t).2=0)) (hL:Hid (ka t=L))
 (hi:1≤i) (hl0:L.size+1≤i) (hl1:i≤L.size+1) (hs:i+2≤t.size) (hi80:i≤80) (e1:1 +(L.size:Int)+2-1=((i+1:Nat):Int)) (ht:(((t[i+1]'(by omega)).toNat:Int) != 10)=false) (hf:Hid (zt L=true)) (ho:Hid (yb L=some b)) (hb6:6≤b.size) (hbm:b.size≤1000) :
 Calls prog 62 #[.string t] w (ke ((b.extract 0 2,b.extract 2 5,vc (b.extract 6 b.size)),i+2,0) w):=by
 have i1:(2:Int) ≤(b.size:Int):=by omega
 have i2:(5:Int) ≤(b.size:Int):=by omega
 have i3:(6:Int) ≤(b.size:Int):=by omega
 obtain⟨S,hS⟩:∃S,S=b.extract 6 b.size:=⟨_,rfl⟩;have hSz:S.size≤1000:=by rw[hS,b0u];omega
 rw[← hS];have HS:=hid hS;clear hS;go_enter func62,ntmps62;go_wp2_with fail;refine(ad2 t _ hm).mono ?_;rintro e w' ⟨rfl,rfl⟩;rw[he.out,hL.out];go_wp2_with fail;refine(aga L _ om).mono ?_;rintro e w1 ⟨rfl,hb1⟩;rw[hf.out];go_wp2_with fail;refine(aoo L _ om).mono ?_;rintro e w2 ⟨rfl,hb2⟩;rw[ho.out];have hb12:=qb hb1 hb2;obtain⟨c1,f1⟩:=qy hb12;have hz1:=hb12.size;simp at hz1;have hz2:w.1.size<w2.1.size:=by omega
 go_wp2_with fail
 go_region_with (fail)
 go_wp2_with fail;rw[← HS.out];refine(bhs S _ om).mono ?_;rintro e w3 ⟨A,c,rfl,hst,hfr,hb3⟩;obtain⟨c3,f3⟩:=qy hb3;have hz3:=hb3.size;simp at hz3;have hz4:w2.1.size<w3.1.size:=by omega
 have hz5:w.1.size<w3.1.size:=by omega
 have HST:=hid hst;clear hst;obtain⟨n,hn⟩:∃n,n=(vc S).length:=⟨_,rfl⟩;rw[← hn];have HN:=hid hn;clear hn;have HFR:=hid hfr;clear hfr;go_wp2_with fail
 have k2:∀o,w3.cell? ⟨w.1.size,o,none⟩=(w.alloc (.cells #[.string ⟨#[]⟩,.string ⟨#[]⟩,.slice none 0 0] 150)).cell? ⟨w.1.size,o,none⟩:=fun o=>by
  rw[c3 w.1.size o (by simp;omega)];show (w2.alloc _).cell? _=_;rw[World.cell?_alloc_lt w2 _ ⟨w.1.size,o,none⟩ hz2];exact c1 w.1.size o sm
 obtain⟨q0,q1,q2⟩:=a19 w3 w.1.size ⟨w2.1.size,2,none⟩ (by show w2.1.size≠_;omega) (.slice A n c) (.string (b.extract 0 2)) (.string (b.extract 2 5)) (.slice A n c) (.string ⟨#[]⟩) (.string ⟨#[]⟩) (.slice none 0 0)
  ((k2 0).trans (by rw[b36];rfl)) ((k2 1).trans (by rw[b36];rfl)) ((k2 2).trans (by rw[b36];rfl))
 have hfr2:aar (w2.1.size+1) A:=by have:=HFR.out;simpa using this
 have hst2:vw _ w3.1.size A (vc S):=(((HST.out.setCell hfr2 (p:=⟨w2.1.size,2,none⟩) (b38 _) (.slice A n c)).setCell hfr2 (p:=⟨w.1.size,0,none⟩) (by show w.1.size<_;omega) (.string (b.extract 0 2))).setCell hfr2 (p:=⟨w.1.size,1,none⟩) (by show w.1.size<_;omega) (.string (b.extract 2 5))).setCell hfr2 (p:=⟨w.1.size,2,none⟩) (by show w.1.size<_;omega) (.slice A n c);refine b9 (v:=.tuple #[.agg #[.string (b.extract 0 2),.string (b.extract 2 5),.slice A n c],.int .i64 (1 +(L.size:Int)+2),.int .i64 0]) (by simp[results,results62,go_sem,q0,q1,q2]) rfl ⟨A,c,?_,by simpa using hst2,hfr2.less om,?_⟩
 ·rw[show (1 +(L.size:Int)+2)=((i+2:Nat):Int)from by omega,HN.out]
 ·have hb0:Below w.1.size w w3:=(aca ((qb (qa _ _) hb12).alloc om _)).trans (hb3.mono (by simp;omega));exact(((hb0.setCell (p:=⟨w2.1.size,2,none⟩) (by show w.1.size≤w2.1.size;omega) _).setCell (p:=⟨w.1.size,0,none⟩) (a8 _) _).setCell (p:=⟨w.1.size,1,none⟩) (a8 _) _).setCell (p:=⟨w.1.size,2,none⟩) (a8 _) _
theorem axm (s:ByteArray):s.toList.length=s.size:=by rw[b0x];simp
theorem al5 {s:ByteArray} (h:0<s.size):s.toList.isEmpty=false ∧(s.toList==[])=false:=by
 have hl:=axm s;cases hs:s.toList with
 | nil=>rw[hs]at hl;simp at hl;omega
 | cons a l=>exact⟨rfl,rfl⟩
theorem aia (s:ByteArray) (n:Nat) (h:n<s.size) (c:UInt8):(s.data.toList[n]?=some c) ↔(s[n].toNat:Int)=(c.toNat:Int):=by
 rw[aux s n h];constructor
 ·intro h;injection h with h
  rw[h]
 ·intro h
  congr 1
  apply b1p.1;omega
theorem ahk {t:ByteArray} {i:Nat} (h:jb t=(i,0)):ka t=t.extract 1 i:=by unfold ka;rw[h];rfl
theorem a5c {l b:ByteArray} (h:yb l=some b):b.size+3=l.size:=by
 unfold yb at h
 by_cases hs:l.size<3
 ·rw[if_pos hs]at h;cases h
 ·rw[if_neg hs]at h
  split at h
  ·injection h with h
   rw[← h,b0u];omega
  ·cases h
theorem avj {l:ByteArray} (h:zt l=true):8≤l.size:=by
 rcases b01 l.size 8 with h8|h8
 ·unfold zt at h;rw[o3 (by omega:¬8≤l.size)]at h;cases h
 ·exact h8
theorem aog {t:ByteArray} (h:t.size=0):jh t=((ByteArray.empty,ByteArray.empty,[]),0,2):=by unfold jh;rw[if_pos h]
theorem alh {t:ByteArray} (h0:¬t.size=0) (h:t.data.toList[0]?≠some 36):jh t=((ByteArray.empty,ByteArray.empty,[]),0,3):=by unfold jh;rw[if_neg h0,if_pos h]
theorem aiq {t:ByteArray} (h0:¬t.size=0) (h1:t.data.toList[0]?=some 36) (h:(jb t).2≠0):jh t=((ByteArray.empty,ByteArray.empty,[]),0,(jb t).2):=by
 unfold jh;rw[if_neg h0,if_neg (fun k=>k h1),if_pos h]
theorem aoh {t:ByteArray} (h0:¬t.size=0) (h1:t.data.toList[0]?=some 36) (h2:(jb t).2=0) (h:t.size<(jb t).1+2):jh t=((ByteArray.empty,ByteArray.empty,[]),0,2):=by
 unfold jh;rw[if_neg h0,if_neg (fun k=>k h1),if_neg (fun k=>k h2),if_pos h]
theorem air {t:ByteArray} (h0:¬t.size=0) (h1:t.data.toList[0]?=some 36) (h2:(jb t).2=0) (h3:¬t.size<(jb t).1+2) (h:t.data.toList[(jb t).1+1]?≠some 10∨zt (ka t)=false):jh t=((ByteArray.empty,ByteArray.empty,[]),0,3):=by
 unfold jh;rw[if_neg h0,if_neg (fun k=>k h1),if_neg (fun k=>k h2),if_neg h3,if_pos h]
theorem ais {t:ByteArray} (h0:¬t.size=0) (h1:t.data.toList[0]?=some 36) (h2:(jb t).2=0) (h3:¬t.size<(jb t).1+2) (h4:t.data.toList[(jb t).1+1]?=some 10) (h5:zt (ka t)=true) :
 jh t=match yb (ka t)with
  | none=>((ByteArray.empty,ByteArray.empty,[]),0,4)
  | some b=>((b.extract 0 2,b.extract 2 5,if 5<b.size then vc (b.extract 6 b.size)else []),(jb t).1+2,0):=by
 unfold jh;rw[if_neg h0,if_neg (fun k=>k h1),if_neg (fun k=>k h2),if_neg h3,if_neg (fun k=>k.elim (fun a=>a h4) (fun a=>by rw[h5]at a;cases a))]
 all_goals (cases yb (ka t)<;>rfl)
theorem bc7 (t:ByteArray) (w:World) (hm:t.size≤1000000):Calls prog 62 #[.string t] w (ke (jh t) w):=by
 by_cases h0:t.size=0
 ·rw[aog h0];have:=ayr h0;subst this;exact aur w
 ·have hz:0<t.size:=by omega
  obtain⟨f1,f2⟩:=al5 hz
  by_cases h1:t.data.toList[0]?=some 36
  ·have hc:(((t[0]'hz).toNat:Int) != 36)=false:=by rw[t7];exact(aia t 0 hz 36).1 h1
   by_cases h2:(jb t).2=0
   ·obtain⟨i,hi⟩:∃i,jb t=(i,0):=⟨(jb t).1,by rw[← h2]⟩;obtain⟨b1,b2,b3⟩:=agi t 80 1 i hi;have hL:=ahk hi;have hi1:(jb t).1=i:=by rw[hi]
    have hls:(t.extract 1 i).size=i-1:=by rw[b0u];omega
    by_cases h3:t.size<(jb t).1+2
    ·rw[aoh h0 h1 h2 h3];exact a3i t _ i w hm hz f1 f2 hc h2 hL b1 om om om om
    ·have hlt:i+1<t.size:=by omega
     by_cases h4:t.data.toList[(jb t).1+1]?=some 10
     ·have ht:(((t[i+1]'hlt).toNat:Int) != 10)=false:=by rw[t7];rw[hi1]at h4;exact(aia t (i+1) hlt 10).1 h4
      cases h5:zt (t.extract 1 i)with
      | false=>
       rw[air h0 h1 h2 h3 (.inr (by rw[hL];exact h5))];exact ayd t _ i w hm hz f1 f2 hc h2 hL b1 om om om om om ht h5
      | true=>
       rw[ais h0 h1 h2 h3 h4 (by rw[hL];exact h5),hL];have h8:=avj h5;cases h6:yb (t.extract 1 i)with
       | none=>exact a8t t _ i w hm hz f1 f2 hc h2 hL b1 om om om om om ht h5 h6
       | some b=>
        have hbs:=a5c h6;show Calls prog _ _ _ (ke ((b.extract 0 2,b.extract 2 5,if 5<b.size then vc (b.extract 6 b.size)else []),(jb t).1+2,0) w);rw[hi1]
        by_cases h7:5<b.size
        ·rw[if_pos h7];exact a8s t _ b i w hm hz f1 f2 hc h2 hL b1 om om om om om ht h5 h6 h7 om
        ·rw[if_neg h7];exact a8q t _ b i w hm hz f1 f2 hc h2 hL b1 om om om om om ht h5 h6 om om
     ·have ht:(((t[i+1]'hlt).toNat:Int) != 10)=true:=by rw[b0g];rw[hi1]at h4;exact fun h=>h4 ((aia t (i+1) hlt 10).2 h)
      rw[air h0 h1 h2 h3 (.inl h4)];exact bc9 t _ i w hm hz f1 f2 hc h2 hL b1 om om om om om ht
   ·rw[aiq h0 h1 h2];exact a8r t _ w hm hz f1 f2 hc rfl (by rw[b0g];exact h2)
  ·have hc:(((t[0]'hz).toNat:Int) != 36)=true:=by rw[b0g];exact fun h=>h1 ((aia t 0 hz 36).2 h)
   rw[alh h0 h1];exact a3h t w hz f1 f2 hc
theorem aa9 (s:ByteArray) (a b:Nat):(s.extract a b).data.toList=(s.data.toList.drop a).take (b-a):=by rw[v7];rfl
theorem adt (s:ByteArray):s.data.toList.length=s.size:=by simp
theorem bd8 {l p q:List UInt8} {c:UInt8} (h:l=p++c::q) (hp:∀x∈p,x≠c):Lib.indexByte l c=(p.length:Int):=by
 subst h
 induction p with
 | nil=>simp[Lib.indexByte]
 | cons b p ih=>
  have hb:¬(b==c)=true:=by simpa using hp b sm
  have i1:=ih (fun x hx=>hp x (by simp[hx]));rw[b02,Lib.indexByte,if_neg hb,i1,if_neg (by rw[b1o];omega),n7];omega
theorem ble (l:List UInt8) (n:Nat) (h:n<l.length):l=l.take n++l[n]::l.drop (n+1):=by
 rw[List.getElem_cons_drop,b0p]
theorem anj {l:List UInt8} (h:∀x∈l,x≠42):acs l=0:=by
 unfold acs;rw[List.count_eq_zero];exact fun hm=>h 42 hm rfl
theorem a11 {l:List UInt8} (h:acs l=0):∀x∈l,x≠42:=by
 intro x hx h42;subst h42;unfold acs at h;rw[List.count_eq_zero]at h;exact h hx
theorem ajk (l:List UInt8):acs (42::l)=acs l+1:=by simp[acs]
theorem asw {l:List UInt8} {v:Int} (h:jq l=some v):acs l=0:=by
 unfold jq at h
 split at h
 ·rename_i a b
  split at h
  ·rename_i hc;rw[b0d]at hc;apply anj;intro x hx;have:x=a∨x=b:=by simpa using hx
   rcases this with rfl|rfl
   ·intro h42;rw[h42]at hc;exact absurd hc.1 dc
   ·intro h42;rw[h42]at hc;exact absurd hc.2 dc
  ·cases h
 ·cases h
theorem a0a {L:ByteArray} {n:Nat}:(L.extract (n+1) L.size).data.toList=L.data.toList.drop (n+1):=by
 rw[aa9,b08 (by rw[l8,adt];exact a8 _)]
section
variable {L : ByteArray} {n : Nat} (hn : L.size = n + 3)
include hn
theorem a9t (h5:5≤n) (hs:(L[n]'(by omega)).toNat=42) (h1:acs L.data.toList=1) (hg:acf (L.extract 0 5) 5=true) (hc:n=5∨L.data.toList[5]?=some 44) {v:Int} (hu:jq (L.extract (n+1) L.size).data.toList=some v):zt L=true:=by
 have hl:n<L.data.toList.length:=by rw[adt];omega
 have hat:L.data.toList[n]=42:=by
  have h:=(aia L n om 42).2 (by have e:(42:UInt8).toNat=42:=rfl;omega);rw[c8 hl]at h;injection h
 have hp:=ble L.data.toList n hl;rw[hat]at hp
 have hno:∀x∈L.data.toList.take n,x≠42:=by
  apply a11;rw[hp,ajj,ajk]at h1;omega
 have hi:=bd8 hp hno;rw[l7,b1d (b14 hl)]at hi;unfold zt ae1;rw[hi,show L.size-3+1=n+1 from by omega,hu,hg,p9 (by omega:8≤L.size),p9 (by omega:(n:Int)=(L.size:Int)-3)];rcases hc with h|h
 ·rw[p9 (by omega:L.size=8)];rfl
 ·rw[h];simp
end
def agd (P:List UInt8):ByteArray×ByteArray×List ByteArray:=
 (toS (P.take 2),toS ((P.drop 2).take 3),if 5<P.length then(ks (P.drop 6)).map toS else [])
def ajn (P:List UInt8):Prop:=
 5≤P.length∧P.length≤76 ∧(∀c∈P.take 5,aew (c.toNat:Int)=true) ∧(∀c∈P,acv (c.toNat:Int)=true) ∧(5<P.length→P[5]?=some 44)
def vt (P:List UInt8) (x y:UInt8) (M:List UInt8):List UInt8:=36::(P++[42,x,y,13,10]++M)
theorem jl (l:List UInt8):(toS l).data.toList=l:=by simp[toS]
theorem vl (l:List UInt8):(toS l).size=l.length:=by show l.toArray.size=_;simp
theorem azq (l:List UInt8) (i:Nat) (h:i<(toS l).size):(toS l)[i]=l[i]'(by rw[vl]at h;exact h):=by
 show (toS l).data[i]=_;simp[toS]
theorem asv {x y:UInt8} {v:Int} (h:jq [x,y]=some v):isR (x.toNat:Int)=true∧isR (y.toNat:Int)=true:=by
 have h':(if isR (x.toNat:Int) && isR (y.toNat:Int)then some (16*afo (x.toNat:Int)+afo (y.toNat:Int))else none)=some v:=h
 split at h'
 ·rename_i hc;rw[b0d]at hc;exact hc
 ·cases h'
theorem avt {c:Int} (h:isR c=true):okC c=true∧c≠13∧c≠42:=by
 have h1:=b07 h;refine⟨?_,by omega,by omega⟩;unfold okC;rw[b4h];right;unfold acv;rw[b1b];omega
theorem bba (t:ByteArray):∀(k f i:Nat),k<f →(∀j,i≤j→j<i+k→∃h:j<t.size,okC (t[j].toNat:Int)=true ∧(t[j].toNat:Int)≠13) →(∃h:i+k<t.size,(t[i+k].toNat:Int)=13)→yd t f i=(i+k,0):=by
 intro k
 induction k with
 | zero=>
  intro f i hf _ ⟨h,hc⟩;obtain⟨f,rfl⟩:∃g,f=g+1:=⟨f-1,by omega⟩;exact a1c t f i h hc
 | succ k ih=>
  intro f i hf hall ⟨h,hc⟩;obtain⟨f,rfl⟩:∃g,f=g+1:=⟨f-1,by omega⟩;obtain⟨h0,h1,h2⟩:=hall i (a8 _) om;rw[aqx t f i h0 h2 h1,ih f (i+1) om (fun j a b=>hall j om om) (by rw[show i+1+k=i +(k+1)from by omega];exact⟨h,hc⟩)];rw[show i+1+k=i +(k+1)from by omega]
theorem ba8 (t:ByteArray):∀(f i j:Nat),yd t f i=(j,0) →(∀q,i≤q→q<j→∃h:q<t.size,okC (t[q].toNat:Int)=true ∧(t[q].toNat:Int)≠13)∧∃h:j<t.size,(t[j].toNat:Int)=13:=by
 intro f
 induction f with
 | zero=>intro i j h;simp[yd]at h
 | succ f ih=>
  intro i j h;unfold yd at h
  by_cases hi:i<t.size
  ·rw[b5i hi]at h
   by_cases h13:(t[i].toNat:Int)=13
   ·rw[if_pos h13]at h;injection h with h _
    subst h;exact⟨fun q a b=>absurd a om,hi,h13⟩
   ·rw[if_neg h13]at h
    by_cases ho:okC (t[i].toNat:Int)=true
    ·rw[if_pos ho]at h;obtain⟨a1,a2⟩:=ih _ _ h;refine⟨fun q a b=>?_,a2⟩
     by_cases hq:q=i
     ·subst hq;exact⟨hi,ho,h13⟩
     ·exact a1 q om b
    ·rw[if_neg ho]at h;simp at h
  ·rw[dif_neg hi]at h;simp at h
theorem atn {c:Int} (h:acv c=true):okC c=true∧c≠13∧c≠42:=by
 have h1:=b07 h;exact⟨by unfold okC;rw[h,Bool.or_true],by omega,by omega⟩
theorem baa {c:Int} (h:okC c=true) (h42:c≠42):acv c=true:=by
 unfold okC at h;rw[b4h,b1o]at h;exact h.resolve_left h42
section
variable {P : List UInt8} {x y : UInt8} {M : List UInt8}
theorem aiv:(vt P x y M).length=P.length+6+M.length:=by simp[vt];omega
theorem bgw (j:Nat) (h1:1≤j) (h2:j<P.length+4) (hj:j<(vt P x y M).length):∃h:j-1<(P++[42,x,y]).length,(vt P x y M)[j]=(P++[42,x,y])[j-1]:=by
 have hl:(P++[42,x,y]).length=P.length+3:=by simp
 refine⟨by omega,?_⟩;obtain⟨j,rfl⟩:∃i,j=i+1:=⟨j-1,by omega⟩;have e:vt P x y M=36::((P++[42,x,y]) ++([13,10]++M)):=by simp[vt]
 simp only[e,List.getElem_cons_succ,b4p];rw[b13 om]
theorem aro:(vt P x y M).drop (P.length+4)=13::10::M:=by
 have e:vt P x y M=(36::(P++[42,x,y])) ++(13::10::M):=by simp[vt]
 rw[e,b49 sm]
theorem a7g:((vt P x y M).drop 1).take (P.length+3)=P++[42,x,y]:=by
 have e:(vt P x y M).drop 1=(P++[42,x,y]) ++(13::10::M):=by simp[vt]
 rw[e,b46 sm]
theorem avb {l q:List UInt8} {n:Nat} {c:UInt8} (h:l.drop n=c::q):l[n]?=some c∧l.drop (n+1)=q:=by
 constructor
 ·have:=b3g (xs:=l) (i:=n) (j:=0);rw[h]at this
  simpa using this.symm
 ·have:l.drop (n+1)=(l.drop n).drop 1:=by rw[b1v]
  rw[this,h];rfl
theorem atc (hP:ajn P) (hu:jq [x,y]=some ((akc P).toNat:Int)):jb (toS (vt P x y M))=(P.length+4,0):=by
 obtain⟨p1,p2,p3,p4,p5⟩:=hP;obtain⟨ux,uy⟩:=asv hu;have hl:=aiv (P:=P) (x:=x) (y:=y) (M:=M);unfold jb;rw[bba (toS (vt P x y M)) (P.length+3) 80 1 om,show 1 +(P.length+3)=P.length+4 from by omega]
 ·intro j h1 h2;have hj:j<(toS (vt P x y M)).size:=by rw[vl];omega
  refine⟨hj,?_⟩;rw[azq _ _ hj];obtain⟨h3,h4⟩:=bgw (P:=P) (x:=x) (y:=y) (M:=M) j h1 om om;rw[h4];have hm:(P++[42,x,y])[j-1]∈P++[42,x,y]:=b1c h3
  have key:∀c∈P++[42,x,y],okC (c.toNat:Int)=true ∧(c.toNat:Int)≠13:=by
   intro c hc;rcases b1u.1 hc with h|h
   ·have:=atn (p4 c h);exact⟨this.1,this.2.1⟩
   ·have:c=42∨c=x∨c=y:=by simpa using h
    rcases this with rfl|rfl|rfl
    ·exact⟨by decide,by decide⟩
    ·exact⟨(avt ux).1,(avt ux).2.1⟩
    ·exact⟨(avt uy).1,(avt uy).2.1⟩
  exact key _ hm
 ·have hj:1 +(P.length+3)<(toS (vt P x y M)).size:=by rw[vl];omega
  refine⟨hj,?_⟩;obtain⟨h1,_⟩:=avb (aro (P:=P) (x:=x) (y:=y) (M:=M));rw[azq _ _ hj];rw[c8 om]at h1;injection h1 with h1
  have:(vt P x y M)[1 +(P.length+3)]'(by omega)=13:=by rw[← h1];congr 1;omega
  rw[this];rfl
theorem ato (hP:ajn P) (hu:jq [x,y]=some ((akc P).toNat:Int)):ka (toS (vt P x y M))=toS (P++[42,x,y]):=by
 rw[ahk (atc hP hu),v7,jl,show P.length+4-1=P.length+3 from by omega,a7g]
theorem azm (hP:ajn P) {v:Int} (hu:jq [x,y]=some v):zt (toS (P++[42,x,y]))=true:=by
 obtain⟨p1,p2,p3,p4,p5⟩:=hP;have hl:(P++[42,x,y]).length=P.length+3:=by simp
 have hz:(toS (P++[42,x,y])).size=P.length+3:=by rw[vl,hl]
 have hno:∀c∈P,c≠42:=fun c hc h42=>by have:=(atn (p4 c hc)).2.2;rw[h42]at this;exact this rfl
 have ht5:(P++[42,x,y]).take 5=P.take 5:=by rw[b3e p1]
 refine a9t hz p1 ?_ ?_ ?_ ?_ (v:=v) ?_
 ·rw[azq _ _ om,b2i om];simp
 ·rw[jl,ajj,anj hno,ajk,asw hu]
 ·unfold acf auw;rw[b0d,b1b,aa9,jl,b17,b47,ht5,b0u,b11];exact⟨by omega,p3⟩
 ·by_cases h:P.length=5
  ·exact .inl h
  ·right;rw[jl,b0a om];exact p5 om
 ·rw[a0a,jl,show (P++[42,x,y]).drop (P.length+1)=[x,y]from by simp[List.drop_append,b3z]];exact hu
theorem aud (hP:ajn P) (hu:jq [x,y]=some ((akc P).toNat:Int)):jh (toS (vt P x y M))=(agd P,P.length+6,0):=by
 have hl:=aiv (P:=P) (x:=x) (y:=y) (M:=M);have hE:=atc (M:=M) hP hu;obtain⟨_,h10⟩:=avb (aro (P:=P) (x:=x) (y:=y) (M:=M));obtain⟨h10,_⟩:=avb h10;rw[ais (by rw[vl];omega) (by rw[jl];rfl) (by rw[hE]) (by rw[hE,vl];show ¬_<P.length+4+2;omega) (by rw[hE,jl];exact h10) (by rw[ato hP hu];exact azm hP hu)];rw[ato hP hu,hE];have ho:=a5b P x y;rw[if_pos hu]at ho;have ho':yb (toS (P++[42,x,y]))=some (toS P):=ho;rw[ho'];have e1:(toS P).extract 0 2=toS (P.take 2):=by rw[v7,jl];rfl
 have e2:(toS P).extract 2 5=toS ((P.drop 2).take 3):=by rw[v7,jl]
 have e3:vc ((toS P).extract 6 (toS P).size)=(ks (P.drop 6)).map toS:=by
  unfold vc;rw[aa9,jl,vl,b08 (by rw[l8];exact a8 _)]
 show (((toS P).extract 0 2,(toS P).extract 2 5,if 5<(toS P).size then vc ((toS P).extract 6 (toS P).size)else []),P.length+4+2,(0:Int))=_;rw[e1,e2,e3,vl];rfl
end
theorem a2z (t:ByteArray):toS t.data.toList=t:=a2h t
theorem bcj {l:List UInt8} {v:Int} (h:jq l=some v):∃x y,l=[x,y]:=by
 unfold jq at h
 split at h
 ·rename_i a b;exact⟨a,b,rfl⟩
 ·cases h
theorem a6v {t:ByteArray} (h:(jh t).2.2=0):t.data.toList[0]?=some 36 ∧(jb t).2=0∧¬t.size<(jb t).1+2∧t.data.toList[(jb t).1+1]?=some 10∧zt (ka t)=true ∧(yb (ka t)).isSome=true:=by
 by_cases h0:t.size=0
 ·rw[aog h0]at h;cases h
 by_cases h1:t.data.toList[0]?=some 36
 ·by_cases h2:(jb t).2=0
  ·by_cases h3:t.size<(jb t).1+2
   ·rw[aoh h0 h1 h2 h3]at h;cases h
   ·by_cases h4:t.data.toList[(jb t).1+1]?≠some 10∨zt (ka t)=false
    ·rw[air h0 h1 h2 h3 h4]at h;cases h
    ·have h5:t.data.toList[(jb t).1+1]?=some 10:=b2s.1 fun k=>h4 (.inl k)
     have h6:zt (ka t)=true:=by cases hf:zt (ka t)with
      | true=>rfl
      | false=>exact absurd (.inr hf) h4
     refine⟨h1,h2,h3,h5,h6,?_⟩;rw[ais h0 h1 h2 h3 h5 h6]at h;cases ho:yb (ka t)with
     | none=>rw[ho]at h;cases h
     | some b=>rfl
  ·rw[aiq h0 h1 h2]at h;exact absurd h h2
 ·rw[alh h0 h1]at h;cases h
theorem bb6 {t:ByteArray} (h:(jh t).2.2≠0):jh t=((ByteArray.empty,ByteArray.empty,[]),0,(jh t).2.2):=by
 by_cases h0:t.size=0
 ·rw[aog h0]
 by_cases h1:t.data.toList[0]?=some 36
 ·by_cases h2:(jb t).2=0
  ·by_cases h3:t.size<(jb t).1+2
   ·rw[aoh h0 h1 h2 h3]
   ·by_cases h4:t.data.toList[(jb t).1+1]?≠some 10∨zt (ka t)=false
    ·rw[air h0 h1 h2 h3 h4]
    ·have h5:t.data.toList[(jb t).1+1]?=some 10:=b2s.1 fun k=>h4 (.inl k)
     have h6:zt (ka t)=true:=by cases hf:zt (ka t)with
      | true=>rfl
      | false=>exact absurd (.inr hf) h4
     rw[ais h0 h1 h2 h3 h5 h6]at h ⊢;cases ho:yb (ka t)with
     | none=>rfl
     | some b=>rw[ho]at h;exact absurd rfl h
  ·rw[aiq h0 h1 h2]
 ·rw[alh h0 h1]
theorem a4q (t:ByteArray) (j:Nat) (h:j<t.size):t.data.toList[j]?=some t[j]:=by
 rw[c8 (by rw[adt];exact h)];rfl
theorem a8c {t:ByteArray} (h:(jh t).2.2=0):∃P x y M,t=toS (vt P x y M)∧ajn P∧jq [x,y]=some ((akc P).toNat:Int):=by
 obtain⟨h1,h2,h3,h4,h5,h6⟩:=a6v h;obtain⟨i,hi⟩:∃i,jb t=(i,0):=⟨(jb t).1,by rw[← h2]⟩;obtain⟨b1,b2,b3⟩:=agi t 80 1 i hi;obtain⟨s1,s2,s3⟩:=ba8 t 80 1 i hi;rw[hi]at h3 h4;have hL:=ahk hi;rw[hL]at h5 h6;have hlist:(t.extract 1 i).data.toList=(t.data.toList.drop 1).take (i-1):=by rw[aa9]
 obtain⟨L,hLe⟩:∃L,t.extract 1 i=L:=⟨_,rfl⟩;have hls:L.size=i-1:=by rw[← hLe,b0u];omega
 rw[hLe]at h5 h6 hlist;unfold zt at h5;rw[b0d,b0d,b0d,b0d]at h5;obtain⟨⟨⟨⟨q1,q2⟩,q3⟩,q4⟩,q5⟩:=h5;have k1:=b07 q1;obtain⟨n,hn⟩:∃n,L.size=n+3:=⟨L.size-3,by omega⟩;have hix:Lib.indexByte L.data.toList 42=(n:Int):=by have:=b07 q2;unfold ae1 at this;omega
 obtain⟨i1,i2,i3⟩:=az8 _ _ n hix;obtain⟨b,hb⟩:=Option.isSome_iff_exists.1 h6;unfold yb at hb;rw[if_neg om]at hb
 split at hb
 ·rename_i hc;obtain⟨_,hu⟩:=hc;rw[show L.size-3=n from by omega,a0a]at hu;obtain⟨x,y,hxy⟩:=bcj hu;have hPl:(L.data.toList.take n).length=n:=by rw[l7];omega
  have hP:(L.extract 0 n).data.toList=L.data.toList.take n:=by rw[aa9];rfl
  have hsum:axf (L.extract 0 n)=((akc (L.data.toList.take n)).toNat:Int):=by unfold axf;rw[hP]
  have hall:∀c∈L.data.toList,okC (c.toNat:Int)=true:=by
   intro c hc;rw[hlist]at hc;obtain⟨j,hj,rfl⟩:=b3c hc;rw[l7,l8]at hj;obtain⟨g,ok,_⟩:=s1 (j+1) om om
   have e:((t.data.toList.drop 1).take (i-1))[j]'(by rw[l7,l8];exact hj)=t[j+1]:=by
    rw[b33,b31];have:=a4q t (j+1) g;rw[c8 (by rw[adt];exact g)]at this;injection this with this
    rw[← this]
    congr 1
    omega
   rw[e];exact ok
  refine⟨L.data.toList.take n,x,y,t.data.toList.drop (i+2),?_,⟨by omega,by omega,?_,?_,?_⟩,by rw[← hxy,hu,hsum]⟩
  ·have e1:t.data.toList=t.data.toList.take i++t.data.toList.drop i:=(b0p _ _).symm
   have e2:t.data.toList.drop i=13::10::t.data.toList.drop (i+2):=by
    have g1:i<t.data.toList.length:=by rw[adt];omega
    have g2:i+1<t.data.toList.length:=by rw[adt];omega
    rw[b0n g1,b0n g2];have v2:t.data.toList[i+1]=10:=by rw[c8 g2]at h4;injection h4
    have v1:t.data.toList[i]=13:=by
     have:=(aia t i om 13).2 (by rw[s3];rfl);rw[c8 g1]at this;injection this
    rw[v1,v2]
   have e3:t.data.toList.take i=36::L.data.toList:=by
    rw[hlist];cases hd:t.data.toList with
    | nil=>rw[hd]at h1;cases h1
    | cons a l=>
     rw[hd]at h1;have:a=36:=by simpa using h1
     subst this;obtain⟨i,rfl⟩:∃j,i=j+1:=⟨i-1,by omega⟩;rfl
   refine(a2z t).symm.trans (congrArg toS (e1.trans ?_));rw[e2,e3];have i2':=i2;rw[hxy]at i2';generalize L.data.toList.take n=Q at i2' ⊢;rw[i2'];simp[vt]
  ·intro c hc;rw[List.take_take,b1d om]at hc;unfold acf auw at q3;rw[b0d,aa9,b11]at q3;exact q3.2 c hc
  ·intro c hc;refine baa (hall c (b25 hc)) ?_;intro h42;exact i3 c hc (b1p.1 (by have e:(42:UInt8).toNat=42:=rfl;omega))
  ·intro h;rw[hPl]at h;rw[b4h,b1b,b1b]at q5;rw[b1t h];exact q5.resolve_left om
 ·cases hb
theorem a1z (l:List UInt8):((ks l).flatMap fun f=>44::f)=44::l:=by
 induction l with
 | nil=>rfl
 | cons b l ih=>
  by_cases hb:b=44
  ·rw[hb,ale,b15,ih];rfl
  ·rw[ani b l hb];cases hs:ks l with
   | nil=>exact absurd hs (aio l)
   | cons h r=>
    rw[hs,b15]at ih;have ih':h ++(r.flatMap fun f=>44::f)=l:=by simpa using ih
    show (44::([b]++h)) ++(r.flatMap fun f=>44::f)=44::b::l;rw[← ih'];simp
section
variable {P : List UInt8} (hP : ajn P)
include hP
theorem a3q:akm (agd P).1 (agd P).2.1 (agd P).2.2=P:=by
 obtain⟨p1,p2,p3,p4,p5⟩:=hP;unfold akm agd;rw[jl,jl]
 have e:P=P.take 2 ++(P.drop 2).take 3++P.drop 5:=by
  conv=>lhs;rw[← b0p 5 P,show (5:Nat)=2+3 from rfl,List.take_add]
 by_cases h:5<P.length
 ·have hd:P.drop 5=44::P.drop 6:=by
   rw[b0n h];have:=p5 h;rw[c8 h]at this;injection this with this
   rw[this]
  show _++_++List.flatMap _ (if 5<P.length then _ else _)=P;rw[if_pos h]
  conv=>rhs;rw[e,hd,← a1z]
  rw[List.flatMap_map];simp only[jl]
 ·show _++_++List.flatMap _ (if 5<P.length then _ else _)=P;rw[if_neg h,List.flatMap_nil];have e5:P.drop 5=[]:=b3z om;rw[e5]at e;exact e.symm
end
theorem aqw (l m:List UInt8):∀f i,(yd (toS l) f i).2≠2→yd (toS (l++m)) f i=yd (toS l) f i:=by
 intro f
 induction f with
 | zero=>intro i _;rfl
 | succ f ih=>
  intro i h
  by_cases hi:i<(toS l).size
  ·have hi':i<(toS (l++m)).size:=by rw[vl]at hi ⊢;rw[d7];omega
   have e:(toS (l++m))[i]=(toS l)[i]:=by
    rw[azq _ _ hi,azq _ _ hi',b13]
   unfold yd at h ⊢;rw[b5i hi]at h ⊢;rw[b5i hi',e]
   split
   ·rfl
   ·rename_i h13;rw[if_neg h13]at h
    split
    ·rename_i ho;rw[if_pos ho]at h;exact ih _ h
    ·rfl
  ·unfold yd at h;rw[dif_neg hi]at h;exact absurd rfl h
theorem bb8 (l m:List UInt8) (h:(jh (toS l)).2.2≠2):jh (toS (l++m))=jh (toS l):=by
 by_cases h0:(toS l).size=0
 ·rw[aog h0]at h;exact absurd rfl h
 have h0':¬(toS (l++m)).size=0:=by rw[vl]at h0 ⊢;rw[d7];omega
 have get:∀j,j<l.length →(toS (l++m)).data.toList[j]?=(toS l).data.toList[j]?:=fun j hj=>by rw[jl,jl,b0a hj]
 have hz:(toS l).size=l.length:=vl l
 by_cases h1:(toS l).data.toList[0]?=some 36
 ·have h1':(toS (l++m)).data.toList[0]?=some 36:=by rw[get 0 om];exact h1
  by_cases h2:(jb (toS l)).2=0
  ·have hE:jb (toS (l++m))=jb (toS l):=aqw l m 80 1 (by show (jb (toS l)).2≠2;omega);have h2':(jb (toS (l++m))).2=0:=by rw[hE];exact h2
   by_cases h3:(toS l).size<(jb (toS l)).1+2
   ·rw[aoh h0 h1 h2 h3]at h;exact absurd rfl h
   ·have h3':¬(toS (l++m)).size<(jb (toS (l++m))).1+2:=by rw[hE];rw[vl]at h3 ⊢;rw[d7];omega
    obtain⟨i,hi⟩:∃i,jb (toS l)=(i,0):=⟨(jb (toS l)).1,by rw[← h2]⟩;have hi':jb (toS (l++m))=(i,0):=by rw[hE];exact hi
    have hLn:ka (toS (l++m))=ka (toS l):=by
     rw[ahk hi,ahk hi',v7,v7,jl,jl];rw[hi]at h3;have b1:=(agi (toS l) 80 1 i hi).1
     congr 1
     rw[b3f om,b3e (by rw[l8];omega)]
    have g4:(toS (l++m)).data.toList[(jb (toS l)).1+1]?=(toS l).data.toList[(jb (toS l)).1+1]?:=get _ om;rw[← hE]at g4
    by_cases h4:(toS l).data.toList[(jb (toS l)).1+1]?≠some 10∨zt (ka (toS l))=false
    ·rw[air h0 h1 h2 h3 h4,air h0' h1' h2' h3' (by rw[g4,hE,hLn];exact h4)]
    ·have h5:(toS l).data.toList[(jb (toS l)).1+1]?=some 10:=b2s.1 fun k=>h4 (.inl k)
     have h6:zt (ka (toS l))=true:=by cases hf:zt (ka (toS l))with
      | true=>rfl
      | false=>exact absurd (.inr hf) h4
     rw[ais h0 h1 h2 h3 h5 h6,ais h0' h1' h2' h3' (by rw[g4,hE];exact h5) (by rw[hLn];exact h6),hLn,hE]
  ·have hE:jb (toS (l++m))=jb (toS l):=aqw l m 80 1 (by
    show (jb (toS l)).2≠2;rw[aiq h0 h1 h2]at h;exact h)
   rw[aiq h0 h1 h2,aiq h0' h1' (by rw[hE];exact h2),hE]
 ·have h1':¬(toS (l++m)).data.toList[0]?=some 36:=by rw[get 0 om];exact h1
  rw[alh h0 h1,alh h0' h1']
theorem ap7 (t:ByteArray):t.data.toList.length=t.size:=by rw[b1j];rfl
theorem ar3 (t y:ByteArray):∀fs:List ByteArray,fs.length+t.size+y.size ≤(akm t y fs).length∧∀f∈fs,f.size ≤(akm t y fs).length:=by
 intro fs;have e1:=ap7 t;have e2:=ap7 y
 have key:fs.length ≤(fs.flatMap fun f=>(44:UInt8)::f.data.toList).length∧∀f∈fs,f.size ≤(fs.flatMap fun f=>(44:UInt8)::f.data.toList).length:=by
  induction fs with
  | nil=>exact⟨b0c _,fun f hf=>by simp at hf⟩
  | cons g l ih=>
   have e3:=ap7 g;rw[b15,d7,n7,n7];refine⟨by omega,fun f hf=>?_⟩;rcases b0z.1 hf with rfl|hf
   ·omega
   ·have:=ih.2 f hf;omega
 unfold akm;rw[d7,d7];exact⟨by omega,fun f hf=>by have:=key.2 f hf;omega⟩
theorem a6t {t:ByteArray} (h:(jh t).2.2=0):∃P x y M,ajn P∧t=toS (vt P x y M)∧jq [x,y]=some ((akc P).toNat:Int)∧jh t=(agd P,P.length+6,0):=by
 obtain⟨P,x,y,M,rfl,hP,hu⟩:=a8c h;exact⟨P,x,y,M,hP,rfl,hu,aud hP hu⟩
theorem axi (t:ByteArray):(jh t).1.2.2.length≤76 ∧(∀f∈(jh t).1.2.2,f.size≤76) ∧(jh t).1.1.size≤76 ∧(jh t).1.2.1.size≤76:=by
 by_cases h:(jh t).2.2=0
 ·obtain⟨P,x,y,M,hP,-,-,e⟩:=a6t h;rw[e];have hb:=a3q hP;have h1:=ar3 (agd P).1 (agd P).2.1 (agd P).2.2;rw[hb]at h1;have h2:=hP.2.1;exact⟨by simp only;omega,fun f hf=>o8 (h1.2 f hf) h2,by simp only;omega,by simp only;omega⟩
 ·rw[bb6 h];exact⟨b0c _,fun f hf=>by simp at hf,b0c _,b0c _⟩
theorem a0u {lo lo':Nat} {C D:Array Value} {m:NmD} {w:World} (hC:NmV lo w C m) (hD:NmV lo' w D m) (h1:m.s.ids.length≤1000000) (h2:m.u.L.length≤1000000) :
 Calls prog 28 #[.agg C,.agg D] w fun e w'=>e=.returned (.bool true)∧Below w.1.size w w':=by
 obtain⟨x,y,rfl,⟨A,c,rfl,hA⟩,⟨B,d,rfl,hB⟩⟩:=hC;obtain⟨x',y',rfl,⟨A',c',rfl,hA'⟩,⟨B',d',rfl,hB'⟩⟩:=hD
 exact a5s (A:=A) (B:=B) (A':=A') (B':=B') (n:=m.s.ids.length) (p:=m.u.L.length)
  (fun W hb=>awa m.s.a m.s.f m.s.p0.1 m.s.p0.2 m.s.p1.1 m.s.p1.2 m.s.p2.1 m.s.p2.2 A A' m.s.ids.length c c' m.s.ids W rfl (as5 hA hb).ints (as5 hA' hb).ints h1)
  (fun W hb=>awb m.u.T m.u.N m.u.S B B' m.u.L.length d d' m.u.L W rfl (as5 hB hb).vws (as5 hB' hb).vws h2)
theorem aeu {fn:Func} {p u v:Tmp} {ty:TypeId} (h:fn.results=#[.cell p ty,.tmp u,.tmp v]) (tmps:Array Value) (P:Program) (w:World) :
 (results fn tmps).run P w =
  ((asAddr (tmps.getD p undef)).run P w).andThen fun a w₁=>((loadVar ty a).run P w₁).andThen fun v' w₂=>.ok (.tuple #[v',tmps.getD u undef,tmps.getD v undef]) w₂:=by
 simp only[results,h];simp[Result.andThen]
def yp (t:ByteArray):NmD×Nat×Int:=if(jh t).2.2=0 then((aeh (jh t).1.1 (jh t).1.2.1 (jh t).1.2.2).1,(jh t).2.1,(aeh (jh t).1.1 (jh t).1.2.1 (jh t).1.2.2).2)else(art,0,(jh t).2.2)
def a25 (x:NmD×Nat×Int) (w:World) (e:Ending) (w':World):Prop:=∃C,e=.returned (.tuple #[.agg C,.int .i64 (x.2.1:Int),.int .i64 x.2.2])∧NmV w.1.size w' C x.1∧Below w.1.size w w'
theorem avx {t:ByteArray} {w:World} (ht:t.size≤1000000):Calls prog 44 #[.string t] w (a25 (yp t) w):=by
 obtain⟨⟨⟨T,Y,fs⟩,N,E⟩,hX⟩:∃x,jh t=x:=⟨_,rfl⟩;have hz:fs.length≤1000000∧∀f∈fs,f.size≤1000000:=by have:=axi t;rw[hX]at this;exact⟨o8 this.1 om,fun f hf=>o8 (this.2.1 f hf) om⟩
 obtain⟨⟨m,F⟩,hm⟩:∃x,aeh T Y fs=x:=⟨_,rfl⟩;have HD:Hid (yp t=if E=0 then(m,N,F)else(art,0,E)):=by unfold yp;rw[hX];simp only;rw[hm];exact rfl
 have HT:∀W,Hid (Calls prog 62 #[.string t] W (ke ((T,Y,fs),N,E) W)):=fun W=>by rw[← hX];exact bc7 t W ht
 have HK:∀A c W,vw W W.1.size A fs→Hid (Calls prog 63 #[.agg #[.string T,.string Y,.slice A fs.length c]] W (bjl (m,F) W)):=fun A c W hs=>by rw[← hm];exact a48 hs hz.1 hz.2
 obtain⟨n,hn⟩:∃n,fs.length=n:=⟨_,rfl⟩;have HN:=hid hn;rw[hn]at HK;clear hX hz hm hn ht;go_enter func44,ntmps44;go_wp2_with (refine qc rfl 58 rfl zNm (acz _) ?_;intro W1 hW1;have HR1:=hid (Blk.newL (L:=nmL 0 ByteArray.empty zy xd xw xh ja) hW1 rfl);have HB1:=hid hW1.bel;have HZ1:=hid hW1.sz;clear hW1);refine(HT _).out.mono ?_;rintro e W2 ⟨A,c,rfl,hs,hf,hb⟩;have HST:=hid hs;have HR2:=hid (HR1.out.on hb);have HB2:=hid (qb HB1.out hb);have HZ2:Hid (w.1.size<W2.1.size):=HR2.out.lt;clear hs hf hb HR1 HB1 HT;have HST:Hid (vw W2 W2.1.size A fs):=HST;dsimp only;rw[HN.out]
 by_cases h0:E=0
 ·subst h0;have HX:Hid (yp t=(m,N,F)):=HD.out.trans (if_pos rfl);clear HD
  go_upto_region 2 with(first
   | (refine qc rfl 150 rfl #[.string ByteArray.empty,.string ByteArray.empty,.slice none 0 0] kr ?_;intro W3 hW3;have HS3:=hid (Blk.newL (L:=[.string ByteArray.empty,.string ByteArray.empty,.slice none 0 0]) hW3 rfl);have HR3:=hid (HR2.out.grew hW3);have HB3:=hid (qb HB2.out hW3.bel);have HT3:=hid ((HST.out.below hW3.bel (a8 _)).more hW3.bel.size);have HL3:=hid hW3.bel;clear hW3 HR2)
   | (refine qe rfl 150 _ _ rfl W2.1.size 0 #[.string T,.string Y,.slice A n c] rfl rfl (HS3.out.there 0 3 dc) alc (xj.arr (L:=[.string T,.string Y,.slice A n c]) (xj.of rfl)) ?_;intro W4 hW4;have HS4:Hid (Blk W4 W2.1.size [.string T,.string Y,.slice A n c]):=HS3.out.all hW4 rfl;have HR4:=hid (HR3.out.far hW4 (by have:=HZ2.out;omega));have HL4:=hid (HL3.out.trans (hW4.below (a8 _)));have HT4:Hid (vw W4 W4.1.size A fs):=(HST.out.below HL4.out (a8 _)).more HL4.out.size;have HB4:=hid (qb HB2.out HL4.out);clear hW4 HS3 HR3 HB3 HT3 HL3))
  try go_frame
  go_wp2_with (refine b0i rfl 150 _ rfl W2.1.size 0 rfl [.string T,.string Y,.slice A n c] _ HS4.out.rg underlying150 rfl alc ?_);refine(HK A c _ HT4.out).out.mono ?_;rintro e W5 ⟨D,rfl,hd,hb⟩;have HD:=hid hd;have HR5:=hid (HR4.out.on hb);have HB5:=hid (qb HB4.out hb);have HZ5:Hid (w.1.size<W4.1.size∧w.1.size<W5.1.size):=⟨HR4.out.lt,HR5.out.lt⟩;clear hd hb HS4 HR4 HT4 HB4 HL4 HK;dsimp only
  go_wp2_with (first
   | (refine qc rfl 58 rfl zNm (acz _) ?_;intro W6 hW6;have HA:=hid (Blk.newL (L:=nmL 0 ByteArray.empty zy xd xw xh ja) hW6 rfl);have HR6:=hid (HR5.out.grew hW6);have HB6:=hid (qb HB5.out hW6.bel);have HL6:=hid hW6.bel;clear hW6 HR5)
   | (refine qe rfl 58 _ _ rfl W5.1.size 0 D rfl rfl (adq HA.out qq HD.out) (aaj HD.out) HD.out.ones ?_;intro W7 hW7;have HM7:Hid (Blk W7 W5.1.size D.toList):=HA.out.all hW7 (aif HD.out);have HR7:=hid (HR6.out.far hW7 (by have:=HZ5.out;omega));have HL7:=hid (HL6.out.trans (hW7.below (a8 _)));have HB7:=hid (qb HB5.out HL7.out);clear hW7 HR6 HA HB6 HL6)
   | refine b0i rfl 58 _ rfl W5.1.size 0 rfl D.toList _ HM7.out.rg underlying58 rfl (by rw[b1j];exact aaj HD.out) ?_
   | (refine qe rfl 58 _ _ rfl w.1.size 0 D rfl rfl (adq HR7.out qq HD.out) (aaj HD.out) HD.out.ones ?_;intro W8 hW8;have HM8:Hid (Blk W8 w.1.size D.toList):=HR7.out.all hW8 (aif HD.out);have HB8:=hid (HB7.out.trans (hW8.below (a8 _)));have HD8:=hid ((HD.out.on HL7.out).far hW8 HZ5.out.1);clear hW8 HR7 HB7))
  have HLD:=hid (t6 (P:=prog) _ w.1.size 0 58 _ _ HM8.out.rg underlying58 rfl (by rw[b1j];exact aaj HD.out));refine b9 (v:=.tuple #[.agg D,.int .i64 (N:Int),.int .i64 F]) (by rw[aeu rfl];simp[asAddr,Result.andThen,HLD.out]) rfl ?_;rw[HX.out];exact⟨D,rfl,HD8.out.less (by have:=HZ5.out;omega),HB8.out⟩
 ·have HX:Hid (yp t=(art,0,E)):=HD.out.trans (if_neg h0);have hne:(E != 0)=true:=by rw[b0g];exact h0
  clear HD HK
  go_wp2_with (first
   | (refine qc rfl 150 rfl #[.string ByteArray.empty,.string ByteArray.empty,.slice none 0 0] kr ?_;intro W3 hW3;have HS3:=hid (Blk.newL (L:=[.string ByteArray.empty,.string ByteArray.empty,.slice none 0 0]) hW3 rfl);have HR3:=hid (HR2.out.grew hW3);have HB3:=hid (qb HB2.out hW3.bel);clear hW3 HR2)
   | (refine qe rfl 150 _ _ rfl W2.1.size 0 #[.string T,.string Y,.slice A n c] rfl rfl (HS3.out.there 0 3 dc) alc (xj.arr (L:=[.string T,.string Y,.slice A n c]) (xj.of rfl)) ?_;intro W4 hW4;have HR4:=hid (HR3.out.far hW4 (by have:=HZ2.out;omega));have HB4:=hid (HB3.out.trans (hW4.below (by have:=HZ2.out;omega)));clear hW4 HS3 HR3 HB3)
   | refine zo rfl 58 rfl (as8 _) ?_
   | (refine qe rfl 58 _ _ rfl w.1.size 0 zNm rfl rfl (adq HR4.out qq (NmV.zero 0 w)) (aaj (NmV.zero 0 w)) (NmV.zero 0 w).ones ?_;intro W7 hW7;have HM7:Hid (Blk W7 w.1.size zNm.toList):=HR4.out.all hW7 (aif (NmV.zero 0 w));have HB7:=hid (HB4.out.trans (hW7.below (a8 _)));clear hW7 HR4 HB4))
  have HLD:=hid (t6 (P:=prog) _ w.1.size 0 58 _ _ HM7.out.rg underlying58 rfl (by rw[b1j];exact aaj (NmV.zero 0 w)));refine b9 (v:=.tuple #[.agg zNm,.int .i64 0,.int .i64 E]) (by rw[aeu rfl];simp[asAddr,Result.andThen,HLD.out]) rfl ?_;rw[HX.out];exact⟨zNm,rfl,NmV.zero _ _,HB7.out⟩
theorem acu {α:Type} (b m:List α) (i n:Nat) (h:i+n≤b.length):((b++m).drop i).take n=(b.drop i).take n:=by
 rw[b3f om,b3e (by rw[l8];omega)]
theorem vu (b m:List UInt8) (i:Nat) (h:i<b.length):zx (b++m) i=zx b i:=by
 unfold zx;rw[l9,l9,b0a h]
theorem ayi:∀(b m:List UInt8),vo b=false→vo (b++m)=false
 | [],_,h=>by cases h
 | [x],[],h=>h
 | [x],y::_,h=>by
  have h':decide (x.toNat=181)=false:=h;show (decide (x.toNat=181) && decide (y.toNat=98))=false;rw[h'];rfl
 | x::y::_,_,h=>h
theorem auz:∀(b m:List UInt8),2≤b.length→vo (b++m)=vo b
 | [],_,h=>by simp at h
 | [x],_,h=>by simp at h
 | x::y::_,_,_=>rfl
theorem a9u (b m:List UInt8) (h:(abq b).e≠2):abq (b++m)=abq b:=by
 cases hb:vo b with
 | false=>
  unfold abq;rw[if_pos (ayi b m hb),if_pos hb]
 | true=>
  by_cases h6:b.length<6
  ·exfalso;apply h;unfold abq;rw[if_neg (by rw[hb];decide),if_pos h6];rfl
  ·have h6':¬(b++m).length<6:=by rw[d7];omega
   have hb2:vo (b++m)=true:=by rw[auz b m om,hb]
   have q1:¬vo b=false:=by rw[hb];decide
   have q2:¬vo (b++m)=false:=by rw[hb2];decide
   unfold abq;rw[if_neg q2,if_neg h6',if_neg q1,if_neg h6,vu b m 4 om,vu b m 5 om,vu b m 2 om,vu b m 3 om];have hN:∀N,(zx b 4).toNat+256*(zx b 5).toNat=N→N≤N:=fun _ _=>a8 _
   by_cases h7:1016<(zx b 4).toNat+256*(zx b 5).toNat
   ·rw[if_pos h7,if_pos h7]
   ·rw[if_neg h7,if_neg h7]
    by_cases h8:b.length<(zx b 4).toNat+256*(zx b 5).toNat+8
    ·exfalso;apply h;unfold abq;rw[if_neg (by rw[hb];decide),if_neg h6,if_neg h7,if_pos h8];rfl
    ·rw[if_neg h8,if_neg (by rw[d7];omega),acu b m 2 _ om,acu b m 6 _ om]
theorem a9v (b:List UInt8):((abq b).e=0→8 ≤(abq b).n ∧(abq b).n≤1024 ∧(abq b).n≤b.length) ∧((abq b).e=2→b.length<1024):=by
 unfold abq aeq
 repeat' split
 all_goals first|exact⟨fun h=>absurd h dc,fun h=>absurd h dc⟩|(refine⟨fun h=>?_,fun h=>?_⟩<;>dsimp only at h ⊢<;>first|omega|(exact absurd h dc))
theorem bch (b m:List UInt8) (h:0<(agq b).2.1 ∨(agq b).1≠2):agq (b++m)=agq b:=by
 have h2:(abq b).e≠2:=by
  intro q;unfold agq at h;rw[if_neg (by rw[q];decide)]at h;rcases h with h|h
  ·exact absurd h sm
  ·exact h q
 unfold agq;rw[a9u b m h2]
theorem bci (b:List UInt8):(0<(agq b).2.1→8 ≤(agq b).2.1 ∧(agq b).2.1≤1024 ∧(agq b).2.1≤b.length) ∧((agq b).2.1=0 →(agq b).1=2→b.length<1024):=by
 have hs:=a9v b;unfold agq
 split
 ·rename_i h0;have:=hs.1 h0;dsimp only;exact⟨fun _=>this,fun q=>by omega⟩
 ·dsimp only;exact⟨fun q=>absurd q sm,fun _=>hs.2⟩
def adh (b:List UInt8):ByteArray:=toS (b.take 82)
theorem at3 (t:ByteArray):∀f i,(yd t f i).2=2→t.size<i+f
 | 0,i,h=>by simp[yd]at h
 | f+1,i,h=>by
  unfold yd at h
  split at h
  ·split at h
   ·cases h
   ·split at h
    ·have:=at3 t f (i+1) h;omega
    ·cases h
  ·omega
theorem bb7 {t:ByteArray} (h:(jh t).2.2=2):t.size<82:=by
 unfold jh at h
 split at h
 ·omega
 split at h
 ·cases h
 split at h
 ·have:=at3 t 80 1 h;omega
 rename_i h2
 split at h
 ·rename_i h3;have he:(jb t).2=0:=by simpa using h2
  have h4:=agi t 80 1 (jb t).1 (by unfold jb at he ⊢;rw[← he]);omega
 split at h
 ·cases h
 ·revert h;cases yb (ka t)with
  | none=>intro h;cases h
  | some b=>intro h;cases h
theorem a6u {t:ByteArray} (h:(jh t).2.2=0):8 ≤(jh t).2.1 ∧(jh t).2.1≤82 ∧(jh t).2.1≤t.size:=by
 obtain⟨P,x,y,M,e,hP,hu⟩:=a8c h;have hz:t.size=P.length+6+M.length:=by rw[e,vl,aiv]
 rw[e,aud hP hu];have h1:=hP.1;have h2:=hP.2.1;dsimp only;rw[vl,aiv];omega
theorem atr (b:List UInt8):(adh b).size=min 82 b.length:=by
 unfold adh;rw[vl,l7]
theorem a35 {t:ByteArray} (h:0<(yp t).2.1 ∨(yp t).2.2≠2):(jh t).2.2≠2:=by
 intro q;unfold yp at h;rw[if_neg (by rw[q];decide)]at h;rcases h with h|h
 ·exact absurd h sm
 ·exact h q
theorem bag (b m:List UInt8) (h:0<(yp (adh b)).2.1 ∨(yp (adh b)).2.2≠2):yp (adh (b++m))=yp (adh b):=by
 have h2:=a35 h
 have e:adh (b++m)=toS (b.take 82++m.take (82-b.length)):=by
  unfold adh;rw[List.take_append]
 have ht:jh (adh (b++m))=jh (adh b):=by rw[e];exact bb8 _ _ h2
 unfold yp;rw[ht]
theorem a34 (b:List UInt8):(0<(yp (adh b)).2.1→8 ≤(yp (adh b)).2.1 ∧(yp (adh b)).2.1≤1024 ∧(yp (adh b)).2.1≤b.length) ∧((yp (adh b)).2.1=0 →(yp (adh b)).2.2=2→b.length<1024):=by
 have hz:=atr b;generalize adh b=t at *;unfold yp
 split
 ·rename_i h0;have:=a6u h0;dsimp only;exact⟨fun _=>by omega,fun q=>by omega⟩
 ·dsimp only;exact⟨fun q=>absurd q sm,fun _ q=>by have:=bb7 q;omega⟩
theorem bcd (b m:List UInt8) (h:0<(ab1 b).2.1 ∨(ab1 b).1≠2):ab1 (b++m)=ab1 b:=by
 unfold ab1 at h ⊢;dsimp only at h ⊢
 by_cases h0:b.length=0
 ·rw[if_pos h0]at h;exact absurd h sm
 rw[if_neg h0]at h ⊢;rw[if_neg (by rw[d7];omega),vu b m 0 om]
 by_cases h1:zx b 0≠254
 ·rw[if_pos h1,if_pos h1]
 rw[if_neg h1]at h ⊢;rw[if_neg h1]
 by_cases h2:b.length<6
 ·rw[if_pos h2]at h;exact absurd h sm
 rw[if_neg h2]at h ⊢;rw[if_neg (by rw[d7];omega),vu b m 5 om,vu b m 1 om];generalize (zx b 5).toNat=i at *;generalize ym (xe (i:Int)).2=w at *
 by_cases h3:w=0
 ·rw[if_pos h3,if_pos h3]
 rw[if_neg h3]at h ⊢;rw[if_neg h3]
 by_cases h4:(zx b 1).toNat≠w
 ·rw[if_pos h4,if_pos h4]
 rw[if_neg h4]at h ⊢;rw[if_neg h4]
 by_cases h5:b.length<w+8
 ·rw[if_pos h5]at h;exact absurd h sm
 rw[if_neg h5,if_neg (by rw[d7];omega),acu b m 1 _ om,acu b m 6 _ om,vu b m (w+6) om,vu b m (w+7) om,vu b m 2 om,vu b m 3 om,vu b m 4 om]
theorem bce (b:List UInt8):(0<(ab1 b).2.1→8 ≤(ab1 b).2.1 ∧(ab1 b).2.1≤1024 ∧(ab1 b).2.1≤b.length) ∧((ab1 b).2.1=0 →(ab1 b).1=2→b.length<1024):=by
 have hw:=(zx b 1).toNat_lt;unfold ab1;dsimp only;generalize (zx b 5).toNat=i at *;generalize ym (xe (i:Int)).2=w at *
 repeat' split
 all_goals (refine⟨fun q=>?_,fun q r=>?_⟩<;>dsimp only at *<;>first|omega|exact absurd q dc|exact absurd r dc)
structure ItD where
 pr:Int
 od:Bool
 U:ael
 N:NmD
 T:aha
def aek:ItD:=⟨0,false,aaq,art,aaa⟩
def adz (p:Int) (b:List UInt8):ItD×Nat×Int:=
 if p=1 then({aek with U:=(agq b).2.2},(agq b).2.1,(agq b).1)
 else if p=2 then({aek with N:=(yp (adh b)).1},(yp (adh b)).2.1,(yp (adh b)).2.2)
 else({aek with T:=(ab1 b).2.2},(ab1 b).2.1,(ab1 b).1)
theorem a9n (p:Int) (b m:List UInt8) (h:0<(adz p b).2.1 ∨(adz p b).2.2≠2):adz p (b++m)=adz p b:=by
 unfold adz at h ⊢
 split
 ·rename_i h1;rw[if_pos h1]at h;rw[bch b m h]
 ·rename_i h1;rw[if_neg h1]at h
  split
  ·rename_i h2;rw[if_pos h2]at h;rw[bag b m h]
  ·rename_i h2;rw[if_neg h2]at h;rw[bcd b m h]
theorem alv (p:Int) (b:List UInt8):(0<(adz p b).2.1→8 ≤(adz p b).2.1 ∧(adz p b).2.1≤1024 ∧(adz p b).2.1≤b.length) ∧((adz p b).2.1=0 →(adz p b).2.2=2→b.length<1024):=by
 unfold adz
 split
 ·exact bci b
 split
 ·exact a34 b
 ·exact bce b
structure VeD where
 d:Int
 p:Int
 n:Nat
 e:Int
 x:ItD
def bnf:VeD:=⟨0,0,0,0,aek⟩
def ag3 (p:Int) (r:ItD×Nat×Int):VeD:=
 if 0<r.2.1 then(if r.2.2=0 then⟨2,p,r.2.1,0,{r.1 with pr:=p}⟩else⟨2,p,r.2.1,r.2.2,{aek with pr:=p,od:=true}⟩)
 else if r.2.2=2 then⟨0,p,0,0,aek⟩else⟨1,p,0,r.2.2,aek⟩
def jn:List UInt8→VeD
 | []=>bnf
 | x::l=>if xr x=0 then⟨1,0,0,3,aek⟩else ag3 (xr x) (adz (xr x) (x::l))
theorem vv (x:UInt8) (l:List UInt8):jn (x::l)=if xr x=0 then⟨1,0,0,3,aek⟩else ag3 (xr x) (adz (xr x) (x::l)):=rfl
theorem aij (x:UInt8):xr x=0∨xr x=1∨xr x=2∨xr x=3:=by
 unfold xr
 repeat' split
 all_goals simp
theorem bgu (p:Int) (r:ItD×Nat×Int):(ag3 p r).p=p:=by
 unfold ag3;repeat' split
 all_goals rfl
theorem ari (p:Int) (r:ItD×Nat×Int):((ag3 p r).d=0↔r.2.1=0∧r.2.2=2) ∧((ag3 p r).d=0 ∨(ag3 p r).d=1 ∨(ag3 p r).d=2) ∧((ag3 p r).d=2↔0<r.2.1):=by
 unfold ag3
 by_cases h1:0<r.2.1
 ·have h0:¬r.2.1=0:=by omega
  rw[if_pos h1]
  split<;>simp[h1,h0]
 ·have h0:r.2.1=0:=by omega
  rw[if_neg h1]
  split<;>simp_all
theorem bmc (p:Int) (r:ItD×Nat×Int):(ag3 p r).n=r.2.1:=by
 unfold ag3;repeat' split
 all_goals first|rfl|(show (0:Nat)=_;omega)
theorem bcl (b m:List UInt8) (h:(jn b).d≠0):jn (b++m)=jn b:=by
 cases b with
 | nil=>exact absurd rfl h
 | cons x l=>
  show jn (x::(l++m))=jn (x::l);rw[vv]at h;rw[vv,vv]
  split
  ·rfl
  ·rename_i h0;rw[if_neg h0]at h;have:=(ari (xr x) (adz (xr x) (x::l))).1
   rw[← b02,a9n _ _ m (by
    rcases b4q (adz (xr x) (x::l)).2.1 with q|q
    ·exact .inr fun r=>h (this.2 ⟨q,r⟩)
    ·exact .inl q)]
theorem bgt (b:List UInt8) (x:UInt8) (h:b[0]?=some x):(jn b).p=xr x:=by
 cases b with
 | nil=>cases h
 | cons y l=>
  injection h with h;subst h
  rw[vv]
  split
  ·rename_i h0;exact h0.symm
  ·exact bgu _ _
theorem bgq (b:List UInt8):(jn b).d=0 ∨(jn b).d=1 ∨(jn b).d=2:=by
 cases b with
 | nil=>exact .inl rfl
 | cons y l=>
  rw[vv]
  split
  ·exact .inr (.inl rfl)
  ·exact(ari _ _).2.1
theorem amo (b:List UInt8) (h:(jn b).d=2):8 ≤(jn b).n ∧(jn b).n≤1024 ∧(jn b).n≤b.length ∧(jn b).x.pr=(jn b).p ∧((jn b).p=1 ∨(jn b).p=2 ∨(jn b).p=3):=by
 cases b with
 | nil=>exact absurd h dc
 | cons y l=>
  rw[vv]at h ⊢
  split
  ·rename_i h0;rw[if_pos h0]at h;exact absurd h dc
  ·rename_i h0;rw[if_neg h0]at h;have h2:=(ari _ _).2.2.1 h;have h3:=(alv (xr y) (y::l)).1 h2;have hp:=aij y;rw[bmc,bgu];refine⟨h3.1,h3.2.1,h3.2.2,?_,by rcases hp with q|q|q|q<;>simp_all⟩;unfold ag3;rw[if_pos h2]
   split<;>rfl
theorem axt (b:List UInt8) (h:(jn b).d≠2):(jn b).n=0 ∧(jn b).x=aek:=by
 cases b with
 | nil=>exact⟨rfl,rfl⟩
 | cons y l=>
  rw[vv]at h ⊢
  split
  ·exact⟨rfl,rfl⟩
  ·rename_i h0;rw[if_neg h0]at h;have h2:¬0<(adz (xr y) (y::l)).2.1:=fun q=>h ((ari _ _).2.2.2 q)
   unfold ag3;rw[if_neg h2]
   split<;>exact⟨rfl,rfl⟩
theorem aui (b:List UInt8) (h:(jn b).d=0):b.length<1024:=by
 cases b with
 | nil=>simp
 | cons y l=>
  rw[vv]at h
  split at h
  ·exact absurd h dc
  ·have h1:=(ari _ _).1.1 h;exact(alv (xr y) (y::l)).2 h1.1 h1.2
