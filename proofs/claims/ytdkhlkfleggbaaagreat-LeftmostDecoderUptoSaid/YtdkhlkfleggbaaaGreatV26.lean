/- Parts. -/
import Derived.Lib.IndexBytes
import Derived.Lib.Bytealg
import Derived.Lib.IndexEntry
import Derived.Test.YtdkhlkfleggbaaaGreatV25
import Derived.Test.YtdkhlkfleggbaaaGreatV21
import Derived.Test.YtdkhlkfleggbaaaGreatV07
namespace Go.Proofs.YtdkhlkfleggbaaaGreat
set_option maxHeartbeats 2000000
set_option maxRecDepth 8000
open Tryz
set_option linter.unusedVariables false
open Go.RowKit
set_option maxRecDepth 100000 in
theorem aew (s:ByteArray) (c:Int) (w:World) :
 Calls prog 130 #[.string s,.int .u8 c] w λe w'=>e=.returned (.int .i64 (Lib.indexByte s.data.toList c.toNat.toUInt8))/\w=w':=by
 go_enter func130,ntmps130;go_wp2;rw[run_callFunc_extern func203 kr kr kr (e:=Extern.BytealgIndexByte.indexByte) kr,Lib.run_indexByteString];simp only[Result.andThen];rw[Oper.upon_value];go_wp2;go_ret;exact⟨rfl,rfl⟩
set_option maxRecDepth 100000 in
theorem ar5 (s:ByteArray) (c:Int) (w:World) :
 Calls prog 97 #[.string s,.int .u8 c] w λe w'=>e=.returned (.int .i64 (Lib.indexByte s.data.toList c.toNat.toUInt8))/\w=w':=by
 go_enter func97,ntmps97;go_wp2_with fail;refine(aew _ _ _).mono ?_;rintro e w' ⟨rfl,rfl⟩;go_wp2;go_ret;exact⟨rfl,rfl⟩
theorem aje (s:ByteArray) (c:UInt8) (w:World) :
 Calls prog 204 #[.string s,.string ⟨#[c]⟩] w λe w'=>e=.returned (.int .i64 (Lib.indexByte s.data.toList c))/\w=w':=by
 go_enter func204,ntmps204;go_wp2_with (go_at_call 130;refine(aew _ _ _).mono ?_;rintro e w' ⟨rfl,rfl⟩)
 ·have h:([c]==s.toList)=true:=by assumption
  go_ret;refine⟨?_,rfl⟩;have e:s.data.toList=[c]:=by rw[<- Lib.toList_data];exact(b1w.1 h).symm
  rw[e];simp[Lib.indexByte]
 ·go_ret;exact⟨rfl,rfl⟩
def ae8 (s:ByteArray) (c:UInt8):Int:=Lib.indexByte s.data.toList c
theorem a53 (s:ByteArray) (c:UInt8) (w:World) (h:Q_ (ae8 s c<0)) :
 Calls prog 134 #[.string s,.string ⟨#[c]⟩] w λe w'=>e=.returned (.tuple #[.string s,.string ByteArray.empty,.bool false])/\Below w.1.size w w':=by
 obtain⟨I,hI⟩:∃I,I=Lib.indexByte s.data.toList c:=⟨_,rfl⟩;have hn:I<0:=by rw[hI];exact h.o
 have HI:=q_ hI;clear hI;go_enter func134,ntmps134;go_wp2_with fail;refine(aje _ _ _).mono ?_;rintro e w' ⟨rfl,rfl⟩;rw[<- HI.o];go_wp2_with fail
 go_ret3
 exact⟨rfl,n9 _ _⟩
theorem a04 (s:ByteArray) (c:UInt8) (i:Nat) (w:World) (hs:s.size<=1100000) (hi:i<s.size) (h:Q_ (ae8 s c=(i:Int))) :
 Calls prog 134 #[.string s,.string ⟨#[c]⟩] w λe w'=>e=.returned (.tuple #[.string (s.extract 0 i),.string (s.extract (i+1) s.size),.bool true])/\Below w.1.size w w':=by
 have i1:(0:Int) <=(i:Int):=o5 _;have i2:(i:Int) <=(s.size:Int):=by omega
 have i5:(0:Int) <=(i:Int)+1:=by omega
 have i6:(i:Int)+1 <=(s.size:Int):=by omega
 have i4:IntKind.i64.wrap ((i:Int)+1)=(i:Int)+1:=b05 _ om;have i7:((i:Int)+1).toNat=i+1:=by omega
 go_enter func134,ntmps134;go_wp2_with fail;refine(aje _ _ _).mono ?_;rintro e w' ⟨rfl,rfl⟩;rw[show Lib.indexByte s.data.toList c=(i:Int)from h.o];go_wp2_with fail
 go_quiet (fail)
 go_wp2_with fail
 go_ret3
 exact⟨rfl,aai (n9 _ _) _⟩
theorem bl3 (s:ByteArray) (c:UInt8) (w:World) (h:Q_ (ae8 s c<0)) :
 Calls prog 101 #[.string s,.string ⟨#[c]⟩] w λe w'=>e=.returned (.tuple #[.string s,.string ByteArray.empty,.bool false])/\Below w.1.size w w':=by
 go_enter func101,ntmps101;go_wp2_with fail;refine(a53 _ _ _ h).mono ?_;rintro e w1 ⟨rfl,hb⟩;go_wp2_with fail
 go_ret3
 exact⟨rfl,hb⟩
theorem bic (s:ByteArray) (c:UInt8) (i:Nat) (w:World) (hs:s.size<=1100000) (hi:i<s.size) (h:Q_ (ae8 s c=(i:Int))) :
 Calls prog 101 #[.string s,.string ⟨#[c]⟩] w λe w'=>e=.returned (.tuple #[.string (s.extract 0 i),.string (s.extract (i+1) s.size),.bool true])/\Below w.1.size w w':=by
 go_enter func101,ntmps101;go_wp2_with fail;refine(a04 _ _ i _ hs hi h).mono ?_;rintro e w1 ⟨rfl,hb⟩;go_wp2_with fail
 go_ret3
 exact⟨rfl,hb⟩
def okC (c:Int):Bool:=c==42 || acz c
def yf (t:ByteArray):Nat->Nat->Nat×Int
 | 0,_=>(0,7)
 | f+1,i=>if h:i<t.size then(if(t[i].toNat:Int)=13 then(i,0)else if okC (t[i].toNat:Int)then yf t f (i+1)else(0,3))else(0,2)
def jd (t:ByteArray):Nat×Int:=yf t 80 1
def kh (t:ByteArray):ByteArray:=if(jd t).2=0 then t.extract 1 (jd t).1 else ByteArray.empty
theorem a19 (t:ByteArray) (f i:Nat) (h:i<t.size) (hc:(t[i].toNat:Int)=13):yf t (f+1) i=(i,0):=by
 unfold yf;rw[b5q h,if_pos hc]
theorem aq9 (t:ByteArray) (f i:Nat) (h:i<t.size) (hc:(t[i].toNat:Int)≠13) (ho:okC (t[i].toNat:Int)=true):yf t (f+1) i=yf t f (i+1):=by
 rw[yf,b5q h,if_neg hc,if_pos ho]
theorem bch (t:ByteArray) (f i:Nat) (h:i<t.size) (hc:(t[i].toNat:Int)≠13) (ho:okC (t[i].toNat:Int)=false):yf t (f+1) i=(0,3):=by
 rw[yf,b5q h,if_neg hc,if_neg (by rw[ho];decide)]
theorem a2a (t:ByteArray) (f i:Nat) (h:¬i<t.size):yf t (f+1) i=(0,2):=by
 rw[yf,dif_neg h]
theorem ad9 (t:ByteArray) (w:World) (hm:t.size<=1100000) :
 Calls prog 79 #[.string t] w λe w'=>e=.returned (.tuple #[.string (kh t),.int .i64 (jd t).2])/\w=w':=by
 go_enter func79,ntmps79;go_wp2
 go_loop [4] (λi=>∃k:Nat,1<=k/\k<=81/\i=.int .i64 k/\Q_ (yf t (81-k) k=jd t)) (λi=>81-(intOf i).toNat)
 case atStart=>exact⟨1,by omega,by omega,rfl,rfl⟩
 case round=>
  obtain⟨k,hk0,hk,rfl,he⟩:=hrel
  by_cases h81:k<81
  ·have hf:Q_ (81-k=(80-k)+1):=by show _=_;omega
   by_cases hlt:k<t.size
   ·have hu:=t[k].toNat_lt
    by_cases h13:(t[k].toNat:Int)=13
    ·have HE:Q_ (jd t=(k,0)):=by show _=_;rw[<- he.o,hf.o,a19 t _ k hlt h13]
     have hb:((t[k].toNat:Int)==13)=true:=by rw[b1w];exact h13
     clear h13;go_wp2_with fail
     go_ret2
     exact⟨by first|(unfold kh;rw[HE.o];rfl)|(rw[HE.o];rfl),rfl⟩
    ·have hb:((t[k].toNat:Int)==13)=false:=by rw[l7];exact h13
     cases hl:acz (t[k].toNat:Int)with
     | true=>
      have HE:Q_ (yf t (81-(k+1)) (k+1)=jd t):=by show _=_;rw[<- he.o,hf.o,aq9 t _ k hlt h13 (by unfold okC;rw[hl];simp)];rw[show 81-(k+1)=80-k from by omega]
      have hn42:(t[k].toNat:Int)≠42:=by intro h;rw[h]at hl;exact absurd hl dc
      have hb42:((t[k].toNat:Int) != 42)=true:=by rw[b0r];exact hn42
      have HL:=q_ hl;clear hl h13 hn42;go_wp2_with fail;refine(aj4 _ _).mono ?_;rintro e w' ⟨rfl,rfl⟩;rw[HL.o];go_wp2_with fail
      go_round
      case rel=>exact⟨k+1,by omega,by omega,by go_num,HE⟩
      case measure=>simp[intOf];omega
     | false=>
      by_cases h42:(t[k].toNat:Int)=42
      ·have HE:Q_ (yf t (81-(k+1)) (k+1)=jd t):=by show _=_;rw[<- he.o,hf.o,aq9 t _ k hlt h13 (by unfold okC;rw[h42];rfl)];rw[show 81-(k+1)=80-k from by omega]
       have hb42:((t[k].toNat:Int) != 42)=false:=by rw[b0b];exact h42
       have HL:=q_ hl;clear hl h13 h42;go_wp2_with fail
       first
        | (refine(aj4 _ _).mono ?_
           rintro e w' ⟨rfl,rfl⟩;rw[HL.o];go_wp2_with fail)
        | skip
       go_round
       case rel=>exact⟨k+1,by omega,by omega,by go_num,HE⟩
       case measure=>simp[intOf];omega
      ·have HE:Q_ (jd t=(0,3)):=by show _=_;rw[<- he.o,hf.o,bch t _ k hlt h13 (by unfold okC;rw[hl,l7.2 h42];rfl)]
       have hb42:((t[k].toNat:Int) != 42)=true:=by rw[b0r];exact h42
       have HL:=q_ hl;clear hl h13 h42;go_wp2_with fail;refine(aj4 _ _).mono ?_;rintro e w' ⟨rfl,rfl⟩;rw[HL.o];go_wp2_with fail
       go_ret2
       exact⟨by first|(unfold kh;rw[HE.o];rfl)|(rw[HE.o];rfl),rfl⟩
   ·have HE:Q_ (jd t=(0,2)):=by show _=_;rw[<- he.o,hf.o,a2a t _ k hlt]
    go_wp2_with fail
    go_ret2
    exact⟨by first|(unfold kh;rw[HE.o];rfl)|(rw[HE.o];rfl),rfl⟩
  ·have HE:Q_ (jd t=(0,7)):=by show _=_;rw[<- he.o,show 81-k=0 from by omega];rfl
   go_wp2_with fail
   go_ret2
   exact⟨by first|(unfold kh;rw[HE.o];rfl)|(rw[HE.o];rfl),rfl⟩
def acv (l:List UInt8):Nat:=l.count 42
theorem ajp (a b:List UInt8):acv (a++b)=acv a+acv b:=by simp[acv]
theorem aa1 (s:ByteArray) (w:World):Calls prog 97 #[.string s,.int .u8 42] w λe w'=>e=.returned (.int .i64 (ae8 s 42))/\w=w':=ar5 s 42 w
def zv (l:ByteArray):Bool:=
 decide (8<=l.size) && decide (ae8 l 42=(l.size:Int)-3) && acj (l.extract 0 5) 5 && (jq (l.extract (l.size-3+1) l.size).data.toList).isSome && (decide (l.size=8) || decide (l.data.toList[5]?=some 44))
theorem av8 (l:ByteArray) (w:World) (h:l.size<8):Calls prog 80 #[.string l] w λe w'=>e=.returned (.bool false)/\Below w.1.size w w':=by
 go_enter func80,ntmps80;go_wp2;go_ret;exact⟨rfl,n9 _ _⟩
theorem av7 (l:ByteArray) (n:Nat) (I:Int) (w:World) (h0:n+3<=l.size) (h1:l.size<=n+3) (h5:5<=n) (hm:l.size<=1100000) (e1:(l.size:Int)-3=(n:Int)) (hI:Q_ (ae8 l 42=I)) (hne:(I != (n:Int))=true) :
 Calls prog 80 #[.string l] w λe w'=>e=.returned (.bool false)/\Below w.1.size w w':=by
 go_enter func80,ntmps80;go_wp2_with fail;refine(aa1 _ _).mono ?_;rintro e w' ⟨rfl,rfl⟩;rw[hI.o];go_wp2_with fail;go_ret;exact⟨rfl,n9 _ _⟩
theorem av9 (l:ByteArray) (n:Nat) (w:World) (h0:n+3<=l.size) (h1:l.size<=n+3) (h5:5<=n) (hm:l.size<=1100000) (e1:(l.size:Int)-3=(n:Int)) (hI:Q_ (ae8 l 42=(n:Int))) (hs:Q_ (acj (l.extract 0 5) 5=false)) :
 Calls prog 80 #[.string l] w λe w'=>e=.returned (.bool false)/\Below w.1.size w w':=by
 go_enter func80,ntmps80;go_wp2_with fail;refine(aa1 _ _).mono ?_;rintro e w' ⟨rfl,rfl⟩;rw[hI.o];go_wp2_with fail;refine(ait _ 5 _).mono ?_;rintro e w1 ⟨rfl,hb1⟩;rw[hs.o];go_wp2_with fail;go_ret;exact⟨rfl,hb1⟩
theorem awa (l:ByteArray) (n:Nat) (w:World) (h0:n+3<=l.size) (h1:l.size<=n+3) (h5:5<=n) (hm:l.size<=1100000) (e1:(l.size:Int)-3=(n:Int)) (hI:Q_ (ae8 l 42=(n:Int))) (hs:Q_ (acj (l.extract 0 5) 5=true))
 (hu:Q_ (jq (l.extract (n+1) l.size).data.toList=none)) :
 Calls prog 80 #[.string l] w λe w'=>e=.returned (.bool false)/\Below w.1.size w w':=by
 go_enter func80,ntmps80;go_wp2_with fail;refine(aa1 _ _).mono ?_;rintro e w' ⟨rfl,rfl⟩;rw[hI.o];go_wp2_with fail;refine(ait _ 5 _).mono ?_;rintro e w1 ⟨rfl,hb1⟩;rw[hs.o];go_wp2_with fail;refine(aph _ _ hu).mono ?_;rintro e w2 ⟨rfl,hb2⟩;go_wp2_with fail;go_ret;exact⟨rfl,qb hb1 hb2⟩
theorem a0b (l:ByteArray) (n:Nat) (v:Int) (w:World) (h0:n+3<=l.size) (h1:l.size<=n+3) (h5:5<=n) (h6:n<=5) (hm:l.size<=1100000) (e1:(l.size:Int)-3=(n:Int)) (hI:Q_ (ae8 l 42=(n:Int))) (hs:Q_ (acj (l.extract 0 5) 5=true))
 (hu:Q_ (jq (l.extract (n+1) l.size).data.toList=some v)) :
 Calls prog 80 #[.string l] w λe w'=>e=.returned (.bool true)/\Below w.1.size w w':=by
 have hb:((n:Int)==5)=true:=by rw[b1w];omega
 go_enter func80,ntmps80;go_wp2_with fail;refine(aa1 _ _).mono ?_;rintro e w' ⟨rfl,rfl⟩;rw[hI.o];go_wp2_with fail;refine(ait _ 5 _).mono ?_;rintro e w1 ⟨rfl,hb1⟩;rw[hs.o];go_wp2_with fail;refine(af6 _ v _ hu).mono ?_;rintro e w2 ⟨rfl,hb2⟩;go_wp2_with fail;go_ret;exact⟨rfl,qb hb1 hb2⟩
theorem a5m (l:ByteArray) (n:Nat) (v:Int) (b:Bool) (w:World) (h0:n+3<=l.size) (h1:l.size<=n+3) (h5:6<=n) (hm:l.size<=1100000) (e1:(l.size:Int)-3=(n:Int)) (hI:Q_ (ae8 l 42=(n:Int))) (hs:Q_ (acj (l.extract 0 5) 5=true))
 (hu:Q_ (jq (l.extract (n+1) l.size).data.toList=some v)) (hc:(((l[5]'(by omega)).toNat:Int)==44)=b) :
 Calls prog 80 #[.string l] w λe w'=>e=.returned (.bool b)/\Below w.1.size w w':=by
 have hb:((n:Int)==5)=false:=by rw[l7];omega
 go_enter func80,ntmps80;go_wp2_with fail;refine(aa1 _ _).mono ?_;rintro e w' ⟨rfl,rfl⟩;rw[hI.o];go_wp2_with fail;refine(ait _ 5 _).mono ?_;rintro e w1 ⟨rfl,hb1⟩;rw[hs.o];go_wp2_with fail;refine(af6 _ v _ hu).mono ?_;rintro e w2 ⟨rfl,hb2⟩;go_wp2_with fail;go_ret;exact⟨rfl,qb hb1 hb2⟩
theorem beq (s:ByteArray) (n:Nat) (h:n<s.size):(s.data.toList[n]?=some 44) ↔(s[n].toNat:Int)=44:=by
 rw[avk s n h];constructor
 ·intro h;injection h with h
  rw[h];rfl
 ·intro h
  congr 1
  apply b1y.1;have:(44:UInt8).toNat=44:=rfl;omega
theorem agm (l:ByteArray) (w:World) (hm:l.size<=1100000):Calls prog 80 #[.string l] w λe w'=>e=.returned (.bool (zv l))/\Below w.1.size w w':=by
 by_cases h8:l.size<8
 ·have hf:zv l=false:=by unfold zv;rw[o7 (by omega:¬8<=l.size)];rfl
  rw[hf];exact av8 l w h8
 ·obtain⟨n,hn⟩:∃n,l.size=n+3:=⟨l.size-3,by omega⟩;have e1:(l.size:Int)-3=(n:Int):=by omega
  have e2:l.size-3=n:=by omega
  have d8:decide (8<=l.size)=true:=t8 om
  by_cases hI:ae8 l 42=(n:Int)
  ·have dI:decide (ae8 l 42=(l.size:Int)-3)=true:=t8 om;cases hs:acj (l.extract 0 5) 5 with
   | false=>
    have hf:zv l=false:=by unfold zv;rw[hs];simp
    rw[hf];exact av9 l n w om om om hm e1 hI hs
   | true=>
    cases hu:jq (l.extract (n+1) l.size).data.toList with
    | none=>
     have hf:zv l=false:=by unfold zv;rw[e2,hu];simp
     rw[hf];exact awa l n w om om om hm e1 hI hs hu
    | some v=>
     have hf:zv l=(decide (l.size=8) || decide (l.data.toList[5]?=some 44)):=by unfold zv;rw[e2,hu,d8,dI,hs];rfl
     rw[hf]
     by_cases h5:n=5
     ·rw[t8 (by omega:l.size=8),Bool.true_or];exact a0b l n v w om om om om hm e1 hI hs hu
     ·rw[o7 (by omega:¬l.size=8),Bool.false_or];refine a5m l n v _ w om om om hm e1 hI hs hu ?_;have hc:=beq l 5 om
      by_cases h:((l[5]'(by omega)).toNat:Int)=44
      ·rw[t8 (hc.2 h),b1w];exact h
      ·rw[o7 (λh'=>h (hc.1 h')),l7];exact h
  ·have hf:zv l=false:=by unfold zv;rw[o7 (by omega:¬ae8 l 42=(l.size:Int)-3)];simp
   rw[hf];exact av7 l n _ w om om om hm e1 rfl (by rw[b0r];exact hI)
def kw:List UInt8->List (List UInt8)
 | []=>[[]]
 | b::l=>if b=44 then []::kw l else match kw l with
  | []=>[[b]]
  | h::r=>(b::h)::r
theorem aiv (l:List UInt8):kw l≠[]:=by
 cases l with
 | nil=>simp[kw]
 | cons b l=>
  unfold kw
  split
  ·simp
  ·split<;>simp
def ajd (p:List UInt8):List (List UInt8)->List (List UInt8)
 | []=>[p]
 | h::r=>(p++h)::r
theorem anx (b:UInt8) (l:List UInt8) (h:b≠44):kw (b::l)=ajd [b] (kw l):=by
 rw[kw,if_neg h];cases hs:kw l with
 | nil=>exact absurd hs (aiv l)
 | cons x r=>rfl
theorem alk (l:List UInt8):kw (44::l)=[]::kw l:=by rw[kw,if_pos rfl]
theorem a0z (p q:List UInt8) (x:List (List UInt8)) (hx:x≠[]):ajd p (ajd q x)=ajd (p++q) x:=by
 cases x with
 | nil=>exact absurd rfl hx
 | cons h r=>simp[ajd]
theorem bbe (x:List (List UInt8)) (hx:x≠[]):ajd [] x=x:=by
 cases x with
 | nil=>exact absurd rfl hx
 | cons h r=>simp[ajd]
theorem ajo (p q:List UInt8) (h:∀c∈p,c≠44):kw (p++q)=ajd p (kw q):=by
 induction p with
 | nil=>rw[b0y,bbe _ (aiv q)]
 | cons b p ih=>
  rw[b0u,anx b _ (h b sm),ih (λc hc=>h c (by simp[hc])),a0z _ _ _ (aiv q)];rfl
theorem a2y (p:List UInt8) (h:∀c∈p,c≠44):kw p=[p]:=by
 have:=ajo p [] h;rw[b0p]at this;rw[this];simp[kw,ajd]
theorem bc7 (p q:List UInt8) (h:∀c∈p,c≠44):kw (p++44::q)=p::kw q:=by
 rw[ajo p _ h,alk];simp[ajd]
theorem bbi (l:List UInt8) (c:UInt8) (h:Lib.indexByte l c<0):∀x∈l,x≠c:=by
 induction l with
 | nil=>intro x hx;simp at hx
 | cons b l ih=>
  unfold Lib.indexByte at h
  by_cases hb:b==c
  ·rw[if_pos hb]at h;omega
  ·rw[if_neg hb]at h;have hge:=Lib.indexByte_ge l c
   by_cases hl:Lib.indexByte l c==-1
   ·have:Lib.indexByte l c<0:=by rw[b1w]at hl;omega
    intro x hx;rcases b03.1 hx with rfl|hx
    ·simpa using hb
    ·exact ih this x hx
   ·rw[if_neg hl]at h;rw[b1w]at hl;omega
theorem a00 (l:List UInt8) (c:UInt8):∀i:Nat,Lib.indexByte l c=(i:Int)->i<l.length/\l=l.take i++c::l.drop (i+1)/\∀x∈l.take i,x≠c:=by
 induction l with
 | nil=>intro i h;simp[Lib.indexByte]at h
 | cons b l ih=>
  intro i h;unfold Lib.indexByte at h
  by_cases hb:b==c
  ·rw[if_pos hb]at h;have:i=0:=by omega
   subst this;have:b=c:=by simpa using hb
   subst this;exact⟨by simp,by simp,λx hx=>by simp at hx⟩
  ·rw[if_neg hb]at h
   by_cases hl:Lib.indexByte l c==-1
   ·rw[if_pos hl]at h;omega
   ·rw[if_neg hl]at h;have hge:=Lib.indexByte_ge l c;obtain⟨j,rfl⟩:∃j,i=j+1:=⟨i-1,by rw[b1w]at hl;omega⟩;obtain⟨h1,h2,h3⟩:=ih j om;refine⟨by simp;omega,?_,?_⟩
    ·rw[b3h,b4m,b0u,<- h2]
    ·intro x hx;rw[b3h]at hx;rcases b03.1 hx with rfl|hx
     ·simpa using hb
     ·exact h3 x hx
def toS (l:List UInt8):ByteArray:=⟨l.toArray⟩
def vh (s:ByteArray):List ByteArray:=(kw s.data.toList).map toS
theorem a3f (s:ByteArray):toS s.data.toList=s:=by obtain⟨⟨l⟩⟩:=s;rfl
theorem ya (s:ByteArray) (a b:Nat):s.extract a b=toS ((s.data.toList.drop a).take (b-a)):=by
 obtain⟨⟨l⟩⟩:=s;exact b4h l a b
theorem bc6 (s:ByteArray) (h:ae8 s 44<0):vh s=[s]:=by
 unfold vh;rw[a2y _ (bbi _ _ h),List.map_singleton,a3f]
theorem bc5 (s:ByteArray) (i:Nat) (h:ae8 s 44=(i:Int)):i<s.size/\vh s=s.extract 0 i::vh (s.extract (i+1) s.size):=by
 obtain⟨h1,h2,h3⟩:=a00 _ _ i h;have hl:s.data.toList.length=s.size:=by simp
 refine⟨by omega,?_⟩;have e1:s.extract 0 i=toS (s.data.toList.take i):=by rw[ya];simp
 have e2:s.extract (i+1) s.size=toS (s.data.toList.drop (i+1)):=by
  rw[ya,b1h (by rw[n5];omega)]
 rw[e1,e2];unfold vh
 have e3:kw s.data.toList=s.data.toList.take i::kw (s.data.toList.drop (i+1)):=by
  conv=>lhs;rw[h2]
  exact bc7 _ _ h3
 rw[e3];rfl
theorem a21 {w:World} {B:Nat} {e:TypeId} {A:Option Addr} {n c:Nat} {fs:List ByteArray} (h:w.ownsRow B e 1 (.slice A n c) n (fs.map Value.string)):fs.length=n/\v6 w w.1.size A fs/\aav B A:=by
 have hl:fs.length=n:=by have:=h.1;simpa using this
 refine⟨hl,?_,λa ha=>?_⟩
 ·intro k hk;rcases h.2 with⟨hv,h0⟩|⟨g,cap,cur,hv,_,hg,_⟩
  ·omega
  ·have hA:A=some ⟨g,0,none⟩:=by injection hv
   subst hA;have hc:=h.cells (g:=g) rfl k (.string fs[k]) (by simp[hk])
   exact⟨g,0,rfl,(o8.1 hg).1,by
    have:(⟨g,0,none⟩:Addr).add k=⟨g,0+k,none⟩:=by unfold Addr.add;split<;>simp_all
    rw[<- this];exact hc⟩
 ·rcases h.2 with⟨hv,h0⟩|⟨g,cap,cur,hv,hb,hg,_⟩
  ·have hA:A=none:=by injection hv
   rw[hA]at ha;cases ha
  ·have hA:A=some ⟨g,0,none⟩:=by injection hv
   rw[hA]at ha;injection ha with ha
   rw[<- ha];exact hb
theorem aud {w w':World} {B:Nat} {e:TypeId} {size n:Nat} {v:Value} {xs:List Value} (h:w.ownsRow B e size v n xs) (hb:Below w.1.size w w'):w'.ownsRow B e size v n xs:=
 h.kept (row:=none) ⟨hb.os,hb.tape,hb.output,hb.size,λi hi _=>hb.block i hi⟩ (Classical.em _)
theorem bgq {w:World} {B:Nat} {e:TypeId} {size n:Nat} {v:Value} {xs:List Value} (h:w.ownsRow B e size v n xs):∃A c,v=.slice A n c:=by
 rcases h.2 with⟨hv,h0⟩|⟨g,cap,cur,hv,_⟩
 ·exact⟨none,0,by rw[hv,h0]⟩
 ·exact⟨_,_,hv⟩
def a9h:Value->Nat
 | .string s=>s.size
 | _=>0
theorem bhl:(prog.info? 9).map (λi=>(i.zero,i.size,i.bytes))=some (some (.string ByteArray.empty),1,16):=by kernel_rfl
def bee (fs:List ByteArray) (w:World) (e:Ending) (w':World):Prop:=
 ∃A c,e=.returned (.slice A fs.length c)/\v6 w' w'.1.size A fs/\aav w.1.size A/\Below w.1.size w w'
theorem bi3 (S:ByteArray) (w:World) (hm:S.size<=100000) :
 Calls prog 82 #[.string S] w (bee (vh S) w):=by
 obtain⟨i0,hi,hz0,hz1,hz2⟩:=info_parts bhl;go_enter func82,ntmps82;go_wp2
 go_step3
 go_wp2
 go_step3
 go_wp2;have hS0:Q_ (vh S=[]++vh S):=rfl
 go_loopw [0,3] (λsv v wr=>∃(s:ByteArray) (parts:List ByteArray),sv=.string s/\parts.length+s.size<=S.size/\Q_ (wr.ownsRow w.1.size 9 1 v parts.length (parts.map Value.string))/\Below w.1.size w wr/\Q_ (vh S=parts++vh s)) (λsv _ _=>a9h sv)
 case atStart=>exact⟨S,[],rfl,by simp,b2p _ _ _ _,n9 _ _,hS0⟩
 case round=>
  obtain⟨s,parts,rfl,hlen,hown,hbr,hsp⟩:=hrel;have hzr:=hbr.size
  by_cases hc:ae8 s 44<0
  ·have HN:=q_ (bc6 s hc);have HC:=q_ hc;clear hc;go_wp2_with fail;refine(bl3 s 44 _ HC).mono ?_;rintro e w1 ⟨rfl,hb1⟩;have hs1:=hb1.size;have HO:=q_ (aud hown.o hb1);go_wp2_with (at_builtin;refine b45 _ rfl _ _ 148 rfl w.1.size 9 i0 (.string ByteArray.empty) 1 16 underlying148 hi hz0 hz1 hz2 rfl dc _ _ _ rfl (HO.o.alloc _) ⟨w1.1.size,0,none⟩ 1 1 [.string s] rfl rfl ?c1 ?c2 ?c3 ?c4 ?c5 ?_)
   case c1=>exact cell_one_new _ _ _
   case c2=>intro u hu;simp at hu;subst hu;rfl
   case c3=>unfold maxLen;omega
   case c4=>omega
   case c5=>simp;omega
   intro v' w2 hown' hgrow _;have hbb:Q_ (Below w.1.size w w2):=(((hbr.trans (hb1.mono om)).alloc om _).grown hgrow (by simp;omega) (λk hk=>(HO.o.lt k hk).1));obtain⟨A,c,hv⟩:=bgq hown'
   have hst:Q_ ((vh S).length=parts.length+1/\v6 w2 w2.1.size A (vh S)/\aav w.1.size A):=by
    have e1:vh S=parts++[s]:=by rw[hsp.o,HN.o]
    have h2:w2.ownsRow w.1.size 9 1 (.slice A (parts.length+1) c) (parts.length+1) ((parts++[s]).map Value.string):=by rw[<- hv];simpa using hown'
    rw[e1];exact a21 h2
   clear hown' hgrow hsp;rw[hv];go_wp2_with fail;rw[Exit.noGoto_ret];go_ret;exact⟨A,c,by rw[hst.o.1];rfl,hst.o.2.1,hst.o.2.2,hbb.o⟩
  ·obtain⟨i,hci⟩:∃i:Nat,ae8 s 44=(i:Int):=⟨(ae8 s 44).toNat,by omega⟩;obtain⟨hil,hsa⟩:=bc5 s i hci;have HN:=q_ hsa;have HC:=q_ hci;clear hc hci hsa;go_wp2_with fail;refine(bic s 44 i _ om hil HC).mono ?_;rintro e w1 ⟨rfl,hb1⟩;have hs1:=hb1.size;have HO:=q_ (aud hown.o hb1);go_wp2_with (at_builtin;refine b45 _ rfl _ _ 148 rfl w.1.size 9 i0 (.string ByteArray.empty) 1 16 underlying148 hi hz0 hz1 hz2 rfl dc _ _ _ rfl (HO.o.alloc _) ⟨w1.1.size,0,none⟩ 1 1 [.string (s.extract 0 i)] rfl rfl ?d1 ?d2 ?d3 ?d4 ?d5 ?_)
   case d1=>exact cell_one_new _ _ _
   case d2=>intro u hu;simp at hu;subst hu;rfl
   case d3=>unfold maxLen;omega
   case d4=>omega
   case d5=>simp;omega
   intro v' w2 hown' hgrow _;have hbb:Q_ (Below w.1.size w w2):=(((hbr.trans (hb1.mono om)).alloc om _).grown hgrow (by simp;omega) (λk hk=>(HO.o.lt k hk).1));have hown2:Q_ (w2.ownsRow w.1.size 9 1 v' (parts++[s.extract 0 i]).length ((parts++[s.extract 0 i]).map Value.string)):=by show w2.ownsRow _ _ _ _ _ _;simpa using hown'
   have hsp2:Q_ (vh S=(parts++[s.extract 0 i])++vh (s.extract (i+1) s.size)):=by show _=_;rw[hsp.o,HN.o];simp
   clear hown' hgrow hsp;go_wp2_with fail
   go_roundw
   case rel=>
    refine⟨s.extract (i+1) s.size,parts++[s.extract 0 i],rfl,?_,hown2,hbb.o,hsp2⟩;rw[e9,List.length_singleton,b00];omega
   case measure=>
    simp only[a9h,b00];omega
def ji (t:ByteArray):(ByteArray×ByteArray×List ByteArray)×Nat×Int:=
 if t.size=0 then((ByteArray.empty,ByteArray.empty,[]),0,2)
 else if t.data.toList[0]?≠some 36 then((ByteArray.empty,ByteArray.empty,[]),0,3)
 else if(jd t).2≠0 then((ByteArray.empty,ByteArray.empty,[]),0,(jd t).2)
 else if t.size<(jd t).1+2 then((ByteArray.empty,ByteArray.empty,[]),0,2)
 else if t.data.toList[(jd t).1+1]?≠some 10\/zv (kh t)=false then((ByteArray.empty,ByteArray.empty,[]),0,3)
 else match yd (kh t)with
  | none=>((ByteArray.empty,ByteArray.empty,[]),0,4)
  | some b=>((b.extract 0 2,b.extract 2 5,if 5<b.size then vh (b.extract 6 b.size)else []),(jd t).1+2,0)
def kj (r:(ByteArray×ByteArray×List ByteArray)×Nat×Int) (w:World) (e:Ending) (w':World):Prop:=
 ∃A c,e=.returned (.tuple #[.agg #[.string r.1.1,.string r.1.2.1,.slice A r.1.2.2.length c],.int .i64 (r.2.1:Int),.int .i64 r.2.2])/\v6 w' w'.1.size A r.1.2.2/\aav w.1.size A/\Below w.1.size w w'
theorem kj.err (n:Int) {w w':World} (hb:Below w.1.size w w'):kj ((ByteArray.empty,ByteArray.empty,[]),0,n) w (.returned (.tuple #[.agg #[.string ⟨#[]⟩,.string ⟨#[]⟩,.slice none 0 0],.int .i64 0,.int .i64 n])) w':=
 ⟨none,0,rfl,λk hk=>absurd hk sm,aav.none_,hb⟩
theorem agr (t:ByteArray):∀f i j:Nat,yf t f i=(j,0)->i<=j/\j<i+f/\j<t.size:=by
 intro f
 induction f with
 | zero=>intro i j h;simp[yf]at h
 | succ f ih=>
  intro i j h;unfold yf at h
  by_cases hi:i<t.size
  ·rw[b5q hi]at h
   by_cases h13:(t[i].toNat:Int)=13
   ·rw[if_pos h13]at h;have:i=j:=by injection h
    omega
   ·rw[if_neg h13]at h
    by_cases ho:okC (t[i].toNat:Int)=true
    ·rw[if_pos ho]at h;have:=ih _ _ h;omega
    ·rw[if_neg ho]at h;simp at h
  ·rw[dif_neg hi]at h;simp at h
theorem a27 (w:World) (g:Nat) (p:Addr) (hp:p.block≠g) (x v0 v1 v2 o0 o1 o2:Value) (h0:w.cell? ⟨g,0,none⟩=some o0) (h1:w.cell? ⟨g,1,none⟩=some o1) (h2:w.cell? ⟨g,2,none⟩=some o2) :
 ((((w.setCell p x).setCell ⟨g,0,none⟩ v0).setCell ⟨g,1,none⟩ v1).setCell ⟨g,2,none⟩ v2).cell? ⟨g,0,none⟩=some v0 /\
 ((((w.setCell p x).setCell ⟨g,0,none⟩ v0).setCell ⟨g,1,none⟩ v1).setCell ⟨g,2,none⟩ v2).cell? ⟨g,1,none⟩=some v1 /\
 ((((w.setCell p x).setCell ⟨g,0,none⟩ v0).setCell ⟨g,1,none⟩ v1).setCell ⟨g,2,none⟩ v2).cell? ⟨g,2,none⟩=some v2:=by
 have k:∀j,(w.setCell p x).cell? ⟨g,j,none⟩=w.cell? ⟨g,j,none⟩:=λj=>a9 w p _ x (λe=>by subst e;exact hp rfl)
 have n01:(⟨g,1,none⟩:Addr) ≠⟨g,0,none⟩:=by simp
 have n02:(⟨g,2,none⟩:Addr) ≠⟨g,0,none⟩:=by simp
 have n12:(⟨g,2,none⟩:Addr) ≠⟨g,1,none⟩:=by simp
 have n10:(⟨g,0,none⟩:Addr) ≠⟨g,1,none⟩:=by simp
 refine⟨?_,?_,?_⟩
 ·rw[a9 _ _ _ _ n02,a9 _ _ _ _ n01];exact b0x _ _ _ ((k 0).trans h0)
 ·rw[a9 _ _ _ _ n12];exact b0x _ _ _ ((a9 _ _ _ _ n10).trans ((k 1).trans h1))
 ·refine b0x _ _ _ (((a9 _ _ _ _ (λe=>n12 e.symm)).trans ((a9 _ _ _ _ (λe=>n02 e.symm)).trans ((k 2).trans h2))))
theorem azi {s:ByteArray} (h:s.size=0):s=ByteArray.empty:=by
 obtain⟨⟨l⟩⟩:=s;cases l with
 | nil=>rfl
 | cons a l=>simp[ByteArray.size]at h
theorem avd (w:World):Calls prog 62 #[.string ByteArray.empty] w (kj ((ByteArray.empty,ByteArray.empty,[]),0,2) w):=by
 go_enter func62,ntmps62;go_wp2;exact b9 (v:=.tuple #[.agg #[.string ⟨#[]⟩,.string ⟨#[]⟩,.slice none 0 0],.int .i64 0,.int .i64 2]) (by simp[results,results62,go_sem]) rfl (kj.err 2 (qa _ _))
theorem a4e (t:ByteArray) (w:World) (hz:0<t.size) (h1:t.toList.isEmpty=false) (h2:(t.toList==[])=false) (hc:(((t[0]'hz).toNat:Int) != 36)=true):Calls prog 62 #[.string t] w (kj ((ByteArray.empty,ByteArray.empty,[]),0,3) w):=by
 go_enter func62,ntmps62;go_wp2;exact b9 (v:=.tuple #[.agg #[.string ⟨#[]⟩,.string ⟨#[]⟩,.slice none 0 0],.int .i64 0,.int .i64 3]) (by simp[results,results62,go_sem]) rfl (kj.err 3 (qa _ _))
theorem a9z (t:ByteArray) (n:Int) (w:World) (hm:t.size<=1100000) (hz:0<t.size) (h1:t.toList.isEmpty=false) (h2:(t.toList==[])=false) (hc:(((t[0]'hz).toNat:Int) != 36)=false) (he:Q_ ((jd t).2=n)) (hn:(n != 0)=true) :
 Calls prog 62 #[.string t] w (kj ((ByteArray.empty,ByteArray.empty,[]),0,n) w):=by
 go_enter func62,ntmps62;go_wp2_with fail;refine(ad9 t _ hm).mono ?_;rintro e w' ⟨rfl,rfl⟩;rw[he.o];go_wp2_with fail;exact b9 (v:=.tuple #[.agg #[.string ⟨#[]⟩,.string ⟨#[]⟩,.slice none 0 0],.int .i64 0,.int .i64 n]) (by simp[results,results62,go_sem]) rfl (kj.err n (qa _ _))
theorem a4f (t L:ByteArray) (i:Nat) (w:World) (hm:t.size<=1100000) (hz:0<t.size) (h1:t.toList.isEmpty=false) (h2:(t.toList==[])=false) (hc:(((t[0]'hz).toNat:Int) != 36)=false) (he:Q_ ((jd t).2=0)) (hL:Q_ (kh t=L))
 (hi:1<=i) (hl0:L.size+1<=i) (hl1:i<=L.size+1) (hs:t.size<i+2) (hi80:i<=80) :
 Calls prog 62 #[.string t] w (kj ((ByteArray.empty,ByteArray.empty,[]),0,2) w):=by
 go_enter func62,ntmps62;go_wp2_with fail;refine(ad9 t _ hm).mono ?_;rintro e w' ⟨rfl,rfl⟩;rw[he.o,hL.o];go_wp2_with fail;exact b9 (v:=.tuple #[.agg #[.string ⟨#[]⟩,.string ⟨#[]⟩,.slice none 0 0],.int .i64 0,.int .i64 2]) (by simp[results,results62,go_sem]) rfl (kj.err 2 (qa _ _))
theorem bei (t L:ByteArray) (i:Nat) (w:World) (hm:t.size<=1100000) (hz:0<t.size) (h1:t.toList.isEmpty=false) (h2:(t.toList==[])=false) (hc:(((t[0]'hz).toNat:Int) != 36)=false) (he:Q_ ((jd t).2=0)) (hL:Q_ (kh t=L))
 (hi:1<=i) (hl0:L.size+1<=i) (hl1:i<=L.size+1) (hs:i+2<=t.size) (hi80:i<=80) (e1:1 +(L.size:Int)+2-1=((i+1:Nat):Int)) (ht:(((t[i+1]'(by omega)).toNat:Int) != 10)=true) :
 Calls prog 62 #[.string t] w (kj ((ByteArray.empty,ByteArray.empty,[]),0,3) w):=by
 go_enter func62,ntmps62;go_wp2_with fail;refine(ad9 t _ hm).mono ?_;rintro e w' ⟨rfl,rfl⟩;rw[he.o,hL.o];go_wp2_with fail;exact b9 (v:=.tuple #[.agg #[.string ⟨#[]⟩,.string ⟨#[]⟩,.slice none 0 0],.int .i64 0,.int .i64 3]) (by simp[results,results62,go_sem]) rfl (kj.err 3 (qa _ _))
theorem ay2 (t L:ByteArray) (i:Nat) (w:World) (hm:t.size<=1100000) (hz:0<t.size) (h1:t.toList.isEmpty=false) (h2:(t.toList==[])=false) (hc:(((t[0]'hz).toNat:Int) != 36)=false) (he:Q_ ((jd t).2=0)) (hL:Q_ (kh t=L))
 (hi:1<=i) (hl0:L.size+1<=i) (hl1:i<=L.size+1) (hs:i+2<=t.size) (hi80:i<=80) (e1:1 +(L.size:Int)+2-1=((i+1:Nat):Int)) (ht:(((t[i+1]'(by omega)).toNat:Int) != 10)=false) (hf:Q_ (zv L=false)) :
 Calls prog 62 #[.string t] w (kj ((ByteArray.empty,ByteArray.empty,[]),0,3) w):=by
 go_enter func62,ntmps62;go_wp2_with fail;refine(ad9 t _ hm).mono ?_;rintro e w' ⟨rfl,rfl⟩;rw[he.o,hL.o];go_wp2_with fail;refine(agm L _ om).mono ?_;rintro e w1 ⟨rfl,hb1⟩;rw[hf.o];obtain⟨c1,f1⟩:=qy hb1;have hz1:=hb1.size;simp at hz1;have hz2:w.1.size<w1.1.size:=by omega
 go_wp2_with fail;refine b9 (v:=.tuple #[.agg #[.string ⟨#[]⟩,.string ⟨#[]⟩,.slice none 0 0],.int .i64 0,.int .i64 3]) (by simp[results,results62,go_sem,c1]) rfl (kj.err 3 ?_);exact(((qb (qa _ _) hb1).setCell (p:=⟨w.1.size,0,none⟩) (a8 _) _).setCell (p:=⟨w.1.size,1,none⟩) (a8 _) _).setCell (p:=⟨w.1.size,2,none⟩) (a8 _) _
theorem a91 (t L:ByteArray) (i:Nat) (w:World) (hm:t.size<=1100000) (hz:0<t.size) (h1:t.toList.isEmpty=false) (h2:(t.toList==[])=false) (hc:(((t[0]'hz).toNat:Int) != 36)=false) (he:Q_ ((jd t).2=0)) (hL:Q_ (kh t=L))
 (hi:1<=i) (hl0:L.size+1<=i) (hl1:i<=L.size+1) (hs:i+2<=t.size) (hi80:i<=80) (e1:1 +(L.size:Int)+2-1=((i+1:Nat):Int)) (ht:(((t[i+1]'(by omega)).toNat:Int) != 10)=false) (hf:Q_ (zv L=true)) (ho:Q_ (yd L=none)) :
 Calls prog 62 #[.string t] w (kj ((ByteArray.empty,ByteArray.empty,[]),0,4) w):=by
 go_enter func62,ntmps62;go_wp2_with fail;refine(ad9 t _ hm).mono ?_;rintro e w' ⟨rfl,rfl⟩;rw[he.o,hL.o];go_wp2_with fail;refine(agm L _ om).mono ?_;rintro e w1 ⟨rfl,hb1⟩;rw[hf.o];go_wp2_with fail;refine(ao7 L _ om).mono ?_;rintro e w2 ⟨rfl,hb2⟩;rw[ho.o];have hb12:=qb hb1 hb2;obtain⟨c1,f1⟩:=qy hb12;have hz1:=hb12.size;simp at hz1;have hz2:w.1.size<w2.1.size:=by omega
 go_wp2_with fail;refine b9 (v:=.tuple #[.agg #[.string ⟨#[]⟩,.string ⟨#[]⟩,.slice none 0 0],.int .i64 0,.int .i64 4]) (by simp[results,results62,go_sem,c1]) rfl (kj.err 4 ?_);exact(((qb (qa _ _) hb12).setCell (p:=⟨w.1.size,0,none⟩) (a8 _) _).setCell (p:=⟨w.1.size,1,none⟩) (a8 _) _).setCell (p:=⟨w.1.size,2,none⟩) (a8 _) _
theorem a9y (t L b:ByteArray) (i:Nat) (w:World) (hm:t.size<=1100000) (hz:0<t.size) (h1:t.toList.isEmpty=false) (h2:(t.toList==[])=false) (hc:(((t[0]'hz).toNat:Int) != 36)=false) (he:Q_ ((jd t).2=0)) (hL:Q_ (kh t=L))
 (hi:1<=i) (hl0:L.size+1<=i) (hl1:i<=L.size+1) (hs:i+2<=t.size) (hi80:i<=80) (e1:1 +(L.size:Int)+2-1=((i+1:Nat):Int)) (ht:(((t[i+1]'(by omega)).toNat:Int) != 10)=false) (hf:Q_ (zv L=true)) (ho:Q_ (yd L=some b)) (hb5:b.size<=5) (hb6:5<=b.size) :
 Calls prog 62 #[.string t] w (kj ((b.extract 0 2,b.extract 2 5,[]),i+2,0) w):=by
 have i1:(2:Int) <=(b.size:Int):=by omega
 have i2:(5:Int) <=(b.size:Int):=by omega
 go_enter func62,ntmps62;go_wp2_with fail;refine(ad9 t _ hm).mono ?_;rintro e w' ⟨rfl,rfl⟩;rw[he.o,hL.o];go_wp2_with fail;refine(agm L _ om).mono ?_;rintro e w1 ⟨rfl,hb1⟩;rw[hf.o];go_wp2_with fail;refine(ao7 L _ om).mono ?_;rintro e w2 ⟨rfl,hb2⟩;rw[ho.o];have hb12:=qb hb1 hb2;obtain⟨c1,f1⟩:=qy hb12;have hz1:=hb12.size;simp at hz1;have hz2:w.1.size<w2.1.size:=by omega
 go_wp2_with fail
 go_region_with (fail)
 go_wp2_with fail;refine b9 (v:=.tuple #[.agg #[.string (b.extract 0 2),.string (b.extract 2 5),.slice none 0 0],.int .i64 (1 +(L.size:Int)+2),.int .i64 0]) (by simp[results,results62,go_sem,c1,hz2]) rfl ⟨none,0,?_,λk hk=>absurd hk sm,aav.none_,?_⟩
 ·rw[show (1 +(L.size:Int)+2)=((i+2:Nat):Int)from by omega];rfl
 ·exact acf (((((qb (qa _ _) hb12).setCell (p:=⟨w.1.size,0,none⟩) (a8 _) _).setCell (p:=⟨w.1.size,1,none⟩) (a8 _) _).setCell (p:=⟨w.1.size,2,none⟩) (a8 _) _).alloc (by simp;omega) _)
theorem a90 (t L b:ByteArray) (i:Nat) (w:World) (hm:t.size<=1100000) (hz:0<t.size) (h1:t.toList.isEmpty=false) (h2:(t.toList==[])=false) (hc:(((t[0]'hz).toNat:Int) != 36)=false) (he:Q_ ((jd t).2=0)) (hL:Q_ (kh t=L))
 (hi:1<=i) (hl0:L.size+1<=i) (hl1:i<=L.size+1) (hs:i+2<=t.size) (hi80:i<=80) (e1:1 +(L.size:Int)+2-1=((i+1:Nat):Int)) (ht:(((t[i+1]'(by omega)).toNat:Int) != 10)=false) (hf:Q_ (zv L=true)) (ho:Q_ (yd L=some b)) (hb6:6<=b.size) (hbm:b.size<=1000) :
 Calls prog 62 #[.string t] w (kj ((b.extract 0 2,b.extract 2 5,vh (b.extract 6 b.size)),i+2,0) w):=by
 have i1:(2:Int) <=(b.size:Int):=by omega
 have i2:(5:Int) <=(b.size:Int):=by omega
 have i3:(6:Int) <=(b.size:Int):=by omega
 obtain⟨S,hS⟩:∃S,S=b.extract 6 b.size:=⟨_,rfl⟩;have hSz:S.size<=1000:=by rw[hS,b00];omega
 rw[<- hS];have HS:=q_ hS;clear hS;go_enter func62,ntmps62;go_wp2_with fail;refine(ad9 t _ hm).mono ?_;rintro e w' ⟨rfl,rfl⟩;rw[he.o,hL.o];go_wp2_with fail;refine(agm L _ om).mono ?_;rintro e w1 ⟨rfl,hb1⟩;rw[hf.o];go_wp2_with fail;refine(ao7 L _ om).mono ?_;rintro e w2 ⟨rfl,hb2⟩;rw[ho.o];have hb12:=qb hb1 hb2;obtain⟨c1,f1⟩:=qy hb12;have hz1:=hb12.size;simp at hz1;have hz2:w.1.size<w2.1.size:=by omega
 go_wp2_with fail
 go_region_with (fail)
 go_wp2_with fail;rw[<- HS.o];refine(bi3 S _ om).mono ?_;rintro e w3 ⟨A,c,rfl,hst,hfr,hb3⟩;obtain⟨c3,f3⟩:=qy hb3;have hz3:=hb3.size;simp at hz3;have hz4:w2.1.size<w3.1.size:=by omega
 have hz5:w.1.size<w3.1.size:=by omega
 have HST:=q_ hst;clear hst;obtain⟨n,hn⟩:∃n,n=(vh S).length:=⟨_,rfl⟩;rw[<- hn];have HN:=q_ hn;clear hn;have HFR:=q_ hfr;clear hfr;go_wp2_with fail
 have k2:∀o,w3.cell? ⟨w.1.size,o,none⟩=(w.alloc (.cells #[.string ⟨#[]⟩,.string ⟨#[]⟩,.slice none 0 0] 150)).cell? ⟨w.1.size,o,none⟩:=λo=>by
  rw[c3 w.1.size o (by simp;omega)];show (w2.alloc _).cell? _=_;rw[World.cell?_alloc_lt w2 _ ⟨w.1.size,o,none⟩ hz2];exact c1 w.1.size o sm
 obtain⟨q0,q1,q2⟩:=a27 w3 w.1.size ⟨w2.1.size,2,none⟩ (by show w2.1.size≠_;omega) (.slice A n c) (.string (b.extract 0 2)) (.string (b.extract 2 5)) (.slice A n c) (.string ⟨#[]⟩) (.string ⟨#[]⟩) (.slice none 0 0)
  ((k2 0).trans (by rw[b4c];rfl)) ((k2 1).trans (by rw[b4c];rfl)) ((k2 2).trans (by rw[b4c];rfl))
 have hfr2:aav (w2.1.size+1) A:=by have:=HFR.o;simpa using this
 have hst2:v6 _ w3.1.size A (vh S):=(((HST.o.setCell hfr2 (p:=⟨w2.1.size,2,none⟩) (b4e _) (.slice A n c)).setCell hfr2 (p:=⟨w.1.size,0,none⟩) (by show w.1.size<_;omega) (.string (b.extract 0 2))).setCell hfr2 (p:=⟨w.1.size,1,none⟩) (by show w.1.size<_;omega) (.string (b.extract 2 5))).setCell hfr2 (p:=⟨w.1.size,2,none⟩) (by show w.1.size<_;omega) (.slice A n c);refine b9 (v:=.tuple #[.agg #[.string (b.extract 0 2),.string (b.extract 2 5),.slice A n c],.int .i64 (1 +(L.size:Int)+2),.int .i64 0]) (by simp[results,results62,go_sem,q0,q1,q2]) rfl ⟨A,c,?_,by simpa using hst2,hfr2.less om,?_⟩
 ·rw[show (1 +(L.size:Int)+2)=((i+2:Nat):Int)from by omega,HN.o]
 ·have hb0:Below w.1.size w w3:=(acf ((qb (qa _ _) hb12).alloc om _)).trans (hb3.mono (by simp;omega));exact(((hb0.setCell (p:=⟨w2.1.size,2,none⟩) (by show w.1.size<=w2.1.size;omega) _).setCell (p:=⟨w.1.size,0,none⟩) (a8 _) _).setCell (p:=⟨w.1.size,1,none⟩) (a8 _) _).setCell (p:=⟨w.1.size,2,none⟩) (a8 _) _
theorem aya (s:ByteArray):s.toList.length=s.size:=by rw[b07];simp
theorem amm {s:ByteArray} (h:0<s.size):s.toList.isEmpty=false /\(s.toList==[])=false:=by
 have hl:=aya s;cases hs:s.toList with
 | nil=>rw[hs]at hl;simp at hl;omega
 | cons a l=>exact⟨rfl,rfl⟩
theorem aig (s:ByteArray) (n:Nat) (h:n<s.size) (c:UInt8):(s.data.toList[n]?=some c) ↔(s[n].toNat:Int)=(c.toNat:Int):=by
 rw[avk s n h];constructor
 ·intro h;injection h with h
  rw[h]
 ·intro h
  congr 1
  apply b1y.1;omega
theorem ahs {t:ByteArray} {i:Nat} (h:jd t=(i,0)):kh t=t.extract 1 i:=by unfold kh;rw[h];rfl
theorem a6c {l b:ByteArray} (h:yd l=some b):b.size+3=l.size:=by
 unfold yd at h
 by_cases hs:l.size<3
 ·rw[if_pos hs]at h;cases h
 ·rw[if_neg hs]at h
  split at h
  ·injection h with h
   rw[<- h,b00];omega
  ·cases h
theorem av6 {l:ByteArray} (h:zv l=true):8<=l.size:=by
 rcases b08 l.size 8 with h8|h8
 ·unfold zv at h;rw[o7 (by omega:¬8<=l.size)]at h;cases h
 ·exact h8
theorem aoy {t:ByteArray} (h:t.size=0):ji t=((ByteArray.empty,ByteArray.empty,[]),0,2):=by unfold ji;rw[if_pos h]
theorem alq {t:ByteArray} (h0:¬t.size=0) (h:t.data.toList[0]?≠some 36):ji t=((ByteArray.empty,ByteArray.empty,[]),0,3):=by unfold ji;rw[if_neg h0,if_pos h]
theorem aix {t:ByteArray} (h0:¬t.size=0) (h1:t.data.toList[0]?=some 36) (h:(jd t).2≠0):ji t=((ByteArray.empty,ByteArray.empty,[]),0,(jd t).2):=by
 unfold ji;rw[if_neg h0,if_neg (λk=>k h1),if_pos h]
theorem aoz {t:ByteArray} (h0:¬t.size=0) (h1:t.data.toList[0]?=some 36) (h2:(jd t).2=0) (h:t.size<(jd t).1+2):ji t=((ByteArray.empty,ByteArray.empty,[]),0,2):=by
 unfold ji;rw[if_neg h0,if_neg (λk=>k h1),if_neg (λk=>k h2),if_pos h]
theorem aiy {t:ByteArray} (h0:¬t.size=0) (h1:t.data.toList[0]?=some 36) (h2:(jd t).2=0) (h3:¬t.size<(jd t).1+2) (h:t.data.toList[(jd t).1+1]?≠some 10\/zv (kh t)=false):ji t=((ByteArray.empty,ByteArray.empty,[]),0,3):=by
 unfold ji;rw[if_neg h0,if_neg (λk=>k h1),if_neg (λk=>k h2),if_neg h3,if_pos h]
theorem aiz {t:ByteArray} (h0:¬t.size=0) (h1:t.data.toList[0]?=some 36) (h2:(jd t).2=0) (h3:¬t.size<(jd t).1+2) (h4:t.data.toList[(jd t).1+1]?=some 10) (h5:zv (kh t)=true) :
 ji t=match yd (kh t)with
  | none=>((ByteArray.empty,ByteArray.empty,[]),0,4)
  | some b=>((b.extract 0 2,b.extract 2 5,if 5<b.size then vh (b.extract 6 b.size)else []),(jd t).1+2,0):=by
 unfold ji;rw[if_neg h0,if_neg (λk=>k h1),if_neg (λk=>k h2),if_neg h3,if_neg (λk=>k.elim (λa=>a h4) (λa=>by rw[h5]at a;cases a))]
 all_goals (cases yd (kh t)<;>rfl)
theorem beg (t:ByteArray) (w:World) (hm:t.size<=1100000):Calls prog 62 #[.string t] w (kj (ji t) w):=by
 by_cases h0:t.size=0
 ·rw[aoy h0];have:=azi h0;subst this;exact avd w
 ·have hz:0<t.size:=by omega
  obtain⟨f1,f2⟩:=amm hz
  by_cases h1:t.data.toList[0]?=some 36
  ·have hc:(((t[0]'hz).toNat:Int) != 36)=false:=by rw[b0b];exact(aig t 0 hz 36).1 h1
   by_cases h2:(jd t).2=0
   ·obtain⟨i,hi⟩:∃i,jd t=(i,0):=⟨(jd t).1,by rw[<- h2]⟩;obtain⟨b1,b2,b3⟩:=agr t 80 1 i hi;have hL:=ahs hi;have hi1:(jd t).1=i:=by rw[hi]
    have hls:(t.extract 1 i).size=i-1:=by rw[b00];omega
    by_cases h3:t.size<(jd t).1+2
    ·rw[aoz h0 h1 h2 h3];exact a4f t _ i w hm hz f1 f2 hc h2 hL b1 om om om om
    ·have hlt:i+1<t.size:=by omega
     by_cases h4:t.data.toList[(jd t).1+1]?=some 10
     ·have ht:(((t[i+1]'hlt).toNat:Int) != 10)=false:=by rw[b0b];rw[hi1]at h4;exact(aig t (i+1) hlt 10).1 h4
      cases h5:zv (t.extract 1 i)with
      | false=>
       rw[aiy h0 h1 h2 h3 (.inr (by rw[hL];exact h5))];exact ay2 t _ i w hm hz f1 f2 hc h2 hL b1 om om om om om ht h5
      | true=>
       rw[aiz h0 h1 h2 h3 h4 (by rw[hL];exact h5),hL];have h8:=av6 h5;cases h6:yd (t.extract 1 i)with
       | none=>exact a91 t _ i w hm hz f1 f2 hc h2 hL b1 om om om om om ht h5 h6
       | some b=>
        have hbs:=a6c h6;show Calls prog _ _ _ (kj ((b.extract 0 2,b.extract 2 5,if 5<b.size then vh (b.extract 6 b.size)else []),(jd t).1+2,0) w);rw[hi1]
        by_cases h7:5<b.size
        ·rw[if_pos h7];exact a90 t _ b i w hm hz f1 f2 hc h2 hL b1 om om om om om ht h5 h6 h7 om
        ·rw[if_neg h7];exact a9y t _ b i w hm hz f1 f2 hc h2 hL b1 om om om om om ht h5 h6 om om
     ·have ht:(((t[i+1]'hlt).toNat:Int) != 10)=true:=by rw[b0r];rw[hi1]at h4;exact λh=>h4 ((aig t (i+1) hlt 10).2 h)
      rw[aiy h0 h1 h2 h3 (.inl h4)];exact bei t _ i w hm hz f1 f2 hc h2 hL b1 om om om om om ht
   ·rw[aix h0 h1 h2];exact a9z t _ w hm hz f1 f2 hc rfl (by rw[b0r];exact h2)
  ·have hc:(((t[0]'hz).toNat:Int) != 36)=true:=by rw[b0r];exact λh=>h1 ((aig t 0 hz 36).2 h)
   rw[alq h0 h1];exact a4e t w hz f1 f2 hc
theorem abe (s:ByteArray) (a b:Nat):(s.extract a b).data.toList=(s.data.toList.drop a).take (b-a):=by rw[ya];rfl
theorem ad0 (s:ByteArray):s.data.toList.length=s.size:=by simp
theorem bfi {l p q:List UInt8} {c:UInt8} (h:l=p++c::q) (hp:∀x∈p,x≠c):Lib.indexByte l c=(p.length:Int):=by
 subst h
 induction p with
 | nil=>simp[Lib.indexByte]
 | cons b p ih=>
  have hb:¬(b==c)=true:=by simpa using hp b sm
  have i1:=ih (λx hx=>hp x (by simp[hx]));rw[b0u,Lib.indexByte,if_neg hb,i1,if_neg (by rw[b1w];omega),n6];omega
theorem bmq (l:List UInt8) (n:Nat) (h:n<l.length):l=l.take n++l[n]::l.drop (n+1):=by
 rw[List.getElem_cons_drop,b0t]
theorem anz {l:List UInt8} (h:∀x∈l,x≠42):acv l=0:=by
 unfold acv;rw[List.count_eq_zero];exact λhm=>h 42 hm rfl
theorem a2z {l:List UInt8} (h:acv l=0):∀x∈l,x≠42:=by
 intro x hx h42;subst h42;unfold acv at h;rw[List.count_eq_zero]at h;exact h hx
theorem ajq (l:List UInt8):acv (42::l)=acv l+1:=by simp[acv]
theorem atb {l:List UInt8} {v:Int} (h:jq l=some v):acv l=0:=by
 unfold jq at h
 split at h
 ·rename_i a b
  split at h
  ·rename_i hc;rw[b0g]at hc;apply anz;intro x hx;have:x=a\/x=b:=by simpa using hx
   rcases this with rfl|rfl
   ·intro h42;rw[h42]at hc;exact absurd hc.1 dc
   ·intro h42;rw[h42]at hc;exact absurd hc.2 dc
  ·cases h
 ·cases h
theorem a02 {L:ByteArray} {n:Nat}:(L.extract (n+1) L.size).data.toList=L.data.toList.drop (n+1):=by
 rw[abe,b1h (by rw[n5,ad0];exact a8 _)]
section
variable {L : ByteArray} {n : Nat} (hn : L.size = n + 3)
include hn
theorem ba1 (h5:5<=n) (hs:(L[n]'(by omega)).toNat=42) (h1:acv L.data.toList=1) (hg:acj (L.extract 0 5) 5=true) (hc:n=5\/L.data.toList[5]?=some 44) {v:Int} (hu:jq (L.extract (n+1) L.size).data.toList=some v):zv L=true:=by
 have hl:n<L.data.toList.length:=by rw[ad0];omega
 have hat:L.data.toList[n]=42:=by
  have h:=(aig L n om 42).2 (by have e:(42:UInt8).toNat=42:=rfl;omega);rw[d7 hl]at h;injection h
 have hp:=bmq L.data.toList n hl;rw[hat]at hp
 have hno:∀x∈L.data.toList.take n,x≠42:=by
  apply a2z;rw[hp,ajp,ajq]at h1;omega
 have hi:=bfi hp hno;rw[l8,b1m (b2h hl)]at hi;unfold zv ae8;rw[hi,show L.size-3+1=n+1 from by omega,hu,hg,t8 (by omega:8<=L.size),t8 (by omega:(n:Int)=(L.size:Int)-3)];rcases hc with h|h
 ·rw[t8 (by omega:L.size=8)];rfl
 ·rw[h];simp
end
def agp (P:List UInt8):ByteArray×ByteArray×List ByteArray:=
 (toS (P.take 2),toS ((P.drop 2).take 3),if 5<P.length then(kw (P.drop 6)).map toS else [])
def ajt (P:List UInt8):Prop:=
 5<=P.length/\P.length<=76 /\(∀c∈P.take 5,ae3 (c.toNat:Int)=true) /\(∀c∈P,acz (c.toNat:Int)=true) /\(5<P.length->P[5]?=some 44)
def vw (P:List UInt8) (x y:UInt8) (M:List UInt8):List UInt8:=36::(P++[42,x,y,13,10]++M)
theorem jm (l:List UInt8):(toS l).data.toList=l:=by simp[toS]
theorem vt (l:List UInt8):(toS l).size=l.length:=by show l.toArray.size=_;simp
theorem a0i (l:List UInt8) (i:Nat) (h:i<(toS l).size):(toS l)[i]=l[i]'(by rw[vt]at h;exact h):=by
 show (toS l).data[i]=_;simp[toS]
theorem ata {x y:UInt8} {v:Int} (h:jq [x,y]=some v):isR (x.toNat:Int)=true/\isR (y.toNat:Int)=true:=by
 have h':(if isR (x.toNat:Int) && isR (y.toNat:Int)then some (16*afz (x.toNat:Int)+afz (y.toNat:Int))else none)=some v:=h
 split at h'
 ·rename_i hc;rw[b0g]at hc;exact hc
 ·cases h'
theorem awh {c:Int} (h:isR c=true):okC c=true/\c≠13/\c≠42:=by
 have h1:=b1g h;refine⟨?_,by omega,by omega⟩;unfold okC;rw[b4n];right;unfold acz;rw[b1l];omega
theorem bci (t:ByteArray):∀(k f i:Nat),k<f ->(∀j,i<=j->j<i+k->∃h:j<t.size,okC (t[j].toNat:Int)=true /\(t[j].toNat:Int)≠13) ->(∃h:i+k<t.size,(t[i+k].toNat:Int)=13)->yf t f i=(i+k,0):=by
 intro k
 induction k with
 | zero=>
  intro f i hf _ ⟨h,hc⟩;obtain⟨f,rfl⟩:∃g,f=g+1:=⟨f-1,by omega⟩;exact a19 t f i h hc
 | succ k ih=>
  intro f i hf hall ⟨h,hc⟩;obtain⟨f,rfl⟩:∃g,f=g+1:=⟨f-1,by omega⟩;obtain⟨h0,h1,h2⟩:=hall i (a8 _) om;rw[aq9 t f i h0 h2 h1,ih f (i+1) om (λj a b=>hall j om om) (by rw[show i+1+k=i +(k+1)from by omega];exact⟨h,hc⟩)];rw[show i+1+k=i +(k+1)from by omega]
theorem bcg (t:ByteArray):∀(f i j:Nat),yf t f i=(j,0) ->(∀q,i<=q->q<j->∃h:q<t.size,okC (t[q].toNat:Int)=true /\(t[q].toNat:Int)≠13)/\∃h:j<t.size,(t[j].toNat:Int)=13:=by
 intro f
 induction f with
 | zero=>intro i j h;simp[yf]at h
 | succ f ih=>
  intro i j h;unfold yf at h
  by_cases hi:i<t.size
  ·rw[b5q hi]at h
   by_cases h13:(t[i].toNat:Int)=13
   ·rw[if_pos h13]at h;injection h with h _
    subst h;exact⟨λq a b=>absurd a om,hi,h13⟩
   ·rw[if_neg h13]at h
    by_cases ho:okC (t[i].toNat:Int)=true
    ·rw[if_pos ho]at h;obtain⟨a1,a2⟩:=ih _ _ h;refine⟨λq a b=>?_,a2⟩
     by_cases hq:q=i
     ·subst hq;exact⟨hi,ho,h13⟩
     ·exact a1 q om b
    ·rw[if_neg ho]at h;simp at h
  ·rw[dif_neg hi]at h;simp at h
theorem at5 {c:Int} (h:acz c=true):okC c=true/\c≠13/\c≠42:=by
 have h1:=b1g h;exact⟨by unfold okC;rw[h,Bool.or_true],by omega,by omega⟩
theorem bbk {c:Int} (h:okC c=true) (h42:c≠42):acz c=true:=by
 unfold okC at h;rw[b4n,b1w]at h;exact h.resolve_left h42
section
variable {P : List UInt8} {x y : UInt8} {M : List UInt8}
theorem ai3:(vw P x y M).length=P.length+6+M.length:=by simp[vw];omega
theorem bh4 (j:Nat) (h1:1<=j) (h2:j<P.length+4) (hj:j<(vw P x y M).length):∃h:j-1<(P++[42,x,y]).length,(vw P x y M)[j]=(P++[42,x,y])[j-1]:=by
 have hl:(P++[42,x,y]).length=P.length+3:=by simp
 refine⟨by omega,?_⟩;obtain⟨j,rfl⟩:∃i,j=i+1:=⟨j-1,by omega⟩;have e:vw P x y M=36::((P++[42,x,y]) ++([13,10]++M)):=by simp[vw]
 simp only[e,List.getElem_cons_succ,b4w];rw[b2g om]
theorem ar1:(vw P x y M).drop (P.length+4)=13::10::M:=by
 have e:vw P x y M=(36::(P++[42,x,y])) ++(13::10::M):=by simp[vw]
 rw[e,b5h sm]
theorem a8m:((vw P x y M).drop 1).take (P.length+3)=P++[42,x,y]:=by
 have e:(vw P x y M).drop 1=(P++[42,x,y]) ++(13::10::M):=by simp[vw]
 rw[e,b5e sm]
theorem avy {l q:List UInt8} {n:Nat} {c:UInt8} (h:l.drop n=c::q):l[n]?=some c/\l.drop (n+1)=q:=by
 constructor
 ·have:=b3q (xs:=l) (i:=n) (j:=0);rw[h]at this
  simpa using this.symm
 ·have:l.drop (n+1)=(l.drop n).drop 1:=by rw[b10]
  rw[this,h];rfl
theorem atu (hP:ajt P) (hu:jq [x,y]=some ((akk P).toNat:Int)):jd (toS (vw P x y M))=(P.length+4,0):=by
 obtain⟨p1,p2,p3,p4,p5⟩:=hP;obtain⟨ux,uy⟩:=ata hu;have hl:=ai3 (P:=P) (x:=x) (y:=y) (M:=M);unfold jd;rw[bci (toS (vw P x y M)) (P.length+3) 80 1 om,show 1 +(P.length+3)=P.length+4 from by omega]
 ·intro j h1 h2;have hj:j<(toS (vw P x y M)).size:=by rw[vt];omega
  refine⟨hj,?_⟩;rw[a0i _ _ hj];obtain⟨h3,h4⟩:=bh4 (P:=P) (x:=x) (y:=y) (M:=M) j h1 om om;rw[h4];have hm:(P++[42,x,y])[j-1]∈P++[42,x,y]:=b1j h3
  have key:∀c∈P++[42,x,y],okC (c.toNat:Int)=true /\(c.toNat:Int)≠13:=by
   intro c hc;rcases b1z.1 hc with h|h
   ·have:=at5 (p4 c h);exact⟨this.1,this.2.1⟩
   ·have:c=42\/c=x\/c=y:=by simpa using h
    rcases this with rfl|rfl|rfl
    ·exact⟨by decide,by decide⟩
    ·exact⟨(awh ux).1,(awh ux).2.1⟩
    ·exact⟨(awh uy).1,(awh uy).2.1⟩
  exact key _ hm
 ·have hj:1 +(P.length+3)<(toS (vw P x y M)).size:=by rw[vt];omega
  refine⟨hj,?_⟩;obtain⟨h1,_⟩:=avy (ar1 (P:=P) (x:=x) (y:=y) (M:=M));rw[a0i _ _ hj];rw[d7 om]at h1;injection h1 with h1
  have:(vw P x y M)[1 +(P.length+3)]'(by omega)=13:=by rw[<- h1];congr 1;omega
  rw[this];rfl
theorem at6 (hP:ajt P) (hu:jq [x,y]=some ((akk P).toNat:Int)):kh (toS (vw P x y M))=toS (P++[42,x,y]):=by
 rw[ahs (atu hP hu),ya,jm,show P.length+4-1=P.length+3 from by omega,a8m]
theorem a0c (hP:ajt P) {v:Int} (hu:jq [x,y]=some v):zv (toS (P++[42,x,y]))=true:=by
 obtain⟨p1,p2,p3,p4,p5⟩:=hP;have hl:(P++[42,x,y]).length=P.length+3:=by simp
 have hz:(toS (P++[42,x,y])).size=P.length+3:=by rw[vt,hl]
 have hno:∀c∈P,c≠42:=λc hc h42=>by have:=(at5 (p4 c hc)).2.2;rw[h42]at this;exact this rfl
 have ht5:(P++[42,x,y]).take 5=P.take 5:=by rw[b3n p1]
 refine ba1 hz p1 ?_ ?_ ?_ ?_ (v:=v) ?_
 ·rw[a0i _ _ om,b2s om];simp
 ·rw[jm,ajp,anz hno,ajq,atb hu]
 ·unfold acj avj;rw[b0g,b1l,abe,jm,b2k,b5f,ht5,b00,b2c];exact⟨by omega,p3⟩
 ·by_cases h:P.length=5
  ·exact .inl h
  ·right;rw[jm,b0e om];exact p5 om
 ·rw[a02,jm,show (P++[42,x,y]).drop (P.length+1)=[x,y]from by simp[List.drop_append,b3p]];exact hu
theorem auy (hP:ajt P) (hu:jq [x,y]=some ((akk P).toNat:Int)):ji (toS (vw P x y M))=(agp P,P.length+6,0):=by
 have hl:=ai3 (P:=P) (x:=x) (y:=y) (M:=M);have hE:=atu (M:=M) hP hu;obtain⟨_,h10⟩:=avy (ar1 (P:=P) (x:=x) (y:=y) (M:=M));obtain⟨h10,_⟩:=avy h10;rw[aiz (by rw[vt];omega) (by rw[jm];rfl) (by rw[hE]) (by rw[hE,vt];show ¬_<P.length+4+2;omega) (by rw[hE,jm];exact h10) (by rw[at6 hP hu];exact a0c hP hu)];rw[at6 hP hu,hE];have ho:=a6b P x y;rw[if_pos hu]at ho;have ho':yd (toS (P++[42,x,y]))=some (toS P):=ho;rw[ho'];have e1:(toS P).extract 0 2=toS (P.take 2):=by rw[ya,jm];rfl
 have e2:(toS P).extract 2 5=toS ((P.drop 2).take 3):=by rw[ya,jm]
 have e3:vh ((toS P).extract 6 (toS P).size)=(kw (P.drop 6)).map toS:=by
  unfold vh;rw[abe,jm,vt,b1h (by rw[n5];exact a8 _)]
 show (((toS P).extract 0 2,(toS P).extract 2 5,if 5<(toS P).size then vh ((toS P).extract 6 (toS P).size)else []),P.length+4+2,(0:Int))=_;rw[e1,e2,e3,vt];rfl
end
theorem a3x (t:ByteArray):toS t.data.toList=t:=a3f t
theorem bdr {l:List UInt8} {v:Int} (h:jq l=some v):∃x y,l=[x,y]:=by
 unfold jq at h
 split at h
 ·rename_i a b;exact⟨a,b,rfl⟩
 ·cases h
theorem a71 {t:ByteArray} (h:(ji t).2.2=0):t.data.toList[0]?=some 36 /\(jd t).2=0/\¬t.size<(jd t).1+2/\t.data.toList[(jd t).1+1]?=some 10/\zv (kh t)=true /\(yd (kh t)).isSome=true:=by
 by_cases h0:t.size=0
 ·rw[aoy h0]at h;cases h
 by_cases h1:t.data.toList[0]?=some 36
 ·by_cases h2:(jd t).2=0
  ·by_cases h3:t.size<(jd t).1+2
   ·rw[aoz h0 h1 h2 h3]at h;cases h
   ·by_cases h4:t.data.toList[(jd t).1+1]?≠some 10\/zv (kh t)=false
    ·rw[aiy h0 h1 h2 h3 h4]at h;cases h
    ·have h5:t.data.toList[(jd t).1+1]?=some 10:=b25.1 λk=>h4 (.inl k)
     have h6:zv (kh t)=true:=by cases hf:zv (kh t)with
      | true=>rfl
      | false=>exact absurd (.inr hf) h4
     refine⟨h1,h2,h3,h5,h6,?_⟩;rw[aiz h0 h1 h2 h3 h5 h6]at h;cases ho:yd (kh t)with
     | none=>rw[ho]at h;cases h
     | some b=>rfl
  ·rw[aix h0 h1 h2]at h;exact absurd h h2
 ·rw[alq h0 h1]at h;cases h
theorem bde {t:ByteArray} (h:(ji t).2.2≠0):ji t=((ByteArray.empty,ByteArray.empty,[]),0,(ji t).2.2):=by
 by_cases h0:t.size=0
 ·rw[aoy h0]
 by_cases h1:t.data.toList[0]?=some 36
 ·by_cases h2:(jd t).2=0
  ·by_cases h3:t.size<(jd t).1+2
   ·rw[aoz h0 h1 h2 h3]
   ·by_cases h4:t.data.toList[(jd t).1+1]?≠some 10\/zv (kh t)=false
    ·rw[aiy h0 h1 h2 h3 h4]
    ·have h5:t.data.toList[(jd t).1+1]?=some 10:=b25.1 λk=>h4 (.inl k)
     have h6:zv (kh t)=true:=by cases hf:zv (kh t)with
      | true=>rfl
      | false=>exact absurd (.inr hf) h4
     rw[aiz h0 h1 h2 h3 h5 h6]at h ⊢;cases ho:yd (kh t)with
     | none=>rfl
     | some b=>rw[ho]at h;exact absurd rfl h
  ·rw[aix h0 h1 h2]
 ·rw[alq h0 h1]
theorem a5n (t:ByteArray) (j:Nat) (h:j<t.size):t.data.toList[j]?=some t[j]:=by
 rw[d7 (by rw[ad0];exact h)];rfl
theorem a9i {t:ByteArray} (h:(ji t).2.2=0):∃P x y M,t=toS (vw P x y M)/\ajt P/\jq [x,y]=some ((akk P).toNat:Int):=by
 obtain⟨h1,h2,h3,h4,h5,h6⟩:=a71 h;obtain⟨i,hi⟩:∃i,jd t=(i,0):=⟨(jd t).1,by rw[<- h2]⟩;obtain⟨b1,b2,b3⟩:=agr t 80 1 i hi;obtain⟨s1,s2,s3⟩:=bcg t 80 1 i hi;rw[hi]at h3 h4;have hL:=ahs hi;rw[hL]at h5 h6;have hlist:(t.extract 1 i).data.toList=(t.data.toList.drop 1).take (i-1):=by rw[abe]
 obtain⟨L,hLe⟩:∃L,t.extract 1 i=L:=⟨_,rfl⟩;have hls:L.size=i-1:=by rw[<- hLe,b00];omega
 rw[hLe]at h5 h6 hlist;unfold zv at h5;rw[b0g,b0g,b0g,b0g]at h5;obtain⟨⟨⟨⟨q1,q2⟩,q3⟩,q4⟩,q5⟩:=h5;have k1:=b1g q1;obtain⟨n,hn⟩:∃n,L.size=n+3:=⟨L.size-3,by omega⟩;have hix:Lib.indexByte L.data.toList 42=(n:Int):=by have:=b1g q2;unfold ae8 at this;omega
 obtain⟨i1,i2,i3⟩:=a00 _ _ n hix;obtain⟨b,hb⟩:=Option.isSome_iff_exists.1 h6;unfold yd at hb;rw[if_neg om]at hb
 split at hb
 ·rename_i hc;obtain⟨_,hu⟩:=hc;rw[show L.size-3=n from by omega,a02]at hu;obtain⟨x,y,hxy⟩:=bdr hu;have hPl:(L.data.toList.take n).length=n:=by rw[l8];omega
  have hP:(L.extract 0 n).data.toList=L.data.toList.take n:=by rw[abe];rfl
  have hsum:ax3 (L.extract 0 n)=((akk (L.data.toList.take n)).toNat:Int):=by unfold ax3;rw[hP]
  have hall:∀c∈L.data.toList,okC (c.toNat:Int)=true:=by
   intro c hc;rw[hlist]at hc;obtain⟨j,hj,rfl⟩:=b3l hc;rw[l8,n5]at hj;obtain⟨g,ok,_⟩:=s1 (j+1) om om
   have e:((t.data.toList.drop 1).take (i-1))[j]'(by rw[l8,n5];exact hj)=t[j+1]:=by
    rw[b4a,b38];have:=a5n t (j+1) g;rw[d7 (by rw[ad0];exact g)]at this;injection this with this
    rw[<- this]
    congr 1
    omega
   rw[e];exact ok
  refine⟨L.data.toList.take n,x,y,t.data.toList.drop (i+2),?_,⟨by omega,by omega,?_,?_,?_⟩,by rw[<- hxy,hu,hsum]⟩
  ·have e1:t.data.toList=t.data.toList.take i++t.data.toList.drop i:=(b0t _ _).symm
   have e2:t.data.toList.drop i=13::10::t.data.toList.drop (i+2):=by
    have g1:i<t.data.toList.length:=by rw[ad0];omega
    have g2:i+1<t.data.toList.length:=by rw[ad0];omega
    rw[b0w g1,b0w g2];have v2:t.data.toList[i+1]=10:=by rw[d7 g2]at h4;injection h4
    have v1:t.data.toList[i]=13:=by
     have:=(aig t i om 13).2 (by rw[s3];rfl);rw[d7 g1]at this;injection this
    rw[v1,v2]
   have e3:t.data.toList.take i=36::L.data.toList:=by
    rw[hlist];cases hd:t.data.toList with
    | nil=>rw[hd]at h1;cases h1
    | cons a l=>
     rw[hd]at h1;have:a=36:=by simpa using h1
     subst this;obtain⟨i,rfl⟩:∃j,i=j+1:=⟨i-1,by omega⟩;rfl
   refine(a3x t).symm.trans (congrArg toS (e1.trans ?_));rw[e2,e3];have i2':=i2;rw[hxy]at i2';generalize L.data.toList.take n=Q at i2' ⊢;rw[i2'];simp[vw]
  ·intro c hc;rw[List.take_take,b1m om]at hc;unfold acj avj at q3;rw[b0g,abe,b2c]at q3;exact q3.2 c hc
  ·intro c hc;refine bbk (hall c (b3g hc)) ?_;intro h42;exact i3 c hc (b1y.1 (by have e:(42:UInt8).toNat=42:=rfl;omega))
  ·intro h;rw[hPl]at h;rw[b4n,b1l,b1l]at q5;rw[b16 h];exact q5.resolve_left om
 ·cases hb
theorem a2x (l:List UInt8):((kw l).flatMap λf=>44::f)=44::l:=by
 induction l with
 | nil=>rfl
 | cons b l ih=>
  by_cases hb:b=44
  ·rw[hb,alk,b2i,ih];rfl
  ·rw[anx b l hb];cases hs:kw l with
   | nil=>exact absurd hs (aiv l)
   | cons h r=>
    rw[hs,b2i]at ih;have ih':h ++(r.flatMap λf=>44::f)=l:=by simpa using ih
    show (44::([b]++h)) ++(r.flatMap λf=>44::f)=44::b::l;rw[<- ih'];simp
section
variable {P : List UInt8} (hP : ajt P)
include hP
theorem a4m:akt (agp P).1 (agp P).2.1 (agp P).2.2=P:=by
 obtain⟨p1,p2,p3,p4,p5⟩:=hP;unfold akt agp;rw[jm,jm]
 have e:P=P.take 2 ++(P.drop 2).take 3++P.drop 5:=by
  conv=>lhs;rw[<- b0t 5 P,show (5:Nat)=2+3 from rfl,List.take_add]
 by_cases h:5<P.length
 ·have hd:P.drop 5=44::P.drop 6:=by
   rw[b0w h];have:=p5 h;rw[d7 h]at this;injection this with this
   rw[this]
  show _++_++List.flatMap _ (if 5<P.length then _ else _)=P;rw[if_pos h]
  conv=>rhs;rw[e,hd,<- a2x]
  rw[List.flatMap_map];simp only[jm]
 ·show _++_++List.flatMap _ (if 5<P.length then _ else _)=P;rw[if_neg h,List.flatMap_nil];have e5:P.drop 5=[]:=b3p om;rw[e5]at e;exact e.symm
end
theorem aq8 (l m:List UInt8):∀f i,(yf (toS l) f i).2≠2->yf (toS (l++m)) f i=yf (toS l) f i:=by
 intro f
 induction f with
 | zero=>intro i _;rfl
 | succ f ih=>
  intro i h
  by_cases hi:i<(toS l).size
  ·have hi':i<(toS (l++m)).size:=by rw[vt]at hi ⊢;rw[e9];omega
   have e:(toS (l++m))[i]=(toS l)[i]:=by
    rw[a0i _ _ hi,a0i _ _ hi',b2g]
   unfold yf at h ⊢;rw[b5q hi]at h ⊢;rw[b5q hi',e]
   split
   ·rfl
   ·rename_i h13;rw[if_neg h13]at h
    split
    ·rename_i ho;rw[if_pos ho]at h;exact ih _ h
    ·rfl
  ·unfold yf at h;rw[dif_neg hi]at h;exact absurd rfl h
theorem bdg (l m:List UInt8) (h:(ji (toS l)).2.2≠2):ji (toS (l++m))=ji (toS l):=by
 by_cases h0:(toS l).size=0
 ·rw[aoy h0]at h;exact absurd rfl h
 have h0':¬(toS (l++m)).size=0:=by rw[vt]at h0 ⊢;rw[e9];omega
 have get:∀j,j<l.length ->(toS (l++m)).data.toList[j]?=(toS l).data.toList[j]?:=λj hj=>by rw[jm,jm,b0e hj]
 have hz:(toS l).size=l.length:=vt l
 by_cases h1:(toS l).data.toList[0]?=some 36
 ·have h1':(toS (l++m)).data.toList[0]?=some 36:=by rw[get 0 om];exact h1
  by_cases h2:(jd (toS l)).2=0
  ·have hE:jd (toS (l++m))=jd (toS l):=aq8 l m 80 1 (by show (jd (toS l)).2≠2;omega);have h2':(jd (toS (l++m))).2=0:=by rw[hE];exact h2
   by_cases h3:(toS l).size<(jd (toS l)).1+2
   ·rw[aoz h0 h1 h2 h3]at h;exact absurd rfl h
   ·have h3':¬(toS (l++m)).size<(jd (toS (l++m))).1+2:=by rw[hE];rw[vt]at h3 ⊢;rw[e9];omega
    obtain⟨i,hi⟩:∃i,jd (toS l)=(i,0):=⟨(jd (toS l)).1,by rw[<- h2]⟩;have hi':jd (toS (l++m))=(i,0):=by rw[hE];exact hi
    have hLn:kh (toS (l++m))=kh (toS l):=by
     rw[ahs hi,ahs hi',ya,ya,jm,jm];rw[hi]at h3;have b1:=(agr (toS l) 80 1 i hi).1
     congr 1
     rw[b3o om,b3n (by rw[n5];omega)]
    have g4:(toS (l++m)).data.toList[(jd (toS l)).1+1]?=(toS l).data.toList[(jd (toS l)).1+1]?:=get _ om;rw[<- hE]at g4
    by_cases h4:(toS l).data.toList[(jd (toS l)).1+1]?≠some 10\/zv (kh (toS l))=false
    ·rw[aiy h0 h1 h2 h3 h4,aiy h0' h1' h2' h3' (by rw[g4,hE,hLn];exact h4)]
    ·have h5:(toS l).data.toList[(jd (toS l)).1+1]?=some 10:=b25.1 λk=>h4 (.inl k)
     have h6:zv (kh (toS l))=true:=by cases hf:zv (kh (toS l))with
      | true=>rfl
      | false=>exact absurd (.inr hf) h4
     rw[aiz h0 h1 h2 h3 h5 h6,aiz h0' h1' h2' h3' (by rw[g4,hE];exact h5) (by rw[hLn];exact h6),hLn,hE]
  ·have hE:jd (toS (l++m))=jd (toS l):=aq8 l m 80 1 (by
    show (jd (toS l)).2≠2;rw[aix h0 h1 h2]at h;exact h)
   rw[aix h0 h1 h2,aix h0' h1' (by rw[hE];exact h2),hE]
 ·have h1':¬(toS (l++m)).data.toList[0]?=some 36:=by rw[get 0 om];exact h1
  rw[alq h0 h1,alq h0' h1']
theorem aql (t:ByteArray):t.data.toList.length=t.size:=by rw[b0h];rfl
theorem asf (t y:ByteArray):∀fs:List ByteArray,fs.length+t.size+y.size <=(akt t y fs).length/\∀f∈fs,f.size <=(akt t y fs).length:=by
 intro fs;have e1:=aql t;have e2:=aql y
 have key:fs.length <=(fs.flatMap λf=>(44:UInt8)::f.data.toList).length/\∀f∈fs,f.size <=(fs.flatMap λf=>(44:UInt8)::f.data.toList).length:=by
  induction fs with
  | nil=>exact⟨b0d _,λf hf=>by simp at hf⟩
  | cons g l ih=>
   have e3:=aql g;rw[b2i,e9,n6,n6];refine⟨by omega,λf hf=>?_⟩;rcases b03.1 hf with rfl|hf
   ·omega
   ·have:=ih.2 f hf;omega
 unfold akt;rw[e9,e9];exact⟨by omega,λf hf=>by have:=key.2 f hf;omega⟩
theorem a7z {t:ByteArray} (h:(ji t).2.2=0):∃P x y M,ajt P/\t=toS (vw P x y M)/\jq [x,y]=some ((akk P).toNat:Int)/\ji t=(agp P,P.length+6,0):=by
 obtain⟨P,x,y,M,rfl,hP,hu⟩:=a9i h;exact⟨P,x,y,M,hP,rfl,hu,auy hP hu⟩
theorem ax6 (t:ByteArray):(ji t).1.2.2.length<=76 /\(∀f∈(ji t).1.2.2,f.size<=76) /\(ji t).1.1.size<=76 /\(ji t).1.2.1.size<=76:=by
 by_cases h:(ji t).2.2=0
 ·obtain⟨P,x,y,M,hP,-,-,e⟩:=a7z h;rw[e];have hb:=a4m hP;have h1:=asf (agp P).1 (agp P).2.1 (agp P).2.2;rw[hb]at h1;have h2:=hP.2.1;exact⟨by simp only;omega,λf hf=>p9 (h1.2 f hf) h2,by simp only;omega,by simp only;omega⟩
 ·rw[bde h];exact⟨b0d _,λf hf=>by simp at hf,b0d _,b0d _⟩
theorem a1o {lo lo':Nat} {C D:Array Value} {m:NmD} {w:World} (hC:NmV lo w C m) (hD:NmV lo' w D m) (h1:m.s.ids.length<=1100000) (h2:m.u.L.length<=1100000) :
 Calls prog 28 #[.agg C,.agg D] w λe w'=>e=.returned (.bool true)/\Below w.1.size w w':=by
 obtain⟨x,y,rfl,⟨A,c,rfl,hA⟩,⟨B,d,rfl,hB⟩⟩:=hC;obtain⟨x',y',rfl,⟨A',c',rfl,hA'⟩,⟨B',d',rfl,hB'⟩⟩:=hD
 exact a6v (A:=A) (B:=B) (A':=A') (B':=B') (n:=m.s.ids.length) (p:=m.u.L.length)
  (λW hb=>awz m.s.a m.s.f m.s.p0.1 m.s.p0.2 m.s.p1.1 m.s.p1.2 m.s.p2.1 m.s.p2.2 A A' m.s.ids.length c c' m.s.ids W rfl (atl hA hb).ints (atl hA' hb).ints h1)
  (λW hb=>aw0 m.u.T m.u.N m.u.S B B' m.u.L.length d d' m.u.L W rfl (atl hB hb).vws (atl hB' hb).vws h2)
theorem ae1 {fn:Func} {p u v:Tmp} {ty:TypeId} (h:fn.results=#[.cell p ty,.tmp u,.tmp v]) (tmps:Array Value) (P:Program) (w:World) :
 (results fn tmps).run P w =
  ((asAddr (tmps.getD p undef)).run P w).andThen λa w₁=>((loadVar ty a).run P w₁).andThen λv' w₂=>.ok (.tuple #[v',tmps.getD u undef,tmps.getD v undef]) w₂:=by
 simp only[results,h];simp[Result.andThen]
def yt (t:ByteArray):NmD×Nat×Int:=if(ji t).2.2=0 then((aen (ji t).1.1 (ji t).1.2.1 (ji t).1.2.2).1,(ji t).2.1,(aen (ji t).1.1 (ji t).1.2.1 (ji t).1.2.2).2)else(ar4,0,(ji t).2.2)
def a33 (x:NmD×Nat×Int) (w:World) (e:Ending) (w':World):Prop:=∃C,e=.returned (.tuple #[.agg C,.int .i64 (x.2.1:Int),.int .i64 x.2.2])/\NmV w.1.size w' C x.1/\Below w.1.size w w'
theorem awl {t:ByteArray} {w:World} (ht:t.size<=1100000):Calls prog 44 #[.string t] w (a33 (yt t) w):=by
 obtain⟨⟨⟨T,Y,fs⟩,N,E⟩,hX⟩:∃x,ji t=x:=⟨_,rfl⟩;have hz:fs.length<=1100000/\∀f∈fs,f.size<=1100000:=by have:=ax6 t;rw[hX]at this;exact⟨p9 this.1 om,λf hf=>p9 (this.2.1 f hf) om⟩
 obtain⟨⟨m,F⟩,hm⟩:∃x,aen T Y fs=x:=⟨_,rfl⟩;have HD:Q_ (yt t=if E=0 then(m,N,F)else(ar4,0,E)):=by unfold yt;rw[hX];simp only;rw[hm];exact rfl
 have HT:∀W,Q_ (Calls prog 62 #[.string t] W (kj ((T,Y,fs),N,E) W)):=λW=>by rw[<- hX];exact beg t W ht
 have HK:∀A c W,v6 W W.1.size A fs->Q_ (Calls prog 63 #[.agg #[.string T,.string Y,.slice A fs.length c]] W (bkv (m,F) W)):=λA c W hs=>by rw[<- hm];exact a58 hs hz.1 hz.2
 obtain⟨n,hn⟩:∃n,fs.length=n:=⟨_,rfl⟩;have HN:=q_ hn;rw[hn]at HK;clear hX hz hm hn ht;go_enter func44,ntmps44;go_wp2_with (refine qc rfl 58 rfl zNm (ac1 _) ?_;intro W1 hW1;have HR1:=q_ (Blk.newL (L:=nmL 0 ByteArray.empty zz xd xx xi jc) hW1 rfl);have HB1:=q_ hW1.bel;have HZ1:=q_ hW1.sz;clear hW1);refine(HT _).o.mono ?_;rintro e W2 ⟨A,c,rfl,hs,hf,hb⟩;have HST:=q_ hs;have HR2:=q_ (HR1.o.on hb);have HB2:=q_ (qb HB1.o hb);have HZ2:Q_ (w.1.size<W2.1.size):=HR2.o.lt;clear hs hf hb HR1 HB1 HT;have HST:Q_ (v6 W2 W2.1.size A fs):=HST;dsimp only;rw[HN.o]
 by_cases h0:E=0
 ·subst h0;have HX:Q_ (yt t=(m,N,F)):=HD.o.trans (if_pos rfl);clear HD
  go_upto_region 2 with(first
   | (refine qc rfl 150 rfl #[.string ByteArray.empty,.string ByteArray.empty,.slice none 0 0] kr ?_;intro W3 hW3;have HS3:=q_ (Blk.newL (L:=[.string ByteArray.empty,.string ByteArray.empty,.slice none 0 0]) hW3 rfl);have HR3:=q_ (HR2.o.grew hW3);have HB3:=q_ (qb HB2.o hW3.bel);have HT3:=q_ ((HST.o.below hW3.bel (a8 _)).more hW3.bel.size);have HL3:=q_ hW3.bel;clear hW3 HR2)
   | (refine qe rfl 150 _ _ rfl W2.1.size 0 #[.string T,.string Y,.slice A n c] rfl rfl (HS3.o.there 0 3 dc) ali (xk.arr (L:=[.string T,.string Y,.slice A n c]) (xk.of rfl)) ?_;intro W4 hW4;have HS4:Q_ (Blk W4 W2.1.size [.string T,.string Y,.slice A n c]):=HS3.o.all hW4 rfl;have HR4:=q_ (HR3.o.far hW4 (by have:=HZ2.o;omega));have HL4:=q_ (HL3.o.trans (hW4.below (a8 _)));have HT4:Q_ (v6 W4 W4.1.size A fs):=(HST.o.below HL4.o (a8 _)).more HL4.o.size;have HB4:=q_ (qb HB2.o HL4.o);clear hW4 HS3 HR3 HB3 HT3 HL3))
  try go_frame
  go_wp2_with (refine b0q rfl 150 _ rfl W2.1.size 0 rfl [.string T,.string Y,.slice A n c] _ HS4.o.rg underlying150 rfl ali ?_);refine(HK A c _ HT4.o).o.mono ?_;rintro e W5 ⟨D,rfl,hd,hb⟩;have HD:=q_ hd;have HR5:=q_ (HR4.o.on hb);have HB5:=q_ (qb HB4.o hb);have HZ5:Q_ (w.1.size<W4.1.size/\w.1.size<W5.1.size):=⟨HR4.o.lt,HR5.o.lt⟩;clear hd hb HS4 HR4 HT4 HB4 HL4 HK;dsimp only
  go_wp2_with (first
   | (refine qc rfl 58 rfl zNm (ac1 _) ?_;intro W6 hW6;have HA:=q_ (Blk.newL (L:=nmL 0 ByteArray.empty zz xd xx xi jc) hW6 rfl);have HR6:=q_ (HR5.o.grew hW6);have HB6:=q_ (qb HB5.o hW6.bel);have HL6:=q_ hW6.bel;clear hW6 HR5)
   | (refine qe rfl 58 _ _ rfl W5.1.size 0 D rfl rfl (adw HA.o qs HD.o) (aan HD.o) HD.o.ones ?_;intro W7 hW7;have HM7:Q_ (Blk W7 W5.1.size D.toList):=HA.o.all hW7 (ain HD.o);have HR7:=q_ (HR6.o.far hW7 (by have:=HZ5.o;omega));have HL7:=q_ (HL6.o.trans (hW7.below (a8 _)));have HB7:=q_ (qb HB5.o HL7.o);clear hW7 HR6 HA HB6 HL6)
   | refine b0q rfl 58 _ rfl W5.1.size 0 rfl D.toList _ HM7.o.rg underlying58 rfl (by rw[b0h];exact aan HD.o) ?_
   | (refine qe rfl 58 _ _ rfl w.1.size 0 D rfl rfl (adw HR7.o qs HD.o) (aan HD.o) HD.o.ones ?_;intro W8 hW8;have HM8:Q_ (Blk W8 w.1.size D.toList):=HR7.o.all hW8 (ain HD.o);have HB8:=q_ (HB7.o.trans (hW8.below (a8 _)));have HD8:=q_ ((HD.o.on HL7.o).far hW8 HZ5.o.1);clear hW8 HR7 HB7))
  have HLD:=q_ (t9 (P:=prog) _ w.1.size 0 58 _ _ HM8.o.rg underlying58 rfl (by rw[b0h];exact aan HD.o));refine b9 (v:=.tuple #[.agg D,.int .i64 (N:Int),.int .i64 F]) (by rw[ae1 rfl];simp[asAddr,Result.andThen,HLD.o]) rfl ?_;rw[HX.o];exact⟨D,rfl,HD8.o.less (by have:=HZ5.o;omega),HB8.o⟩
 ·have HX:Q_ (yt t=(ar4,0,E)):=HD.o.trans (if_neg h0);have hne:(E != 0)=true:=by rw[b0r];exact h0
  clear HD HK
  go_wp2_with (first
   | (refine qc rfl 150 rfl #[.string ByteArray.empty,.string ByteArray.empty,.slice none 0 0] kr ?_;intro W3 hW3;have HS3:=q_ (Blk.newL (L:=[.string ByteArray.empty,.string ByteArray.empty,.slice none 0 0]) hW3 rfl);have HR3:=q_ (HR2.o.grew hW3);have HB3:=q_ (qb HB2.o hW3.bel);clear hW3 HR2)
   | (refine qe rfl 150 _ _ rfl W2.1.size 0 #[.string T,.string Y,.slice A n c] rfl rfl (HS3.o.there 0 3 dc) ali (xk.arr (L:=[.string T,.string Y,.slice A n c]) (xk.of rfl)) ?_;intro W4 hW4;have HR4:=q_ (HR3.o.far hW4 (by have:=HZ2.o;omega));have HB4:=q_ (HB3.o.trans (hW4.below (by have:=HZ2.o;omega)));clear hW4 HS3 HR3 HB3)
   | refine zo rfl 58 rfl (ato _) ?_
   | (refine qe rfl 58 _ _ rfl w.1.size 0 zNm rfl rfl (adw HR4.o qs (NmV.zero 0 w)) (aan (NmV.zero 0 w)) (NmV.zero 0 w).ones ?_;intro W7 hW7;have HM7:Q_ (Blk W7 w.1.size zNm.toList):=HR4.o.all hW7 (ain (NmV.zero 0 w));have HB7:=q_ (HB4.o.trans (hW7.below (a8 _)));clear hW7 HR4 HB4))
  have HLD:=q_ (t9 (P:=prog) _ w.1.size 0 58 _ _ HM7.o.rg underlying58 rfl (by rw[b0h];exact aan (NmV.zero 0 w)));refine b9 (v:=.tuple #[.agg zNm,.int .i64 0,.int .i64 E]) (by rw[ae1 rfl];simp[asAddr,Result.andThen,HLD.o]) rfl ?_;rw[HX.o];exact⟨zNm,rfl,NmV.zero _ _,HB7.o⟩
theorem acy {α:Type} (b m:List α) (i n:Nat) (h:i+n<=b.length):((b++m).drop i).take n=(b.drop i).take n:=by
 rw[b3o om,b3n (by rw[n5];omega)]
theorem vy (b m:List UInt8) (i:Nat) (h:i<b.length):zy (b++m) i=zy b i:=by
 unfold zy;rw[l9,l9,b0e h]
theorem ay8:∀(b m:List UInt8),vu b=false->vu (b++m)=false
 | [],_,h=>by cases h
 | [x],[],h=>h
 | [x],y::_,h=>by
  have h':decide (x.toNat=181)=false:=h;show (decide (x.toNat=181) && decide (y.toNat=98))=false;rw[h'];rfl
 | x::y::_,_,h=>h
theorem avm:∀(b m:List UInt8),2<=b.length->vu (b++m)=vu b
 | [],_,h=>by simp at h
 | [x],_,h=>by simp at h
 | x::y::_,_,_=>rfl
theorem ba2 (b m:List UInt8) (h:(abt b).e≠2):abt (b++m)=abt b:=by
 cases hb:vu b with
 | false=>
  unfold abt;rw[if_pos (ay8 b m hb),if_pos hb]
 | true=>
  by_cases h6:b.length<6
  ·exfalso;apply h;unfold abt;rw[if_neg (by rw[hb];decide),if_pos h6];rfl
  ·have h6':¬(b++m).length<6:=by rw[e9];omega
   have hb2:vu (b++m)=true:=by rw[avm b m om,hb]
   have q1:¬vu b=false:=by rw[hb];decide
   have q2:¬vu (b++m)=false:=by rw[hb2];decide
   unfold abt;rw[if_neg q2,if_neg h6',if_neg q1,if_neg h6,vy b m 4 om,vy b m 5 om,vy b m 2 om,vy b m 3 om];have hN:∀N,(zy b 4).toNat+256*(zy b 5).toNat=N->N<=N:=λ_ _=>a8 _
   by_cases h7:1016<(zy b 4).toNat+256*(zy b 5).toNat
   ·rw[if_pos h7,if_pos h7]
   ·rw[if_neg h7,if_neg h7]
    by_cases h8:b.length<(zy b 4).toNat+256*(zy b 5).toNat+8
    ·exfalso;apply h;unfold abt;rw[if_neg (by rw[hb];decide),if_neg h6,if_neg h7,if_pos h8];rfl
    ·rw[if_neg h8,if_neg (by rw[e9];omega),acy b m 2 _ om,acy b m 6 _ om]
theorem ba3 (b:List UInt8):((abt b).e=0->8 <=(abt b).n /\(abt b).n<=1024 /\(abt b).n<=b.length) /\((abt b).e=2->b.length<1024):=by
 unfold abt aex
 repeat' split
 all_goals first|exact⟨λh=>absurd h dc,λh=>absurd h dc⟩|(refine⟨λh=>?_,λh=>?_⟩<;>dsimp only at h ⊢<;>first|omega|(exact absurd h dc))
theorem bdp (b m:List UInt8) (h:0<(agy b).2.1 \/(agy b).1≠2):agy (b++m)=agy b:=by
 have h2:(abt b).e≠2:=by
  intro q;unfold agy at h;rw[if_neg (by rw[q];decide)]at h;rcases h with h|h
  ·exact absurd h sm
  ·exact h q
 unfold agy;rw[ba2 b m h2]
theorem bdq (b:List UInt8):(0<(agy b).2.1->8 <=(agy b).2.1 /\(agy b).2.1<=1024 /\(agy b).2.1<=b.length) /\((agy b).2.1=0 ->(agy b).1=2->b.length<1024):=by
 have hs:=ba3 b;unfold agy
 split
 ·rename_i h0;have:=hs.1 h0;dsimp only;exact⟨λ_=>this,λq=>by omega⟩
 ·dsimp only;exact⟨λq=>absurd q sm,λ_=>hs.2⟩
def adl (b:List UInt8):ByteArray:=toS (b.take 82)
theorem aum (t:ByteArray):∀f i,(yf t f i).2=2->t.size<i+f
 | 0,i,h=>by simp[yf]at h
 | f+1,i,h=>by
  unfold yf at h
  split at h
  ·split at h
   ·cases h
   ·split at h
    ·have:=aum t f (i+1) h;omega
    ·cases h
  ·omega
theorem bdf {t:ByteArray} (h:(ji t).2.2=2):t.size<82:=by
 unfold ji at h
 split at h
 ·omega
 split at h
 ·cases h
 split at h
 ·have:=aum t 80 1 h;omega
 rename_i h2
 split at h
 ·rename_i h3;have he:(jd t).2=0:=by simpa using h2
  have h4:=agr t 80 1 (jd t).1 (by unfold jd at he ⊢;rw[<- he]);omega
 split at h
 ·cases h
 ·revert h;cases yd (kh t)with
  | none=>intro h;cases h
  | some b=>intro h;cases h
theorem a70 {t:ByteArray} (h:(ji t).2.2=0):8 <=(ji t).2.1 /\(ji t).2.1<=82 /\(ji t).2.1<=t.size:=by
 obtain⟨P,x,y,M,e,hP,hu⟩:=a9i h;have hz:t.size=P.length+6+M.length:=by rw[e,vt,ai3]
 rw[e,auy hP hu];have h1:=hP.1;have h2:=hP.2.1;dsimp only;rw[vt,ai3];omega
theorem at9 (b:List UInt8):(adl b).size=min 82 b.length:=by
 unfold adl;rw[vt,l8]
theorem a42 {t:ByteArray} (h:0<(yt t).2.1 \/(yt t).2.2≠2):(ji t).2.2≠2:=by
 intro q;unfold yt at h;rw[if_neg (by rw[q];decide)]at h;rcases h with h|h
 ·exact absurd h sm
 ·exact h q
theorem bbq (b m:List UInt8) (h:0<(yt (adl b)).2.1 \/(yt (adl b)).2.2≠2):yt (adl (b++m))=yt (adl b):=by
 have h2:=a42 h
 have e:adl (b++m)=toS (b.take 82++m.take (82-b.length)):=by
  unfold adl;rw[List.take_append]
 have ht:ji (adl (b++m))=ji (adl b):=by rw[e];exact bdg _ _ h2
 unfold yt;rw[ht]
theorem a41 (b:List UInt8):(0<(yt (adl b)).2.1->8 <=(yt (adl b)).2.1 /\(yt (adl b)).2.1<=1024 /\(yt (adl b)).2.1<=b.length) /\((yt (adl b)).2.1=0 ->(yt (adl b)).2.2=2->b.length<1024):=by
 have hz:=at9 b;generalize adl b=t at *;unfold yt
 split
 ·rename_i h0;have:=a70 h0;dsimp only;exact⟨λ_=>by omega,λq=>by omega⟩
 ·dsimp only;exact⟨λq=>absurd q sm,λ_ q=>by have:=bdf q;omega⟩
theorem bdl (b m:List UInt8) (h:0<(ab3 b).2.1 \/(ab3 b).1≠2):ab3 (b++m)=ab3 b:=by
 unfold ab3 at h ⊢;dsimp only at h ⊢
 by_cases h0:b.length=0
 ·rw[if_pos h0]at h;exact absurd h sm
 rw[if_neg h0]at h ⊢;rw[if_neg (by rw[e9];omega),vy b m 0 om]
 by_cases h1:zy b 0≠254
 ·rw[if_pos h1,if_pos h1]
 rw[if_neg h1]at h ⊢;rw[if_neg h1]
 by_cases h2:b.length<6
 ·rw[if_pos h2]at h;exact absurd h sm
 rw[if_neg h2]at h ⊢;rw[if_neg (by rw[e9];omega),vy b m 5 om,vy b m 1 om];generalize (zy b 5).toNat=i at *;generalize yn (xe (i:Int)).2=w at *
 by_cases h3:w=0
 ·rw[if_pos h3,if_pos h3]
 rw[if_neg h3]at h ⊢;rw[if_neg h3]
 by_cases h4:(zy b 1).toNat≠w
 ·rw[if_pos h4,if_pos h4]
 rw[if_neg h4]at h ⊢;rw[if_neg h4]
 by_cases h5:b.length<w+8
 ·rw[if_pos h5]at h;exact absurd h sm
 rw[if_neg h5,if_neg (by rw[e9];omega),acy b m 1 _ om,acy b m 6 _ om,vy b m (w+6) om,vy b m (w+7) om,vy b m 2 om,vy b m 3 om,vy b m 4 om]
theorem bdm (b:List UInt8):(0<(ab3 b).2.1->8 <=(ab3 b).2.1 /\(ab3 b).2.1<=1024 /\(ab3 b).2.1<=b.length) /\((ab3 b).2.1=0 ->(ab3 b).1=2->b.length<1024):=by
 have hw:=(zy b 1).toNat_lt;unfold ab3;dsimp only;generalize (zy b 5).toNat=i at *;generalize yn (xe (i:Int)).2=w at *
 repeat' split
 all_goals (refine⟨λq=>?_,λq r=>?_⟩<;>dsimp only at *<;>first|omega|exact absurd q dc|exact absurd r dc)
structure ItD where
 pr:Int
 od:Bool
 U:aes
 N:NmD
 T:ahh
def aeq:ItD:=⟨0,false,aau,ar4,aaf⟩
def ad5 (p:Int) (b:List UInt8):ItD×Nat×Int:=
 if p=1 then({aeq with U:=(agy b).2.2},(agy b).2.1,(agy b).1)
 else if p=2 then({aeq with N:=(yt (adl b)).1},(yt (adl b)).2.1,(yt (adl b)).2.2)
 else({aeq with T:=(ab3 b).2.2},(ab3 b).2.1,(ab3 b).1)
theorem bas (p:Int) (b m:List UInt8) (h:0<(ad5 p b).2.1 \/(ad5 p b).2.2≠2):ad5 p (b++m)=ad5 p b:=by
 unfold ad5 at h ⊢
 split
 ·rename_i h1;rw[if_pos h1]at h;rw[bdp b m h]
 ·rename_i h1;rw[if_neg h1]at h
  split
  ·rename_i h2;rw[if_pos h2]at h;rw[bbq b m h]
  ·rename_i h2;rw[if_neg h2]at h;rw[bdl b m h]
theorem amb (p:Int) (b:List UInt8):(0<(ad5 p b).2.1->8 <=(ad5 p b).2.1 /\(ad5 p b).2.1<=1024 /\(ad5 p b).2.1<=b.length) /\((ad5 p b).2.1=0 ->(ad5 p b).2.2=2->b.length<1024):=by
 unfold ad5
 split
 ·exact bdq b
 split
 ·exact a41 b
 ·exact bdm b
structure VeD where
 d:Int
 p:Int
 n:Nat
 e:Int
 x:ItD
def bot:VeD:=⟨0,0,0,0,aeq⟩
def aha (p:Int) (r:ItD×Nat×Int):VeD:=
 if 0<r.2.1 then(if r.2.2=0 then⟨2,p,r.2.1,0,{r.1 with pr:=p}⟩else⟨2,p,r.2.1,r.2.2,{aeq with pr:=p,od:=true}⟩)
 else if r.2.2=2 then⟨0,p,0,0,aeq⟩else⟨1,p,0,r.2.2,aeq⟩
def zg:List UInt8->VeD
 | []=>bot
 | x::l=>if xz x=0 then⟨1,0,0,3,aeq⟩else aha (xz x) (ad5 (xz x) (x::l))
theorem vz (x:UInt8) (l:List UInt8):zg (x::l)=if xz x=0 then⟨1,0,0,3,aeq⟩else aha (xz x) (ad5 (xz x) (x::l)):=rfl
theorem aiq (x:UInt8):xz x=0\/xz x=1\/xz x=2\/xz x=3:=by
 unfold xz
 repeat' split
 all_goals simp
theorem bh2 (p:Int) (r:ItD×Nat×Int):(aha p r).p=p:=by
 unfold aha;repeat' split
 all_goals rfl
theorem arv (p:Int) (r:ItD×Nat×Int):((aha p r).d=0↔r.2.1=0/\r.2.2=2) /\((aha p r).d=0 \/(aha p r).d=1 \/(aha p r).d=2) /\((aha p r).d=2↔0<r.2.1):=by
 unfold aha
 by_cases h1:0<r.2.1
 ·have h0:¬r.2.1=0:=by omega
  rw[if_pos h1]
  split<;>simp[h1,h0]
 ·have h0:r.2.1=0:=by omega
  rw[if_neg h1]
  split<;>simp_all
theorem bno (p:Int) (r:ItD×Nat×Int):(aha p r).n=r.2.1:=by
 unfold aha;repeat' split
 all_goals first|rfl|(show (0:Nat)=_;omega)
theorem bds (b m:List UInt8) (h:(zg b).d≠0):zg (b++m)=zg b:=by
 cases b with
 | nil=>exact absurd rfl h
 | cons x l=>
  show zg (x::(l++m))=zg (x::l);rw[vz]at h;rw[vz,vz]
  split
  ·rfl
  ·rename_i h0;rw[if_neg h0]at h;have:=(arv (xz x) (ad5 (xz x) (x::l))).1
   rw[<- b0u,bas _ _ m (by
    rcases b4x (ad5 (xz x) (x::l)).2.1 with q|q
    ·exact .inr λr=>h (this.2 ⟨q,r⟩)
    ·exact .inl q)]
theorem bh1 (b:List UInt8) (x:UInt8) (h:b[0]?=some x):(zg b).p=xz x:=by
 cases b with
 | nil=>cases h
 | cons y l=>
  injection h with h;subst h
  rw[vz]
  split
  ·rename_i h0;exact h0.symm
  ·exact bh2 _ _
theorem bhz (b:List UInt8):(zg b).d=0 \/(zg b).d=1 \/(zg b).d=2:=by
 cases b with
 | nil=>exact .inl rfl
 | cons y l=>
  rw[vz]
  split
  ·exact .inr (.inl rfl)
  ·exact(arv _ _).2.1
theorem ai2 (b:List UInt8) (h:(zg b).d=2):8 <=(zg b).n /\(zg b).n<=1024 /\(zg b).n<=b.length /\(zg b).x.pr=(zg b).p /\((zg b).p=1 \/(zg b).p=2 \/(zg b).p=3):=by
 cases b with
 | nil=>exact absurd h dc
 | cons y l=>
  rw[vz]at h ⊢
  split
  ·rename_i h0;rw[if_pos h0]at h;exact absurd h dc
  ·rename_i h0;rw[if_neg h0]at h;have h2:=(arv _ _).2.2.1 h;have h3:=(amb (xz y) (y::l)).1 h2;have hp:=aiq y;rw[bno,bh2];refine⟨h3.1,h3.2.1,h3.2.2,?_,by rcases hp with q|q|q|q<;>simp_all⟩;unfold aha;rw[if_pos h2]
   split<;>rfl
theorem ayf (b:List UInt8) (h:(zg b).d≠2):(zg b).n=0 /\(zg b).x=aeq:=by
 cases b with
 | nil=>exact⟨rfl,rfl⟩
 | cons y l=>
  rw[vz]at h ⊢
  split
  ·exact⟨rfl,rfl⟩
  ·rename_i h0;rw[if_neg h0]at h;have h2:¬0<(ad5 (xz y) (y::l)).2.1:=λq=>h ((arv _ _).2.2.2 q)
   unfold aha;rw[if_neg h2]
   split<;>exact⟨rfl,rfl⟩
theorem au4 (b:List UInt8) (h:(zg b).d=0):b.length<1024:=by
 cases b with
 | nil=>simp
 | cons y l=>
  rw[vz]at h
  split at h
  ·exact absurd h dc
  ·have h1:=(arv _ _).1.1 h;exact(amb (xz y) (y::l)).2 h1.1 h1.2
def NmQ (Q:Nat->Prop) (w:World) (L:List Value) (m:NmD):Prop:=∃x y,L=nmC m x y /\(∃A c,x=.slice A m.s.ids.length c/\qf Q w A (m.s.ids.map (Value.int .i64)))/\∃A c,y=.slice A m.u.L.length c/\qf Q w A (vsC m.u.L)
theorem NmV.toQ {lo:Nat} {w:World} {C:Array Value} {m:NmD} (h:NmV lo w C m):NmQ (Bk lo w) w C.toList m:=by
 obtain⟨x,y,rfl,h1,h2⟩:=h;exact⟨x,y,rfl,h1,h2⟩
theorem NmQ.keep {Q:Nat->Prop} {w w':World} {L:List Value} {m:NmD} (h:NmQ Q w L m) (hk:∀b,Q b->w'.heap[b]?=w.heap[b]?):NmQ Q w' L m:=by
 obtain⟨x,y,h0,⟨A,c,h1,h2⟩,⟨B,d,h3,h4⟩⟩:=h;exact⟨x,y,h0,⟨A,c,h1,h2.keep hk⟩,⟨B,d,h3,h4.keep hk⟩⟩
theorem NmQ.less {Q R:Nat->Prop} {w:World} {L:List Value} {m:NmD} (h:NmQ Q w L m) (hr:∀b,Q b->R b):NmQ R w L m:=by
 obtain⟨x,y,h0,⟨A,c,h1,h2⟩,⟨B,d,h3,h4⟩⟩:=h;exact⟨x,y,h0,⟨A,c,h1,h2.less hr⟩,⟨B,d,h3,h4.less hr⟩⟩
theorem NmQ.toV {Q:Nat->Prop} {w:World} {L:List Value} {m:NmD} (h:NmQ Q w L m) (hq:∀b,Q b->b<w.1.size):NmV 0 w L.toArray m:=by
 obtain⟨x,y,rfl,h1,h2⟩:=h.less (R:=Bk 0 w) λb q=>⟨b0d _,hq b q⟩
 exact⟨x,y,rfl,h1,h2⟩
theorem NmQ.len {Q:Nat->Prop} {w:World} {L:List Value} {m:NmD} (h:NmQ Q w L m):L.length=65:=by
 obtain⟨x,y,rfl,-⟩:=h;exact a9a _ _ _
theorem NmQ.ones {Q:Nat->Prop} {w:World} {L:List Value} {m:NmD} (h:NmQ Q w L m):∀v∈L,v.oneCell'=true:=by
 obtain⟨x,y,rfl,⟨A,c,rfl,-⟩,⟨B,d,rfl,-⟩⟩:=h;exact yc (aow _) (aox _) (axc _ rfl) (ao0 _) (ayb _ rfl)
theorem NmQ.zero (Q:Nat->Prop) (w:World):NmQ Q w acm ar4:=⟨.slice none 0 0,.slice none 0 0,rfl,⟨none,0,rfl,qf.nil _ _ _⟩,⟨none,0,rfl,qf.nil _ _ _⟩⟩
theorem ad3.zero (Q:Nat->Prop) (w:World):ad3 Q w ki aau:=by
 refine⟨_,_,_,_,_,rfl,a52 (v:=List.replicate 32 0) rfl (aif 32),vj,a51 (v:=List.replicate 8 0) rfl (aif 8),a50 om om,vj⟩
def ItM (Q:Nat->Prop) (w:World) (L:List Value) (x:ItD):Prop:=∃U N T,L=itL x.pr x.od U N T/\ad3 Q w U x.U/\NmQ Q w N x.N/\ae6 Q w T x.T
theorem ItM.keep {Q:Nat->Prop} {w w':World} {L:List Value} {x:ItD} (h:ItM Q w L x) (hk:∀b,Q b->w'.heap[b]?=w.heap[b]?):ItM Q w' L x:=by
 obtain⟨U,N,T,h0,h1,h2,h3⟩:=h;exact⟨U,N,T,h0,h1.keep hk,h2.keep hk,h3.keep hk⟩
theorem ItM.less {Q R:Nat->Prop} {w:World} {L:List Value} {x:ItD} (h:ItM Q w L x) (hr:∀b,Q b->R b):ItM R w L x:=by
 obtain⟨U,N,T,h0,h1,h2,h3⟩:=h;exact⟨U,N,T,h0,h1.less hr,h2.less hr,h3.less hr⟩
theorem ItM.len {Q:Nat->Prop} {w:World} {L:List Value} {x:ItD} (h:ItM Q w L x):L.length=120:=by
 obtain⟨U,N,T,rfl,h1,h2,h3⟩:=h;simp[itL,h1.len,h2.len,h3.len]
theorem ItM.ones {Q:Nat->Prop} {w:World} {L:List Value} {x:ItD} (h:ItM Q w L x):∀v∈L,v.oneCell'=true:=by
 obtain⟨U,N,T,rfl,h1,h2,h3⟩:=h;intro v hv;simp only[itL,b03,b1z]at hv;rcases hv with rfl|rfl|hv|hv|hv
 ·rfl
 ·rfl
 ·exact h1.ones v hv
 ·exact h2.ones v hv
 ·exact h3.ones v hv
theorem ItM.zero (Q:Nat->Prop) (w:World):ItM Q w ac7 aeq:=⟨_,_,_,rfl,ad3.zero Q w,NmQ.zero Q w,ae6.zero Q w⟩
def acd (Q:Nat->Prop) (w:World) (Ls:List (List Value)) (X:List ItD):Prop:=Ls.length=X.length/\∀k (h:k<Ls.length) (h':k<X.length),ItM Q w Ls[k] X[k]
theorem acd.nil (Q:Nat->Prop) (w:World):acd Q w [] []:=⟨rfl,λk h=>absurd h (b04 _)⟩
theorem acd.keep {Q:Nat->Prop} {w w':World} {Ls:List (List Value)} {X:List ItD} (h:acd Q w Ls X) (hk:∀b,Q b->w'.heap[b]?=w.heap[b]?):acd Q w' Ls X:=⟨h.1,λk a b=>(h.2 k a b).keep hk⟩
theorem acd.less {Q R:Nat->Prop} {w:World} {Ls:List (List Value)} {X:List ItD} (h:acd Q w Ls X) (hr:∀b,Q b->R b):acd R w Ls X:=⟨h.1,λk a b=>(h.2 k a b).less hr⟩
theorem acd.app {Q:Nat->Prop} {w:World} {Ls Ms:List (List Value)} {X Y:List ItD} (h:acd Q w Ls X) (h':acd Q w Ms Y):acd Q w (Ls++Ms) (X++Y):=by
 refine⟨by rw[e9,e9,h.1,h'.1],λk a b=>?_⟩
 by_cases hk:k<Ls.length
 ·rw[b2g hk,b2g (by rw[<- h.1];exact hk)];exact h.2 k hk _
 ·rw[b2s om,b2s (by rw[<- h.1];omega)];simp only[h.1];exact h'.2 _ _ _
theorem acd.one {Q:Nat->Prop} {w:World} {L:List Value} {x:ItD} (h:ItM Q w L x):acd Q w [L] [x]:=⟨rfl,λk a b=>by
 obtain rfl:k=0:=by simpa using a
 exact h⟩
theorem acd.flat_len {Q:Nat->Prop} {w:World} {Ls:List (List Value)} {X:List ItD} (h:acd Q w Ls X):Ls.flatten.length=X.length*120:=by
 obtain⟨h1,h2⟩:=h
 induction Ls generalizing X with
 | nil=>rw[b0z]at h1;rw[<- h1];rfl
 | cons L Ls ih=>
  cases X with
  | nil=>cases h1
  | cons x X=>
   have:=ih (X:=X) (by simpa using h1) (λk a b=>h2 (k+1) (by simpa using a) (by simpa using b));have h0:L.length=120:=(h2 0 sm sm).len;rw[b37,e9,this,h0,n6];omega
theorem acd.ones {Q:Nat->Prop} {w:World} {Ls:List (List Value)} {X:List ItD} (h:acd Q w Ls X):∀v∈Ls.flatten,v.oneCell'=true:=by
 intro v hv;obtain⟨L,hL,hv⟩:=List.mem_flatten.1 hv;obtain⟨k,hk,rfl⟩:=b3l hL;exact(h.2 k hk (by rw[<- h.1];exact hk)).ones v hv
theorem acd.at_ {Q:Nat->Prop} {w:World} {Ls:List (List Value)} {X:List ItD} (h:acd Q w Ls X) (k:Nat) (hk:k<X.length):∃A L D,Ls.flatten=A++L++D/\A.length=k*120/\ItM Q w L X[k]:=by
 have hk':k<Ls.length:=by rw[h.1];exact hk
 refine⟨(Ls.take k).flatten,Ls[k],(Ls.drop (k+1)).flatten,?_,?_,h.2 k hk' hk⟩
 ·have e:Ls=Ls.take k++Ls[k]::Ls.drop (k+1):=by rw[<- b0w hk',b0t]
  conv=>lhs;rw[e]
  rw[b3j,b37,b0s]
 ·have:acd Q w (Ls.take k) (X.take k):=⟨by rw[l8,l8,h.1],λj a b=>by
   rw[b4a,b4a];exact h.2 j _ _⟩
  rw[this.flat_len,l8,b1m (b2h hk)]
theorem be0 {Q:Nat->Prop} {w:World} {A:Option Addr} {l:List UInt8} (h:qf Q w A (bsV l)) (n c:Nat) (hn:l.length=n):(convert 22 9 (.slice A n c)).run prog w=.ok (.string (toS l)) w:=by
 subst hn;cases l with
 | nil=>
  cases A with
  | none=>exact run_convert_bytes_nil (P:=prog) w 22 5 underlying22 underlying5 0 c 9 underlying9
  | some a=>exact ale (P:=prog) w 22 9 5 a c [] underlying22 underlying5 underlying9 (λj hj=>absurd hj (b04 _))
 | cons x r=>
  obtain⟨b,off,rfl,-,-⟩:=h 0 (bV x) rfl
  have e:∀l:List UInt8,l.map ((λn:Int=>UInt8.ofNat n.toNat) ∘ λy:UInt8=>(y.toNat:Int))=l:=λl=>by
   induction l with
   | nil=>rfl
   | cons y l ih=>rw[b2y,ih];simp
  have:=ale (P:=prog) w 22 9 5 ⟨b,off,none⟩ c ((x::r).map λy=>(y.toNat:Int)) underlying22 underlying5 underlying9 (λj hj=>by
   have hj':j<(x::r).length:=by simpa using hj
   obtain⟨b',off',q,-,hc⟩:=h j _ (v9 hj');injection q with q;injection q with q1 q2;subst q1 q2
   rw[ads,hc,b3m];rfl)
  rw[b0o,b5i,e]at this;exact this
def bmi:Array (Nat×Nat):=#[(0,1),(1,1),(2,48),(50,65),(115,5)]
theorem bae {L:List Value} (hl:L.length=48) (w:World):(Instr.build 64 #[(2,.agg L.toArray)]).run prog w=.ok (.agg (itL 0 false L acm ac8).toArray) w:=by
 refine acr (z:=al3) (pl:=bmi) underlying64 (adr w) kr ?_;show Instr.fill _ al3 ((2,.agg L.toArray)::[])=_;rw[yu (off:=2) (L:=L) rfl (by rw[hl];rfl) (by rw[hl];decide)];show some _=some _
 congr 2
 exact acu [Value.int .i64 0,.bool false] ki (acm++ac8) L (by rw[hl];rfl)
theorem bab {L:List Value} (hl:L.length=65) (w:World):(Instr.build 64 #[(3,.agg L.toArray)]).run prog w=.ok (.agg (itL 0 false ki L ac8).toArray) w:=by
 refine acr (z:=al3) (pl:=bmi) underlying64 (adr w) kr ?_;show Instr.fill _ al3 ((3,.agg L.toArray)::[])=_;rw[yu (off:=50) (L:=L) rfl (by rw[hl];rfl) (by rw[hl];decide)];show some _=some _
 congr 2
 exact acu (Value.int .i64 0::.bool false::ki) acm ac8 L (by rw[hl];rfl)
theorem bac {L:List Value} (hl:L.length=5) (w:World):(Instr.build 64 #[(4,.agg L.toArray)]).run prog w=.ok (.agg (itL 0 false ki acm L).toArray) w:=by
 refine acr (z:=al3) (pl:=bmi) underlying64 (adr w) kr ?_;show Instr.fill _ al3 ((4,.agg L.toArray)::[])=_;rw[yu (off:=115) (L:=L) rfl (by rw[hl];rfl) (by rw[hl];decide)];show some _=some _
 congr 2
 have:=acu (Value.int .i64 0::.bool false::(ki++acm)) ac8 [] L (by rw[hl];rfl);simp only[b0p]at this;exact this
theorem ak0 {L:List Value} {Q:Nat->Prop} {w:World} {x:ItD} (h:ItM Q w L x):L.toArray.all (·.oneCell')=true:=kf λv hv=>h.ones v (by simpa using hv)
theorem ak1 {L:List Value} (h:L.length=120):(prog.info? 64).map (·.size)=some L.toArray.size:=by
 rw[o6,h];kernel_rfl
theorem yr {W:World} {b:Nat} {L0 C:List Value} (h:Blk W b L0) (hl:C.length=L0.length):W.there b 0 C.toArray.size:=by
 rw[o6,hl];exact h.there 0 _ om
theorem ace {W W':World} {b:Nat} {L0 C:List Value} (h:Blk W b L0) (hl:C.length=L0.length) (hs:qq W W' b 0 C.toArray.toList):Blk W' b C:=h.all (by simpa using hs) hl
theorem aqj {W:World} {b:Nat} {C:List Value} (h:Blk W b C) (hl:C.length=120):(loadVar 64 ⟨b,0,none⟩).run prog W=.ok (.agg C.toArray) W:=
 t9 (P:=prog) W b 0 64 C _ h.rg underlying64 sm (by rw[hl];kernel_rfl)
def ayu (r:ItD×Nat×Int) (w:World) (e:Ending) (w':World):Prop:=∃L,e=.returned (.tuple #[.agg L.toArray,.int .i64 r.2.1,.int .i64 r.2.2])/\ItM (Bk w.1.size w') w' L r.1/\Below w.1.size w w'
theorem a6o {w:World} {V:Value} (x:Int×Nat×aes) (HF:∀W,Below w.1.size w W->Q_ (Calls prog 42 #[V] W (a4g x W))) :
 Calls prog 41 #[V] w (ayu ({aeq with U:=x.2.2},x.2.1,x.1) w):=by
 have HZ:=λW=>q_ (adr W)
 have HZU:=λW=>q_ (al5 W)
 obtain⟨E,n,u⟩:=x;unfold a4g at HF;dsimp only at *;go_enter func41,ntmps41;go_wp2_with (refine qc rfl 64 rfl al3 (HZ _).o ?_;intro W1 hW1;have HK1:=q_ (Blk.newL (L:=ac7) hW1 rfl);have HB1:=q_ hW1.bel;have HS1:=q_ hW1.sz;clear hW1);refine(HF _ HB1.o).o.mono ?_;rintro e w1 ⟨L,rfl,hq,hb⟩;have HQ1:=q_ hq;have HL:=q_ hq.len;have HK2:=q_ (HK1.o.on hb);have HB2:=q_ (qb HB1.o hb);have HLT:=q_ hb.size;have HB0:=λW=>q_ (bae HL.o W)
 have HON:=q_ (kf (C:=L.toArray) (λv hv=>hq.ones v (by simpa using hv)));have HSZ:=q_ (alv HL.o);have hit:∀W,(∀b,W1.1.size<=b/\b<w1.1.size->W.heap[b]?=w1.heap[b]?)->ItM (λb=>W1.1.size<=b/\b<w1.1.size) W (itL 0 false L acm ac8) {aeq with U:=u}:=λW hk=>⟨_,_,_,rfl,hq.keep hk,NmQ.zero _ _,ae6.zero _ _⟩
 have HIT:=q_ hit;have HION:=q_ (ak0 (hit w1 λ_ _=>rfl));have HISZ:=q_ (ak1 (hit w1 λ_ _=>rfl).len);have HILN:=q_ (hit w1 λ_ _=>rfl).len;generalize hC:itL 0 false L acm ac8=C at *;have HCC:=q_ hC;clear hb HB1 HK1 HF hq hit hC
 go_wp2_with (first
  | (refine qc rfl 38 rfl aer (HZU _).o ?_;intro W2 hW2;have HU2:=q_ (Blk.newL (L:=ki) hW2 rfl);have HK3:=q_ (HK2.o.on hW2.bel);have HB3:=q_ (qb HB2.o hW2.bel);have HP2:=q_ (λb (q:b<w1.1.size)=>hW2.bel.block b q);clear hW2)
  | (refine qe rfl 38 _ _ rfl w1.1.size 0 L.toArray rfl rfl (afy HU2.o rfl HL.o) HSZ.o HON.o ?_;intro W3 hs;have HU3:=q_ (alu HU2.o hs HL.o);have HK4:=q_ (HK3.o.far hs (by have:=HK2.o.lt;omega));have HB4:=q_ (HB3.o.trans (hs.below HB2.o.size));have HP3:=q_ (λb (q:b<w1.1.size)=>(hs.far b (b09 q)).trans (HP2.o b q));clear hs)
  | refine b0q rfl 38 _ rfl w1.1.size 0 rfl L _ HU3.o.rg underlying38 sm (by rw[HL.o];kernel_rfl) ?_
  | refine zf (u:=.agg L.toArray) rfl 64 2 _ rfl rfl (HB0 _).o ?_
  | (refine qe rfl 64 _ _ rfl w.1.size 0 C.toArray rfl rfl (yr HK4.o HILN.o) HISZ.o HION.o ?_;intro W5 hs;have HK5:=q_ (ace HK4.o HILN.o hs);have HB5:=q_ (HB4.o.trans (hs.below (a8 _)));have HP5:=q_ (o3 hs.sz (λb (q:W1.1.size<=b/\b<w1.1.size)=>(hs.far b (by have:=HS1.o;omega)).trans (HP3.o b q.2)));have HZ3:=q_ (HU3.o.lt);clear hs))
 have HLD:=q_ (aqj HK5.o HILN.o);refine b9 (v:=.tuple #[.agg C.toArray,.int .i64 n,.int .i64 E]) (by rw[zq rfl];simp[asAddr,Result.andThen,HLD.o]) rfl ⟨C,rfl,?_,HB5.o⟩;exact(HIT.o W5 HP5.o.2).less λb q=>⟨by have:=HS1.o;omega,by rw[HP5.o.1];exact b1b q.2 HZ3.o⟩
