/- Contracts of the library's IndexByte and Cut at a comma (one byte). -/
import Derived.Test.YtdkhlkfleggbaaaGreatProg
import Derived.Test.YtdkhlkfleggbaaaGreatP00
import Derived.Lib.Strings
import Derived.Lib.IndexBytes
import Derived.Lib.Bytealg
import Derived.Lib.IndexEntry
import Derived.Laws.Externs
import Derived.BigQuiet
import Derived.Deep.QuietTactic
import Derived.Test.YtdkhlkfleggbaaaGreatP43
import Derived.Deep.RegionWith
namespace Go.Proofs.YtdkhlkfleggbaaaGreat
set_option maxHeartbeats 2000000
open Lib (hid)
set_option linter.unusedVariables false
open Go.RowKit
set_option maxRecDepth 100000 in
theorem adx (s:ByteArray) (c:Int) (w:World) :
 Calls Tryz.prog 130 #[.string s,.int .u8 c] w fun e w'=>e=.returned (.int .i64 (Lib.indexByte s.data.toList c.toNat.toUInt8))∧w=w':=by
 go_enter Tryz.func130,Tryz.ntmps130
 go_wp2
 rw[run_callFunc_extern Tryz.func203 (by kernel_rfl) (by kernel_rfl) (by kernel_rfl) (e:=Extern.BytealgIndexByte.indexByte) (by kernel_rfl),Lib.run_indexByteString]
 simp only[Result.andThen]
 rw[Oper.upon_value]
 go_wp2
 go_ret
 exact⟨rfl,rfl⟩
set_option maxRecDepth 100000 in
theorem ap4 (s:ByteArray) (c:Int) (w:World) :
 Calls Tryz.prog 97 #[.string s,.int .u8 c] w fun e w'=>e=.returned (.int .i64 (Lib.indexByte s.data.toList c.toNat.toUInt8))∧w=w':=by
 go_enter Tryz.func97,Tryz.ntmps97
 go_wp2_with fail
 refine(adx _ _ _).mono ?_
 rintro e w' ⟨rfl,rfl⟩
 go_wp2
 go_ret
 exact⟨rfl,rfl⟩
theorem ahu (s:ByteArray) (c:UInt8) (w:World) :
 Calls Tryz.prog 204 #[.string s,.string ⟨#[c]⟩] w fun e w'=>e=.returned (.int .i64 (Lib.indexByte s.data.toList c))∧w=w':=by
 go_enter Tryz.func204,Tryz.ntmps204
 go_wp2_with (go_at_call 130;refine(adx _ _ _).mono ?_;rintro e w' ⟨rfl,rfl⟩)
 ·have h:([c]==s.toList)=true:=by assumption
  go_ret
  refine⟨?_,rfl⟩
  have e:s.data.toList=[c]:=by rw[← Lib.toList_data];exact(beq_iff_eq.1 h).symm
  rw[e]
  simp[Lib.indexByte]
 ·go_ret
  exact⟨rfl,rfl⟩
def aef (s:ByteArray) (c:UInt8):Int:=Lib.indexByte s.data.toList c
theorem a1k (s:ByteArray) (c:UInt8) (w:World) (h:Hid (aef s c<0)) :
 Calls Tryz.prog 134 #[.string s,.string ⟨#[c]⟩] w fun e w'=>e=.returned (.tuple #[.string s,.string ByteArray.empty,.bool false])∧Below w.heap.size w w':=by
 obtain⟨I,hI⟩:∃I,I=Lib.indexByte s.data.toList c:=⟨_,rfl⟩
 have hn:I<0:=by rw[hI];exact h.out
 have HI:=hid hI
 clear hI
 go_enter Tryz.func134,Tryz.ntmps134
 go_wp2_with fail
 refine(ahu _ _ _).mono ?_
 rintro e w' ⟨rfl,rfl⟩
 rw[← HI.out]
 go_wp2_with fail
 go_ret3
 exact⟨rfl,Below.refl _ _⟩
theorem azk (s:ByteArray) (c:UInt8) (i:Nat) (w:World) (hs:s.size≤1000000) (hi:i<s.size) (h:Hid (aef s c=(i:Int))) :
 Calls Tryz.prog 134 #[.string s,.string ⟨#[c]⟩] w fun e w'=>e=.returned (.tuple #[.string (s.extract 0 i),.string (s.extract (i+1) s.size),.bool true])∧Below w.heap.size w w':=by
 have i1:(0:Int) ≤(i:Int):=Int.natCast_nonneg _
 have i2:(i:Int) ≤(s.size:Int):=by omega
 have i5:(0:Int) ≤(i:Int)+1:=by omega
 have i6:(i:Int)+1 ≤(s.size:Int):=by omega
 have i4:IntKind.i64.wrap ((i:Int)+1)=(i:Int)+1:=IntWalk.i64_in _ (by omega)
 have i7:((i:Int)+1).toNat=i+1:=by omega
 go_enter Tryz.func134,Tryz.ntmps134
 go_wp2_with fail
 refine(ahu _ _ _).mono ?_
 rintro e w' ⟨rfl,rfl⟩
 rw[show Lib.indexByte s.data.toList c=(i:Int)from h.out]
 go_wp2_with fail
 go_quiet (fail)
 go_wp2_with fail
 go_ret3
 exact⟨rfl,v4 (Below.refl _ _) _⟩
theorem bgg (s:ByteArray) (c:UInt8) (w:World) (h:Hid (aef s c<0)) :
 Calls Tryz.prog 101 #[.string s,.string ⟨#[c]⟩] w fun e w'=>e=.returned (.tuple #[.string s,.string ByteArray.empty,.bool false])∧Below w.heap.size w w':=by
 go_enter Tryz.func101,Tryz.ntmps101
 go_wp2_with fail
 refine(a1k _ _ _ h).mono ?_
 rintro e w1 ⟨rfl,hb⟩
 go_wp2_with fail
 go_ret3
 exact⟨rfl,hb⟩
theorem bdz (s:ByteArray) (c:UInt8) (i:Nat) (w:World) (hs:s.size≤1000000) (hi:i<s.size) (h:Hid (aef s c=(i:Int))) :
 Calls Tryz.prog 101 #[.string s,.string ⟨#[c]⟩] w fun e w'=>e=.returned (.tuple #[.string (s.extract 0 i),.string (s.extract (i+1) s.size),.bool true])∧Below w.heap.size w w':=by
 go_enter Tryz.func101,Tryz.ntmps101
 go_wp2_with fail
 refine(azk _ _ i _ hs hi h).mono ?_
 rintro e w1 ⟨rfl,hb⟩
 go_wp2_with fail
 go_ret3
 exact⟨rfl,hb⟩
def okC (c:Int):Bool:=c==42 || ab7 c
def vh (t:ByteArray):Nat→Nat→Nat×Int
 | 0,_=>(0,7)
 | f+1,i=>if h:i<t.size then(if(t[i].toNat:Int)=13 then(i,0)else if okC (t[i].toNat:Int)then vh t f (i+1)else(0,3))else(0,2)
def xl (t:ByteArray):Nat×Int:=vh t 80 1
def ju (t:ByteArray):ByteArray:=if(xl t).2=0 then t.extract 1 (xl t).1 else ByteArray.empty
theorem av8 (t:ByteArray) (f i:Nat) (h:i<t.size) (hc:(t[i].toNat:Int)=13):vh t (f+1) i=(i,0):=by
 unfold vh;rw[dif_pos h,if_pos hc]
theorem am6 (t:ByteArray) (f i:Nat) (h:i<t.size) (hc:(t[i].toNat:Int)≠13) (ho:okC (t[i].toNat:Int)=true):vh t (f+1) i=vh t f (i+1):=by
 rw[vh,dif_pos h,if_neg hc,if_pos ho]
theorem a57 (t:ByteArray) (f i:Nat) (h:i<t.size) (hc:(t[i].toNat:Int)≠13) (ho:okC (t[i].toNat:Int)=false):vh t (f+1) i=(0,3):=by
 rw[vh,dif_pos h,if_neg hc,if_neg (by rw[ho];decide)]
theorem avn (t:ByteArray) (f i:Nat) (h:¬i<t.size):vh t (f+1) i=(0,2):=by
 rw[vh,dif_neg h]
theorem ac3 (t:ByteArray) (w:World) (hm:t.size≤1000000) :
 Calls Tryz.prog 79 #[.string t] w fun e w'=>e=.returned (.tuple #[.string (ju t),.int .i64 (xl t).2])∧w=w':=by
 go_enter Tryz.func79,Tryz.ntmps79
 go_wp2
 go_loop [4] (fun i=>∃k:Nat,1≤k∧k≤81∧i=.int .i64 k∧Hid (vh t (81-k) k=xl t)) (fun i=>81-(intOf i).toNat)
 case atStart=>exact⟨1,by omega,by omega,rfl,rfl⟩
 case round=>
  obtain⟨k,hk0,hk,rfl,he⟩:=hrel
  by_cases h81:k<81
  ·have hf:Hid (81-k=(80-k)+1):=by show _=_;omega
   by_cases hlt:k<t.size
   ·have hu:=t[k].toNat_lt
    by_cases h13:(t[k].toNat:Int)=13
    ·have HE:Hid (xl t=(k,0)):=by show _=_;rw[← he.out,hf.out,av8 t _ k hlt h13]
     have hb:((t[k].toNat:Int)==13)=true:=by rw[beq_iff_eq];exact h13
     clear h13
     go_wp2_with fail
     go_ret2
     exact⟨by first|(unfold ju;rw[HE.out];rfl)|(rw[HE.out];rfl),rfl⟩
    ·have hb:((t[k].toNat:Int)==13)=false:=by rw[beq_eq_false_iff_ne];exact h13
     cases hl:ab7 (t[k].toNat:Int)with
     | true=>
      have HE:Hid (vh t (81-(k+1)) (k+1)=xl t):=by show _=_;rw[← he.out,hf.out,am6 t _ k hlt h13 (by unfold okC;rw[hl];simp)];rw[show 81-(k+1)=80-k from by omega]
      have hn42:(t[k].toNat:Int)≠42:=by intro h;rw[h]at hl;exact absurd hl (by decide)
      have hb42:((t[k].toNat:Int) != 42)=true:=by rw[bne_iff_ne];exact hn42
      have HL:=hid hl
      clear hl h13 hn42
      go_wp2_with fail
      refine(ain _ _).mono ?_
      rintro e w' ⟨rfl,rfl⟩
      rw[HL.out]
      go_wp2_with fail
      go_round
      case rel=>exact⟨k+1,by omega,by omega,by go_num,HE⟩
      case measure=>simp[intOf];omega
     | false=>
      by_cases h42:(t[k].toNat:Int)=42
      ·have HE:Hid (vh t (81-(k+1)) (k+1)=xl t):=by show _=_;rw[← he.out,hf.out,am6 t _ k hlt h13 (by unfold okC;rw[h42];rfl)];rw[show 81-(k+1)=80-k from by omega]
       have hb42:((t[k].toNat:Int) != 42)=false:=by rw[bne_eq_false_iff_eq];exact h42
       have HL:=hid hl
       clear hl h13 h42
       go_wp2_with fail
       first
        | (refine(ain _ _).mono ?_
           rintro e w' ⟨rfl,rfl⟩
           rw[HL.out]
           go_wp2_with fail)
        | skip
       go_round
       case rel=>exact⟨k+1,by omega,by omega,by go_num,HE⟩
       case measure=>simp[intOf];omega
      ·have HE:Hid (xl t=(0,3)):=by show _=_;rw[← he.out,hf.out,a57 t _ k hlt h13 (by unfold okC;rw[hl,beq_eq_false_iff_ne.2 h42];rfl)]
       have hb42:((t[k].toNat:Int) != 42)=true:=by rw[bne_iff_ne];exact h42
       have HL:=hid hl
       clear hl h13 h42
       go_wp2_with fail
       refine(ain _ _).mono ?_
       rintro e w' ⟨rfl,rfl⟩
       rw[HL.out]
       go_wp2_with fail
       go_ret2
       exact⟨by first|(unfold ju;rw[HE.out];rfl)|(rw[HE.out];rfl),rfl⟩
   ·have HE:Hid (xl t=(0,2)):=by show _=_;rw[← he.out,hf.out,avn t _ k hlt]
    go_wp2_with fail
    go_ret2
    exact⟨by first|(unfold ju;rw[HE.out];rfl)|(rw[HE.out];rfl),rfl⟩
  ·have HE:Hid (xl t=(0,7)):=by show _=_;rw[← he.out,show 81-k=0 from by omega];rfl
   go_wp2_with fail
   go_ret2
   exact⟨by first|(unfold ju;rw[HE.out];rfl)|(rw[HE.out];rfl),rfl⟩
def abz (l:List UInt8):Nat:=l.count 42
theorem ahq (a b:List UInt8):abz (a++b)=abz a+abz b:=by simp[abz]
theorem aah (s:ByteArray) (w:World):Calls Tryz.prog 97 #[.string s,.int .u8 42] w fun e w'=>e=.returned (.int .i64 (aef s 42))∧w=w':=ap4 s 42 w
def zn (l:ByteArray):Bool:=
 decide (8≤l.size) && decide (aef l 42=(l.size:Int)-3) && abq (l.extract 0 5) 5 && (jd (l.extract (l.size-3+1) l.size).data.toList).isSome && (decide (l.size=8) || decide (l.data.toList[5]?=some 44))
theorem ast (l:ByteArray) (w:World) (h:l.size<8):Calls Tryz.prog 80 #[.string l] w fun e w'=>e=.returned (.bool false)∧Below w.heap.size w w':=by
 go_enter Tryz.func80,Tryz.ntmps80
 go_wp2
 go_ret
 exact⟨rfl,Below.refl _ _⟩
theorem atx (l:ByteArray) (n:Nat) (I:Int) (w:World) (h0:n+3≤l.size) (h1:l.size≤n+3) (h5:5≤n) (hm:l.size≤1000000) (e1:(l.size:Int)-3=(n:Int)) (hI:Hid (aef l 42=I)) (hne:(I != (n:Int))=true) :
 Calls Tryz.prog 80 #[.string l] w fun e w'=>e=.returned (.bool false)∧Below w.heap.size w w':=by
 go_enter Tryz.func80,Tryz.ntmps80
 go_wp2_with fail
 refine(aah _ _).mono ?_
 rintro e w' ⟨rfl,rfl⟩
 rw[hI.out]
 go_wp2_with fail
 go_ret
 exact⟨rfl,Below.refl _ _⟩
theorem ate (l:ByteArray) (n:Nat) (w:World) (h0:n+3≤l.size) (h1:l.size≤n+3) (h5:5≤n) (hm:l.size≤1000000) (e1:(l.size:Int)-3=(n:Int)) (hI:Hid (aef l 42=(n:Int))) (hs:Hid (abq (l.extract 0 5) 5=false)) :
 Calls Tryz.prog 80 #[.string l] w fun e w'=>e=.returned (.bool false)∧Below w.heap.size w w':=by
 go_enter Tryz.func80,Tryz.ntmps80
 go_wp2_with fail
 refine(aah _ _).mono ?_
 rintro e w' ⟨rfl,rfl⟩
 rw[hI.out]
 go_wp2_with fail
 refine(ag8 _ 5 _).mono ?_
 rintro e w1 ⟨rfl,hb1⟩
 rw[hs.out]
 go_wp2_with fail
 go_ret
 exact⟨rfl,hb1⟩
theorem as2 (l:ByteArray) (n:Nat) (w:World) (h0:n+3≤l.size) (h1:l.size≤n+3) (h5:5≤n) (hm:l.size≤1000000) (e1:(l.size:Int)-3=(n:Int)) (hI:Hid (aef l 42=(n:Int))) (hs:Hid (abq (l.extract 0 5) 5=true))
 (hu:Hid (jd (l.extract (n+1) l.size).data.toList=none)) :
 Calls Tryz.prog 80 #[.string l] w fun e w'=>e=.returned (.bool false)∧Below w.heap.size w w':=by
 go_enter Tryz.func80,Tryz.ntmps80
 go_wp2_with fail
 refine(aah _ _).mono ?_
 rintro e w' ⟨rfl,rfl⟩
 rw[hI.out]
 go_wp2_with fail
 refine(ag8 _ 5 _).mono ?_
 rintro e w1 ⟨rfl,hb1⟩
 rw[hs.out]
 go_wp2_with fail
 refine(amt _ _ hu).mono ?_
 rintro e w2 ⟨rfl,hb2⟩
 go_wp2_with fail
 go_ret
 exact⟨rfl,qb hb1 hb2⟩
theorem aw5 (l:ByteArray) (n:Nat) (v:Int) (w:World) (h0:n+3≤l.size) (h1:l.size≤n+3) (h5:5≤n) (h6:n≤5) (hm:l.size≤1000000) (e1:(l.size:Int)-3=(n:Int)) (hI:Hid (aef l 42=(n:Int))) (hs:Hid (abq (l.extract 0 5) 5=true))
 (hu:Hid (jd (l.extract (n+1) l.size).data.toList=some v)) :
 Calls Tryz.prog 80 #[.string l] w fun e w'=>e=.returned (.bool true)∧Below w.heap.size w w':=by
 have hb:((n:Int)==5)=true:=by rw[beq_iff_eq];omega
 go_enter Tryz.func80,Tryz.ntmps80
 go_wp2_with fail
 refine(aah _ _).mono ?_
 rintro e w' ⟨rfl,rfl⟩
 rw[hI.out]
 go_wp2_with fail
 refine(ag8 _ 5 _).mono ?_
 rintro e w1 ⟨rfl,hb1⟩
 rw[hs.out]
 go_wp2_with fail
 refine(afk _ v _ hu).mono ?_
 rintro e w2 ⟨rfl,hb2⟩
 go_wp2_with fail
 go_ret
 exact⟨rfl,qb hb1 hb2⟩
theorem a2t (l:ByteArray) (n:Nat) (v:Int) (b:Bool) (w:World) (h0:n+3≤l.size) (h1:l.size≤n+3) (h5:6≤n) (hm:l.size≤1000000) (e1:(l.size:Int)-3=(n:Int)) (hI:Hid (aef l 42=(n:Int))) (hs:Hid (abq (l.extract 0 5) 5=true))
 (hu:Hid (jd (l.extract (n+1) l.size).data.toList=some v)) (hc:(((l[5]'(by omega)).toNat:Int)==44)=b) :
 Calls Tryz.prog 80 #[.string l] w fun e w'=>e=.returned (.bool b)∧Below w.heap.size w w':=by
 have hb:((n:Int)==5)=false:=by rw[beq_eq_false_iff_ne];omega
 go_enter Tryz.func80,Tryz.ntmps80
 go_wp2_with fail
 refine(aah _ _).mono ?_
 rintro e w' ⟨rfl,rfl⟩
 rw[hI.out]
 go_wp2_with fail
 refine(ag8 _ 5 _).mono ?_
 rintro e w1 ⟨rfl,hb1⟩
 rw[hs.out]
 go_wp2_with fail
 refine(afk _ v _ hu).mono ?_
 rintro e w2 ⟨rfl,hb2⟩
 go_wp2_with fail
 go_ret
 exact⟨rfl,qb hb1 hb2⟩
theorem bcg (s:ByteArray) (n:Nat) (h:n<s.size):(s.data.toList[n]?=some 44) ↔(s[n].toNat:Int)=44:=by
 rw[asj s n h]
 constructor
 ·intro h
  injection h with h
  rw[h]
  rfl
 ·intro h
  congr 1
  apply UInt8.toNat_inj.1
  have:(44:UInt8).toNat=44:=rfl
  omega
theorem afj (l:ByteArray) (w:World) (hm:l.size≤1000000):Calls Tryz.prog 80 #[.string l] w fun e w'=>e=.returned (.bool (zn l))∧Below w.heap.size w w':=by
 by_cases h8:l.size<8
 ·have hf:zn l=false:=by unfold zn;rw[decide_eq_false (by omega:¬8≤l.size)];rfl
  rw[hf]
  exact ast l w h8
 ·obtain⟨n,hn⟩:∃n,l.size=n+3:=⟨l.size-3,by omega⟩
  have e1:(l.size:Int)-3=(n:Int):=by omega
  have e2:l.size-3=n:=by omega
  have d8:decide (8≤l.size)=true:=decide_eq_true (by omega)
  by_cases hI:aef l 42=(n:Int)
  ·have dI:decide (aef l 42=(l.size:Int)-3)=true:=decide_eq_true (by omega)
   cases hs:abq (l.extract 0 5) 5 with
   | false=>
    have hf:zn l=false:=by unfold zn;rw[hs];simp
    rw[hf]
    exact ate l n w (by omega) (by omega) (by omega) hm e1 hI hs
   | true=>
    cases hu:jd (l.extract (n+1) l.size).data.toList with
    | none=>
     have hf:zn l=false:=by unfold zn;rw[e2,hu];simp
     rw[hf]
     exact as2 l n w (by omega) (by omega) (by omega) hm e1 hI hs hu
    | some v=>
     have hf:zn l=(decide (l.size=8) || decide (l.data.toList[5]?=some 44)):=by unfold zn;rw[e2,hu,d8,dI,hs];rfl
     rw[hf]
     by_cases h5:n=5
     ·rw[decide_eq_true (by omega:l.size=8),Bool.true_or]
      exact aw5 l n v w (by omega) (by omega) (by omega) (by omega) hm e1 hI hs hu
     ·rw[decide_eq_false (by omega:¬l.size=8),Bool.false_or]
      refine a2t l n v _ w (by omega) (by omega) (by omega) hm e1 hI hs hu ?_
      have hc:=bcg l 5 (by omega)
      by_cases h:((l[5]'(by omega)).toNat:Int)=44
      ·rw[decide_eq_true (hc.2 h),beq_iff_eq];exact h
      ·rw[decide_eq_false (fun h'=>h (hc.1 h')),beq_eq_false_iff_ne];exact h
  ·have hf:zn l=false:=by unfold zn;rw[decide_eq_false (by omega:¬aef l 42=(l.size:Int)-3)];simp
   rw[hf]
   exact atx l n _ w (by omega) (by omega) (by omega) hm e1 rfl (by rw[bne_iff_ne];exact hI)
def j7:List UInt8→List (List UInt8)
 | []=>[[]]
 | b::l=>if b=44 then []::j7 l else match j7 l with
  | []=>[[b]]
  | h::r=>(b::h)::r
theorem aha (l:List UInt8):j7 l≠[]:=by
 cases l with
 | nil=>simp[j7]
 | cons b l=>
  unfold j7
  split
  ·simp
  ·split<;>simp
def ahs (p:List UInt8):List (List UInt8)→List (List UInt8)
 | []=>[p]
 | h::r=>(p++h)::r
theorem ak5 (b:UInt8) (l:List UInt8) (h:b≠44):j7 (b::l)=ahs [b] (j7 l):=by
 rw[j7,if_neg h]
 cases hs:j7 l with
 | nil=>exact absurd hs (aha l)
 | cons x r=>rfl
theorem ajm (l:List UInt8):j7 (44::l)=[]::j7 l:=by rw[j7,if_pos rfl]
theorem ayh (p q:List UInt8) (x:List (List UInt8)) (hx:x≠[]):ahs p (ahs q x)=ahs (p++q) x:=by
 cases x with
 | nil=>exact absurd rfl hx
 | cons h r=>simp[ahs]
theorem a7u (x:List (List UInt8)) (hx:x≠[]):ahs [] x=x:=by
 cases x with
 | nil=>exact absurd rfl hx
 | cons h r=>simp[ahs]
theorem ahr (p q:List UInt8) (h:∀c∈p,c≠44):j7 (p++q)=ahs p (j7 q):=by
 induction p with
 | nil=>rw[List.nil_append,a7u _ (aha q)]
 | cons b p ih=>
  rw[List.cons_append,ak5 b _ (h b (by simp)),ih (fun c hc=>h c (by simp[hc])),ayh _ _ _ (aha q)]
  rfl
theorem ay1 (p:List UInt8) (h:∀c∈p,c≠44):j7 p=[p]:=by
 have:=ahr p [] h
 rw[List.append_nil]at this
 rw[this]
 simp[j7,ahs]
theorem a5j (p q:List UInt8) (h:∀c∈p,c≠44):j7 (p++44::q)=p::j7 q:=by
 rw[ahr p _ h,ajm]
 simp[ahs]
theorem a7g (l:List UInt8) (c:UInt8) (h:Lib.indexByte l c<0):∀x∈l,x≠c:=by
 induction l with
 | nil=>intro x hx;simp at hx
 | cons b l ih=>
  unfold Lib.indexByte at h
  by_cases hb:b==c
  ·rw[if_pos hb]at h;omega
  ·rw[if_neg hb]at h
   have hge:=Lib.indexByte_ge l c
   by_cases hl:Lib.indexByte l c==-1
   ·have:Lib.indexByte l c<0:=by rw[beq_iff_eq]at hl;omega
    intro x hx
    rcases List.mem_cons.1 hx with rfl|hx
    ·simpa using hb
    ·exact ih this x hx
   ·rw[if_neg hl]at h
    rw[beq_iff_eq]at hl
    omega
theorem ayc (l:List UInt8) (c:UInt8):∀i:Nat,Lib.indexByte l c=(i:Int)→i<l.length∧l=l.take i++c::l.drop (i+1)∧∀x∈l.take i,x≠c:=by
 induction l with
 | nil=>intro i h;simp[Lib.indexByte]at h
 | cons b l ih=>
  intro i h
  unfold Lib.indexByte at h
  by_cases hb:b==c
  ·rw[if_pos hb]at h
   have:i=0:=by omega
   subst this
   have:b=c:=by simpa using hb
   subst this
   exact⟨by simp,by simp,fun x hx=>by simp at hx⟩
  ·rw[if_neg hb]at h
   by_cases hl:Lib.indexByte l c==-1
   ·rw[if_pos hl]at h;omega
   ·rw[if_neg hl]at h
    have hge:=Lib.indexByte_ge l c
    obtain⟨j,rfl⟩:∃j,i=j+1:=⟨i-1,by rw[beq_iff_eq]at hl;omega⟩
    obtain⟨h1,h2,h3⟩:=ih j (by omega)
    refine⟨by simp;omega,?_,?_⟩
    ·rw[List.take_succ_cons,List.drop_succ_cons,List.cons_append,← h2]
    ·intro x hx
     rw[List.take_succ_cons]at hx
     rcases List.mem_cons.1 hx with rfl|hx
     ·simpa using hb
     ·exact h3 x hx
def toS (l:List UInt8):ByteArray:=⟨l.toArray⟩
def kh (s:ByteArray):List ByteArray:=(j7 s.data.toList).map toS
theorem av4 (s:ByteArray):toS s.data.toList=s:=by obtain⟨⟨l⟩⟩:=s;rfl
theorem vc (s:ByteArray) (a b:Nat):s.extract a b=toS ((s.data.toList.drop a).take (b-a)):=by
 obtain⟨⟨l⟩⟩:=s
 exact ByteArray.extract_mk l a b
theorem a65 (s:ByteArray) (h:aef s 44<0):kh s=[s]:=by
 unfold kh
 rw[ay1 _ (a7g _ _ h),List.map_singleton,av4]
theorem a6g (s:ByteArray) (i:Nat) (h:aef s 44=(i:Int)):i<s.size∧kh s=s.extract 0 i::kh (s.extract (i+1) s.size):=by
 obtain⟨h1,h2,h3⟩:=ayc _ _ i h
 have hl:s.data.toList.length=s.size:=by simp
 refine⟨by omega,?_⟩
 have e1:s.extract 0 i=toS (s.data.toList.take i):=by rw[vc];simp
 have e2:s.extract (i+1) s.size=toS (s.data.toList.drop (i+1)):=by
  rw[vc,List.take_of_length_le (by rw[List.length_drop];omega)]
 rw[e1,e2]
 unfold kh
 have e3:j7 s.data.toList=s.data.toList.take i::j7 (s.data.toList.drop (i+1)):=by
  conv=>lhs;rw[h2]
  exact a5j _ _ h3
 rw[e3]
 rfl
theorem ayu {w:World} {B:Nat} {e:TypeId} {A:Option Addr} {n c:Nat} {fs:List ByteArray} (h:w.ownsRow B e 1 (.slice A n c) n (fs.map Value.string)):fs.length=n∧vf w w.heap.size A fs∧yt B A:=by
 have hl:fs.length=n:=by have:=h.1;simpa using this
 refine⟨hl,?_,fun a ha=>?_⟩
 ·intro k hk
  rcases h.2 with⟨hv,h0⟩|⟨g,cap,cur,hv,_,hg,_⟩
  ·omega
  ·have hA:A=some ⟨g,0,none⟩:=by injection hv
   subst hA
   have hc:=h.cells (g:=g) rfl k (.string fs[k]) (by simp[hk])
   exact⟨g,0,rfl,(Array.getElem?_eq_some_iff.1 hg).1,by
    have:(⟨g,0,none⟩:Addr).add k=⟨g,0+k,none⟩:=by unfold Addr.add;split<;>simp_all
    rw[← this];exact hc⟩
 ·rcases h.2 with⟨hv,h0⟩|⟨g,cap,cur,hv,hb,hg,_⟩
  ·have hA:A=none:=by injection hv
   rw[hA]at ha
   cases ha
  ·have hA:A=some ⟨g,0,none⟩:=by injection hv
   rw[hA]at ha
   injection ha with ha
   rw[← ha]
   exact hb
theorem aqr {w w':World} {B:Nat} {e:TypeId} {size n:Nat} {v:Value} {xs:List Value} (h:w.ownsRow B e size v n xs) (hb:Below w.heap.size w w'):w'.ownsRow B e size v n xs:=
 h.kept (row:=none) ⟨hb.os,hb.tape,hb.output,hb.size,fun i hi _=>hb.block i hi⟩ (Classical.em _)
theorem bbf {w:World} {B:Nat} {e:TypeId} {size n:Nat} {v:Value} {xs:List Value} (h:w.ownsRow B e size v n xs):∃A c,v=.slice A n c:=by
 rcases h.2 with⟨hv,h0⟩|⟨g,cap,cur,hv,_⟩
 ·exact⟨none,0,by rw[hv,h0]⟩
 ·exact⟨_,_,hv⟩
def a4l:Value→Nat
 | .string s=>s.size
 | _=>0
theorem bbr:(Tryz.prog.info? 9).map (fun i=>(i.zero,i.size,i.bytes))=some (some (.string ByteArray.empty),1,16):=by kernel_rfl
def a90 (fs:List ByteArray) (w:World) (e:Ending) (w':World):Prop:=
 ∃A c,e=.returned (.slice A fs.length c)∧vf w' w'.heap.size A fs∧yt w.heap.size A∧Below w.heap.size w w'
theorem bdt (S:ByteArray) (w:World) (hm:S.size≤100000) :
 Calls Tryz.prog 82 #[.string S] w (a90 (kh S) w):=by
 obtain⟨i0,hi,hz0,hz1,hz2⟩:=info_parts bbr
 go_enter Tryz.func82,Tryz.ntmps82
 go_wp2
 go_step3
 go_wp2
 go_step3
 go_wp2
 have hS0:Hid (kh S=[]++kh S):=rfl
 go_loopw [0,3] (fun sv v wr=>∃(s:ByteArray) (parts:List ByteArray),sv=.string s∧parts.length+s.size≤S.size∧Hid (wr.ownsRow w.heap.size 9 1 v parts.length (parts.map Value.string))∧Below w.heap.size w wr∧Hid (kh S=parts++kh s)) (fun sv _ _=>a4l sv)
 case atStart=>exact⟨S,[],rfl,by simp,World.ownsRow_nil _ _ _ _,Below.refl _ _,hS0⟩
 case round=>
  obtain⟨s,parts,rfl,hlen,hown,hbr,hsp⟩:=hrel
  have hzr:=hbr.size
  by_cases hc:aef s 44<0
  ·have HN:=hid (a65 s hc)
   have HC:=hid hc
   clear hc
   go_wp2_with fail
   refine(bgg s 44 _ HC).mono ?_
   rintro e w1 ⟨rfl,hb1⟩
   have hs1:=hb1.size
   have HO:=hid (aqr hown.out hb1)
   go_wp2_with (at_builtin;refine wpList_append_own _ rfl _ _ 148 rfl w.heap.size 9 i0 (.string ByteArray.empty) 1 16 Tryz.underlying148 hi hz0 hz1 hz2 rfl (by decide) _ _ _ rfl (HO.out.alloc _) ⟨w1.heap.size,0,none⟩ 1 1 [.string s] rfl rfl ?c1 ?c2 ?c3 ?c4 ?c5 ?_)
   case c1=>exact cell_one_new _ _ _
   case c2=>intro u hu;simp at hu;subst hu;rfl
   case c3=>unfold maxLen;omega
   case c4=>omega
   case c5=>simp;omega
   intro v' w2 hown' hgrow _
   have hbb:Hid (Below w.heap.size w w2):=(((hbr.trans (hb1.mono (by omega))).alloc (by omega) _).grown hgrow (by simp;omega) (fun k hk=>(HO.out.lt k hk).1))
   obtain⟨A,c,hv⟩:=bbf hown'
   have hst:Hid ((kh S).length=parts.length+1∧vf w2 w2.heap.size A (kh S)∧yt w.heap.size A):=by
    have e1:kh S=parts++[s]:=by rw[hsp.out,HN.out]
    have h2:w2.ownsRow w.heap.size 9 1 (.slice A (parts.length+1) c) (parts.length+1) ((parts++[s]).map Value.string):=by rw[← hv];simpa using hown'
    rw[e1]
    exact ayu h2
   clear hown' hgrow hsp
   rw[hv]
   go_wp2_with fail
   rw[Exit.noGoto_ret]
   go_ret
   exact⟨A,c,by rw[hst.out.1];rfl,hst.out.2.1,hst.out.2.2,hbb.out⟩
  ·obtain⟨i,hci⟩:∃i:Nat,aef s 44=(i:Int):=⟨(aef s 44).toNat,by omega⟩
   obtain⟨hil,hsa⟩:=a6g s i hci
   have HN:=hid hsa
   have HC:=hid hci
   clear hc hci hsa
   go_wp2_with fail
   refine(bdz s 44 i _ (by omega) hil HC).mono ?_
   rintro e w1 ⟨rfl,hb1⟩
   have hs1:=hb1.size
   have HO:=hid (aqr hown.out hb1)
   go_wp2_with (at_builtin;refine wpList_append_own _ rfl _ _ 148 rfl w.heap.size 9 i0 (.string ByteArray.empty) 1 16 Tryz.underlying148 hi hz0 hz1 hz2 rfl (by decide) _ _ _ rfl (HO.out.alloc _) ⟨w1.heap.size,0,none⟩ 1 1 [.string (s.extract 0 i)] rfl rfl ?d1 ?d2 ?d3 ?d4 ?d5 ?_)
   case d1=>exact cell_one_new _ _ _
   case d2=>intro u hu;simp at hu;subst hu;rfl
   case d3=>unfold maxLen;omega
   case d4=>omega
   case d5=>simp;omega
   intro v' w2 hown' hgrow _
   have hbb:Hid (Below w.heap.size w w2):=(((hbr.trans (hb1.mono (by omega))).alloc (by omega) _).grown hgrow (by simp;omega) (fun k hk=>(HO.out.lt k hk).1))
   have hown2:Hid (w2.ownsRow w.heap.size 9 1 v' (parts++[s.extract 0 i]).length ((parts++[s.extract 0 i]).map Value.string)):=by show w2.ownsRow _ _ _ _ _ _;simpa using hown'
   have hsp2:Hid (kh S=(parts++[s.extract 0 i])++kh (s.extract (i+1) s.size)):=by show _=_;rw[hsp.out,HN.out];simp
   clear hown' hgrow hsp
   go_wp2_with fail
   go_roundw
   case rel=>
    refine⟨s.extract (i+1) s.size,parts++[s.extract 0 i],rfl,?_,hown2,hbb.out,hsp2⟩
    rw[List.length_append,List.length_singleton,ByteArray.size_extract]
    omega
   case measure=>
    simp only[a4l,ByteArray.size_extract]
    omega
def xt (t:ByteArray):(ByteArray×ByteArray×List ByteArray)×Nat×Int:=
 if t.size=0 then((ByteArray.empty,ByteArray.empty,[]),0,2)
 else if t.data.toList[0]?≠some 36 then((ByteArray.empty,ByteArray.empty,[]),0,3)
 else if(xl t).2≠0 then((ByteArray.empty,ByteArray.empty,[]),0,(xl t).2)
 else if t.size<(xl t).1+2 then((ByteArray.empty,ByteArray.empty,[]),0,2)
 else if t.data.toList[(xl t).1+1]?≠some 10∨zn (ju t)=false then((ByteArray.empty,ByteArray.empty,[]),0,3)
 else match vg (ju t)with
  | none=>((ByteArray.empty,ByteArray.empty,[]),0,4)
  | some b=>((b.extract 0 2,b.extract 2 5,if 5<b.size then kh (b.extract 6 b.size)else []),(xl t).1+2,0)
def jx (r:(ByteArray×ByteArray×List ByteArray)×Nat×Int) (w:World) (e:Ending) (w':World):Prop:=
 ∃A c,e=.returned (.tuple #[.agg #[.string r.1.1,.string r.1.2.1,.slice A r.1.2.2.length c],.int .i64 (r.2.1:Int),.int .i64 r.2.2])∧vf w' w'.heap.size A r.1.2.2∧yt w.heap.size A∧Below w.heap.size w w'
theorem jx.err (n:Int) {w w':World} (hb:Below w.heap.size w w'):jx ((ByteArray.empty,ByteArray.empty,[]),0,n) w (.returned (.tuple #[.agg #[.string ⟨#[]⟩,.string ⟨#[]⟩,.slice none 0 0],.int .i64 0,.int .i64 n])) w':=
 ⟨none,0,rfl,fun k hk=>absurd hk (by simp),yt.none_,hb⟩
theorem afi (t:ByteArray):∀f i j:Nat,vh t f i=(j,0)→i≤j∧j<i+f∧j<t.size:=by
 intro f
 induction f with
 | zero=>intro i j h;simp[vh]at h
 | succ f ih=>
  intro i j h
  unfold vh at h
  by_cases hi:i<t.size
  ·rw[dif_pos hi]at h
   by_cases h13:(t[i].toNat:Int)=13
   ·rw[if_pos h13]at h
    have:i=j:=by injection h
    omega
   ·rw[if_neg h13]at h
    by_cases ho:okC (t[i].toNat:Int)=true
    ·rw[if_pos ho]at h
     have:=ih _ _ h
     omega
    ·rw[if_neg ho]at h
     simp at h
  ·rw[dif_neg hi]at h
   simp at h
theorem axa (w:World) (g:Nat) (p:Addr) (hp:p.block≠g) (x v0 v1 v2 o0 o1 o2:Value) (h0:w.cell? ⟨g,0,none⟩=some o0) (h1:w.cell? ⟨g,1,none⟩=some o1) (h2:w.cell? ⟨g,2,none⟩=some o2) :
 ((((w.setCell p x).setCell ⟨g,0,none⟩ v0).setCell ⟨g,1,none⟩ v1).setCell ⟨g,2,none⟩ v2).cell? ⟨g,0,none⟩=some v0 ∧
 ((((w.setCell p x).setCell ⟨g,0,none⟩ v0).setCell ⟨g,1,none⟩ v1).setCell ⟨g,2,none⟩ v2).cell? ⟨g,1,none⟩=some v1 ∧
 ((((w.setCell p x).setCell ⟨g,0,none⟩ v0).setCell ⟨g,1,none⟩ v1).setCell ⟨g,2,none⟩ v2).cell? ⟨g,2,none⟩=some v2:=by
 have k:∀j,(w.setCell p x).cell? ⟨g,j,none⟩=w.cell? ⟨g,j,none⟩:=fun j=>World.cell?_setCell_other w p _ x (fun e=>by subst e;exact hp rfl)
 have n01:(⟨g,1,none⟩:Addr) ≠⟨g,0,none⟩:=by simp
 have n02:(⟨g,2,none⟩:Addr) ≠⟨g,0,none⟩:=by simp
 have n12:(⟨g,2,none⟩:Addr) ≠⟨g,1,none⟩:=by simp
 have n10:(⟨g,0,none⟩:Addr) ≠⟨g,1,none⟩:=by simp
 refine⟨?_,?_,?_⟩
 ·rw[World.cell?_setCell_other _ _ _ _ n02,World.cell?_setCell_other _ _ _ _ n01]
  exact World.cell?_setCell_same _ _ _ ((k 0).trans h0)
 ·rw[World.cell?_setCell_other _ _ _ _ n12]
  exact World.cell?_setCell_same _ _ _ ((World.cell?_setCell_other _ _ _ _ n10).trans ((k 1).trans h1))
 ·refine World.cell?_setCell_same _ _ _ (((World.cell?_setCell_other _ _ _ _ (fun e=>n12 e.symm)).trans ((World.cell?_setCell_other _ _ _ _ (fun e=>n02 e.symm)).trans ((k 2).trans h2))))
theorem awz {s:ByteArray} (h:s.size=0):s=ByteArray.empty:=by
 obtain⟨⟨l⟩⟩:=s
 cases l with
 | nil=>rfl
 | cons a l=>simp[ByteArray.size]at h
theorem avf (w:World):Calls Tryz.prog 62 #[.string ByteArray.empty] w (jx ((ByteArray.empty,ByteArray.empty,[]),0,2) w):=by
 go_enter Tryz.func62,Tryz.ntmps62
 go_wp2
 exact bodyPost_ret (v:=.tuple #[.agg #[.string ⟨#[]⟩,.string ⟨#[]⟩,.slice none 0 0],.int .i64 0,.int .i64 2]) (by simp[results,Tryz.results62,go_sem]) rfl (jx.err 2 (qa _ _))
theorem a04 (t:ByteArray) (w:World) (hz:0<t.size) (h1:t.toList.isEmpty=false) (h2:(t.toList==[])=false) (hc:(((t[0]'hz).toNat:Int) != 36)=true):Calls Tryz.prog 62 #[.string t] w (jx ((ByteArray.empty,ByteArray.empty,[]),0,3) w):=by
 go_enter Tryz.func62,Tryz.ntmps62
 go_wp2
 exact bodyPost_ret (v:=.tuple #[.agg #[.string ⟨#[]⟩,.string ⟨#[]⟩,.slice none 0 0],.int .i64 0,.int .i64 3]) (by simp[results,Tryz.results62,go_sem]) rfl (jx.err 3 (qa _ _))
theorem a6u (t:ByteArray) (n:Int) (w:World) (hm:t.size≤1000000) (hz:0<t.size) (h1:t.toList.isEmpty=false) (h2:(t.toList==[])=false) (hc:(((t[0]'hz).toNat:Int) != 36)=false) (he:Hid ((xl t).2=n)) (hn:(n != 0)=true) :
 Calls Tryz.prog 62 #[.string t] w (jx ((ByteArray.empty,ByteArray.empty,[]),0,n) w):=by
 go_enter Tryz.func62,Tryz.ntmps62
 go_wp2_with fail
 refine(ac3 t _ hm).mono ?_
 rintro e w' ⟨rfl,rfl⟩
 rw[he.out]
 go_wp2_with fail
 exact bodyPost_ret (v:=.tuple #[.agg #[.string ⟨#[]⟩,.string ⟨#[]⟩,.slice none 0 0],.int .i64 0,.int .i64 n]) (by simp[results,Tryz.results62,go_sem]) rfl (jx.err n (qa _ _))
theorem a22 (t L:ByteArray) (i:Nat) (w:World) (hm:t.size≤1000000) (hz:0<t.size) (h1:t.toList.isEmpty=false) (h2:(t.toList==[])=false) (hc:(((t[0]'hz).toNat:Int) != 36)=false) (he:Hid ((xl t).2=0)) (hL:Hid (ju t=L))
 (hi:1≤i) (hl0:L.size+1≤i) (hl1:i≤L.size+1) (hs:t.size<i+2) (hi80:i≤80) :
 Calls Tryz.prog 62 #[.string t] w (jx ((ByteArray.empty,ByteArray.empty,[]),0,2) w):=by
 go_enter Tryz.func62,Tryz.ntmps62
 go_wp2_with fail
 refine(ac3 t _ hm).mono ?_
 rintro e w' ⟨rfl,rfl⟩
 rw[he.out,hL.out]
 go_wp2_with fail
 exact bodyPost_ret (v:=.tuple #[.agg #[.string ⟨#[]⟩,.string ⟨#[]⟩,.slice none 0 0],.int .i64 0,.int .i64 2]) (by simp[results,Tryz.results62,go_sem]) rfl (jx.err 2 (qa _ _))
theorem bbd (t L:ByteArray) (i:Nat) (w:World) (hm:t.size≤1000000) (hz:0<t.size) (h1:t.toList.isEmpty=false) (h2:(t.toList==[])=false) (hc:(((t[0]'hz).toNat:Int) != 36)=false) (he:Hid ((xl t).2=0)) (hL:Hid (ju t=L))
 (hi:1≤i) (hl0:L.size+1≤i) (hl1:i≤L.size+1) (hs:i+2≤t.size) (hi80:i≤80) (e1:1 +(L.size:Int)+2-1=((i+1:Nat):Int)) (ht:(((t[i+1]'(by omega)).toNat:Int) != 10)=true) :
 Calls Tryz.prog 62 #[.string t] w (jx ((ByteArray.empty,ByteArray.empty,[]),0,3) w):=by
 go_enter Tryz.func62,Tryz.ntmps62
 go_wp2_with fail
 refine(ac3 t _ hm).mono ?_
 rintro e w' ⟨rfl,rfl⟩
 rw[he.out,hL.out]
 go_wp2_with fail
 exact bodyPost_ret (v:=.tuple #[.agg #[.string ⟨#[]⟩,.string ⟨#[]⟩,.slice none 0 0],.int .i64 0,.int .i64 3]) (by simp[results,Tryz.results62,go_sem]) rfl (jx.err 3 (qa _ _))
theorem av9 (t L:ByteArray) (i:Nat) (w:World) (hm:t.size≤1000000) (hz:0<t.size) (h1:t.toList.isEmpty=false) (h2:(t.toList==[])=false) (hc:(((t[0]'hz).toNat:Int) != 36)=false) (he:Hid ((xl t).2=0)) (hL:Hid (ju t=L))
 (hi:1≤i) (hl0:L.size+1≤i) (hl1:i≤L.size+1) (hs:i+2≤t.size) (hi80:i≤80) (e1:1 +(L.size:Int)+2-1=((i+1:Nat):Int)) (ht:(((t[i+1]'(by omega)).toNat:Int) != 10)=false) (hf:Hid (zn L=false)) :
 Calls Tryz.prog 62 #[.string t] w (jx ((ByteArray.empty,ByteArray.empty,[]),0,3) w):=by
 go_enter Tryz.func62,Tryz.ntmps62
 go_wp2_with fail
 refine(ac3 t _ hm).mono ?_
 rintro e w' ⟨rfl,rfl⟩
 rw[he.out,hL.out]
 go_wp2_with fail
 refine(afj L _ (by omega)).mono ?_
 rintro e w1 ⟨rfl,hb1⟩
 rw[hf.out]
 obtain⟨c1,f1⟩:=qv hb1
 have hz1:=hb1.size
 simp at hz1
 have hz2:w.heap.size<w1.heap.size:=by omega
 go_wp2_with fail
 refine bodyPost_ret (v:=.tuple #[.agg #[.string ⟨#[]⟩,.string ⟨#[]⟩,.slice none 0 0],.int .i64 0,.int .i64 3]) (by simp[results,Tryz.results62,go_sem,c1]) rfl (jx.err 3 ?_)
 exact(((qb (qa _ _) hb1).setCell (p:=⟨w.heap.size,0,none⟩) (Nat.le_refl _) _).setCell (p:=⟨w.heap.size,1,none⟩) (Nat.le_refl _) _).setCell (p:=⟨w.heap.size,2,none⟩) (Nat.le_refl _) _
theorem a7e (t L:ByteArray) (i:Nat) (w:World) (hm:t.size≤1000000) (hz:0<t.size) (h1:t.toList.isEmpty=false) (h2:(t.toList==[])=false) (hc:(((t[0]'hz).toNat:Int) != 36)=false) (he:Hid ((xl t).2=0)) (hL:Hid (ju t=L))
 (hi:1≤i) (hl0:L.size+1≤i) (hl1:i≤L.size+1) (hs:i+2≤t.size) (hi80:i≤80) (e1:1 +(L.size:Int)+2-1=((i+1:Nat):Int)) (ht:(((t[i+1]'(by omega)).toNat:Int) != 10)=false) (hf:Hid (zn L=true)) (ho:Hid (vg L=none)) :
 Calls Tryz.prog 62 #[.string t] w (jx ((ByteArray.empty,ByteArray.empty,[]),0,4) w):=by
 go_enter Tryz.func62,Tryz.ntmps62
 go_wp2_with fail
 refine(ac3 t _ hm).mono ?_
 rintro e w' ⟨rfl,rfl⟩
 rw[he.out,hL.out]
 go_wp2_with fail
 refine(afj L _ (by omega)).mono ?_
 rintro e w1 ⟨rfl,hb1⟩
 rw[hf.out]
 go_wp2_with fail
 refine(ano L _ (by omega)).mono ?_
 rintro e w2 ⟨rfl,hb2⟩
 rw[ho.out]
 have hb12:=qb hb1 hb2
 obtain⟨c1,f1⟩:=qv hb12
 have hz1:=hb12.size
 simp at hz1
 have hz2:w.heap.size<w2.heap.size:=by omega
 go_wp2_with fail
 refine bodyPost_ret (v:=.tuple #[.agg #[.string ⟨#[]⟩,.string ⟨#[]⟩,.slice none 0 0],.int .i64 0,.int .i64 4]) (by simp[results,Tryz.results62,go_sem,c1]) rfl (jx.err 4 ?_)
 exact(((qb (qa _ _) hb12).setCell (p:=⟨w.heap.size,0,none⟩) (Nat.le_refl _) _).setCell (p:=⟨w.heap.size,1,none⟩) (Nat.le_refl _) _).setCell (p:=⟨w.heap.size,2,none⟩) (Nat.le_refl _) _
theorem a8l (t L b:ByteArray) (i:Nat) (w:World) (hm:t.size≤1000000) (hz:0<t.size) (h1:t.toList.isEmpty=false) (h2:(t.toList==[])=false) (hc:(((t[0]'hz).toNat:Int) != 36)=false) (he:Hid ((xl t).2=0)) (hL:Hid (ju t=L))
 (hi:1≤i) (hl0:L.size+1≤i) (hl1:i≤L.size+1) (hs:i+2≤t.size) (hi80:i≤80) (e1:1 +(L.size:Int)+2-1=((i+1:Nat):Int)) (ht:(((t[i+1]'(by omega)).toNat:Int) != 10)=false) (hf:Hid (zn L=true)) (ho:Hid (vg L=some b)) (hb5:b.size≤5) (hb6:5≤b.size) :
 Calls Tryz.prog 62 #[.string t] w (jx ((b.extract 0 2,b.extract 2 5,[]),i+2,0) w):=by
 have i1:(2:Int) ≤(b.size:Int):=by omega
 have i2:(5:Int) ≤(b.size:Int):=by omega
 go_enter Tryz.func62,Tryz.ntmps62
 go_wp2_with fail
 refine(ac3 t _ hm).mono ?_
 rintro e w' ⟨rfl,rfl⟩
 rw[he.out,hL.out]
 go_wp2_with fail
 refine(afj L _ (by omega)).mono ?_
 rintro e w1 ⟨rfl,hb1⟩
 rw[hf.out]
 go_wp2_with fail
 refine(ano L _ (by omega)).mono ?_
 rintro e w2 ⟨rfl,hb2⟩
 rw[ho.out]
 have hb12:=qb hb1 hb2
 obtain⟨c1,f1⟩:=qv hb12
 have hz1:=hb12.size
 simp at hz1
 have hz2:w.heap.size<w2.heap.size:=by omega
 go_wp2_with fail
 go_region_with (fail)
 go_wp2_with fail
 refine bodyPost_ret (v:=.tuple #[.agg #[.string (b.extract 0 2),.string (b.extract 2 5),.slice none 0 0],.int .i64 (1 +(L.size:Int)+2),.int .i64 0]) (by simp[results,Tryz.results62,go_sem,c1,hz2]) rfl ⟨none,0,?_,fun k hk=>absurd hk (by simp),yt.none_,?_⟩
 ·rw[show (1 +(L.size:Int)+2)=((i+2:Nat):Int)from by omega]
  rfl
 ·exact abi (((((qb (qa _ _) hb12).setCell (p:=⟨w.heap.size,0,none⟩) (Nat.le_refl _) _).setCell (p:=⟨w.heap.size,1,none⟩) (Nat.le_refl _) _).setCell (p:=⟨w.heap.size,2,none⟩) (Nat.le_refl _) _).alloc (by simp;omega) _)
theorem a4y (t L b:ByteArray) (i:Nat) (w:World) (hm:t.size≤1000000) (hz:0<t.size) (h1:t.toList.isEmpty=false) (h2:(t.toList==[])=false) (hc:(((t[0]'hz).toNat:Int) != 36)=false) (he:Hid ((xl t).2=0)) (hL:Hid (ju t=L))
 (hi:1≤i) (hl0:L.size+1≤i) (hl1:i≤L.size+1) (hs:i+2≤t.size) (hi80:i≤80) (e1:1 +(L.size:Int)+2-1=((i+1:Nat):Int)) (ht:(((t[i+1]'(by omega)).toNat:Int) != 10)=false) (hf:Hid (zn L=true)) (ho:Hid (vg L=some b)) (hb6:6≤b.size) (hbm:b.size≤1000) :
 Calls Tryz.prog 62 #[.string t] w (jx ((b.extract 0 2,b.extract 2 5,kh (b.extract 6 b.size)),i+2,0) w):=by
 have i1:(2:Int) ≤(b.size:Int):=by omega
 have i2:(5:Int) ≤(b.size:Int):=by omega
 have i3:(6:Int) ≤(b.size:Int):=by omega
 obtain⟨S,hS⟩:∃S,S=b.extract 6 b.size:=⟨_,rfl⟩
 have hSz:S.size≤1000:=by rw[hS,ByteArray.size_extract];omega
 rw[← hS]
 have HS:=hid hS
 clear hS
 go_enter Tryz.func62,Tryz.ntmps62
 go_wp2_with fail
 refine(ac3 t _ hm).mono ?_
 rintro e w' ⟨rfl,rfl⟩
 rw[he.out,hL.out]
 go_wp2_with fail
 refine(afj L _ (by omega)).mono ?_
 rintro e w1 ⟨rfl,hb1⟩
 rw[hf.out]
 go_wp2_with fail
 refine(ano L _ (by omega)).mono ?_
 rintro e w2 ⟨rfl,hb2⟩
 rw[ho.out]
 have hb12:=qb hb1 hb2
 obtain⟨c1,f1⟩:=qv hb12
 have hz1:=hb12.size
 simp at hz1
 have hz2:w.heap.size<w2.heap.size:=by omega
 go_wp2_with fail
 go_region_with (fail)
 go_wp2_with fail
 rw[← HS.out]
 refine(bdt S _ (by omega)).mono ?_
 rintro e w3 ⟨A,c,rfl,hst,hfr,hb3⟩
 obtain⟨c3,f3⟩:=qv hb3
 have hz3:=hb3.size
 simp at hz3
 have hz4:w2.heap.size<w3.heap.size:=by omega
 have hz5:w.heap.size<w3.heap.size:=by omega
 have HST:=hid hst
 clear hst
 obtain⟨n,hn⟩:∃n,n=(kh S).length:=⟨_,rfl⟩
 rw[← hn]
 have HN:=hid hn
 clear hn
 have HFR:=hid hfr
 clear hfr
 go_wp2_with fail
 have k2:∀o,w3.cell? ⟨w.heap.size,o,none⟩=(w.alloc (.cells #[.string ⟨#[]⟩,.string ⟨#[]⟩,.slice none 0 0] 150)).cell? ⟨w.heap.size,o,none⟩:=fun o=>by
  rw[c3 w.heap.size o (by simp;omega)]
  show (w2.alloc _).cell? _=_
  rw[World.cell?_alloc_lt w2 _ ⟨w.heap.size,o,none⟩ hz2]
  exact c1 w.heap.size o (by simp)
 obtain⟨q0,q1,q2⟩:=axa w3 w.heap.size ⟨w2.heap.size,2,none⟩ (by show w2.heap.size≠_;omega) (.slice A n c) (.string (b.extract 0 2)) (.string (b.extract 2 5)) (.slice A n c) (.string ⟨#[]⟩) (.string ⟨#[]⟩) (.slice none 0 0)
  ((k2 0).trans (by rw[World.cell?_alloc_new];rfl)) ((k2 1).trans (by rw[World.cell?_alloc_new];rfl)) ((k2 2).trans (by rw[World.cell?_alloc_new];rfl))
 have hfr2:yt (w2.heap.size+1) A:=by have:=HFR.out;simpa using this
 have hst2:vf _ w3.heap.size A (kh S):=(((HST.out.setCell hfr2 (p:=⟨w2.heap.size,2,none⟩) (Nat.lt_succ_self _) (.slice A n c)).setCell hfr2 (p:=⟨w.heap.size,0,none⟩) (by show w.heap.size<_;omega) (.string (b.extract 0 2))).setCell hfr2 (p:=⟨w.heap.size,1,none⟩) (by show w.heap.size<_;omega) (.string (b.extract 2 5))).setCell hfr2 (p:=⟨w.heap.size,2,none⟩) (by show w.heap.size<_;omega) (.slice A n c)
 refine bodyPost_ret (v:=.tuple #[.agg #[.string (b.extract 0 2),.string (b.extract 2 5),.slice A n c],.int .i64 (1 +(L.size:Int)+2),.int .i64 0]) (by simp[results,Tryz.results62,go_sem,q0,q1,q2]) rfl ⟨A,c,?_,by simpa using hst2,hfr2.less (by omega),?_⟩
 ·rw[show (1 +(L.size:Int)+2)=((i+2:Nat):Int)from by omega,HN.out]
 ·have hb0:Below w.heap.size w w3:=(abi ((qb (qa _ _) hb12).alloc (by omega) _)).trans (hb3.mono (by simp;omega))
  exact(((hb0.setCell (p:=⟨w2.heap.size,2,none⟩) (by show w.heap.size≤w2.heap.size;omega) _).setCell (p:=⟨w.heap.size,0,none⟩) (Nat.le_refl _) _).setCell (p:=⟨w.heap.size,1,none⟩) (Nat.le_refl _) _).setCell (p:=⟨w.heap.size,2,none⟩) (Nat.le_refl _) _
theorem asr (s:ByteArray):s.toList.length=s.size:=by rw[ByteArray.toList_eq];simp
theorem akk {s:ByteArray} (h:0<s.size):s.toList.isEmpty=false ∧(s.toList==[])=false:=by
 have hl:=asr s
 cases hs:s.toList with
 | nil=>rw[hs]at hl;simp at hl;omega
 | cons a l=>exact⟨rfl,rfl⟩
theorem ag6 (s:ByteArray) (n:Nat) (h:n<s.size) (c:UInt8):(s.data.toList[n]?=some c) ↔(s[n].toNat:Int)=(c.toNat:Int):=by
 rw[asj s n h]
 constructor
 ·intro h
  injection h with h
  rw[h]
 ·intro h
  congr 1
  apply UInt8.toNat_inj.1
  omega
theorem agk {t:ByteArray} {i:Nat} (h:xl t=(i,0)):ju t=t.extract 1 i:=by unfold ju;rw[h];rfl
theorem a32 {l b:ByteArray} (h:vg l=some b):b.size+3=l.size:=by
 unfold vg at h
 by_cases hs:l.size<3
 ·rw[if_pos hs]at h;cases h
 ·rw[if_neg hs]at h
  split at h
  ·injection h with h
   rw[← h,ByteArray.size_extract]
   omega
  ·cases h
theorem auy {l:ByteArray} (h:zn l=true):8≤l.size:=by
 rcases Nat.lt_or_ge l.size 8 with h8|h8
 ·unfold zn at h
  rw[decide_eq_false (by omega:¬8≤l.size)]at h
  cases h
 ·exact h8
theorem amb {t:ByteArray} (h:t.size=0):xt t=((ByteArray.empty,ByteArray.empty,[]),0,2):=by unfold xt;rw[if_pos h]
theorem ajo {t:ByteArray} (h0:¬t.size=0) (h:t.data.toList[0]?≠some 36):xt t=((ByteArray.empty,ByteArray.empty,[]),0,3):=by unfold xt;rw[if_neg h0,if_pos h]
theorem ahd {t:ByteArray} (h0:¬t.size=0) (h1:t.data.toList[0]?=some 36) (h:(xl t).2≠0):xt t=((ByteArray.empty,ByteArray.empty,[]),0,(xl t).2):=by
 unfold xt;rw[if_neg h0,if_neg (fun k=>k h1),if_pos h]
theorem amd {t:ByteArray} (h0:¬t.size=0) (h1:t.data.toList[0]?=some 36) (h2:(xl t).2=0) (h:t.size<(xl t).1+2):xt t=((ByteArray.empty,ByteArray.empty,[]),0,2):=by
 unfold xt;rw[if_neg h0,if_neg (fun k=>k h1),if_neg (fun k=>k h2),if_pos h]
theorem ag7 {t:ByteArray} (h0:¬t.size=0) (h1:t.data.toList[0]?=some 36) (h2:(xl t).2=0) (h3:¬t.size<(xl t).1+2) (h:t.data.toList[(xl t).1+1]?≠some 10∨zn (ju t)=false):xt t=((ByteArray.empty,ByteArray.empty,[]),0,3):=by
 unfold xt;rw[if_neg h0,if_neg (fun k=>k h1),if_neg (fun k=>k h2),if_neg h3,if_pos h]
theorem agy {t:ByteArray} (h0:¬t.size=0) (h1:t.data.toList[0]?=some 36) (h2:(xl t).2=0) (h3:¬t.size<(xl t).1+2) (h4:t.data.toList[(xl t).1+1]?=some 10) (h5:zn (ju t)=true) :
 xt t=match vg (ju t)with
  | none=>((ByteArray.empty,ByteArray.empty,[]),0,4)
  | some b=>((b.extract 0 2,b.extract 2 5,if 5<b.size then kh (b.extract 6 b.size)else []),(xl t).1+2,0):=by
 unfold xt;rw[if_neg h0,if_neg (fun k=>k h1),if_neg (fun k=>k h2),if_neg h3,if_neg (fun k=>k.elim (fun a=>a h4) (fun a=>by rw[h5]at a;cases a))]
 all_goals (cases vg (ju t)<;>rfl)
theorem a8r (t:ByteArray) (w:World) (hm:t.size≤1000000):Calls Tryz.prog 62 #[.string t] w (jx (xt t) w):=by
 by_cases h0:t.size=0
 ·rw[amb h0]
  have:=awz h0
  subst this
  exact avf w
 ·have hz:0<t.size:=by omega
  obtain⟨f1,f2⟩:=akk hz
  by_cases h1:t.data.toList[0]?=some 36
  ·have hc:(((t[0]'hz).toNat:Int) != 36)=false:=by rw[bne_eq_false_iff_eq];exact(ag6 t 0 hz 36).1 h1
   by_cases h2:(xl t).2=0
   ·obtain⟨i,hi⟩:∃i,xl t=(i,0):=⟨(xl t).1,by rw[← h2]⟩
    obtain⟨b1,b2,b3⟩:=afi t 80 1 i hi
    have hL:=agk hi
    have hi1:(xl t).1=i:=by rw[hi]
    have hls:(t.extract 1 i).size=i-1:=by rw[ByteArray.size_extract];omega
    by_cases h3:t.size<(xl t).1+2
    ·rw[amd h0 h1 h2 h3]
     exact a22 t _ i w hm hz f1 f2 hc h2 hL b1 (by omega) (by omega) (by omega) (by omega)
    ·have hlt:i+1<t.size:=by omega
     by_cases h4:t.data.toList[(xl t).1+1]?=some 10
     ·have ht:(((t[i+1]'hlt).toNat:Int) != 10)=false:=by rw[bne_eq_false_iff_eq];rw[hi1]at h4;exact(ag6 t (i+1) hlt 10).1 h4
      cases h5:zn (t.extract 1 i)with
      | false=>
       rw[ag7 h0 h1 h2 h3 (.inr (by rw[hL];exact h5))]
       exact av9 t _ i w hm hz f1 f2 hc h2 hL b1 (by omega) (by omega) (by omega) (by omega) (by omega) ht h5
      | true=>
       rw[agy h0 h1 h2 h3 h4 (by rw[hL];exact h5),hL]
       have h8:=auy h5
       cases h6:vg (t.extract 1 i)with
       | none=>exact a7e t _ i w hm hz f1 f2 hc h2 hL b1 (by omega) (by omega) (by omega) (by omega) (by omega) ht h5 h6
       | some b=>
        have hbs:=a32 h6
        show Calls Tryz.prog _ _ _ (jx ((b.extract 0 2,b.extract 2 5,if 5<b.size then kh (b.extract 6 b.size)else []),(xl t).1+2,0) w)
        rw[hi1]
        by_cases h7:5<b.size
        ·rw[if_pos h7]
         exact a4y t _ b i w hm hz f1 f2 hc h2 hL b1 (by omega) (by omega) (by omega) (by omega) (by omega) ht h5 h6 h7 (by omega)
        ·rw[if_neg h7]
         exact a8l t _ b i w hm hz f1 f2 hc h2 hL b1 (by omega) (by omega) (by omega) (by omega) (by omega) ht h5 h6 (by omega) (by omega)
     ·have ht:(((t[i+1]'hlt).toNat:Int) != 10)=true:=by rw[bne_iff_ne];rw[hi1]at h4;exact fun h=>h4 ((ag6 t (i+1) hlt 10).2 h)
      rw[ag7 h0 h1 h2 h3 (.inl h4)]
      exact bbd t _ i w hm hz f1 f2 hc h2 hL b1 (by omega) (by omega) (by omega) (by omega) (by omega) ht
   ·rw[ahd h0 h1 h2]
    exact a6u t _ w hm hz f1 f2 hc rfl (by rw[bne_iff_ne];exact h2)
  ·have hc:(((t[0]'hz).toNat:Int) != 36)=true:=by rw[bne_iff_ne];exact fun h=>h1 ((ag6 t 0 hz 36).2 h)
   rw[ajo h0 h1]
   exact a04 t w hz f1 f2 hc
theorem aar (s:ByteArray) (a b:Nat):(s.extract a b).data.toList=(s.data.toList.drop a).take (b-a):=by rw[vc];rfl
theorem acv (s:ByteArray):s.data.toList.length=s.size:=by simp
theorem a96 {l p q:List UInt8} {c:UInt8} (h:l=p++c::q) (hp:∀x∈p,x≠c):Lib.indexByte l c=(p.length:Int):=by
 subst h
 induction p with
 | nil=>simp[Lib.indexByte]
 | cons b p ih=>
  have hb:¬(b==c)=true:=by simpa using hp b (by simp)
  have i1:=ih (fun x hx=>hp x (by simp[hx]))
  rw[List.cons_append,Lib.indexByte,if_neg hb,i1,if_neg (by rw[beq_iff_eq];omega),List.length_cons]
  omega
theorem bgq (l:List UInt8) (n:Nat) (h:n<l.length):l=l.take n++l[n]::l.drop (n+1):=by
 rw[List.getElem_cons_drop,List.take_append_drop]
theorem alj {l:List UInt8} (h:∀x∈l,x≠42):abz l=0:=by
 unfold abz
 rw[List.count_eq_zero]
 exact fun hm=>h 42 hm rfl
theorem ayd {l:List UInt8} (h:abz l=0):∀x∈l,x≠42:=by
 intro x hx h42
 subst h42
 unfold abz at h
 rw[List.count_eq_zero]at h
 exact h hx
theorem ah2 (l:List UInt8):abz (42::l)=abz l+1:=by simp[abz]
theorem apj {l:List UInt8} {v:Int} (h:jd l=some v):abz l=0:=by
 unfold jd at h
 split at h
 ·rename_i a b
  split at h
  ·rename_i hc
   rw[Bool.and_eq_true]at hc
   apply alj
   intro x hx
   have:x=a∨x=b:=by simpa using hx
   rcases this with rfl|rfl
   ·intro h42;rw[h42]at hc;exact absurd hc.1 (by decide)
   ·intro h42;rw[h42]at hc;exact absurd hc.2 (by decide)
  ·cases h
 ·cases h
theorem axy {L:ByteArray} {n:Nat}:(L.extract (n+1) L.size).data.toList=L.data.toList.drop (n+1):=by
 rw[aar,List.take_of_length_le (by rw[List.length_drop,acv];exact Nat.le_refl _)]
section
variable {L : ByteArray} {n : Nat} (hn : L.size = n + 3)
include hn
theorem a41 (h5:5≤n) (hs:(L[n]'(by omega)).toNat=42) (h1:abz L.data.toList=1) (hg:abq (L.extract 0 5) 5=true) (hc:n=5∨L.data.toList[5]?=some 44) {v:Int} (hu:jd (L.extract (n+1) L.size).data.toList=some v):zn L=true:=by
 have hl:n<L.data.toList.length:=by rw[acv];omega
 have hat:L.data.toList[n]=42:=by
  have h:=(ag6 L n (by omega) 42).2 (by have e:(42:UInt8).toNat=42:=rfl;omega)
  rw[List.getElem?_eq_getElem hl]at h
  injection h
 have hp:=bgq L.data.toList n hl
 rw[hat]at hp
 have hno:∀x∈L.data.toList.take n,x≠42:=by
  apply ayd
  rw[hp,ahq,ah2]at h1
  omega
 have hi:=a96 hp hno
 rw[List.length_take,Nat.min_eq_left (Nat.le_of_lt hl)]at hi
 unfold zn aef
 rw[hi,show L.size-3+1=n+1 from by omega,hu,hg,decide_eq_true (by omega:8≤L.size),decide_eq_true (by omega:(n:Int)=(L.size:Int)-3)]
 rcases hc with h|h
 ·rw[decide_eq_true (by omega:L.size=8)];rfl
 ·rw[h];simp
end
end Go.Proofs.YtdkhlkfleggbaaaGreat
