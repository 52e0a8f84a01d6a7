/- Contracts of the library's IndexByte and Cut at a comma (one byte). -/
import Derived.Lib.IndexBytes
import Derived.Lib.Bytealg
import Derived.Lib.IndexEntry
import Derived.Test.YtdkhlkfleggbaaaGreatR43
import Derived.Deep.RegionWith
namespace Go.Proofs.YtdkhlkfleggbaaaGreat
set_option maxHeartbeats 2000000
open Lib (hid)
open Tryz
set_option linter.unusedVariables false
open Go.RowKit
set_option maxRecDepth 100000 in
theorem ad3 (s:ByteArray) (c:Int) (w:World) :
 Calls Tryz.prog 130 #[.string s,.int .u8 c] w fun e w'=>e=.returned (.int .i64 (Lib.indexByte s.data.toList c.toNat.toUInt8))∧w=w':=by
 go_enter func130,ntmps130;go_wp2;rw[run_callFunc_extern func203 kr kr kr (e:=Extern.BytealgIndexByte.indexByte) kr,Lib.run_indexByteString];simp only[Result.andThen];rw[Oper.upon_value];go_wp2;go_ret;exact⟨rfl,rfl⟩
set_option maxRecDepth 100000 in
theorem aq6 (s:ByteArray) (c:Int) (w:World) :
 Calls Tryz.prog 97 #[.string s,.int .u8 c] w fun e w'=>e=.returned (.int .i64 (Lib.indexByte s.data.toList c.toNat.toUInt8))∧w=w':=by
 go_enter func97,ntmps97;go_wp2_with fail;refine(ad3 _ _ _).mono ?_;rintro e w' ⟨rfl,rfl⟩;go_wp2;go_ret;exact⟨rfl,rfl⟩
theorem aip (s:ByteArray) (c:UInt8) (w:World) :
 Calls Tryz.prog 204 #[.string s,.string ⟨#[c]⟩] w fun e w'=>e=.returned (.int .i64 (Lib.indexByte s.data.toList c))∧w=w':=by
 go_enter func204,ntmps204;go_wp2_with (go_at_call 130;refine(ad3 _ _ _).mono ?_;rintro e w' ⟨rfl,rfl⟩)
 ·have h:([c]==s.toList)=true:=by assumption
  go_ret;refine⟨?_,rfl⟩;have e:s.data.toList=[c]:=by rw[← Lib.toList_data];exact(beq_iff_eq.1 h).symm
  rw[e];simp[Lib.indexByte]
 ·go_ret;exact⟨rfl,rfl⟩
def aef (s:ByteArray) (c:UInt8):Int:=Lib.indexByte s.data.toList c
theorem a38 (s:ByteArray) (c:UInt8) (w:World) (h:Hid (aef s c<0)) :
 Calls Tryz.prog 134 #[.string s,.string ⟨#[c]⟩] w fun e w'=>e=.returned (.tuple #[.string s,.string ByteArray.empty,.bool false])∧Below w.1.size w w':=by
 obtain⟨I,hI⟩:∃I,I=Lib.indexByte s.data.toList c:=⟨_,rfl⟩;have hn:I<0:=by rw[hI];exact h.out
 have HI:=hid hI;clear hI;go_enter func134,ntmps134;go_wp2_with fail;refine(aip _ _ _).mono ?_;rintro e w' ⟨rfl,rfl⟩;rw[← HI.out];go_wp2_with fail
 go_ret3
 exact⟨rfl,Below.refl _ _⟩
theorem azg (s:ByteArray) (c:UInt8) (i:Nat) (w:World) (hs:s.size≤1000000) (hi:i<s.size) (h:Hid (aef s c=(i:Int))) :
 Calls Tryz.prog 134 #[.string s,.string ⟨#[c]⟩] w fun e w'=>e=.returned (.tuple #[.string (s.extract 0 i),.string (s.extract (i+1) s.size),.bool true])∧Below w.1.size w w':=by
 have i1:(0:Int) ≤(i:Int):=Int.natCast_nonneg _;have i2:(i:Int) ≤(s.size:Int):=by omega
 have i5:(0:Int) ≤(i:Int)+1:=by omega
 have i6:(i:Int)+1 ≤(s.size:Int):=by omega
 have i4:IntKind.i64.wrap ((i:Int)+1)=(i:Int)+1:=IntWalk.i64_in _ om;have i7:((i:Int)+1).toNat=i+1:=by omega
 go_enter func134,ntmps134;go_wp2_with fail;refine(aip _ _ _).mono ?_;rintro e w' ⟨rfl,rfl⟩;rw[show Lib.indexByte s.data.toList c=(i:Int)from h.out];go_wp2_with fail
 go_quiet (fail)
 go_wp2_with fail
 go_ret3
 exact⟨rfl,abl (Below.refl _ _) _⟩
theorem bjk (s:ByteArray) (c:UInt8) (w:World) (h:Hid (aef s c<0)) :
 Calls Tryz.prog 101 #[.string s,.string ⟨#[c]⟩] w fun e w'=>e=.returned (.tuple #[.string s,.string ByteArray.empty,.bool false])∧Below w.1.size w w':=by
 go_enter func101,ntmps101;go_wp2_with fail;refine(a38 _ _ _ h).mono ?_;rintro e w1 ⟨rfl,hb⟩;go_wp2_with fail
 go_ret3
 exact⟨rfl,hb⟩
theorem bfs (s:ByteArray) (c:UInt8) (i:Nat) (w:World) (hs:s.size≤1000000) (hi:i<s.size) (h:Hid (aef s c=(i:Int))) :
 Calls Tryz.prog 101 #[.string s,.string ⟨#[c]⟩] w fun e w'=>e=.returned (.tuple #[.string (s.extract 0 i),.string (s.extract (i+1) s.size),.bool true])∧Below w.1.size w w':=by
 go_enter func101,ntmps101;go_wp2_with fail;refine(azg _ _ i _ hs hi h).mono ?_;rintro e w1 ⟨rfl,hb⟩;go_wp2_with fail
 go_ret3
 exact⟨rfl,hb⟩
def okC (c:Int):Bool:=c==42 || ack c
def vt (t:ByteArray):Nat→Nat→Nat×Int
 | 0,_=>(0,7)
 | f+1,i=>if h:i<t.size then(if(t[i].toNat:Int)=13 then(i,0)else if okC (t[i].toNat:Int)then vt t f (i+1)else(0,3))else(0,2)
def xu (t:ByteArray):Nat×Int:=vt t 80 1
def jy (t:ByteArray):ByteArray:=if(xu t).2=0 then t.extract 1 (xu t).1 else ByteArray.empty
theorem a0g (t:ByteArray) (f i:Nat) (h:i<t.size) (hc:(t[i].toNat:Int)=13):vt t (f+1) i=(i,0):=by
 unfold vt;rw[dif_pos h,if_pos hc]
theorem ap9 (t:ByteArray) (f i:Nat) (h:i<t.size) (hc:(t[i].toNat:Int)≠13) (ho:okC (t[i].toNat:Int)=true):vt t (f+1) i=vt t f (i+1):=by
 rw[vt,dif_pos h,if_neg hc,if_pos ho]
theorem a91 (t:ByteArray) (f i:Nat) (h:i<t.size) (hc:(t[i].toNat:Int)≠13) (ho:okC (t[i].toNat:Int)=false):vt t (f+1) i=(0,3):=by
 rw[vt,dif_pos h,if_neg hc,if_neg (by rw[ho];decide)]
theorem a0h (t:ByteArray) (f i:Nat) (h:¬i<t.size):vt t (f+1) i=(0,2):=by
 rw[vt,dif_neg h]
theorem adp (t:ByteArray) (w:World) (hm:t.size≤1000000) :
 Calls Tryz.prog 79 #[.string t] w fun e w'=>e=.returned (.tuple #[.string (jy t),.int .i64 (xu t).2])∧w=w':=by
 go_enter func79,ntmps79;go_wp2
 go_loop [4] (fun i=>∃k:Nat,1≤k∧k≤81∧i=.int .i64 k∧Hid (vt t (81-k) k=xu t)) (fun i=>81-(intOf i).toNat)
 case atStart=>exact⟨1,by omega,by omega,rfl,rfl⟩
 case round=>
  obtain⟨k,hk0,hk,rfl,he⟩:=hrel
  by_cases h81:k<81
  ·have hf:Hid (81-k=(80-k)+1):=by show _=_;omega
   by_cases hlt:k<t.size
   ·have hu:=t[k].toNat_lt
    by_cases h13:(t[k].toNat:Int)=13
    ·have HE:Hid (xu t=(k,0)):=by show _=_;rw[← he.out,hf.out,a0g t _ k hlt h13]
     have hb:((t[k].toNat:Int)==13)=true:=by rw[beq_iff_eq];exact h13
     clear h13;go_wp2_with fail
     go_ret2
     exact⟨by first|(unfold jy;rw[HE.out];rfl)|(rw[HE.out];rfl),rfl⟩
    ·have hb:((t[k].toNat:Int)==13)=false:=by rw[beq_eq_false_iff_ne];exact h13
     cases hl:ack (t[k].toNat:Int)with
     | true=>
      have HE:Hid (vt t (81-(k+1)) (k+1)=xu t):=by show _=_;rw[← he.out,hf.out,ap9 t _ k hlt h13 (by unfold okC;rw[hl];simp)];rw[show 81-(k+1)=80-k from by omega]
      have hn42:(t[k].toNat:Int)≠42:=by intro h;rw[h]at hl;exact absurd hl dc
      have hb42:((t[k].toNat:Int) != 42)=true:=by rw[bne_iff_ne];exact hn42
      have HL:=hid hl;clear hl h13 hn42;go_wp2_with fail;refine(ajd _ _).mono ?_;rintro e w' ⟨rfl,rfl⟩;rw[HL.out];go_wp2_with fail
      go_round
      case rel=>exact⟨k+1,by omega,by omega,by go_num,HE⟩
      case measure=>simp[intOf];omega
     | false=>
      by_cases h42:(t[k].toNat:Int)=42
      ·have HE:Hid (vt t (81-(k+1)) (k+1)=xu t):=by show _=_;rw[← he.out,hf.out,ap9 t _ k hlt h13 (by unfold okC;rw[h42];rfl)];rw[show 81-(k+1)=80-k from by omega]
       have hb42:((t[k].toNat:Int) != 42)=false:=by rw[bne_eq_false_iff_eq];exact h42
       have HL:=hid hl;clear hl h13 h42;go_wp2_with fail
       first
        | (refine(ajd _ _).mono ?_
           rintro e w' ⟨rfl,rfl⟩;rw[HL.out];go_wp2_with fail)
        | skip
       go_round
       case rel=>exact⟨k+1,by omega,by omega,by go_num,HE⟩
       case measure=>simp[intOf];omega
      ·have HE:Hid (xu t=(0,3)):=by show _=_;rw[← he.out,hf.out,a91 t _ k hlt h13 (by unfold okC;rw[hl,beq_eq_false_iff_ne.2 h42];rfl)]
       have hb42:((t[k].toNat:Int) != 42)=true:=by rw[bne_iff_ne];exact h42
       have HL:=hid hl;clear hl h13 h42;go_wp2_with fail;refine(ajd _ _).mono ?_;rintro e w' ⟨rfl,rfl⟩;rw[HL.out];go_wp2_with fail
       go_ret2
       exact⟨by first|(unfold jy;rw[HE.out];rfl)|(rw[HE.out];rfl),rfl⟩
   ·have HE:Hid (xu t=(0,2)):=by show _=_;rw[← he.out,hf.out,a0h t _ k hlt]
    go_wp2_with fail
    go_ret2
    exact⟨by first|(unfold jy;rw[HE.out];rfl)|(rw[HE.out];rfl),rfl⟩
  ·have HE:Hid (xu t=(0,7)):=by show _=_;rw[← he.out,show 81-k=0 from by omega];rfl
   go_wp2_with fail
   go_ret2
   exact⟨by first|(unfold jy;rw[HE.out];rfl)|(rw[HE.out];rfl),rfl⟩
def ach (l:List UInt8):Nat:=l.count 42
theorem ai0 (a b:List UInt8):ach (a++b)=ach a+ach b:=by simp[ach]
theorem aan (s:ByteArray) (w:World):Calls Tryz.prog 97 #[.string s,.int .u8 42] w fun e w'=>e=.returned (.int .i64 (aef s 42))∧w=w':=aq6 s 42 w
def zq (l:ByteArray):Bool:=
 decide (8≤l.size) && decide (aef l 42=(l.size:Int)-3) && ab3 (l.extract 0 5) 5 && (jk (l.extract (l.size-3+1) l.size).data.toList).isSome && (decide (l.size=8) || decide (l.data.toList[5]?=some 44))
theorem aux (l:ByteArray) (w:World) (h:l.size<8):Calls Tryz.prog 80 #[.string l] w fun e w'=>e=.returned (.bool false)∧Below w.1.size w w':=by
 go_enter func80,ntmps80;go_wp2;go_ret;exact⟨rfl,Below.refl _ _⟩
theorem auw (l:ByteArray) (n:Nat) (I:Int) (w:World) (h0:n+3≤l.size) (h1:l.size≤n+3) (h5:5≤n) (hm:l.size≤1000000) (e1:(l.size:Int)-3=(n:Int)) (hI:Hid (aef l 42=I)) (hne:(I != (n:Int))=true) :
 Calls Tryz.prog 80 #[.string l] w fun e w'=>e=.returned (.bool false)∧Below w.1.size w w':=by
 go_enter func80,ntmps80;go_wp2_with fail;refine(aan _ _).mono ?_;rintro e w' ⟨rfl,rfl⟩;rw[hI.out];go_wp2_with fail;go_ret;exact⟨rfl,Below.refl _ _⟩
theorem auy (l:ByteArray) (n:Nat) (w:World) (h0:n+3≤l.size) (h1:l.size≤n+3) (h5:5≤n) (hm:l.size≤1000000) (e1:(l.size:Int)-3=(n:Int)) (hI:Hid (aef l 42=(n:Int))) (hs:Hid (ab3 (l.extract 0 5) 5=false)) :
 Calls Tryz.prog 80 #[.string l] w fun e w'=>e=.returned (.bool false)∧Below w.1.size w w':=by
 go_enter func80,ntmps80;go_wp2_with fail;refine(aan _ _).mono ?_;rintro e w' ⟨rfl,rfl⟩;rw[hI.out];go_wp2_with fail;refine(ah3 _ 5 _).mono ?_;rintro e w1 ⟨rfl,hb1⟩;rw[hs.out];go_wp2_with fail;go_ret;exact⟨rfl,hb1⟩
theorem auz (l:ByteArray) (n:Nat) (w:World) (h0:n+3≤l.size) (h1:l.size≤n+3) (h5:5≤n) (hm:l.size≤1000000) (e1:(l.size:Int)-3=(n:Int)) (hI:Hid (aef l 42=(n:Int))) (hs:Hid (ab3 (l.extract 0 5) 5=true))
 (hu:Hid (jk (l.extract (n+1) l.size).data.toList=none)) :
 Calls Tryz.prog 80 #[.string l] w fun e w'=>e=.returned (.bool false)∧Below w.1.size w w':=by
 go_enter func80,ntmps80;go_wp2_with fail;refine(aan _ _).mono ?_;rintro e w' ⟨rfl,rfl⟩;rw[hI.out];go_wp2_with fail;refine(ah3 _ 5 _).mono ?_;rintro e w1 ⟨rfl,hb1⟩;rw[hs.out];go_wp2_with fail;refine(aoa _ _ hu).mono ?_;rintro e w2 ⟨rfl,hb2⟩;go_wp2_with fail;go_ret;exact⟨rfl,qb hb1 hb2⟩
theorem ayq (l:ByteArray) (n:Nat) (v:Int) (w:World) (h0:n+3≤l.size) (h1:l.size≤n+3) (h5:5≤n) (h6:n≤5) (hm:l.size≤1000000) (e1:(l.size:Int)-3=(n:Int)) (hI:Hid (aef l 42=(n:Int))) (hs:Hid (ab3 (l.extract 0 5) 5=true))
 (hu:Hid (jk (l.extract (n+1) l.size).data.toList=some v)) :
 Calls Tryz.prog 80 #[.string l] w fun e w'=>e=.returned (.bool true)∧Below w.1.size w w':=by
 have hb:((n:Int)==5)=true:=by rw[beq_iff_eq];omega
 go_enter func80,ntmps80;go_wp2_with fail;refine(aan _ _).mono ?_;rintro e w' ⟨rfl,rfl⟩;rw[hI.out];go_wp2_with fail;refine(ah3 _ 5 _).mono ?_;rintro e w1 ⟨rfl,hb1⟩;rw[hs.out];go_wp2_with fail;refine(afa _ v _ hu).mono ?_;rintro e w2 ⟨rfl,hb2⟩;go_wp2_with fail;go_ret;exact⟨rfl,qb hb1 hb2⟩
theorem a3t (l:ByteArray) (n:Nat) (v:Int) (b:Bool) (w:World) (h0:n+3≤l.size) (h1:l.size≤n+3) (h5:6≤n) (hm:l.size≤1000000) (e1:(l.size:Int)-3=(n:Int)) (hI:Hid (aef l 42=(n:Int))) (hs:Hid (ab3 (l.extract 0 5) 5=true))
 (hu:Hid (jk (l.extract (n+1) l.size).data.toList=some v)) (hc:(((l[5]'(by omega)).toNat:Int)==44)=b) :
 Calls Tryz.prog 80 #[.string l] w fun e w'=>e=.returned (.bool b)∧Below w.1.size w w':=by
 have hb:((n:Int)==5)=false:=by rw[beq_eq_false_iff_ne];omega
 go_enter func80,ntmps80;go_wp2_with fail;refine(aan _ _).mono ?_;rintro e w' ⟨rfl,rfl⟩;rw[hI.out];go_wp2_with fail;refine(ah3 _ 5 _).mono ?_;rintro e w1 ⟨rfl,hb1⟩;rw[hs.out];go_wp2_with fail;refine(afa _ v _ hu).mono ?_;rintro e w2 ⟨rfl,hb2⟩;go_wp2_with fail;go_ret;exact⟨rfl,qb hb1 hb2⟩
theorem bb8 (s:ByteArray) (n:Nat) (h:n<s.size):(s.data.toList[n]?=some 44) ↔(s[n].toNat:Int)=44:=by
 rw[aua s n h];constructor
 ·intro h;injection h with h
  rw[h];rfl
 ·intro h
  congr 1
  apply UInt8.toNat_inj.1;have:(44:UInt8).toNat=44:=rfl;omega
theorem afp (l:ByteArray) (w:World) (hm:l.size≤1000000):Calls Tryz.prog 80 #[.string l] w fun e w'=>e=.returned (.bool (zq l))∧Below w.1.size w w':=by
 by_cases h8:l.size<8
 ·have hf:zq l=false:=by unfold zq;rw[decide_eq_false (by omega:¬8≤l.size)];rfl
  rw[hf];exact aux l w h8
 ·obtain⟨n,hn⟩:∃n,l.size=n+3:=⟨l.size-3,by omega⟩;have e1:(l.size:Int)-3=(n:Int):=by omega
  have e2:l.size-3=n:=by omega
  have d8:decide (8≤l.size)=true:=decide_eq_true om
  by_cases hI:aef l 42=(n:Int)
  ·have dI:decide (aef l 42=(l.size:Int)-3)=true:=decide_eq_true om;cases hs:ab3 (l.extract 0 5) 5 with
   | false=>
    have hf:zq l=false:=by unfold zq;rw[hs];simp
    rw[hf];exact auy l n w om om om hm e1 hI hs
   | true=>
    cases hu:jk (l.extract (n+1) l.size).data.toList with
    | none=>
     have hf:zq l=false:=by unfold zq;rw[e2,hu];simp
     rw[hf];exact auz l n w om om om hm e1 hI hs hu
    | some v=>
     have hf:zq l=(decide (l.size=8) || decide (l.data.toList[5]?=some 44)):=by unfold zq;rw[e2,hu,d8,dI,hs];rfl
     rw[hf]
     by_cases h5:n=5
     ·rw[decide_eq_true (by omega:l.size=8),Bool.true_or];exact ayq l n v w om om om om hm e1 hI hs hu
     ·rw[decide_eq_false (by omega:¬l.size=8),Bool.false_or];refine a3t l n v _ w om om om hm e1 hI hs hu ?_;have hc:=bb8 l 5 om
      by_cases h:((l[5]'(by omega)).toNat:Int)=44
      ·rw[decide_eq_true (hc.2 h),beq_iff_eq];exact h
      ·rw[decide_eq_false (fun h'=>h (hc.1 h')),beq_eq_false_iff_ne];exact h
  ·have hf:zq l=false:=by unfold zq;rw[decide_eq_false (by omega:¬aef l 42=(l.size:Int)-3)];simp
   rw[hf];exact auw l n _ w om om om hm e1 rfl (by rw[bne_iff_ne];exact hI)
def ke:List UInt8→List (List UInt8)
 | []=>[[]]
 | b::l=>if b=44 then []::ke l else match ke l with
  | []=>[[b]]
  | h::r=>(b::h)::r
theorem ah5 (l:List UInt8):ke l≠[]:=by
 cases l with
 | nil=>simp[ke]
 | cons b l=>
  unfold ke
  split
  ·simp
  ·split<;>simp
def aio (p:List UInt8):List (List UInt8)→List (List UInt8)
 | []=>[p]
 | h::r=>(p++h)::r
theorem amu (b:UInt8) (l:List UInt8) (h:b≠44):ke (b::l)=aio [b] (ke l):=by
 rw[ke,if_neg h];cases hs:ke l with
 | nil=>exact absurd hs (ah5 l)
 | cons x r=>rfl
theorem akw (l:List UInt8):ke (44::l)=[]::ke l:=by rw[ke,if_pos rfl]
theorem azb (p q:List UInt8) (x:List (List UInt8)) (hx:x≠[]):aio p (aio q x)=aio (p++q) x:=by
 cases x with
 | nil=>exact absurd rfl hx
 | cons h r=>simp[aio]
theorem a8y (x:List (List UInt8)) (hx:x≠[]):aio [] x=x:=by
 cases x with
 | nil=>exact absurd rfl hx
 | cons h r=>simp[aio]
theorem aiz (p q:List UInt8) (h:∀c∈p,c≠44):ke (p++q)=aio p (ke q):=by
 induction p with
 | nil=>rw[List.nil_append,a8y _ (ah5 q)]
 | cons b p ih=>
  rw[List.cons_append,amu b _ (h b sm),ih (fun c hc=>h c (by simp[hc])),azb _ _ _ (ah5 q)];rfl
theorem a04 (p:List UInt8) (h:∀c∈p,c≠44):ke p=[p]:=by
 have:=aiz p [] h;rw[List.append_nil]at this;rw[this];simp[ke,aio]
theorem bat (p q:List UInt8) (h:∀c∈p,c≠44):ke (p++44::q)=p::ke q:=by
 rw[aiz p _ h,akw];simp[aio]
theorem a82 (l:List UInt8) (c:UInt8) (h:Lib.indexByte l c<0):∀x∈l,x≠c:=by
 induction l with
 | nil=>intro x hx;simp at hx
 | cons b l ih=>
  unfold Lib.indexByte at h
  by_cases hb:b==c
  ·rw[if_pos hb]at h;omega
  ·rw[if_neg hb]at h;have hge:=Lib.indexByte_ge l c
   by_cases hl:Lib.indexByte l c==-1
   ·have:Lib.indexByte l c<0:=by rw[beq_iff_eq]at hl;omega
    intro x hx;rcases List.mem_cons.1 hx with rfl|hx
    ·simpa using hb
    ·exact ih this x hx
   ·rw[if_neg hl]at h;rw[beq_iff_eq]at hl;omega
theorem azc (l:List UInt8) (c:UInt8):∀i:Nat,Lib.indexByte l c=(i:Int)→i<l.length∧l=l.take i++c::l.drop (i+1)∧∀x∈l.take i,x≠c:=by
 induction l with
 | nil=>intro i h;simp[Lib.indexByte]at h
 | cons b l ih=>
  intro i h;unfold Lib.indexByte at h
  by_cases hb:b==c
  ·rw[if_pos hb]at h;have:i=0:=by omega
   subst this;have:b=c:=by simpa using hb
   subst this;exact⟨by simp,by simp,fun x hx=>by simp at hx⟩
  ·rw[if_neg hb]at h
   by_cases hl:Lib.indexByte l c==-1
   ·rw[if_pos hl]at h;omega
   ·rw[if_neg hl]at h;have hge:=Lib.indexByte_ge l c;obtain⟨j,rfl⟩:∃j,i=j+1:=⟨i-1,by rw[beq_iff_eq]at hl;omega⟩;obtain⟨h1,h2,h3⟩:=ih j om;refine⟨by simp;omega,?_,?_⟩
    ·rw[List.take_succ_cons,List.drop_succ_cons,List.cons_append,← h2]
    ·intro x hx;rw[List.take_succ_cons]at hx;rcases List.mem_cons.1 hx with rfl|hx
     ·simpa using hb
     ·exact h3 x hx
def toS (l:List UInt8):ByteArray:=⟨l.toArray⟩
def kq (s:ByteArray):List ByteArray:=(ke s.data.toList).map toS
theorem a1l (s:ByteArray):toS s.data.toList=s:=by obtain⟨⟨l⟩⟩:=s;rfl
theorem vj (s:ByteArray) (a b:Nat):s.extract a b=toS ((s.data.toList.drop a).take (b-a)):=by
 obtain⟨⟨l⟩⟩:=s;exact ByteArray.extract_mk l a b
theorem bas (s:ByteArray) (h:aef s 44<0):kq s=[s]:=by
 unfold kq;rw[a04 _ (a82 _ _ h),List.map_singleton,a1l]
theorem bar (s:ByteArray) (i:Nat) (h:aef s 44=(i:Int)):i<s.size∧kq s=s.extract 0 i::kq (s.extract (i+1) s.size):=by
 obtain⟨h1,h2,h3⟩:=azc _ _ i h;have hl:s.data.toList.length=s.size:=by simp
 refine⟨by omega,?_⟩;have e1:s.extract 0 i=toS (s.data.toList.take i):=by rw[vj];simp
 have e2:s.extract (i+1) s.size=toS (s.data.toList.drop (i+1)):=by
  rw[vj,List.take_of_length_le (by rw[List.length_drop];omega)]
 rw[e1,e2];unfold kq
 have e3:ke s.data.toList=s.data.toList.take i::ke (s.data.toList.drop (i+1)):=by
  conv=>lhs;rw[h2]
  exact bat _ _ h3
 rw[e3];rfl
theorem a07 {w:World} {B:Nat} {e:TypeId} {A:Option Addr} {n c:Nat} {fs:List ByteArray} (h:w.ownsRow B e 1 (.slice A n c) n (fs.map Value.string)):fs.length=n∧vg w w.1.size A fs∧aag B A:=by
 have hl:fs.length=n:=by have:=h.1;simpa using this
 refine⟨hl,?_,fun a ha=>?_⟩
 ·intro k hk;rcases h.2 with⟨hv,h0⟩|⟨g,cap,cur,hv,_,hg,_⟩
  ·omega
  ·have hA:A=some ⟨g,0,none⟩:=by injection hv
   subst hA;have hc:=h.cells (g:=g) rfl k (.string fs[k]) (by simp[hk])
   exact⟨g,0,rfl,(Array.getElem?_eq_some_iff.1 hg).1,by
    have:(⟨g,0,none⟩:Addr).add k=⟨g,0+k,none⟩:=by unfold Addr.add;split<;>simp_all
    rw[← this];exact hc⟩
 ·rcases h.2 with⟨hv,h0⟩|⟨g,cap,cur,hv,hb,hg,_⟩
  ·have hA:A=none:=by injection hv
   rw[hA]at ha;cases ha
  ·have hA:A=some ⟨g,0,none⟩:=by injection hv
   rw[hA]at ha;injection ha with ha
   rw[← ha];exact hb
theorem atb {w w':World} {B:Nat} {e:TypeId} {size n:Nat} {v:Value} {xs:List Value} (h:w.ownsRow B e size v n xs) (hb:Below w.1.size w w'):w'.ownsRow B e size v n xs:=
 h.kept (row:=none) ⟨hb.os,hb.tape,hb.output,hb.size,fun i hi _=>hb.block i hi⟩ (Classical.em _)
theorem bd3 {w:World} {B:Nat} {e:TypeId} {size n:Nat} {v:Value} {xs:List Value} (h:w.ownsRow B e size v n xs):∃A c,v=.slice A n c:=by
 rcases h.2 with⟨hv,h0⟩|⟨g,cap,cur,hv,_⟩
 ·exact⟨none,0,by rw[hv,h0]⟩
 ·exact⟨_,_,hv⟩
def a65:Value→Nat
 | .string s=>s.size
 | _=>0
theorem be0:(Tryz.prog.info? 9).map (fun i=>(i.zero,i.size,i.bytes))=some (some (.string ByteArray.empty),1,16):=by kernel_rfl
def bby (fs:List ByteArray) (w:World) (e:Ending) (w':World):Prop:=
 ∃A c,e=.returned (.slice A fs.length c)∧vg w' w'.1.size A fs∧aag w.1.size A∧Below w.1.size w w'
theorem bgf (S:ByteArray) (w:World) (hm:S.size≤100000) :
 Calls Tryz.prog 82 #[.string S] w (bby (kq S) w):=by
 obtain⟨i0,hi,hz0,hz1,hz2⟩:=info_parts be0;go_enter func82,ntmps82;go_wp2
 go_step3
 go_wp2
 go_step3
 go_wp2;have hS0:Hid (kq S=[]++kq S):=rfl
 go_loopw [0,3] (fun sv v wr=>∃(s:ByteArray) (parts:List ByteArray),sv=.string s∧parts.length+s.size≤S.size∧Hid (wr.ownsRow w.1.size 9 1 v parts.length (parts.map Value.string))∧Below w.1.size w wr∧Hid (kq S=parts++kq s)) (fun sv _ _=>a65 sv)
 case atStart=>exact⟨S,[],rfl,by simp,World.ownsRow_nil _ _ _ _,Below.refl _ _,hS0⟩
 case round=>
  obtain⟨s,parts,rfl,hlen,hown,hbr,hsp⟩:=hrel;have hzr:=hbr.size
  by_cases hc:aef s 44<0
  ·have HN:=hid (bas s hc);have HC:=hid hc;clear hc;go_wp2_with fail;refine(bjk s 44 _ HC).mono ?_;rintro e w1 ⟨rfl,hb1⟩;have hs1:=hb1.size;have HO:=hid (atb hown.out hb1);go_wp2_with (at_builtin;refine wpList_append_own _ rfl _ _ 148 rfl w.1.size 9 i0 (.string ByteArray.empty) 1 16 underlying148 hi hz0 hz1 hz2 rfl dc _ _ _ rfl (HO.out.alloc _) ⟨w1.1.size,0,none⟩ 1 1 [.string s] rfl rfl ?c1 ?c2 ?c3 ?c4 ?c5 ?_)
   case c1=>exact cell_one_new _ _ _
   case c2=>intro u hu;simp at hu;subst hu;rfl
   case c3=>unfold maxLen;omega
   case c4=>omega
   case c5=>simp;omega
   intro v' w2 hown' hgrow _;have hbb:Hid (Below w.1.size w w2):=(((hbr.trans (hb1.mono om)).alloc om _).grown hgrow (by simp;omega) (fun k hk=>(HO.out.lt k hk).1));obtain⟨A,c,hv⟩:=bd3 hown'
   have hst:Hid ((kq S).length=parts.length+1∧vg w2 w2.1.size A (kq S)∧aag w.1.size A):=by
    have e1:kq S=parts++[s]:=by rw[hsp.out,HN.out]
    have h2:w2.ownsRow w.1.size 9 1 (.slice A (parts.length+1) c) (parts.length+1) ((parts++[s]).map Value.string):=by rw[← hv];simpa using hown'
    rw[e1];exact a07 h2
   clear hown' hgrow hsp;rw[hv];go_wp2_with fail;rw[Exit.noGoto_ret];go_ret;exact⟨A,c,by rw[hst.out.1];rfl,hst.out.2.1,hst.out.2.2,hbb.out⟩
  ·obtain⟨i,hci⟩:∃i:Nat,aef s 44=(i:Int):=⟨(aef s 44).toNat,by omega⟩;obtain⟨hil,hsa⟩:=bar s i hci;have HN:=hid hsa;have HC:=hid hci;clear hc hci hsa;go_wp2_with fail;refine(bfs s 44 i _ om hil HC).mono ?_;rintro e w1 ⟨rfl,hb1⟩;have hs1:=hb1.size;have HO:=hid (atb hown.out hb1);go_wp2_with (at_builtin;refine wpList_append_own _ rfl _ _ 148 rfl w.1.size 9 i0 (.string ByteArray.empty) 1 16 underlying148 hi hz0 hz1 hz2 rfl dc _ _ _ rfl (HO.out.alloc _) ⟨w1.1.size,0,none⟩ 1 1 [.string (s.extract 0 i)] rfl rfl ?d1 ?d2 ?d3 ?d4 ?d5 ?_)
   case d1=>exact cell_one_new _ _ _
   case d2=>intro u hu;simp at hu;subst hu;rfl
   case d3=>unfold maxLen;omega
   case d4=>omega
   case d5=>simp;omega
   intro v' w2 hown' hgrow _;have hbb:Hid (Below w.1.size w w2):=(((hbr.trans (hb1.mono om)).alloc om _).grown hgrow (by simp;omega) (fun k hk=>(HO.out.lt k hk).1));have hown2:Hid (w2.ownsRow w.1.size 9 1 v' (parts++[s.extract 0 i]).length ((parts++[s.extract 0 i]).map Value.string)):=by show w2.ownsRow _ _ _ _ _ _;simpa using hown'
   have hsp2:Hid (kq S=(parts++[s.extract 0 i])++kq (s.extract (i+1) s.size)):=by show _=_;rw[hsp.out,HN.out];simp
   clear hown' hgrow hsp;go_wp2_with fail
   go_roundw
   case rel=>
    refine⟨s.extract (i+1) s.size,parts++[s.extract 0 i],rfl,?_,hown2,hbb.out,hsp2⟩;rw[List.length_append,List.length_singleton,ByteArray.size_extract];omega
   case measure=>
    simp only[a65,ByteArray.size_extract];omega
def jb (t:ByteArray):(ByteArray×ByteArray×List ByteArray)×Nat×Int:=
 if t.size=0 then((ByteArray.empty,ByteArray.empty,[]),0,2)
 else if t.data.toList[0]?≠some 36 then((ByteArray.empty,ByteArray.empty,[]),0,3)
 else if(xu t).2≠0 then((ByteArray.empty,ByteArray.empty,[]),0,(xu t).2)
 else if t.size<(xu t).1+2 then((ByteArray.empty,ByteArray.empty,[]),0,2)
 else if t.data.toList[(xu t).1+1]?≠some 10∨zq (jy t)=false then((ByteArray.empty,ByteArray.empty,[]),0,3)
 else match vo (jy t)with
  | none=>((ByteArray.empty,ByteArray.empty,[]),0,4)
  | some b=>((b.extract 0 2,b.extract 2 5,if 5<b.size then kq (b.extract 6 b.size)else []),(xu t).1+2,0)
def jz (r:(ByteArray×ByteArray×List ByteArray)×Nat×Int) (w:World) (e:Ending) (w':World):Prop:=
 ∃A c,e=.returned (.tuple #[.agg #[.string r.1.1,.string r.1.2.1,.slice A r.1.2.2.length c],.int .i64 (r.2.1:Int),.int .i64 r.2.2])∧vg w' w'.1.size A r.1.2.2∧aag w.1.size A∧Below w.1.size w w'
theorem jz.err (n:Int) {w w':World} (hb:Below w.1.size w w'):jz ((ByteArray.empty,ByteArray.empty,[]),0,n) w (.returned (.tuple #[.agg #[.string ⟨#[]⟩,.string ⟨#[]⟩,.slice none 0 0],.int .i64 0,.int .i64 n])) w':=
 ⟨none,0,rfl,fun k hk=>absurd hk sm,aag.none_,hb⟩
theorem afw (t:ByteArray):∀f i j:Nat,vt t f i=(j,0)→i≤j∧j<i+f∧j<t.size:=by
 intro f
 induction f with
 | zero=>intro i j h;simp[vt]at h
 | succ f ih=>
  intro i j h;unfold vt at h
  by_cases hi:i<t.size
  ·rw[dif_pos hi]at h
   by_cases h13:(t[i].toNat:Int)=13
   ·rw[if_pos h13]at h;have:i=j:=by injection h
    omega
   ·rw[if_neg h13]at h
    by_cases ho:okC (t[i].toNat:Int)=true
    ·rw[if_pos ho]at h;have:=ih _ _ h;omega
    ·rw[if_neg ho]at h;simp at h
  ·rw[dif_neg hi]at h;simp at h
theorem a1d (w:World) (g:Nat) (p:Addr) (hp:p.block≠g) (x v0 v1 v2 o0 o1 o2:Value) (h0:w.cell? ⟨g,0,none⟩=some o0) (h1:w.cell? ⟨g,1,none⟩=some o1) (h2:w.cell? ⟨g,2,none⟩=some o2) :
 ((((w.setCell p x).setCell ⟨g,0,none⟩ v0).setCell ⟨g,1,none⟩ v1).setCell ⟨g,2,none⟩ v2).cell? ⟨g,0,none⟩=some v0 ∧
 ((((w.setCell p x).setCell ⟨g,0,none⟩ v0).setCell ⟨g,1,none⟩ v1).setCell ⟨g,2,none⟩ v2).cell? ⟨g,1,none⟩=some v1 ∧
 ((((w.setCell p x).setCell ⟨g,0,none⟩ v0).setCell ⟨g,1,none⟩ v1).setCell ⟨g,2,none⟩ v2).cell? ⟨g,2,none⟩=some v2:=by
 have k:∀j,(w.setCell p x).cell? ⟨g,j,none⟩=w.cell? ⟨g,j,none⟩:=fun j=>World.cell?_setCell_other w p _ x (fun e=>by subst e;exact hp rfl)
 have n01:(⟨g,1,none⟩:Addr) ≠⟨g,0,none⟩:=by simp
 have n02:(⟨g,2,none⟩:Addr) ≠⟨g,0,none⟩:=by simp
 have n12:(⟨g,2,none⟩:Addr) ≠⟨g,1,none⟩:=by simp
 have n10:(⟨g,0,none⟩:Addr) ≠⟨g,1,none⟩:=by simp
 refine⟨?_,?_,?_⟩
 ·rw[World.cell?_setCell_other _ _ _ _ n02,World.cell?_setCell_other _ _ _ _ n01];exact World.cell?_setCell_same _ _ _ ((k 0).trans h0)
 ·rw[World.cell?_setCell_other _ _ _ _ n12];exact World.cell?_setCell_same _ _ _ ((World.cell?_setCell_other _ _ _ _ n10).trans ((k 1).trans h1))
 ·refine World.cell?_setCell_same _ _ _ (((World.cell?_setCell_other _ _ _ _ (fun e=>n12 e.symm)).trans ((World.cell?_setCell_other _ _ _ _ (fun e=>n02 e.symm)).trans ((k 2).trans h2))))
theorem ax0 {s:ByteArray} (h:s.size=0):s=ByteArray.empty:=by
 obtain⟨⟨l⟩⟩:=s;cases l with
 | nil=>rfl
 | cons a l=>simp[ByteArray.size]at h
theorem at5 (w:World):Calls Tryz.prog 62 #[.string ByteArray.empty] w (jz ((ByteArray.empty,ByteArray.empty,[]),0,2) w):=by
 go_enter func62,ntmps62;go_wp2;exact bodyPost_ret (v:=.tuple #[.agg #[.string ⟨#[]⟩,.string ⟨#[]⟩,.slice none 0 0],.int .i64 0,.int .i64 2]) (by simp[results,results62,go_sem]) rfl (jz.err 2 (qa _ _))
theorem a2n (t:ByteArray) (w:World) (hz:0<t.size) (h1:t.toList.isEmpty=false) (h2:(t.toList==[])=false) (hc:(((t[0]'hz).toNat:Int) != 36)=true):Calls Tryz.prog 62 #[.string t] w (jz ((ByteArray.empty,ByteArray.empty,[]),0,3) w):=by
 go_enter func62,ntmps62;go_wp2;exact bodyPost_ret (v:=.tuple #[.agg #[.string ⟨#[]⟩,.string ⟨#[]⟩,.slice none 0 0],.int .i64 0,.int .i64 3]) (by simp[results,results62,go_sem]) rfl (jz.err 3 (qa _ _))
theorem a7n (t:ByteArray) (n:Int) (w:World) (hm:t.size≤1000000) (hz:0<t.size) (h1:t.toList.isEmpty=false) (h2:(t.toList==[])=false) (hc:(((t[0]'hz).toNat:Int) != 36)=false) (he:Hid ((xu t).2=n)) (hn:(n != 0)=true) :
 Calls Tryz.prog 62 #[.string t] w (jz ((ByteArray.empty,ByteArray.empty,[]),0,n) w):=by
 go_enter func62,ntmps62;go_wp2_with fail;refine(adp t _ hm).mono ?_;rintro e w' ⟨rfl,rfl⟩;rw[he.out];go_wp2_with fail;exact bodyPost_ret (v:=.tuple #[.agg #[.string ⟨#[]⟩,.string ⟨#[]⟩,.slice none 0 0],.int .i64 0,.int .i64 n]) (by simp[results,results62,go_sem]) rfl (jz.err n (qa _ _))
theorem a2o (t L:ByteArray) (i:Nat) (w:World) (hm:t.size≤1000000) (hz:0<t.size) (h1:t.toList.isEmpty=false) (h2:(t.toList==[])=false) (hc:(((t[0]'hz).toNat:Int) != 36)=false) (he:Hid ((xu t).2=0)) (hL:Hid (jy t=L))
 (hi:1≤i) (hl0:L.size+1≤i) (hl1:i≤L.size+1) (hs:t.size<i+2) (hi80:i≤80) :
 Calls Tryz.prog 62 #[.string t] w (jz ((ByteArray.empty,ByteArray.empty,[]),0,2) w):=by
 go_enter func62,ntmps62;go_wp2_with fail;refine(adp t _ hm).mono ?_;rintro e w' ⟨rfl,rfl⟩;rw[he.out,hL.out];go_wp2_with fail;exact bodyPost_ret (v:=.tuple #[.agg #[.string ⟨#[]⟩,.string ⟨#[]⟩,.slice none 0 0],.int .i64 0,.int .i64 2]) (by simp[results,results62,go_sem]) rfl (jz.err 2 (qa _ _))
theorem bb2 (t L:ByteArray) (i:Nat) (w:World) (hm:t.size≤1000000) (hz:0<t.size) (h1:t.toList.isEmpty=false) (h2:(t.toList==[])=false) (hc:(((t[0]'hz).toNat:Int) != 36)=false) (he:Hid ((xu t).2=0)) (hL:Hid (jy t=L))
 (hi:1≤i) (hl0:L.size+1≤i) (hl1:i≤L.size+1) (hs:i+2≤t.size) (hi80:i≤80) (e1:1 +(L.size:Int)+2-1=((i+1:Nat):Int)) (ht:(((t[i+1]'(by omega)).toNat:Int) != 10)=true) :
 Calls Tryz.prog 62 #[.string t] w (jz ((ByteArray.empty,ByteArray.empty,[]),0,3) w):=by
 go_enter func62,ntmps62;go_wp2_with fail;refine(adp t _ hm).mono ?_;rintro e w' ⟨rfl,rfl⟩;rw[he.out,hL.out];go_wp2_with fail;exact bodyPost_ret (v:=.tuple #[.agg #[.string ⟨#[]⟩,.string ⟨#[]⟩,.slice none 0 0],.int .i64 0,.int .i64 3]) (by simp[results,results62,go_sem]) rfl (jz.err 3 (qa _ _))
theorem axm (t L:ByteArray) (i:Nat) (w:World) (hm:t.size≤1000000) (hz:0<t.size) (h1:t.toList.isEmpty=false) (h2:(t.toList==[])=false) (hc:(((t[0]'hz).toNat:Int) != 36)=false) (he:Hid ((xu t).2=0)) (hL:Hid (jy t=L))
 (hi:1≤i) (hl0:L.size+1≤i) (hl1:i≤L.size+1) (hs:i+2≤t.size) (hi80:i≤80) (e1:1 +(L.size:Int)+2-1=((i+1:Nat):Int)) (ht:(((t[i+1]'(by omega)).toNat:Int) != 10)=false) (hf:Hid (zq L=false)) :
 Calls Tryz.prog 62 #[.string t] w (jz ((ByteArray.empty,ByteArray.empty,[]),0,3) w):=by
 go_enter func62,ntmps62;go_wp2_with fail;refine(adp t _ hm).mono ?_;rintro e w' ⟨rfl,rfl⟩;rw[he.out,hL.out];go_wp2_with fail;refine(afp L _ om).mono ?_;rintro e w1 ⟨rfl,hb1⟩;rw[hf.out];obtain⟨c1,f1⟩:=qx hb1;have hz1:=hb1.size;simp at hz1;have hz2:w.1.size<w1.1.size:=by omega
 go_wp2_with fail;refine bodyPost_ret (v:=.tuple #[.agg #[.string ⟨#[]⟩,.string ⟨#[]⟩,.slice none 0 0],.int .i64 0,.int .i64 3]) (by simp[results,results62,go_sem,c1]) rfl (jz.err 3 ?_);exact(((qb (qa _ _) hb1).setCell (p:=⟨w.1.size,0,none⟩) (Nat.le_refl _) _).setCell (p:=⟨w.1.size,1,none⟩) (Nat.le_refl _) _).setCell (p:=⟨w.1.size,2,none⟩) (Nat.le_refl _) _
theorem a7p (t L:ByteArray) (i:Nat) (w:World) (hm:t.size≤1000000) (hz:0<t.size) (h1:t.toList.isEmpty=false) (h2:(t.toList==[])=false) (hc:(((t[0]'hz).toNat:Int) != 36)=false) (he:Hid ((xu t).2=0)) (hL:Hid (jy t=L))
 (hi:1≤i) (hl0:L.size+1≤i) (hl1:i≤L.size+1) (hs:i+2≤t.size) (hi80:i≤80) (e1:1 +(L.size:Int)+2-1=((i+1:Nat):Int)) (ht:(((t[i+1]'(by omega)).toNat:Int) != 10)=false) (hf:Hid (zq L=true)) (ho:Hid (vo L=none)) :
 Calls Tryz.prog 62 #[.string t] w (jz ((ByteArray.empty,ByteArray.empty,[]),0,4) w):=by
 go_enter func62,ntmps62;go_wp2_with fail;refine(adp t _ hm).mono ?_;rintro e w' ⟨rfl,rfl⟩;rw[he.out,hL.out];go_wp2_with fail;refine(afp L _ om).mono ?_;rintro e w1 ⟨rfl,hb1⟩;rw[hf.out];go_wp2_with fail;refine(anx L _ om).mono ?_;rintro e w2 ⟨rfl,hb2⟩;rw[ho.out];have hb12:=qb hb1 hb2;obtain⟨c1,f1⟩:=qx hb12;have hz1:=hb12.size;simp at hz1;have hz2:w.1.size<w2.1.size:=by omega
 go_wp2_with fail;refine bodyPost_ret (v:=.tuple #[.agg #[.string ⟨#[]⟩,.string ⟨#[]⟩,.slice none 0 0],.int .i64 0,.int .i64 4]) (by simp[results,results62,go_sem,c1]) rfl (jz.err 4 ?_);exact(((qb (qa _ _) hb12).setCell (p:=⟨w.1.size,0,none⟩) (Nat.le_refl _) _).setCell (p:=⟨w.1.size,1,none⟩) (Nat.le_refl _) _).setCell (p:=⟨w.1.size,2,none⟩) (Nat.le_refl _) _
theorem a7m (t L b:ByteArray) (i:Nat) (w:World) (hm:t.size≤1000000) (hz:0<t.size) (h1:t.toList.isEmpty=false) (h2:(t.toList==[])=false) (hc:(((t[0]'hz).toNat:Int) != 36)=false) (he:Hid ((xu t).2=0)) (hL:Hid (jy t=L))
 (hi:1≤i) (hl0:L.size+1≤i) (hl1:i≤L.size+1) (hs:i+2≤t.size) (hi80:i≤80) (e1:1 +(L.size:Int)+2-1=((i+1:Nat):Int)) (ht:(((t[i+1]'(by omega)).toNat:Int) != 10)=false) (hf:Hid (zq L=true)) (ho:Hid (vo L=some b)) (hb5:b.size≤5) (hb6:5≤b.size) :
 Calls Tryz.prog 62 #[.string t] w (jz ((b.extract 0 2,b.extract 2 5,[]),i+2,0) w):=by
 have i1:(2:Int) ≤(b.size:Int):=by omega
 have i2:(5:Int) ≤(b.size:Int):=by omega
 go_enter func62,ntmps62;go_wp2_with fail;refine(adp t _ hm).mono ?_;rintro e w' ⟨rfl,rfl⟩;rw[he.out,hL.out];go_wp2_with fail;refine(afp L _ om).mono ?_;rintro e w1 ⟨rfl,hb1⟩;rw[hf.out];go_wp2_with fail;refine(anx L _ om).mono ?_;rintro e w2 ⟨rfl,hb2⟩;rw[ho.out];have hb12:=qb hb1 hb2;obtain⟨c1,f1⟩:=qx hb12;have hz1:=hb12.size;simp at hz1;have hz2:w.1.size<w2.1.size:=by omega
 go_wp2_with fail
 go_region_with (fail)
 go_wp2_with fail;refine bodyPost_ret (v:=.tuple #[.agg #[.string (b.extract 0 2),.string (b.extract 2 5),.slice none 0 0],.int .i64 (1 +(L.size:Int)+2),.int .i64 0]) (by simp[results,results62,go_sem,c1,hz2]) rfl ⟨none,0,?_,fun k hk=>absurd hk sm,aag.none_,?_⟩
 ·rw[show (1 +(L.size:Int)+2)=((i+2:Nat):Int)from by omega];rfl
 ·exact abx (((((qb (qa _ _) hb12).setCell (p:=⟨w.1.size,0,none⟩) (Nat.le_refl _) _).setCell (p:=⟨w.1.size,1,none⟩) (Nat.le_refl _) _).setCell (p:=⟨w.1.size,2,none⟩) (Nat.le_refl _) _).alloc (by simp;omega) _)
theorem a7o (t L b:ByteArray) (i:Nat) (w:World) (hm:t.size≤1000000) (hz:0<t.size) (h1:t.toList.isEmpty=false) (h2:(t.toList==[])=false) (hc:(((t[0]'hz).toNat:Int) != 36)=false) (he:Hid ((xu t).2=0)) (hL:Hid (jy t=L))
 (hi:1≤i) (hl0:L.size+1≤i) (hl1:i≤L.size+1) (hs:i+2≤t.size) (hi80:i≤80) (e1:1 +(L.size:Int)+2-1=((i+1:Nat):Int)) (ht:(((t[i+1]'(by omega)).toNat:Int) != 10)=false) (hf:Hid (zq L=true)) (ho:Hid (vo L=some b)) (hb6:6≤b.size) (hbm:b.size≤1000) :
 Calls Tryz.prog 62 #[.string t] w (jz ((b.extract 0 2,b.extract 2 5,kq (b.extract 6 b.size)),i+2,0) w):=by
 have i1:(2:Int) ≤(b.size:Int):=by omega
 have i2:(5:Int) ≤(b.size:Int):=by omega
 have i3:(6:Int) ≤(b.size:Int):=by omega
 obtain⟨S,hS⟩:∃S,S=b.extract 6 b.size:=⟨_,rfl⟩;have hSz:S.size≤1000:=by rw[hS,ByteArray.size_extract];omega
 rw[← hS];have HS:=hid hS;clear hS;go_enter func62,ntmps62;go_wp2_with fail;refine(adp t _ hm).mono ?_;rintro e w' ⟨rfl,rfl⟩;rw[he.out,hL.out];go_wp2_with fail;refine(afp L _ om).mono ?_;rintro e w1 ⟨rfl,hb1⟩;rw[hf.out];go_wp2_with fail;refine(anx L _ om).mono ?_;rintro e w2 ⟨rfl,hb2⟩;rw[ho.out];have hb12:=qb hb1 hb2;obtain⟨c1,f1⟩:=qx hb12;have hz1:=hb12.size;simp at hz1;have hz2:w.1.size<w2.1.size:=by omega
 go_wp2_with fail
 go_region_with (fail)
 go_wp2_with fail;rw[← HS.out];refine(bgf S _ om).mono ?_;rintro e w3 ⟨A,c,rfl,hst,hfr,hb3⟩;obtain⟨c3,f3⟩:=qx hb3;have hz3:=hb3.size;simp at hz3;have hz4:w2.1.size<w3.1.size:=by omega
 have hz5:w.1.size<w3.1.size:=by omega
 have HST:=hid hst;clear hst;obtain⟨n,hn⟩:∃n,n=(kq S).length:=⟨_,rfl⟩;rw[← hn];have HN:=hid hn;clear hn;have HFR:=hid hfr;clear hfr;go_wp2_with fail
 have k2:∀o,w3.cell? ⟨w.1.size,o,none⟩=(w.alloc (.cells #[.string ⟨#[]⟩,.string ⟨#[]⟩,.slice none 0 0] 150)).cell? ⟨w.1.size,o,none⟩:=fun o=>by
  rw[c3 w.1.size o (by simp;omega)];show (w2.alloc _).cell? _=_;rw[World.cell?_alloc_lt w2 _ ⟨w.1.size,o,none⟩ hz2];exact c1 w.1.size o sm
 obtain⟨q0,q1,q2⟩:=a1d w3 w.1.size ⟨w2.1.size,2,none⟩ (by show w2.1.size≠_;omega) (.slice A n c) (.string (b.extract 0 2)) (.string (b.extract 2 5)) (.slice A n c) (.string ⟨#[]⟩) (.string ⟨#[]⟩) (.slice none 0 0)
  ((k2 0).trans (by rw[World.cell?_alloc_new];rfl)) ((k2 1).trans (by rw[World.cell?_alloc_new];rfl)) ((k2 2).trans (by rw[World.cell?_alloc_new];rfl))
 have hfr2:aag (w2.1.size+1) A:=by have:=HFR.out;simpa using this
 have hst2:vg _ w3.1.size A (kq S):=(((HST.out.setCell hfr2 (p:=⟨w2.1.size,2,none⟩) (Nat.lt_succ_self _) (.slice A n c)).setCell hfr2 (p:=⟨w.1.size,0,none⟩) (by show w.1.size<_;omega) (.string (b.extract 0 2))).setCell hfr2 (p:=⟨w.1.size,1,none⟩) (by show w.1.size<_;omega) (.string (b.extract 2 5))).setCell hfr2 (p:=⟨w.1.size,2,none⟩) (by show w.1.size<_;omega) (.slice A n c);refine bodyPost_ret (v:=.tuple #[.agg #[.string (b.extract 0 2),.string (b.extract 2 5),.slice A n c],.int .i64 (1 +(L.size:Int)+2),.int .i64 0]) (by simp[results,results62,go_sem,q0,q1,q2]) rfl ⟨A,c,?_,by simpa using hst2,hfr2.less om,?_⟩
 ·rw[show (1 +(L.size:Int)+2)=((i+2:Nat):Int)from by omega,HN.out]
 ·have hb0:Below w.1.size w w3:=(abx ((qb (qa _ _) hb12).alloc om _)).trans (hb3.mono (by simp;omega));exact(((hb0.setCell (p:=⟨w2.1.size,2,none⟩) (by show w.1.size≤w2.1.size;omega) _).setCell (p:=⟨w.1.size,0,none⟩) (Nat.le_refl _) _).setCell (p:=⟨w.1.size,1,none⟩) (Nat.le_refl _) _).setCell (p:=⟨w.1.size,2,none⟩) (Nat.le_refl _) _
theorem awu (s:ByteArray):s.toList.length=s.size:=by rw[ByteArray.toList_eq];simp
theorem alj {s:ByteArray} (h:0<s.size):s.toList.isEmpty=false ∧(s.toList==[])=false:=by
 have hl:=awu s;cases hs:s.toList with
 | nil=>rw[hs]at hl;simp at hl;omega
 | cons a l=>exact⟨rfl,rfl⟩
theorem aho (s:ByteArray) (n:Nat) (h:n<s.size) (c:UInt8):(s.data.toList[n]?=some c) ↔(s[n].toNat:Int)=(c.toNat:Int):=by
 rw[aua s n h];constructor
 ·intro h;injection h with h
  rw[h]
 ·intro h
  congr 1
  apply UInt8.toNat_inj.1;omega
theorem agw {t:ByteArray} {i:Nat} (h:xu t=(i,0)):jy t=t.extract 1 i:=by unfold jy;rw[h];rfl
theorem a4f {l b:ByteArray} (h:vo l=some b):b.size+3=l.size:=by
 unfold vo at h
 by_cases hs:l.size<3
 ·rw[if_pos hs]at h;cases h
 ·rw[if_neg hs]at h
  split at h
  ·injection h with h
   rw[← h,ByteArray.size_extract];omega
  ·cases h
theorem auv {l:ByteArray} (h:zq l=true):8≤l.size:=by
 rcases Nat.lt_or_ge l.size 8 with h8|h8
 ·unfold zq at h;rw[decide_eq_false (by omega:¬8≤l.size)]at h;cases h
 ·exact h8
theorem anr {t:ByteArray} (h:t.size=0):jb t=((ByteArray.empty,ByteArray.empty,[]),0,2):=by unfold jb;rw[if_pos h]
theorem akz {t:ByteArray} (h0:¬t.size=0) (h:t.data.toList[0]?≠some 36):jb t=((ByteArray.empty,ByteArray.empty,[]),0,3):=by unfold jb;rw[if_neg h0,if_pos h]
theorem ah7 {t:ByteArray} (h0:¬t.size=0) (h1:t.data.toList[0]?=some 36) (h:(xu t).2≠0):jb t=((ByteArray.empty,ByteArray.empty,[]),0,(xu t).2):=by
 unfold jb;rw[if_neg h0,if_neg (fun k=>k h1),if_pos h]
theorem ans {t:ByteArray} (h0:¬t.size=0) (h1:t.data.toList[0]?=some 36) (h2:(xu t).2=0) (h:t.size<(xu t).1+2):jb t=((ByteArray.empty,ByteArray.empty,[]),0,2):=by
 unfold jb;rw[if_neg h0,if_neg (fun k=>k h1),if_neg (fun k=>k h2),if_pos h]
theorem ah8 {t:ByteArray} (h0:¬t.size=0) (h1:t.data.toList[0]?=some 36) (h2:(xu t).2=0) (h3:¬t.size<(xu t).1+2) (h:t.data.toList[(xu t).1+1]?≠some 10∨zq (jy t)=false):jb t=((ByteArray.empty,ByteArray.empty,[]),0,3):=by
 unfold jb;rw[if_neg h0,if_neg (fun k=>k h1),if_neg (fun k=>k h2),if_neg h3,if_pos h]
theorem ah9 {t:ByteArray} (h0:¬t.size=0) (h1:t.data.toList[0]?=some 36) (h2:(xu t).2=0) (h3:¬t.size<(xu t).1+2) (h4:t.data.toList[(xu t).1+1]?=some 10) (h5:zq (jy t)=true) :
 jb t=match vo (jy t)with
  | none=>((ByteArray.empty,ByteArray.empty,[]),0,4)
  | some b=>((b.extract 0 2,b.extract 2 5,if 5<b.size then kq (b.extract 6 b.size)else []),(xu t).1+2,0):=by
 unfold jb;rw[if_neg h0,if_neg (fun k=>k h1),if_neg (fun k=>k h2),if_neg h3,if_neg (fun k=>k.elim (fun a=>a h4) (fun a=>by rw[h5]at a;cases a))]
 all_goals (cases vo (jy t)<;>rfl)
theorem bb0 (t:ByteArray) (w:World) (hm:t.size≤1000000):Calls Tryz.prog 62 #[.string t] w (jz (jb t) w):=by
 by_cases h0:t.size=0
 ·rw[anr h0];have:=ax0 h0;subst this;exact at5 w
 ·have hz:0<t.size:=by omega
  obtain⟨f1,f2⟩:=alj hz
  by_cases h1:t.data.toList[0]?=some 36
  ·have hc:(((t[0]'hz).toNat:Int) != 36)=false:=by rw[bne_eq_false_iff_eq];exact(aho t 0 hz 36).1 h1
   by_cases h2:(xu t).2=0
   ·obtain⟨i,hi⟩:∃i,xu t=(i,0):=⟨(xu t).1,by rw[← h2]⟩;obtain⟨b1,b2,b3⟩:=afw t 80 1 i hi;have hL:=agw hi;have hi1:(xu t).1=i:=by rw[hi]
    have hls:(t.extract 1 i).size=i-1:=by rw[ByteArray.size_extract];omega
    by_cases h3:t.size<(xu t).1+2
    ·rw[ans h0 h1 h2 h3];exact a2o t _ i w hm hz f1 f2 hc h2 hL b1 om om om om
    ·have hlt:i+1<t.size:=by omega
     by_cases h4:t.data.toList[(xu t).1+1]?=some 10
     ·have ht:(((t[i+1]'hlt).toNat:Int) != 10)=false:=by rw[bne_eq_false_iff_eq];rw[hi1]at h4;exact(aho t (i+1) hlt 10).1 h4
      cases h5:zq (t.extract 1 i)with
      | false=>
       rw[ah8 h0 h1 h2 h3 (.inr (by rw[hL];exact h5))];exact axm t _ i w hm hz f1 f2 hc h2 hL b1 om om om om om ht h5
      | true=>
       rw[ah9 h0 h1 h2 h3 h4 (by rw[hL];exact h5),hL];have h8:=auv h5;cases h6:vo (t.extract 1 i)with
       | none=>exact a7p t _ i w hm hz f1 f2 hc h2 hL b1 om om om om om ht h5 h6
       | some b=>
        have hbs:=a4f h6;show Calls Tryz.prog _ _ _ (jz ((b.extract 0 2,b.extract 2 5,if 5<b.size then kq (b.extract 6 b.size)else []),(xu t).1+2,0) w);rw[hi1]
        by_cases h7:5<b.size
        ·rw[if_pos h7];exact a7o t _ b i w hm hz f1 f2 hc h2 hL b1 om om om om om ht h5 h6 h7 om
        ·rw[if_neg h7];exact a7m t _ b i w hm hz f1 f2 hc h2 hL b1 om om om om om ht h5 h6 om om
     ·have ht:(((t[i+1]'hlt).toNat:Int) != 10)=true:=by rw[bne_iff_ne];rw[hi1]at h4;exact fun h=>h4 ((aho t (i+1) hlt 10).2 h)
      rw[ah8 h0 h1 h2 h3 (.inl h4)];exact bb2 t _ i w hm hz f1 f2 hc h2 hL b1 om om om om om ht
   ·rw[ah7 h0 h1 h2];exact a7n t _ w hm hz f1 f2 hc rfl (by rw[bne_iff_ne];exact h2)
  ·have hc:(((t[0]'hz).toNat:Int) != 36)=true:=by rw[bne_iff_ne];exact fun h=>h1 ((aho t 0 hz 36).2 h)
   rw[akz h0 h1];exact a2n t w hz f1 f2 hc
theorem aax (s:ByteArray) (a b:Nat):(s.extract a b).data.toList=(s.data.toList.drop a).take (b-a):=by rw[vj];rfl
theorem adi (s:ByteArray):s.data.toList.length=s.size:=by simp
theorem bcz {l p q:List UInt8} {c:UInt8} (h:l=p++c::q) (hp:∀x∈p,x≠c):Lib.indexByte l c=(p.length:Int):=by
 subst h
 induction p with
 | nil=>simp[Lib.indexByte]
 | cons b p ih=>
  have hb:¬(b==c)=true:=by simpa using hp b sm
  have i1:=ih (fun x hx=>hp x (by simp[hx]));rw[List.cons_append,Lib.indexByte,if_neg hb,i1,if_neg (by rw[beq_iff_eq];omega),List.length_cons];omega
theorem bj3 (l:List UInt8) (n:Nat) (h:n<l.length):l=l.take n++l[n]::l.drop (n+1):=by
 rw[List.getElem_cons_drop,List.take_append_drop]
theorem amv {l:List UInt8} (h:∀x∈l,x≠42):ach l=0:=by
 unfold ach;rw[List.count_eq_zero];exact fun hm=>h 42 hm rfl
theorem a05 {l:List UInt8} (h:ach l=0):∀x∈l,x≠42:=by
 intro x hx h42;subst h42;unfold ach at h;rw[List.count_eq_zero]at h;exact h hx
theorem ai1 (l:List UInt8):ach (42::l)=ach l+1:=by simp[ach]
theorem asa {l:List UInt8} {v:Int} (h:jk l=some v):ach l=0:=by
 unfold jk at h
 split at h
 ·rename_i a b
  split at h
  ·rename_i hc;rw[Bool.and_eq_true]at hc;apply amv;intro x hx;have:x=a∨x=b:=by simpa using hx
   rcases this with rfl|rfl
   ·intro h42;rw[h42]at hc;exact absurd hc.1 dc
   ·intro h42;rw[h42]at hc;exact absurd hc.2 dc
  ·cases h
 ·cases h
theorem aze {L:ByteArray} {n:Nat}:(L.extract (n+1) L.size).data.toList=L.data.toList.drop (n+1):=by
 rw[aax,List.take_of_length_le (by rw[List.length_drop,adi];exact Nat.le_refl _)]
section
variable {L : ByteArray} {n : Nat} (hn : L.size = n + 3)
include hn
theorem a8n (h5:5≤n) (hs:(L[n]'(by omega)).toNat=42) (h1:ach L.data.toList=1) (hg:ab3 (L.extract 0 5) 5=true) (hc:n=5∨L.data.toList[5]?=some 44) {v:Int} (hu:jk (L.extract (n+1) L.size).data.toList=some v):zq L=true:=by
 have hl:n<L.data.toList.length:=by rw[adi];omega
 have hat:L.data.toList[n]=42:=by
  have h:=(aho L n om 42).2 (by have e:(42:UInt8).toNat=42:=rfl;omega);rw[List.getElem?_eq_getElem hl]at h;injection h
 have hp:=bj3 L.data.toList n hl;rw[hat]at hp
 have hno:∀x∈L.data.toList.take n,x≠42:=by
  apply a05;rw[hp,ai0,ai1]at h1;omega
 have hi:=bcz hp hno;rw[List.length_take,Nat.min_eq_left (Nat.le_of_lt hl)]at hi;unfold zq aef;rw[hi,show L.size-3+1=n+1 from by omega,hu,hg,decide_eq_true (by omega:8≤L.size),decide_eq_true (by omega:(n:Int)=(L.size:Int)-3)];rcases hc with h|h
 ·rw[decide_eq_true (by omega:L.size=8)];rfl
 ·rw[h];simp
end
end Go.Proofs.YtdkhlkfleggbaaaGreat
