/- Parts. -/
import Derived.Test.YtdkhlkfleggbaaaGreatU30
namespace Go.Proofs.YtdkhlkfleggbaaaGreat
set_option maxHeartbeats 1000000
open Lib (hid)
open Tryz
set_option linter.unusedVariables false
open Go.RowKit
def akc (l:List UInt8):UInt8:=l.foldl (fun c b=>c ^^^ b) 0
theorem bcu (l:List UInt8) (b:UInt8):akc (l++[b])=akc l ^^^ b:=by simp[akc]
theorem bks (s:ByteArray) (w:World) (hs:s.size≤maxLen) :
 Calls prog 100 #[.string s] w fun e w'=>e=.returned (.int .u8 ((akc s.data.toList).toNat:Int))∧w=w':=by
 unfold maxLen at hs;go_enter func100,ntmps100;go_wp2
 go_loop [3,7] (fun c i=>∃k:Nat,k≤s.size∧i=.int .i64 k∧c=.int .u8 ((akc (s.data.toList.take k)).toNat:Int)) (fun _ i=>s.size-(intOf i).toNat)
 case atStart=>exact⟨0,b0c _,rfl,rfl⟩
 case round=>
  obtain⟨k,hk,rfl,rfl⟩:=hrel
  by_cases hlt:k<s.size
  ·go_wp2
   go_round
   case rel=>exact⟨k+1,by omega,by go_num,by rw[bb9 s k hlt,bcu,bme]⟩
   case measure=>simp[intOf];omega
  ·go_wp2;go_ret;exact⟨bl6 (by rw[b08 (by simp;omega)]),rfl⟩
def afo (c:Int):Int:=if c≤57 then c-48 else if c≤70 then c-55 else c-87
def isR (c:Int):Bool:=decide (48≤c∧c≤57∨65≤c∧c≤70∨97≤c∧c≤102)
theorem amn (c:Int) (w:World) (h:isR c=true) :
 Calls prog 133 #[.int .i32 c] w fun e w'=>e=.returned (.tuple #[.int .u8 (afo c),.bool true])∧w=w':=by
 have h':48≤c∧c≤57∨65≤c∧c≤70∨97≤c∧c≤102:=by simpa [isR]using h
 clear h;rcases h' with⟨h0,h1⟩|⟨h0,h1⟩|⟨h0,h1⟩
 ·have hd:afo c=c-48:=by simp[afo,h1]
  rw[hd];clear hd;go_enter func133,ntmps133;go_wp2
  go_ret2
  exact⟨rfl,rfl⟩
 ·have hd:afo c=c-65+10:=by unfold afo;split<;>omega
  rw[hd];clear hd;go_enter func133,ntmps133;go_wp2
  go_ret2
  exact⟨rfl,rfl⟩
 ·have hd:afo c=c-97+10:=by unfold afo;split;omega;split<;>omega
  rw[hd];clear hd;go_enter func133,ntmps133;go_wp2
  go_ret2
  exact⟨rfl,rfl⟩
theorem a2o (c:Int) (w:World) (h:isR c=false) :
 Calls prog 133 #[.int .i32 c] w fun e w'=>e=.returned (.tuple #[.int .u8 0,.bool false])∧w=w':=by
 have h':¬(48≤c∧c≤57∨65≤c∧c≤70∨97≤c∧c≤102):=by simpa [isR]using h
 clear h;have h2:c<48∨57<c∧c<65∨70<c∧c<97∨102<c:=by omega
 clear h';rcases h2 with h0|⟨h0,h1⟩|⟨h0,h1⟩|h0
 all_goals
  go_enter func133,ntmps133;go_wp2
  go_ret2
  exact⟨rfl,rfl⟩
theorem ap2 (s:ByteArray) (pos:Nat) (h:pos<s.size):isR ((Utf8.decode s pos).1:Int)=isR (s[pos].toNat:Int):=by
 by_cases ha:s[pos].toNat<128
 ·rw[b5d s pos h ha]
 ·have hd:=(decode_high s pos h om).1;have e1:isR ((Utf8.decode s pos).1:Int)=false:=by simp[isR];omega
  have e2:isR (s[pos].toNat:Int)=false:=by simp[isR];omega
  rw[e1,e2]
theorem aps (s:ByteArray) (pos:Nat) (h:pos<s.size) (hr:isR (s[pos].toNat:Int)=true):Utf8.decode s pos=(s[pos].toNat,1):=by
 have:48 ≤(s[pos].toNat:Int) ∧(s[pos].toNat:Int)≤57∨65 ≤(s[pos].toNat:Int) ∧(s[pos].toNat:Int)≤70∨97 ≤(s[pos].toNat:Int) ∧(s[pos].toNat:Int)≤102:=by simpa [isR]using hr
 exact b5d s pos h om
def jq:List UInt8→Option Int
 | [a,b]=>if isR (a.toNat:Int) && isR (b.toNat:Int)then some (16*afo (a.toNat:Int)+afo (b.toNat:Int))else none
 | _=>none
theorem a69 {l:List UInt8} (h:l.length≠2):jq l=none:=by
 unfold jq
 split
 ·simp at h
 ·rfl
theorem a8w (s:ByteArray) (w:World) (h:s.size≠2) :
 Calls prog 99 #[.string s] w fun e w'=>e=.returned (.tuple #[.int .u8 0,.bool false])∧w=w':=by
 have hb:((s.size:Int) != 2)=true:=by rw[b0g];omega
 go_enter func99,ntmps99;go_wp2
 go_ret2
 exact⟨rfl,rfl⟩
theorem am7 (a b:Int) (ha0:0≤a) (ha:a<16) (hb0:0≤b) (hb:b<16):bits BinOp.or IntKind.u8 (a*16) b=16*a+b:=by
 obtain⟨x,rfl⟩:=b19 ha0;obtain⟨y,rfl⟩:=b19 hb0;have h:∀x y:Fin 16,bits BinOp.or IntKind.u8 (((x.val:Nat):Int)*16) ((y.val:Nat):Int)=16*((x.val:Nat):Int) +((y.val:Nat):Int):=by decide +kernel
 exact h ⟨x,by omega⟩ ⟨y,by omega⟩
theorem att (b:Int) (hb0:0≤b) (hb:b<16):bits BinOp.or IntKind.u8 0 b=b:=by
 have:=am7 0 b om om hb0 hb
 simpa using this
theorem axr (c:Int) (h:isR c=true):0≤afo c∧afo c<16:=by
 have h':48≤c∧c≤57∨65≤c∧c≤70∨97≤c∧c≤102:=by simpa [isR]using h
 unfold afo
 split
 ·omega
 ·split<;>omega
theorem a3k (s:ByteArray) (x0 x1:Int) (w:World) (hb:((s.size:Int) != 2)=false) (h0:Hid (isR x0=true)) (h1:Hid (isR x1=true))
 (n0:∀ty,(Instr.next (.pointer (some ⟨w.1.size,0,none⟩)) true ty).run prog (w.iter s 0)=.ok (.tuple #[.bool true,.int .i64 0,.int .i32 x0]) (w.iter s 1))
 (n1:∀ty,(Instr.next (.pointer (some ⟨w.1.size,0,none⟩)) true ty).run prog (w.iter s 1)=.ok (.tuple #[.bool true,.int .i64 1,.int .i32 x1]) (w.iter s 2))
 (n2:∀ty,(Instr.next (.pointer (some ⟨w.1.size,0,none⟩)) true ty).run prog (w.iter s 2)=.ok (.tuple #[.bool false]) (w.iter s 2)) :
 Calls prog 99 #[.string s] w fun e w'=>e=.returned (.tuple #[.int .u8 (16*afo x0+afo x1),.bool true])∧Below w.1.size w w':=by
 obtain⟨v00,v01⟩:=axr _ h0.out;obtain⟨v10,v11⟩:=axr _ h1.out;have o0:=att (afo x0) v00 v01;have o1:=am7 _ _ v00 v01 v10 v11;go_enter func99,ntmps99;go_wp2_with fail;refine b4t 3 ?_;rw[b12];go_wp2_with fail;refine(amn x0 _ h0.out).mono ?_;rintro e w' ⟨rfl,rfl⟩;go_wp2_with fail;rw[b12];go_wp2_with fail;refine(amn x1 _ h1.out).mono ?_;rintro e w' ⟨rfl,rfl⟩;go_wp2_with fail;rw[b12];go_wp2_with fail
 go_ret2
 exact⟨rfl,(n6 _ _).alloc (a8 _) _⟩
theorem a8x (s:ByteArray) (x0:Int) (w1 w:World) (hb:((s.size:Int) != 2)=false) (h0:Hid (isR x0=false)) (hw:Below w.1.size w w1)
 (n0:∀ty,(Instr.next (.pointer (some ⟨w.1.size,0,none⟩)) true ty).run prog (w.iter s 0)=.ok (.tuple #[.bool true,.int .i64 0,.int .i32 x0]) w1) :
 Calls prog 99 #[.string s] w fun e w'=>e=.returned (.tuple #[.int .u8 0,.bool false])∧Below w.1.size w w':=by
 go_enter func99,ntmps99;go_wp2_with fail;refine b4t 1 ?_;rw[b12];go_wp2_with fail;refine(a2o x0 _ h0.out).mono ?_;rintro e w' ⟨rfl,rfl⟩;go_wp2_with fail
 go_ret2
 exact⟨rfl,hw⟩
theorem a8y (s:ByteArray) (x0 x1:Int) (w1 w:World) (hb:((s.size:Int) != 2)=false) (h0:Hid (isR x0=true)) (h1:Hid (isR x1=false)) (hw:Below w.1.size w w1)
 (n0:∀ty,(Instr.next (.pointer (some ⟨w.1.size,0,none⟩)) true ty).run prog (w.iter s 0)=.ok (.tuple #[.bool true,.int .i64 0,.int .i32 x0]) (w.iter s 1))
 (n1:∀ty,(Instr.next (.pointer (some ⟨w.1.size,0,none⟩)) true ty).run prog (w.iter s 1)=.ok (.tuple #[.bool true,.int .i64 1,.int .i32 x1]) w1) :
 Calls prog 99 #[.string s] w fun e w'=>e=.returned (.tuple #[.int .u8 0,.bool false])∧Below w.1.size w w':=by
 obtain⟨v00,v01⟩:=axr _ h0.out;have o0:=att (afo x0) v00 v01;go_enter func99,ntmps99;go_wp2_with fail;refine b4t 2 ?_;rw[b12];go_wp2_with fail;refine(amn x0 _ h0.out).mono ?_;rintro e w' ⟨rfl,rfl⟩;go_wp2_with fail;rw[b12];go_wp2_with fail;refine(a2o x1 _ h1.out).mono ?_;rintro e w' ⟨rfl,rfl⟩;go_wp2_with fail
 go_ret2
 exact⟨rfl,hw⟩
theorem a7a (s:ByteArray) (h:s.size=2):jq s.data.toList=if isR ((s[0]'(by omega)).toNat:Int) && isR ((s[1]'(by omega)).toNat:Int)then some (16*afo ((s[0]'(by omega)).toNat:Int)+afo ((s[1]'(by omega)).toNat:Int))else none:=by
 obtain⟨⟨l⟩⟩:=s
 match l,h with
 | [a,b],_=>rfl
theorem as2 (s:ByteArray) (w:World) :
 Calls prog 99 #[.string s] w fun e w'=>e=.returned (.tuple #[.int .u8 ((jq s.data.toList).getD 0),.bool (jq s.data.toList).isSome])∧Below w.1.size w w':=by
 by_cases hs:s.size=2
 ·have hb:((s.size:Int) != 2)=false:=by rw[t7];omega
  have n0:∀ty,(Instr.next (.pointer (some ⟨w.1.size,0,none⟩)) true ty).run prog (w.iter s 0)=_:=fun ty=>run_next_any w s 0 ty om
  have n1:∀ty,(Instr.next (.pointer (some ⟨w.1.size,0,none⟩)) true ty).run prog (w.iter s 1)=_:=fun ty=>run_next_any w s 1 ty om
  have n2:∀ty,(Instr.next (.pointer (some ⟨w.1.size,0,none⟩)) true ty).run prog (w.iter s 2)=_:=fun ty=>run_next_end w s 2 ty om
  have r0:=ap2 s 0 om;have r1:=ap2 s 1 om;have hB:∀p,Below w.1.size w (w.iter s p):=fun p=>(n6 _ _).alloc (a8 _) _
  rw[a7a s hs]
  by_cases h0:isR ((s[0]'(by omega)).toNat:Int)=true
  ·have d0:=aps s 0 om h0;simp only[d0]at n0
   by_cases h1:isR ((s[1]'(by omega)).toNat:Int)=true
   ·have d1:=aps s 1 om h1;simp only[d1]at n1;rw[h0,h1];exact a3k s _ _ w hb h0 h1 n0 n1 n2
   ·have h1:isR ((s[1]'(by omega)).toNat:Int)=false:=by simpa using h1
    rw[h0,h1];exact a8y s _ _ _ w hb h0 (r1.trans h1) (hB _) n0 n1
  ·have h0:isR ((s[0]'(by omega)).toNat:Int)=false:=by simpa using h0
   rw[h0];exact a8x s _ _ w hb (r0.trans h0) (hB _) n0
 ·rw[a69 (by simpa using hs)];exact(a8w s w hs).mono fun _ _ ⟨he,hw⟩=>⟨he,by subst hw;exact n6 _ _⟩
def axf (s:ByteArray):Int:=((akc s.data.toList).toNat:Int)
theorem bc0 (s:ByteArray) (w:World) (hs:s.size≤maxLen) :
 Calls prog 100 #[.string s] w fun e w'=>e=.returned (.int .u8 (axf s))∧w=w':=bks s w hs
theorem ao0 (s:ByteArray) (w:World) (h:jq s.data.toList=none) :
 Calls prog 99 #[.string s] w fun e w'=>e=.returned (.tuple #[.int .u8 0,.bool false])∧Below w.1.size w w':=
 (as2 s w).mono fun e w' ⟨he,hb⟩=>⟨by rw[he,h];rfl,hb⟩
theorem afv (s:ByteArray) (v:Int) (w:World) (h:jq s.data.toList=some v) :
 Calls prog 99 #[.string s] w fun e w'=>e=.returned (.tuple #[.int .u8 v,.bool true])∧Below w.1.size w w':=
 (as2 s w).mono fun e w' ⟨he,hb⟩=>⟨by rw[he,h];rfl,hb⟩
def yb (s:ByteArray):Option ByteArray:=
 if s.size<3 then none
 else if s.data.toList[s.size-3]?=some 42∧jq (s.extract (s.size-3+1) s.size).data.toList=some (axf (s.extract 0 (s.size-3)))then some (s.extract 0 (s.size-3))else none
def adu (s:ByteArray) (w:World) (e:Ending) (w':World):Prop:=
 e=.returned (.tuple #[.string ((yb s).getD ByteArray.empty),.bool (yb s).isSome])∧Below w.1.size w w'
theorem a3c (s:ByteArray) (w:World) (hs:s.size<3):Calls prog 81 #[.string s] w (adu s w):=by
 have hn:yb s=none:=by simp[yb,hs]
 unfold adu;rw[hn];clear hn;go_enter func81,ntmps81;go_wp2
 go_ret2
 exact⟨rfl,n6 _ _⟩
theorem a8l (s:ByteArray) (n:Nat) (w:World) (hs:n+3≤s.size) (hs':s.size≤n+3) (hm:s.size≤1000000) (e1:(s.size:Int)-3=(n:Int))
 (hst:((s[n]'(by omega)).toNat:Int)≠42):Calls prog 81 #[.string s] w fun e w'=>e=.returned (.tuple #[.string ByteArray.empty,.bool false])∧Below w.1.size w w':=by
 have hb:(((s[n]'(by omega)).toNat:Int) != 42)=true:=by rw[b0g];exact hst
 go_enter func81,ntmps81;go_wp2
 go_ret2
 exact⟨rfl,n6 _ _⟩
theorem a3d (s:ByteArray) (n:Nat) (w:World) (hs:n+3≤s.size) (hs':s.size≤n+3) (hm:s.size≤1000000) (e1:(s.size:Int)-3=(n:Int))
 (hst:(((s[n]'(by omega)).toNat:Int) != 42)=false) (hu:Hid (jq (s.extract (n+1) s.size).data.toList=none)):Calls prog 81 #[.string s] w fun e w'=>e=.returned (.tuple #[.string ByteArray.empty,.bool false])∧Below w.1.size w w':=by
 go_enter func81,ntmps81;go_wp2_with fail;refine(ao0 _ _ hu).mono ?_;rintro e w1 ⟨rfl,hb1⟩;go_wp2
 go_ret2
 exact⟨rfl,hb1⟩
theorem bc1 (s:ByteArray) (n:Nat) (v:Int) (w:World) (hs:n+3≤s.size) (hs':s.size≤n+3) (hm:s.size≤1000000) (e1:(s.size:Int)-3=(n:Int))
 (hst:(((s[n]'(by omega)).toNat:Int) != 42)=false) (hu:Hid (jq (s.extract (n+1) s.size).data.toList=some v)) (hv:(v != axf (s.extract 0 n))=true) :
 Calls prog 81 #[.string s] w fun e w'=>e=.returned (.tuple #[.string ByteArray.empty,.bool false])∧Below w.1.size w w':=by
 go_enter func81,ntmps81;go_wp2_with fail;refine(afv _ v _ hu).mono ?_;rintro e w1 ⟨rfl,hb1⟩;go_wp2_with fail;refine(bc0 _ _ (by unfold maxLen;simp only[b0u];omega)).mono ?_;rintro e w' ⟨rfl,rfl⟩;go_wp2
 go_ret2
 exact⟨rfl,hb1⟩
theorem bc2 (s:ByteArray) (n:Nat) (v:Int) (w:World) (hs:n+3≤s.size) (hs':s.size≤n+3) (hm:s.size≤1000000) (e1:(s.size:Int)-3=(n:Int))
 (hst:(((s[n]'(by omega)).toNat:Int) != 42)=false) (hu:Hid (jq (s.extract (n+1) s.size).data.toList=some v)) (hv:(v != axf (s.extract 0 n))=false) :
 Calls prog 81 #[.string s] w fun e w'=>e=.returned (.tuple #[.string (s.extract 0 n),.bool true])∧Below w.1.size w w':=by
 go_enter func81,ntmps81;go_wp2_with fail;refine(afv _ v _ hu).mono ?_;rintro e w1 ⟨rfl,hb1⟩;go_wp2_with fail;refine(bc0 _ _ (by unfold maxLen;simp only[b0u];omega)).mono ?_;rintro e w' ⟨rfl,rfl⟩;go_wp2
 go_ret2
 exact⟨rfl,hb1⟩
theorem aux (s:ByteArray) (n:Nat) (h:n<s.size):s.data.toList[n]?=some s[n]:=by
 rw[c8 (by simpa using h)];rfl
theorem bg8 (s:ByteArray) (n:Nat) (h:n<s.size):(s.data.toList[n]?=some 42) ↔(s[n].toNat:Int)=42:=by
 rw[aux s n h];constructor
 ·intro h;injection h with h
  rw[h];rfl
 ·intro h
  congr 1
  apply b1p.1;have:(42:UInt8).toNat=42:=rfl;omega
theorem aoo (s:ByteArray) (w:World) (hm:s.size≤1000000):Calls prog 81 #[.string s] w (adu s w):=by
 by_cases hs:s.size<3
 ·exact a3c s w hs
 ·obtain⟨n,hn⟩:∃n,s.size=n+3:=⟨s.size-3,by omega⟩;have e1:(s.size:Int)-3=(n:Int):=by omega
  have en:s.size-3=n:=by omega
  have hlt:n<s.size:=by omega
  have hat:=bg8 s n hlt
  by_cases hst:((s[n]'hlt).toNat:Int)=42
  ·have hst':(((s[n]'hlt).toNat:Int) != 42)=false:=by rw[t7];exact hst
   cases hu:jq (s.extract (n+1) s.size).data.toList with
   | none=>
    have ho:yb s=none:=by unfold yb;rw[if_neg hs,en,if_neg (fun h=>by rw[hu]at h;exact absurd h.2 sm)]
    unfold adu;rw[ho];exact a3d s n w om om hm e1 hst' hu
   | some v=>
    by_cases hv:v=axf (s.extract 0 n)
    ·have ho:yb s=some (s.extract 0 n):=by unfold yb;rw[if_neg hs,en,if_pos ⟨hat.2 hst,by rw[hu,hv]⟩]
     unfold adu;rw[ho];exact bc2 s n v w om om hm e1 hst' hu (by rw[t7];exact hv)
    ·have ho:yb s=none:=by unfold yb;rw[if_neg hs,en,if_neg (fun h=>by rw[hu]at h;exact hv (by simpa using h.2))]
     unfold adu;rw[ho];exact bc1 s n v w om om hm e1 hst' hu (by rw[b0g];exact hv)
  ·have ho:yb s=none:=by unfold yb;rw[if_neg hs,en,if_neg (fun h=>hst (hat.1 h.1))]
   unfold adu;rw[ho];exact a8l s n w om om hm e1 hst
def acv (c:Int):Bool:=decide (32≤c∧c≤126∧c≠33∧c≠36∧c≠42∧c≠92∧c≠94∧c≠126)
def aew (c:Int):Bool:=decide (65≤c∧c≤90∨48≤c∧c≤57)
theorem ajx (c:Int) (w:World) :
 Calls prog 96 #[.int .i32 c] w fun e w'=>e=.returned (.bool (acv c))∧w=w':=by
 cases h:acv c with
 | true=>
  have h':32≤c∧c≤126∧c≠33∧c≠36∧c≠42∧c≠92∧c≠94∧c≠126:=by simpa [acv]using h
  clear h;obtain⟨h0,h1,h2,h3,h4,h5,h6,h7⟩:=h';have k2:(c==33)=false:=by rw[l6];exact h2
  have k3:(c==36)=false:=by rw[l6];exact h3
  have k4:(c==42)=false:=by rw[l6];exact h4
  have k5:(c==92)=false:=by rw[l6];exact h5
  have k6:(c==94)=false:=by rw[l6];exact h6
  have k7:(c==126)=false:=by rw[l6];exact h7
  go_enter func96,ntmps96;go_wp2;go_ret;exact⟨rfl,rfl⟩
 | false=>
  have h':c<32∨126<c∨c=33∨c=36∨c=42∨c=92∨c=94∨c=126:=by
   have:¬(32≤c∧c≤126∧c≠33∧c≠36∧c≠42∧c≠92∧c≠94∧c≠126):=by simpa [acv]using h
   omega
  clear h;rcases h' with h|h|rfl|rfl|rfl|rfl|rfl|rfl
  all_goals
   go_enter func96,ntmps96;go_wp2;go_ret
   first|exact⟨rfl,rfl⟩|exact⟨aqp (by simp;omega),rfl⟩
theorem aq4 (c:Int) (w:World) :
 Calls prog 132 #[.int .i32 c] w fun e w'=>e=.returned (.bool (aew c))∧w=w':=by
 cases h:aew c with
 | true=>
  have h':65≤c∧c≤90∨48≤c∧c≤57:=by simpa [aew]using h
  clear h;rcases h' with⟨h0,h1⟩|⟨h0,h1⟩
  all_goals
   go_enter func132,ntmps132;go_wp2;go_ret
   first|exact⟨rfl,rfl⟩|exact⟨aqp (by simp;omega),rfl⟩
 | false=>
  have h':c<48∨57<c∧c<65∨90<c:=by
   have:¬(65≤c∧c≤90∨48≤c∧c≤57):=by simpa [aew]using h
   omega
  clear h;rcases h' with h|⟨h,h1⟩|h
  all_goals
   go_enter func132,ntmps132;go_wp2;go_ret
   first|exact⟨rfl,rfl⟩|exact⟨aqp (by simp;omega),rfl⟩
def auw (p:Int→Bool) (s:ByteArray):Bool:=s.data.toList.all fun c=>p (c.toNat:Int)
theorem bg7 {p:Int→Bool} {s:ByteArray} {k:Nat} (h:k<s.size) (hp:p (s[k].toNat:Int)=false):auw p s=false:=by
 unfold auw;rw[List.all_eq_false];exact⟨s[k],by show s.data[k]∈_;simp,by rw[hp];simp⟩
theorem bdb {p:Int→Bool} {s:ByteArray} (h:∀j (hj:j<s.size),p ((s[j]'hj).toNat:Int)=true):auw p s=true:=by
 unfold auw;rw[b11];intro x hx;obtain⟨j,hj,rfl⟩:=b3c hx;exact h j (by simpa using hj)
theorem aq3 (c:Int) (h:128≤c):aew c=false:=by simp[aew];omega
theorem bdc (s:ByteArray) (w:World) :
 Calls prog 131 #[.string s,.func (.func 132) #[] #[]] w fun e w'=>e=.returned (.bool (auw aew s))∧Below w.1.size w w':=by
 have hB:∀p,Below w.1.size w (w.iter s p):=fun p=>(n6 _ _).alloc (a8 _) _
 have HB:=hid hB;clear hB;go_enter func131,ntmps131;go_wp2_with fail
 go_loopw [] (fun w'=>∃pos:Nat,pos≤s.size∧w'=w.iter s pos∧∀j (hj:j<s.size),j<pos→aew ((s[j]'hj).toNat:Int)=true) (fun w'=>s.size-w'.iterPos w.1.size)
 case atStart=>exact⟨0,b0c _,rfl,fun j _ h=>absurd h (b0v _)⟩
 case round=>
  obtain⟨pos,hpos,rfl,hall⟩:=hrel;have HA:=hid hall;clear hall
  by_cases hp:pos<s.size
  ·have hnx:∀ty,(Instr.next (.pointer (some ⟨w.1.size,0,none⟩)) true ty).run prog (w.iter s pos)=_:=fun ty=>run_next_any w s pos ty hp
   cases hc:aew (s[pos].toNat:Int)with
   | true=>
    have hlow:s[pos].toNat<128:=by
     rcases b01 s[pos].toNat 128 with h|h
     ·exact h
     ·rw[aq3 _ om]at hc;cases hc
    simp only[b5d s pos hp hlow]at hnx;have HC:=hid hc;clear hc hlow;go_wp2_with fail;refine(aq4 _ _).mono ?_;rintro e w' ⟨rfl,rfl⟩;rw[HC.out];go_wp2_with fail
    go_roundw
    case rel=>
     refine⟨pos+1,by omega,rfl,fun j hj hlt=>?_⟩;rcases b01 j pos with h|h
     ·exact HA.out j hj h
     ·obtain rfl:j=pos:=by omega
      exact HC.out
    case measure=>simp;omega
   | false=>
    have HN:=hid (bg7 hp hc)
    have hr:aew ((Utf8.decode s pos).1:Int)=false:=by
     by_cases ha:s[pos].toNat<128
     ·rw[b5d s pos hp ha];exact hc
     ·exact aq3 _ (by have:=(decode_high s pos hp om).1;omega)
    have HR:=hid hr;clear hc hr;go_wp2_with fail;refine(aq4 _ _).mono ?_;rintro e w' ⟨rfl,rfl⟩;rw[HR.out];go_wp2_with fail;go_ret;exact⟨by rw[HN.out];rfl,HB.out _⟩
  ·have hnx:∀ty,(Instr.next (.pointer (some ⟨w.1.size,0,none⟩)) true ty).run prog (w.iter s pos)=_:=fun ty=>run_next_end w s pos ty hp
   have HY:=hid (bdb (p:=aew) (s:=s) (fun j hj=>HA.out j hj om));go_wp2_with fail;go_ret;exact⟨by rw[HY.out];rfl,HB.out _⟩
def acf (s:ByteArray) (n:Nat):Bool:=decide (s.size=n) && auw aew s
theorem aim (s:ByteArray) (n:Nat) (w:World) :
 Calls prog 98 #[.string s,.int .i64 (n:Int)] w fun e w'=>e=.returned (.bool (acf s n))∧Below w.1.size w w':=by
 by_cases h:s.size=n
 ·have hb:((s.size:Int)==(n:Int))=true:=by rw[b1o];omega
  have hs:acf s n=auw aew s:=by simp[acf,h]
  rw[hs];clear hs h;go_enter func98,ntmps98;go_wp2_with fail;refine(bdc s _).mono ?_;rintro e w1 ⟨rfl,hb1⟩;go_wp2_with fail;go_ret;exact⟨rfl,hb1⟩
 ·have hb:((s.size:Int)==(n:Int))=false:=by rw[l6];omega
  have hs:acf s n=false:=by simp[acf,h]
  rw[hs];clear hs h;go_enter func98,ntmps98;go_wp2_with fail;go_ret;exact⟨rfl,n6 _ _⟩
def akm (t y:ByteArray) (fs:List ByteArray):List UInt8:=t.data.toList++y.data.toList++fs.flatMap fun f=>44::f.data.toList
theorem a5b (p:List UInt8) (x y:UInt8) :
 yb ⟨(p++[42,x,y]).toArray⟩=if jq [x,y]=some ((akc p).toNat:Int)then some ⟨p.toArray⟩else none:=by
 have hs:(ByteArray.mk (p++[42,x,y]).toArray).size=p.length+3:=by
  show (p++[42,x,y]).toArray.size=_;simp
 have he:(ByteArray.mk (p++[42,x,y]).toArray).extract 0 p.length=⟨p.toArray⟩:=by
  rw[b4b];simp
 have hf:(ByteArray.mk (p++[42,x,y]).toArray).extract (p.length+1) (p.length+3)=⟨[x,y].toArray⟩:=by
  rw[b4b];simp[List.drop_append,b3z]
 have h42:(ByteArray.mk (p++[42,x,y]).toArray).data.toList[p.length]?=some 42:=by simp
 unfold yb;rw[hs,if_neg om,show p.length+3-3=p.length from by omega,he,hf];have hsum:axf ⟨p.toArray⟩=((akc p).toNat:Int):=by simp[axf]
 rw[hsum]
 by_cases hu:jq [x,y]=some ((akc p).toNat:Int)
 ·rw[if_pos ⟨h42,hu⟩,if_pos hu]
 ·rw[if_neg (fun h=>hu h.2),if_neg hu]
