/- Parts. -/
import Derived.Test.YtdkhlkfleggbaaaGreatV24
namespace Go.Proofs.YtdkhlkfleggbaaaGreat
set_option maxHeartbeats 1000000
open Tryz
set_option linter.unusedVariables false
open Go.RowKit
def akk (l:List UInt8):UInt8:=l.foldl (λc b=>c ^^^ b) 0
theorem bd1 (l:List UInt8) (b:UInt8):akk (l++[b])=akk l ^^^ b:=by simp[akk]
theorem bl4 (s:ByteArray) (w:World) (hs:s.size<=maxLen) :
 Calls prog 100 #[.string s] w λe w'=>e=.returned (.int .u8 ((akk s.data.toList).toNat:Int))/\w=w':=by
 unfold maxLen at hs;go_enter func100,ntmps100;go_wp2
 go_loop [3,7] (λc i=>∃k:Nat,k<=s.size/\i=.int .i64 k/\c=.int .u8 ((akk (s.data.toList.take k)).toNat:Int)) (λ_ i=>s.size-(intOf i).toNat)
 case atStart=>exact⟨0,b0d _,rfl,rfl⟩
 case round=>
  obtain⟨k,hk,rfl,rfl⟩:=hrel
  by_cases hlt:k<s.size
  ·go_wp2
   go_round
   case rel=>exact⟨k+1,by omega,by go_num,by rw[bdh s k hlt,bd1,bnq]⟩
   case measure=>simp[intOf];omega
  ·go_wp2;go_ret;exact⟨bnh (by rw[b1h (by simp;omega)]),rfl⟩
def afz (c:Int):Int:=if c<=57 then c-48 else if c<=70 then c-55 else c-87
def isR (c:Int):Bool:=decide (48<=c/\c<=57\/65<=c/\c<=70\/97<=c/\c<=102)
theorem am5 (c:Int) (w:World) (h:isR c=true) :
 Calls prog 133 #[.int .i32 c] w λe w'=>e=.returned (.tuple #[.int .u8 (afz c),.bool true])/\w=w':=by
 have h':48<=c/\c<=57\/65<=c/\c<=70\/97<=c/\c<=102:=by simpa [isR]using h
 clear h;rcases h' with⟨h0,h1⟩|⟨h0,h1⟩|⟨h0,h1⟩
 ·have hd:afz c=c-48:=by simp[afz,h1]
  rw[hd];clear hd;go_enter func133,ntmps133;go_wp2
  go_ret2
  exact⟨rfl,rfl⟩
 ·have hd:afz c=c-65+10:=by unfold afz;split<;>omega
  rw[hd];clear hd;go_enter func133,ntmps133;go_wp2
  go_ret2
  exact⟨rfl,rfl⟩
 ·have hd:afz c=c-97+10:=by unfold afz;split;omega;split<;>omega
  rw[hd];clear hd;go_enter func133,ntmps133;go_wp2
  go_ret2
  exact⟨rfl,rfl⟩
theorem a3m (c:Int) (w:World) (h:isR c=false) :
 Calls prog 133 #[.int .i32 c] w λe w'=>e=.returned (.tuple #[.int .u8 0,.bool false])/\w=w':=by
 have h':¬(48<=c/\c<=57\/65<=c/\c<=70\/97<=c/\c<=102):=by simpa [isR]using h
 clear h;have h2:c<48\/57<c/\c<65\/70<c/\c<97\/102<c:=by omega
 clear h';rcases h2 with h0|⟨h0,h1⟩|⟨h0,h1⟩|h0
 all_goals
  go_enter func133,ntmps133;go_wp2
  go_ret2
  exact⟨rfl,rfl⟩
theorem aqi (s:ByteArray) (pos:Nat) (h:pos<s.size):isR ((Utf8.decode s pos).1:Int)=isR (s[pos].toNat:Int):=by
 by_cases ha:s[pos].toNat<128
 ·rw[b5l s pos h ha]
 ·have hd:=(decode_high s pos h om).1;have e1:isR ((Utf8.decode s pos).1:Int)=false:=by simp[isR];omega
  have e2:isR (s[pos].toNat:Int)=false:=by simp[isR];omega
  rw[e1,e2]
theorem ap8 (s:ByteArray) (pos:Nat) (h:pos<s.size) (hr:isR (s[pos].toNat:Int)=true):Utf8.decode s pos=(s[pos].toNat,1):=by
 have:48 <=(s[pos].toNat:Int) /\(s[pos].toNat:Int)<=57\/65 <=(s[pos].toNat:Int) /\(s[pos].toNat:Int)<=70\/97 <=(s[pos].toNat:Int) /\(s[pos].toNat:Int)<=102:=by simpa [isR]using hr
 exact b5l s pos h om
def jq:List UInt8->Option Int
 | [a,b]=>if isR (a.toNat:Int) && isR (b.toNat:Int)then some (16*afz (a.toNat:Int)+afz (b.toNat:Int))else none
 | _=>none
theorem a8f {l:List UInt8} (h:l.length≠2):jq l=none:=by
 unfold jq
 split
 ·simp at h
 ·rfl
theorem a94 (s:ByteArray) (w:World) (h:s.size≠2) :
 Calls prog 99 #[.string s] w λe w'=>e=.returned (.tuple #[.int .u8 0,.bool false])/\w=w':=by
 have hb:((s.size:Int) != 2)=true:=by rw[b0r];omega
 go_enter func99,ntmps99;go_wp2
 go_ret2
 exact⟨rfl,rfl⟩
theorem ano (a b:Int) (ha0:0<=a) (ha:a<16) (hb0:0<=b) (hb:b<16):bits BinOp.or IntKind.u8 (a*16) b=16*a+b:=by
 obtain⟨x,rfl⟩:=b2n ha0;obtain⟨y,rfl⟩:=b2n hb0;have h:∀x y:Fin 16,bits BinOp.or IntKind.u8 (((x.val:Nat):Int)*16) ((y.val:Nat):Int)=16*((x.val:Nat):Int) +((y.val:Nat):Int):=by decide +kernel
 exact h ⟨x,by omega⟩ ⟨y,by omega⟩
theorem aub (b:Int) (hb0:0<=b) (hb:b<16):bits BinOp.or IntKind.u8 0 b=b:=by
 have:=ano 0 b om om hb0 hb
 simpa using this
theorem aye (c:Int) (h:isR c=true):0<=afz c/\afz c<16:=by
 have h':48<=c/\c<=57\/65<=c/\c<=70\/97<=c/\c<=102:=by simpa [isR]using h
 unfold afz
 split
 ·omega
 ·split<;>omega
theorem a4h (s:ByteArray) (x0 x1:Int) (w:World) (hb:((s.size:Int) != 2)=false) (h0:Q_ (isR x0=true)) (h1:Q_ (isR x1=true))
 (n0:∀ty,(Instr.next (.pointer (some ⟨w.1.size,0,none⟩)) true ty).run prog (w.iter s 0)=.ok (.tuple #[.bool true,.int .i64 0,.int .i32 x0]) (w.iter s 1))
 (n1:∀ty,(Instr.next (.pointer (some ⟨w.1.size,0,none⟩)) true ty).run prog (w.iter s 1)=.ok (.tuple #[.bool true,.int .i64 1,.int .i32 x1]) (w.iter s 2))
 (n2:∀ty,(Instr.next (.pointer (some ⟨w.1.size,0,none⟩)) true ty).run prog (w.iter s 2)=.ok (.tuple #[.bool false]) (w.iter s 2)) :
 Calls prog 99 #[.string s] w λe w'=>e=.returned (.tuple #[.int .u8 (16*afz x0+afz x1),.bool true])/\Below w.1.size w w':=by
 obtain⟨v00,v01⟩:=aye _ h0.o;obtain⟨v10,v11⟩:=aye _ h1.o;have o0:=aub (afz x0) v00 v01;have o1:=ano _ _ v00 v01 v10 v11;go_enter func99,ntmps99;go_wp2_with fail;refine b42 3 ?_;rw[b2d];go_wp2_with fail;refine(am5 x0 _ h0.o).mono ?_;rintro e w' ⟨rfl,rfl⟩;go_wp2_with fail;rw[b2d];go_wp2_with fail;refine(am5 x1 _ h1.o).mono ?_;rintro e w' ⟨rfl,rfl⟩;go_wp2_with fail;rw[b2d];go_wp2_with fail
 go_ret2
 exact⟨rfl,(n9 _ _).alloc (a8 _) _⟩
theorem a95 (s:ByteArray) (x0:Int) (w1 w:World) (hb:((s.size:Int) != 2)=false) (h0:Q_ (isR x0=false)) (hw:Below w.1.size w w1)
 (n0:∀ty,(Instr.next (.pointer (some ⟨w.1.size,0,none⟩)) true ty).run prog (w.iter s 0)=.ok (.tuple #[.bool true,.int .i64 0,.int .i32 x0]) w1) :
 Calls prog 99 #[.string s] w λe w'=>e=.returned (.tuple #[.int .u8 0,.bool false])/\Below w.1.size w w':=by
 go_enter func99,ntmps99;go_wp2_with fail;refine b42 1 ?_;rw[b2d];go_wp2_with fail;refine(a3m x0 _ h0.o).mono ?_;rintro e w' ⟨rfl,rfl⟩;go_wp2_with fail
 go_ret2
 exact⟨rfl,hw⟩
theorem a96 (s:ByteArray) (x0 x1:Int) (w1 w:World) (hb:((s.size:Int) != 2)=false) (h0:Q_ (isR x0=true)) (h1:Q_ (isR x1=false)) (hw:Below w.1.size w w1)
 (n0:∀ty,(Instr.next (.pointer (some ⟨w.1.size,0,none⟩)) true ty).run prog (w.iter s 0)=.ok (.tuple #[.bool true,.int .i64 0,.int .i32 x0]) (w.iter s 1))
 (n1:∀ty,(Instr.next (.pointer (some ⟨w.1.size,0,none⟩)) true ty).run prog (w.iter s 1)=.ok (.tuple #[.bool true,.int .i64 1,.int .i32 x1]) w1) :
 Calls prog 99 #[.string s] w λe w'=>e=.returned (.tuple #[.int .u8 0,.bool false])/\Below w.1.size w w':=by
 obtain⟨v00,v01⟩:=aye _ h0.o;have o0:=aub (afz x0) v00 v01;go_enter func99,ntmps99;go_wp2_with fail;refine b42 2 ?_;rw[b2d];go_wp2_with fail;refine(am5 x0 _ h0.o).mono ?_;rintro e w' ⟨rfl,rfl⟩;go_wp2_with fail;rw[b2d];go_wp2_with fail;refine(a3m x1 _ h1.o).mono ?_;rintro e w' ⟨rfl,rfl⟩;go_wp2_with fail
 go_ret2
 exact⟨rfl,hw⟩
theorem a8g (s:ByteArray) (h:s.size=2):jq s.data.toList=if isR ((s[0]'(by omega)).toNat:Int) && isR ((s[1]'(by omega)).toNat:Int)then some (16*afz ((s[0]'(by omega)).toNat:Int)+afz ((s[1]'(by omega)).toNat:Int))else none:=by
 obtain⟨⟨l⟩⟩:=s
 match l,h with
 | [a,b],_=>rfl
theorem ati (s:ByteArray) (w:World) :
 Calls prog 99 #[.string s] w λe w'=>e=.returned (.tuple #[.int .u8 ((jq s.data.toList).getD 0),.bool (jq s.data.toList).isSome])/\Below w.1.size w w':=by
 by_cases hs:s.size=2
 ·have hb:((s.size:Int) != 2)=false:=by rw[b0b];omega
  have n0:∀ty,(Instr.next (.pointer (some ⟨w.1.size,0,none⟩)) true ty).run prog (w.iter s 0)=_:=λty=>run_next_any w s 0 ty om
  have n1:∀ty,(Instr.next (.pointer (some ⟨w.1.size,0,none⟩)) true ty).run prog (w.iter s 1)=_:=λty=>run_next_any w s 1 ty om
  have n2:∀ty,(Instr.next (.pointer (some ⟨w.1.size,0,none⟩)) true ty).run prog (w.iter s 2)=_:=λty=>run_next_end w s 2 ty om
  have r0:=aqi s 0 om;have r1:=aqi s 1 om;have hB:∀p,Below w.1.size w (w.iter s p):=λp=>(n9 _ _).alloc (a8 _) _
  rw[a8g s hs]
  by_cases h0:isR ((s[0]'(by omega)).toNat:Int)=true
  ·have d0:=ap8 s 0 om h0;simp only[d0]at n0
   by_cases h1:isR ((s[1]'(by omega)).toNat:Int)=true
   ·have d1:=ap8 s 1 om h1;simp only[d1]at n1;rw[h0,h1];exact a4h s _ _ w hb h0 h1 n0 n1 n2
   ·have h1:isR ((s[1]'(by omega)).toNat:Int)=false:=by simpa using h1
    rw[h0,h1];exact a96 s _ _ _ w hb h0 (r1.trans h1) (hB _) n0 n1
  ·have h0:isR ((s[0]'(by omega)).toNat:Int)=false:=by simpa using h0
   rw[h0];exact a95 s _ _ w hb (r0.trans h0) (hB _) n0
 ·rw[a8f (by simpa using hs)];exact(a94 s w hs).mono λ_ _ ⟨he,hw⟩=>⟨he,by subst hw;exact n9 _ _⟩
def ax3 (s:ByteArray):Int:=((akk s.data.toList).toNat:Int)
theorem bd8 (s:ByteArray) (w:World) (hs:s.size<=maxLen) :
 Calls prog 100 #[.string s] w λe w'=>e=.returned (.int .u8 (ax3 s))/\w=w':=bl4 s w hs
theorem aph (s:ByteArray) (w:World) (h:jq s.data.toList=none) :
 Calls prog 99 #[.string s] w λe w'=>e=.returned (.tuple #[.int .u8 0,.bool false])/\Below w.1.size w w':=
 (ati s w).mono λe w' ⟨he,hb⟩=>⟨by rw[he,h];rfl,hb⟩
theorem af6 (s:ByteArray) (v:Int) (w:World) (h:jq s.data.toList=some v) :
 Calls prog 99 #[.string s] w λe w'=>e=.returned (.tuple #[.int .u8 v,.bool true])/\Below w.1.size w w':=
 (ati s w).mono λe w' ⟨he,hb⟩=>⟨by rw[he,h];rfl,hb⟩
def yd (s:ByteArray):Option ByteArray:=
 if s.size<3 then none
 else if s.data.toList[s.size-3]?=some 42/\jq (s.extract (s.size-3+1) s.size).data.toList=some (ax3 (s.extract 0 (s.size-3)))then some (s.extract 0 (s.size-3))else none
def ad1 (s:ByteArray) (w:World) (e:Ending) (w':World):Prop:=
 e=.returned (.tuple #[.string ((yd s).getD ByteArray.empty),.bool (yd s).isSome])/\Below w.1.size w w'
theorem a39 (s:ByteArray) (w:World) (hs:s.size<3):Calls prog 81 #[.string s] w (ad1 s w):=by
 have hn:yd s=none:=by simp[yd,hs]
 unfold ad1;rw[hn];clear hn;go_enter func81,ntmps81;go_wp2
 go_ret2
 exact⟨rfl,n9 _ _⟩
theorem a9t (s:ByteArray) (n:Nat) (w:World) (hs:n+3<=s.size) (hs':s.size<=n+3) (hm:s.size<=1100000) (e1:(s.size:Int)-3=(n:Int))
 (hst:((s[n]'(by omega)).toNat:Int)≠42):Calls prog 81 #[.string s] w λe w'=>e=.returned (.tuple #[.string ByteArray.empty,.bool false])/\Below w.1.size w w':=by
 have hb:(((s[n]'(by omega)).toNat:Int) != 42)=true:=by rw[b0r];exact hst
 go_enter func81,ntmps81;go_wp2
 go_ret2
 exact⟨rfl,n9 _ _⟩
theorem a4a (s:ByteArray) (n:Nat) (w:World) (hs:n+3<=s.size) (hs':s.size<=n+3) (hm:s.size<=1100000) (e1:(s.size:Int)-3=(n:Int))
 (hst:(((s[n]'(by omega)).toNat:Int) != 42)=false) (hu:Q_ (jq (s.extract (n+1) s.size).data.toList=none)):Calls prog 81 #[.string s] w λe w'=>e=.returned (.tuple #[.string ByteArray.empty,.bool false])/\Below w.1.size w w':=by
 go_enter func81,ntmps81;go_wp2_with fail;refine(aph _ _ hu).mono ?_;rintro e w1 ⟨rfl,hb1⟩;go_wp2
 go_ret2
 exact⟨rfl,hb1⟩
theorem bd9 (s:ByteArray) (n:Nat) (v:Int) (w:World) (hs:n+3<=s.size) (hs':s.size<=n+3) (hm:s.size<=1100000) (e1:(s.size:Int)-3=(n:Int))
 (hst:(((s[n]'(by omega)).toNat:Int) != 42)=false) (hu:Q_ (jq (s.extract (n+1) s.size).data.toList=some v)) (hv:(v != ax3 (s.extract 0 n))=true) :
 Calls prog 81 #[.string s] w λe w'=>e=.returned (.tuple #[.string ByteArray.empty,.bool false])/\Below w.1.size w w':=by
 go_enter func81,ntmps81;go_wp2_with fail;refine(af6 _ v _ hu).mono ?_;rintro e w1 ⟨rfl,hb1⟩;go_wp2_with fail;refine(bd8 _ _ (by unfold maxLen;simp only[b00];omega)).mono ?_;rintro e w' ⟨rfl,rfl⟩;go_wp2
 go_ret2
 exact⟨rfl,hb1⟩
theorem bea (s:ByteArray) (n:Nat) (v:Int) (w:World) (hs:n+3<=s.size) (hs':s.size<=n+3) (hm:s.size<=1100000) (e1:(s.size:Int)-3=(n:Int))
 (hst:(((s[n]'(by omega)).toNat:Int) != 42)=false) (hu:Q_ (jq (s.extract (n+1) s.size).data.toList=some v)) (hv:(v != ax3 (s.extract 0 n))=false) :
 Calls prog 81 #[.string s] w λe w'=>e=.returned (.tuple #[.string (s.extract 0 n),.bool true])/\Below w.1.size w w':=by
 go_enter func81,ntmps81;go_wp2_with fail;refine(af6 _ v _ hu).mono ?_;rintro e w1 ⟨rfl,hb1⟩;go_wp2_with fail;refine(bd8 _ _ (by unfold maxLen;simp only[b00];omega)).mono ?_;rintro e w' ⟨rfl,rfl⟩;go_wp2
 go_ret2
 exact⟨rfl,hb1⟩
theorem avk (s:ByteArray) (n:Nat) (h:n<s.size):s.data.toList[n]?=some s[n]:=by
 rw[d7 (by simpa using h)];rfl
theorem bih (s:ByteArray) (n:Nat) (h:n<s.size):(s.data.toList[n]?=some 42) ↔(s[n].toNat:Int)=42:=by
 rw[avk s n h];constructor
 ·intro h;injection h with h
  rw[h];rfl
 ·intro h
  congr 1
  apply b1y.1;have:(42:UInt8).toNat=42:=rfl;omega
theorem ao7 (s:ByteArray) (w:World) (hm:s.size<=1100000):Calls prog 81 #[.string s] w (ad1 s w):=by
 by_cases hs:s.size<3
 ·exact a39 s w hs
 ·obtain⟨n,hn⟩:∃n,s.size=n+3:=⟨s.size-3,by omega⟩;have e1:(s.size:Int)-3=(n:Int):=by omega
  have en:s.size-3=n:=by omega
  have hlt:n<s.size:=by omega
  have hat:=bih s n hlt
  by_cases hst:((s[n]'hlt).toNat:Int)=42
  ·have hst':(((s[n]'hlt).toNat:Int) != 42)=false:=by rw[b0b];exact hst
   cases hu:jq (s.extract (n+1) s.size).data.toList with
   | none=>
    have ho:yd s=none:=by unfold yd;rw[if_neg hs,en,if_neg (λh=>by rw[hu]at h;exact absurd h.2 sm)]
    unfold ad1;rw[ho];exact a4a s n w om om hm e1 hst' hu
   | some v=>
    by_cases hv:v=ax3 (s.extract 0 n)
    ·have ho:yd s=some (s.extract 0 n):=by unfold yd;rw[if_neg hs,en,if_pos ⟨hat.2 hst,by rw[hu,hv]⟩]
     unfold ad1;rw[ho];exact bea s n v w om om hm e1 hst' hu (by rw[b0b];exact hv)
    ·have ho:yd s=none:=by unfold yd;rw[if_neg hs,en,if_neg (λh=>by rw[hu]at h;exact hv (by simpa using h.2))]
     unfold ad1;rw[ho];exact bd9 s n v w om om hm e1 hst' hu (by rw[b0r];exact hv)
  ·have ho:yd s=none:=by unfold yd;rw[if_neg hs,en,if_neg (λh=>hst (hat.1 h.1))]
   unfold ad1;rw[ho];exact a9t s n w om om hm e1 hst
def acz (c:Int):Bool:=decide (32<=c/\c<=126/\c≠33/\c≠36/\c≠42/\c≠92/\c≠94/\c≠126)
def ae3 (c:Int):Bool:=decide (65<=c/\c<=90\/48<=c/\c<=57)
theorem aj4 (c:Int) (w:World) :
 Calls prog 96 #[.int .i32 c] w λe w'=>e=.returned (.bool (acz c))/\w=w':=by
 cases h:acz c with
 | true=>
  have h':32<=c/\c<=126/\c≠33/\c≠36/\c≠42/\c≠92/\c≠94/\c≠126:=by simpa [acz]using h
  clear h;obtain⟨h0,h1,h2,h3,h4,h5,h6,h7⟩:=h';have k2:(c==33)=false:=by rw[l7];exact h2
  have k3:(c==36)=false:=by rw[l7];exact h3
  have k4:(c==42)=false:=by rw[l7];exact h4
  have k5:(c==92)=false:=by rw[l7];exact h5
  have k6:(c==94)=false:=by rw[l7];exact h6
  have k7:(c==126)=false:=by rw[l7];exact h7
  go_enter func96,ntmps96;go_wp2;go_ret;exact⟨rfl,rfl⟩
 | false=>
  have h':c<32\/126<c\/c=33\/c=36\/c=42\/c=92\/c=94\/c=126:=by
   have:¬(32<=c/\c<=126/\c≠33/\c≠36/\c≠42/\c≠92/\c≠94/\c≠126):=by simpa [acz]using h
   omega
  clear h;rcases h' with h|h|rfl|rfl|rfl|rfl|rfl|rfl
  all_goals
   go_enter func96,ntmps96;go_wp2;go_ret
   first|exact⟨rfl,rfl⟩|exact⟨aq2 (by simp;omega),rfl⟩
theorem arh (c:Int) (w:World) :
 Calls prog 132 #[.int .i32 c] w λe w'=>e=.returned (.bool (ae3 c))/\w=w':=by
 cases h:ae3 c with
 | true=>
  have h':65<=c/\c<=90\/48<=c/\c<=57:=by simpa [ae3]using h
  clear h;rcases h' with⟨h0,h1⟩|⟨h0,h1⟩
  all_goals
   go_enter func132,ntmps132;go_wp2;go_ret
   first|exact⟨rfl,rfl⟩|exact⟨aq2 (by simp;omega),rfl⟩
 | false=>
  have h':c<48\/57<c/\c<65\/90<c:=by
   have:¬(65<=c/\c<=90\/48<=c/\c<=57):=by simpa [ae3]using h
   omega
  clear h;rcases h' with h|⟨h,h1⟩|h
  all_goals
   go_enter func132,ntmps132;go_wp2;go_ret
   first|exact⟨rfl,rfl⟩|exact⟨aq2 (by simp;omega),rfl⟩
def avj (p:Int->Bool) (s:ByteArray):Bool:=s.data.toList.all λc=>p (c.toNat:Int)
theorem big {p:Int->Bool} {s:ByteArray} {k:Nat} (h:k<s.size) (hp:p (s[k].toNat:Int)=false):avj p s=false:=by
 unfold avj;rw[List.all_eq_false];exact⟨s[k],by show s.data[k]∈_;simp,by rw[hp];simp⟩
theorem bek {p:Int->Bool} {s:ByteArray} (h:∀j (hj:j<s.size),p ((s[j]'hj).toNat:Int)=true):avj p s=true:=by
 unfold avj;rw[b2c];intro x hx;obtain⟨j,hj,rfl⟩:=b3l hx;exact h j (by simpa using hj)
theorem arg (c:Int) (h:128<=c):ae3 c=false:=by simp[ae3];omega
theorem bem (s:ByteArray) (w:World) :
 Calls prog 131 #[.string s,.func (.func 132) #[] #[]] w λe w'=>e=.returned (.bool (avj ae3 s))/\Below w.1.size w w':=by
 have hB:∀p,Below w.1.size w (w.iter s p):=λp=>(n9 _ _).alloc (a8 _) _
 have HB:=q_ hB;clear hB;go_enter func131,ntmps131;go_wp2_with fail
 go_loopw [] (λw'=>∃pos:Nat,pos<=s.size/\w'=w.iter s pos/\∀j (hj:j<s.size),j<pos->ae3 ((s[j]'hj).toNat:Int)=true) (λw'=>s.size-w'.iterPos w.1.size)
 case atStart=>exact⟨0,b0d _,rfl,λj _ h=>absurd h (b04 _)⟩
 case round=>
  obtain⟨pos,hpos,rfl,hall⟩:=hrel;have HA:=q_ hall;clear hall
  by_cases hp:pos<s.size
  ·have hnx:∀ty,(Instr.next (.pointer (some ⟨w.1.size,0,none⟩)) true ty).run prog (w.iter s pos)=_:=λty=>run_next_any w s pos ty hp
   cases hc:ae3 (s[pos].toNat:Int)with
   | true=>
    have hlow:s[pos].toNat<128:=by
     rcases b08 s[pos].toNat 128 with h|h
     ·exact h
     ·rw[arg _ om]at hc;cases hc
    simp only[b5l s pos hp hlow]at hnx;have HC:=q_ hc;clear hc hlow;go_wp2_with fail;refine(arh _ _).mono ?_;rintro e w' ⟨rfl,rfl⟩;rw[HC.o];go_wp2_with fail
    go_roundw
    case rel=>
     refine⟨pos+1,by omega,rfl,λj hj hlt=>?_⟩;rcases b08 j pos with h|h
     ·exact HA.o j hj h
     ·obtain rfl:j=pos:=by omega
      exact HC.o
    case measure=>simp;omega
   | false=>
    have HN:=q_ (big hp hc)
    have hr:ae3 ((Utf8.decode s pos).1:Int)=false:=by
     by_cases ha:s[pos].toNat<128
     ·rw[b5l s pos hp ha];exact hc
     ·exact arg _ (by have:=(decode_high s pos hp om).1;omega)
    have HR:=q_ hr;clear hc hr;go_wp2_with fail;refine(arh _ _).mono ?_;rintro e w' ⟨rfl,rfl⟩;rw[HR.o];go_wp2_with fail;go_ret;exact⟨by rw[HN.o];rfl,HB.o _⟩
  ·have hnx:∀ty,(Instr.next (.pointer (some ⟨w.1.size,0,none⟩)) true ty).run prog (w.iter s pos)=_:=λty=>run_next_end w s pos ty hp
   have HY:=q_ (bek (p:=ae3) (s:=s) (λj hj=>HA.o j hj om));go_wp2_with fail;go_ret;exact⟨by rw[HY.o];rfl,HB.o _⟩
def acj (s:ByteArray) (n:Nat):Bool:=decide (s.size=n) && avj ae3 s
theorem ait (s:ByteArray) (n:Nat) (w:World) :
 Calls prog 98 #[.string s,.int .i64 (n:Int)] w λe w'=>e=.returned (.bool (acj s n))/\Below w.1.size w w':=by
 by_cases h:s.size=n
 ·have hb:((s.size:Int)==(n:Int))=true:=by rw[b1w];omega
  have hs:acj s n=avj ae3 s:=by simp[acj,h]
  rw[hs];clear hs h;go_enter func98,ntmps98;go_wp2_with fail;refine(bem s _).mono ?_;rintro e w1 ⟨rfl,hb1⟩;go_wp2_with fail;go_ret;exact⟨rfl,hb1⟩
 ·have hb:((s.size:Int)==(n:Int))=false:=by rw[l7];omega
  have hs:acj s n=false:=by simp[acj,h]
  rw[hs];clear hs h;go_enter func98,ntmps98;go_wp2_with fail;go_ret;exact⟨rfl,n9 _ _⟩
def akt (t y:ByteArray) (fs:List ByteArray):List UInt8:=t.data.toList++y.data.toList++fs.flatMap λf=>44::f.data.toList
theorem a6b (p:List UInt8) (x y:UInt8) :
 yd ⟨(p++[42,x,y]).toArray⟩=if jq [x,y]=some ((akk p).toNat:Int)then some ⟨p.toArray⟩else none:=by
 have hs:(ByteArray.mk (p++[42,x,y]).toArray).size=p.length+3:=by
  show (p++[42,x,y]).toArray.size=_;simp
 have he:(ByteArray.mk (p++[42,x,y]).toArray).extract 0 p.length=⟨p.toArray⟩:=by
  rw[b4h];simp
 have hf:(ByteArray.mk (p++[42,x,y]).toArray).extract (p.length+1) (p.length+3)=⟨[x,y].toArray⟩:=by
  rw[b4h];simp[List.drop_append,b3p]
 have h42:(ByteArray.mk (p++[42,x,y]).toArray).data.toList[p.length]?=some 42:=by simp
 unfold yd;rw[hs,if_neg om,show p.length+3-3=p.length from by omega,he,hf];have hsum:ax3 ⟨p.toArray⟩=((akk p).toNat:Int):=by simp[ax3]
 rw[hsum]
 by_cases hu:jq [x,y]=some ((akk p).toNat:Int)
 ·rw[if_pos ⟨h42,hu⟩,if_pos hu]
 ·rw[if_neg (λh=>hu h.2),if_neg hu]
