/- Layer 23: ten, Right, fits, of the program and of the reference. -/
import Derived.Test.YtdkhlkfleggbaaaGreatR00
import Derived.Lib.TrimByte
namespace Go.Proofs.YtdkhlkfleggbaaaGreat
set_option maxHeartbeats 2000000
open Lib (hid)
open Tryz
set_option linter.unusedVariables false
open Go.RowKit
def j9 (k:Nat):Int:=((10^k:Nat):Int)
theorem ba3:j9 0=1:=rfl
theorem atu (k:Nat):j9 (k+1)=j9 k*10:=by unfold j9;rw[Nat.pow_succ];omega
theorem ahb (k:Nat):1≤j9 k:=by
 unfold j9;have:0<10^k:=Nat.pow_pos dc;omega
theorem a67 {k n:Nat} (h:k≤n):j9 k≤j9 n:=by
 unfold j9;have:10^k≤10^n:=Nat.pow_le_pow_right dc h;omega
theorem bh4:j9 18=1000000000000000000:=by decide
theorem bh3:j9 17=100000000000000000:=by decide
theorem awr (n:Nat) (w:World) (hn:n≤18) :
 Calls Tryz.prog 232 #[.int .i64 (n:Int)] w fun e w'=>e=.returned (.int .i64 (j9 n))∧w=w':=by
 go_enter func232,ntmps232;go_wp2
 go_loop [3,5] (fun p i=>∃k:Nat,k≤n∧i=.int .i64 k∧p=.int .i64 (j9 k)) (fun _ i=>n-(intOf i).toNat)
 case atStart=>exact⟨0,Nat.zero_le _,rfl,rfl⟩
 case round=>
  obtain⟨k,hk,rfl,rfl⟩:=hrel
  by_cases hlt:k<n
  ·have h1:=ahb k;have h2:=a67 (show k≤17 by omega);rw[bh3]at h2;have h3:=hid (atu k);generalize j9 k=T at *;go_wp2
   go_round
   case rel=>exact⟨k+1,by omega,by go_num,by rw[h3.out]⟩
   case measure=>simp[intOf];omega
  ·obtain rfl:k=n:=by omega
   go_wp2;go_ret;exact⟨rfl,rfl⟩
abbrev jv (W M F L H:Int):Value:=.agg #[.int .i64 W,.int .i64 M,.int .i64 F,.int .i64 L,.int .i64 H]
def abb (W M F L H:Int):Bool:=decide (1≤W∧W≤M∧M≤12∧0≤F∧F≤6∧L≤H∧-j9 (M+F).toNat<L∧H<j9 (M+F).toNat)
theorem bbx (W M F L H:Int) (w:World) (h:W<1∨1≤W∧M<W∨1≤W∧W≤M∧12<M) :
 Calls Tryz.prog 222 #[jv W M F L H] w fun e w'=>e=.returned (.bool false)∧Below w.1.size w w':=by
 rcases h with h|⟨h0,h⟩|⟨h0,h1,h⟩
 all_goals
  go_enter func222,ntmps222;go_wp2;go_ret;exact⟨rfl,qa _ _⟩
theorem a7k (W M F L H:Int) (w:World) (h0:1≤W) (h1:W≤M) (h2:M≤12) (h:F<0∨0≤F∧6<F∨0≤F∧F≤6∧H<L) :
 Calls Tryz.prog 222 #[jv W M F L H] w fun e w'=>e=.returned (.bool false)∧Below w.1.size w w':=by
 rcases h with h|⟨h3,h⟩|⟨h3,h4,h⟩
 all_goals
  go_enter func222,ntmps222;go_wp2;go_ret;exact⟨rfl,qa _ _⟩
theorem a7j (W L H:Int) (m f:Nat) (w:World) (h0:1≤W) (h1:W ≤(m:Int)) (h2:m≤12) (h3:f≤6) (h4:L≤H) :
 Calls Tryz.prog 222 #[jv W m f L H] w fun e w'=>e=.returned (.bool (decide (-j9 (m+f)<L∧H<j9 (m+f))))∧Below w.1.size w w':=by
 have HT:=fun W=>hid (awr (m+f) W om)
 rw[Int.natCast_add]at HT;have t1:=ahb (m+f);have t2:=a67 (show m+f≤18 by omega);rw[bh4]at t2;generalize j9 (m+f)=T at *
 by_cases h5:-T<L
 ·have e:decide (-T<L∧H<T)=decide (H<T):=by simp[h5]
  rw[e];clear e;go_enter func222,ntmps222;go_wp2_with fail;refine(HT _).out.mono ?_;rintro e w' ⟨rfl,rfl⟩;go_wp2_with fail;go_ret;exact⟨rfl,qa _ _⟩
 ·have e:decide (-T<L∧H<T)=false:=by simp[h5]
  rw[e];clear e;go_enter func222,ntmps222;go_wp2_with fail;refine(HT _).out.mono ?_;rintro e w' ⟨rfl,rfl⟩;go_wp2_with fail;go_ret;exact⟨rfl,qa _ _⟩
theorem a7i (W M F L H:Int) (w:World):Calls Tryz.prog 222 #[jv W M F L H] w fun e w'=>e=.returned (.bool (abb W M F L H))∧Below w.1.size w w':=by
 by_cases h:1≤W∧W≤M∧M≤12
 ·obtain⟨h0,h1,h2⟩:=h
  by_cases h:0≤F∧F≤6∧L≤H
  ·obtain⟨h3,h4,h5⟩:=h;obtain⟨m,rfl⟩:=Int.eq_ofNat_of_zero_le (show 0≤M by omega);obtain⟨f,rfl⟩:=Int.eq_ofNat_of_zero_le h3
   have e:abb W m f L H=decide (-j9 (m+f)<L∧H<j9 (m+f)):=by
    unfold abb;rw[show ((m:Int) +(f:Int)).toNat=m+f from by omega];simp only[h0,h1,h2,h3,h4,h5,true_and]
   rw[e];exact a7j W L H m f w h0 h1 om om h5
  ·have e:abb W M F L H=false:=by
    unfold abb;rw[decide_eq_false_iff_not];rintro⟨_,_,_,a,b,c,_⟩;exact h ⟨a,b,c⟩
   rw[e];exact a7k W M F L H w h0 h1 h2 om
 ·have e:abb W M F L H=false:=by
   unfold abb;rw[decide_eq_false_iff_not];rintro⟨a,b,c,_⟩;exact h ⟨a,b,c⟩
  rw[e];exact bbx W M F L H w om
abbrev ji (b:Bool) (n:Int):Value:=.agg #[.bool b,.int .i64 n]
def aar (b:Bool) (n lo hi:Int):Bool:=if b then decide (lo≤n∧n≤hi)else decide (n=0)
theorem ayj (b:Bool) (n lo hi:Int) (w:World):Calls Tryz.prog 224 #[ji b n,.int .i64 lo,.int .i64 hi] w fun e w'=>e=.returned (.bool (aar b n lo hi))∧Below w.1.size w w':=by
 cases b with
 | false=>
  by_cases h:n=0
  ·subst h;have e:aar false 0 lo hi=true:=by unfold aar;simp
   rw[e];clear e;go_enter func224,ntmps224;go_wp2;go_ret;exact⟨rfl,qa _ _⟩
  ·have e:aar false n lo hi=false:=by unfold aar;simp[h]
   rw[e];clear e;go_enter func224,ntmps224;go_wp2;go_ret;exact⟨rfl,qa _ _⟩
 | true=>
  by_cases h:lo≤n
  ·have e:aar true n lo hi=decide (n≤hi):=by unfold aar;rw[if_pos rfl];simp[h]
   rw[e];clear e;go_enter func224,ntmps224;go_wp2;go_ret;exact⟨rfl,qa _ _⟩
  ·have e:aar true n lo hi=false:=by unfold aar;rw[if_pos rfl];simp[h]
   rw[e];clear e;go_enter func224,ntmps224;go_wp2;go_ret;exact⟨rfl,qa _ _⟩
def afk:Nat→Nat→Nat→List UInt8
 | 0,_,_=>[]
 | f+1,n,l=>if 0<n∨0<l then afk f (n / 10) (l-1)++[UInt8.ofNat (48+n%10)]else []
def afl (n l:Nat):List UInt8:=afk 20 n l
theorem aso (f:Nat):afk f 0 0=[]:=by cases f<;>simp[afk]
theorem alb (f n l:Nat) (h:0<n∨0<l):afk (f+1) n l=afk f (n / 10) (l-1)++[UInt8.ofNat (48+n%10)]:=by rw[afk,if_pos h]
def toB (l:List UInt8):ByteArray:=⟨l.toArray⟩
theorem a1m (l:List UInt8):(toB l).data.toList=l:=by simp[toB]
theorem bew (l:List UInt8):(toB l).size=l.length:=by show l.toArray.size=_;simp
theorem be7 (l:List UInt8) (c:UInt8):Lib.trimRightB (l++[c]) c=Lib.trimRightB l c:=by simp[Lib.trimRightB]
theorem be8 (l:List UInt8) (x c:UInt8) (h:x≠c):Lib.trimRightB (l++[x]) c=l++[x]:=by simp[Lib.trimRightB,h]
theorem a5v (s:ByteArray):s.toList.length=s.size:=by rw[ByteArray.toList_eq];simp
theorem q8 {s:ByteArray} (h:0<s.size):s.toList.isEmpty=false ∧(s.toList==[])=false:=by
 have hl:=a5v s;cases hs:s.toList with
 | nil=>rw[hs]at hl;simp at hl;omega
 | cons a l=>exact⟨rfl,rfl⟩
theorem ayd (f:Nat):∀n l,n<10^f→l≤f→afk (f+1) n l=afk f n l:=by
 induction f with
 | zero=>
  intro n l h1 h2;have:n<1:=h1;rw[show n=0 from by omega,show l=0 from by omega];rfl
 | succ f ih=>
  intro n l h1 h2
  by_cases h:0<n∨0<l
  ·rw[alb (f+1) n l h,alb f n l h,ih (n / 10) (l-1) (by rw[Nat.pow_succ]at h1;omega) om]
  ·rw[show n=0 from by omega,show l=0 from by omega,aso,aso]
theorem asp (n l:Nat) (hn:n≤1000000000000000000) (hl:l≤18) (h:0<n∨0<l):afl n l=afl (n / 10) (l-1)++[UInt8.ofNat (48+n%10)]:=by
 unfold afl
 rw [alb 19 n l h, ← ayd 19 (n / 10) (l - 1) (by have:(10:Nat)^19=10000000000000000000:=by decide
                                                 omega) om]
theorem azn (m:Nat) (h:m<10):UInt8.ofNat (48+m)=48↔m=0:=by
 constructor
 ·intro k;have:=congrArg UInt8.toNat k;simp at this;omega
 ·rintro rfl;rfl
def aqr (r f:Nat):List UInt8:=if r=0 then []else Lib.trimRightB (46::afl r f) 48
theorem ba8 (r f:Nat) (hr:0<r) (h:r%10=0) (hm:r≤1000000000000000000) (hf:f≤18):Lib.trimRightB (46::afl r f) 48=Lib.trimRightB (46::afl (r / 10) (f-1)) 48:=by
 rw[asp r f hm hf (.inl hr),(azn (r%10) om).2 h,← List.cons_append,be7]
theorem ba9 (r f:Nat) (hr:0<r) (h:r%10≠0) (hm:r≤1000000000000000000) (hf:f≤18):Lib.trimRightB (46::afl r f) 48=46::afl r f:=by
 rw[asp r f hm hf (.inl hr),← List.cons_append,be8 _ _ _ (fun k=>h ((azn (r%10) om).1 k))]
def ajk (n whole f:Nat):List UInt8:=afl (n / 10^f) whole++aqr (n%10^f) f
def avh (b:Bool) (n W M F L H:Int):ByteArray×Int:=
 if abb W M F L H=false then(ByteArray.empty,1)
 else if aar b n L H=false then(ByteArray.empty,5)
 else if b=false then(ByteArray.empty,0)
 else if n<0 then(toB (45::ajk (-n).toNat W.toNat F.toNat),0)else(toB (ajk n.toNat W.toNat F.toNat),0)
def isD (c:UInt8):Bool:=decide (48≤c.toNat∧c.toNat≤57)
def jl (l:List UInt8):Nat:=(l.takeWhile isD).length
theorem bgd:∀(l:List UInt8) (k:Nat),(∀j (h:j<l.length),j<k→isD l[j]=true)→k≤l.length →(∀h:k<l.length,isD l[k]=false)→jl l=k:=by
 intro l
 induction l with
 | nil=>intro k _ h _;simp at h;subst h;rfl
 | cons c l ih=>
  intro k h1 h2 h3;cases k with
  | zero=>
   have:=h3 sm;unfold jl;rw[List.takeWhile_cons,if_neg (by simpa using this)];rfl
  | succ k=>
   have hc:=h1 0 sm om;unfold jl;rw[List.takeWhile_cons,if_pos (by simpa using hc),List.length_cons];have:=ih k (fun j hj hk=>h1 (j+1) (by simpa using hj) om) (by simpa using h2) (fun hk=>h3 (by simpa using hk));unfold jl at this;rw[this]
def yn (l:List UInt8):Nat:=l.foldl (fun n c=>10*n +(c.toNat-48)) 0
theorem aib (l:List UInt8) (c:UInt8):yn (l++[c])=10*yn l +(c.toNat-48):=by simp[yn]
theorem aia (l:List UInt8) (h:∀c∈l,isD c=true):yn l<10^l.length:=by
 have key:∀r:List UInt8,(∀c∈r,isD c=true)→yn r.reverse<10^r.length:=by
  intro r
  induction r with
  | nil=>intro _;decide
  | cons c r ih=>
   intro hr;have h1:=ih (fun x hx=>hr x (by simp[hx]));have h2:=of_decide_eq_true (hr c sm);rw[List.reverse_cons,aib,List.length_cons,Nat.pow_succ];omega
 have:=key l.reverse (fun c hc=>h c (by simpa using hc));rw[List.reverse_reverse,List.length_reverse]at this;exact this
def yh (l:List UInt8) (least most frac:Nat):Option Nat:=
 if jl l<least∨most<jl l then none
 else if jl l=l.length then some (yn l*10^frac)
 else if l[jl l]?≠some 46∨jl (l.drop (jl l+1))<1∨frac<jl (l.drop (jl l+1))∨jl l+1+jl (l.drop (jl l+1))≠l.length then none
 else some (yn (l.take (jl l))*10^frac+yn (l.drop (jl l+1))*10^(frac-jl (l.drop (jl l+1))))
theorem anl (l:List UInt8):jl l≤l.length:=by
 unfold jl;exact(List.takeWhile_prefix isD).length_le
theorem bbj:∀l:List UInt8,∀c∈l.takeWhile isD,isD c=true:=by
 intro l
 induction l with
 | nil=>intro c h;simp at h
 | cons x l ih=>
  intro c h;rw[List.takeWhile_cons]at h
  split at h
  ·rename_i hx;rcases List.mem_cons.1 h with rfl|h
   ·exact hx
   ·exact ih c h
  ·simp at h
theorem abr (l:List UInt8):∀c∈l.take (jl l),isD c=true:=by
 intro c hc
 have:l.take (jl l)=l.takeWhile isD:=by
  unfold jl;exact(List.prefix_iff_eq_take.1 (List.takeWhile_prefix isD)).symm
 rw[this]at hc;exact bbj l c hc
theorem jx (k:Nat):j9 k=((10^k:Nat):Int):=rfl
theorem al0 {l:List UInt8} {n:Nat} (h:∀c∈l,isD c=true) (hn:l.length+n≤18):(yn l:Int)*j9 n≤1000000000000000000∧0 ≤(yn l:Int)*j9 n:=by
 have h1:=aia l h;have h2:yn l*10^n<10^l.length*10^n:=Nat.mul_lt_mul_of_pos_right h1 (Nat.pow_pos dc);rw[← Nat.pow_add]at h2;have h3:(10:Nat)^(l.length+n)≤10^18:=Nat.pow_le_pow_right dc hn;have e:(10:Nat)^18=1000000000000000000:=by decide
 rw[jx,← Int.natCast_mul];omega
def yu (c:UInt8):Bool:=decide (48≤c.toNat) && decide (c.toNat≤57)
def arn (a b:UInt8):Int:=10*((a.toNat:Int)-48) +((b.toNat:Int)-48)
def abp:List UInt8→Option (Int×Int×Int)
 | [a,b,c,d,e,f]=>if yu a && yu b && yu c && yu d && yu e && yu f then some (arn a b,arn c d,arn e f)else none
 | _=>none
def ad2:List UInt8→Option Int
 | []=>some 0
 | [p,a]=>if p=46∧yu a=true then some (10*((a.toNat:Int)-48))else none
 | [p,a,b]=>if p=46∧yu a=true∧yu b=true then some (arn a b)else none
 | _=>none
abbrev Clk:=Bool×Int×Int×Int×Int
abbrev Dat:=Bool×Int×Int×Int
def zC:Clk:=(false,0,0,0,0)
def zD:Dat:=(false,0,0,0)
def am4 (c:Clk):Bool:=if c.1=true then decide (0≤c.2.1∧c.2.1≤23∧0≤c.2.2.1∧c.2.2.1≤59∧0≤c.2.2.2.1∧c.2.2.2.1≤59∧0≤c.2.2.2.2∧c.2.2.2.2≤99)else decide (c.2.1=0∧c.2.2.1=0∧c.2.2.2.1=0∧c.2.2.2.2=0)
def yx (l:List UInt8):Clk×Int:=
 if l=[]then(zC,0)else match abp (l.take 6),ad2 (l.drop 6)with
 | some (h,m,s),some c=>if am4 (true,h,m,s,c)=true then((true,h,m,s,c),0)else(zC,5)
 | _,_=>(zC,3)
def akk (y:Int):Int:=if y%4=0 then 1 else 0
def adm (m y:Int):Int:=if m<1∨12<m∨y<2000∨2099<y then 0 else if m=2 then 28+akk y else if m=4∨m=6∨m=9∨m=11 then 30 else 31
def awo (m:Int):Int:=if m=1 then 0 else if m=2 then 31 else if m=3 then 59 else if m=4 then 90 else if m=5 then 120 else if m=6 then 151 else if m=7 then 181 else if m=8 then 212 else if m=9 then 243 else if m=10 then 273 else if m=11 then 304 else if m=12 then 334 else 365
def afc (m y:Int):Int:=awo m+if 2<m then akk y else 0
def ari (d:Dat):Bool:=if d.1=true then decide (1≤d.2.1∧d.2.1≤adm d.2.2.1 d.2.2.2)else decide (d.2.1=0∧d.2.2.1=0∧d.2.2.2=0)
def ab5 (l:List UInt8):Dat×Int:=
 if l=[]then(zD,0)else match abp l with
 | some (a,b,c)=>if ari (true,a,b,2000+c)=true then((true,a,b,2000+c),0)else(zD,5)
 | none=>(zD,3)
theorem a2s {m y:Int} (h1:1≤m) (h2:m≤12) (h3:2000≤y) (h4:y≤2099):afc (m+1) y=afc m y+adm m y:=by
 unfold afc adm awo;rw[if_neg om];rcases(by omega:m=1∨m=2∨m=3∨m=4∨m=5∨m=6∨m=7∨m=8∨m=9∨m=10∨m=11∨m=12)with rfl|rfl|rfl|rfl|rfl|rfl|rfl|rfl|rfl|rfl|rfl|rfl<;>simp<;>omega
theorem au7 (y:Int):akk y=0∨akk y=1:=by unfold akk;split<;>simp
theorem bgg (m y:Int):0≤adm m y∧adm m y≤31:=by
 have:=au7 y;unfold adm
 split
 ·omega
 ·split
  ·omega
  ·split<;>omega
theorem bg5 {a b:UInt8} (ha:yu a=true) (hb:yu b=true):0≤arn a b∧arn a b≤99:=by
 unfold yu at ha hb;simp only[Bool.and_eq_true,decide_eq_true_eq]at ha hb;unfold arn;omega
end Go.Proofs.YtdkhlkfleggbaaaGreat
