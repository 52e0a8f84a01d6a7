/- Layer 23: ten, Right, fits, of the program and of the reference. -/
import Derived.Test.YtdkhlkfleggbaaaGreatP00
import Derived.Test.YtdkhlkfleggbaaaGreatProg
import Derived.BigQuiet
import Derived.Lib.TrimByte
import Derived.IntWalk
namespace Go.Proofs.YtdkhlkfleggbaaaGreat
set_option maxHeartbeats 2000000
open Lib (hid)
set_option linter.unusedVariables false
open Go.RowKit
def jz (k:Nat):Int:=((10^k:Nat):Int)
theorem a5c:jz 0=1:=rfl
theorem aq3 (k:Nat):jz (k+1)=jz k*10:=by unfold jz;rw[Nat.pow_succ];omega
theorem agf (k:Nat):1≤jz k:=by
 unfold jz
 have:0<10^k:=Nat.pow_pos (by decide)
 omega
theorem a4f {k n:Nat} (h:k≤n):jz k≤jz n:=by
 unfold jz
 have:10^k≤10^n:=Nat.pow_le_pow_right (by decide) h
 omega
theorem bd3:jz 18=1000000000000000000:=by decide
theorem bcn:jz 17=100000000000000000:=by decide
theorem ati (n:Nat) (w:World) (hn:n≤18) :
 Calls Tryz.prog 232 #[.int .i64 (n:Int)] w fun e w'=>e=.returned (.int .i64 (jz n))∧w=w':=by
 go_enter Tryz.func232,Tryz.ntmps232
 go_wp2
 go_loop [3,5] (fun p i=>∃k:Nat,k≤n∧i=.int .i64 k∧p=.int .i64 (jz k)) (fun _ i=>n-(intOf i).toNat)
 case atStart=>exact⟨0,Nat.zero_le _,rfl,rfl⟩
 case round=>
  obtain⟨k,hk,rfl,rfl⟩:=hrel
  by_cases hlt:k<n
  ·have h1:=agf k
   have h2:=a4f (show k≤17 by omega)
   rw[bcn]at h2
   have h3:=hid (aq3 k)
   generalize jz k=T at *
   go_wp2
   go_round
   case rel=>exact⟨k+1,by omega,by go_num,by rw[h3.out]⟩
   case measure=>simp[intOf];omega
  ·obtain rfl:k=n:=by omega
   go_wp2
   go_ret
   exact⟨rfl,rfl⟩
abbrev js (W M F L H:Int):Value:=.agg #[.int .i64 W,.int .i64 M,.int .i64 F,.int .i64 L,.int .i64 H]
def aax (W M F L H:Int):Bool:=decide (1≤W∧W≤M∧M≤12∧0≤F∧F≤6∧L≤H∧-jz (M+F).toNat<L∧H<jz (M+F).toNat)
theorem bcf (W M F L H:Int) (w:World) (h:W<1∨1≤W∧M<W∨1≤W∧W≤M∧12<M) :
 Calls Tryz.prog 222 #[js W M F L H] w fun e w'=>e=.returned (.bool false)∧Below w.heap.size w w':=by
 rcases h with h|⟨h0,h⟩|⟨h0,h1,h⟩
 all_goals
  go_enter Tryz.func222,Tryz.ntmps222
  go_wp2
  go_ret
  exact⟨rfl,qa _ _⟩
theorem a73 (W M F L H:Int) (w:World) (h0:1≤W) (h1:W≤M) (h2:M≤12) (h:F<0∨0≤F∧6<F∨0≤F∧F≤6∧H<L) :
 Calls Tryz.prog 222 #[js W M F L H] w fun e w'=>e=.returned (.bool false)∧Below w.heap.size w w':=by
 rcases h with h|⟨h3,h⟩|⟨h3,h4,h⟩
 all_goals
  go_enter Tryz.func222,Tryz.ntmps222
  go_wp2
  go_ret
  exact⟨rfl,qa _ _⟩
theorem a5q (W L H:Int) (m f:Nat) (w:World) (h0:1≤W) (h1:W ≤(m:Int)) (h2:m≤12) (h3:f≤6) (h4:L≤H) :
 Calls Tryz.prog 222 #[js W m f L H] w fun e w'=>e=.returned (.bool (decide (-jz (m+f)<L∧H<jz (m+f))))∧Below w.heap.size w w':=by
 have HT:=fun W=>hid (ati (m+f) W (by omega))
 rw[Int.natCast_add]at HT
 have t1:=agf (m+f)
 have t2:=a4f (show m+f≤18 by omega)
 rw[bd3]at t2
 generalize jz (m+f)=T at *
 by_cases h5:-T<L
 ·have e:decide (-T<L∧H<T)=decide (H<T):=by simp[h5]
  rw[e]
  clear e
  go_enter Tryz.func222,Tryz.ntmps222
  go_wp2_with fail
  refine(HT _).out.mono ?_
  rintro e w' ⟨rfl,rfl⟩
  go_wp2_with fail
  go_ret
  exact⟨rfl,qa _ _⟩
 ·have e:decide (-T<L∧H<T)=false:=by simp[h5]
  rw[e]
  clear e
  go_enter Tryz.func222,Tryz.ntmps222
  go_wp2_with fail
  refine(HT _).out.mono ?_
  rintro e w' ⟨rfl,rfl⟩
  go_wp2_with fail
  go_ret
  exact⟨rfl,qa _ _⟩
theorem a7j (W M F L H:Int) (w:World):Calls Tryz.prog 222 #[js W M F L H] w fun e w'=>e=.returned (.bool (aax W M F L H))∧Below w.heap.size w w':=by
 by_cases h:1≤W∧W≤M∧M≤12
 ·obtain⟨h0,h1,h2⟩:=h
  by_cases h:0≤F∧F≤6∧L≤H
  ·obtain⟨h3,h4,h5⟩:=h
   obtain⟨m,rfl⟩:=Int.eq_ofNat_of_zero_le (show 0≤M by omega)
   obtain⟨f,rfl⟩:=Int.eq_ofNat_of_zero_le h3
   have e:aax W m f L H=decide (-jz (m+f)<L∧H<jz (m+f)):=by
    unfold aax
    rw[show ((m:Int) +(f:Int)).toNat=m+f from by omega]
    simp only[h0,h1,h2,h3,h4,h5,true_and]
   rw[e]
   exact a5q W L H m f w h0 h1 (by omega) (by omega) h5
  ·have e:aax W M F L H=false:=by
    unfold aax
    rw[decide_eq_false_iff_not]
    rintro⟨_,_,_,a,b,c,_⟩
    exact h ⟨a,b,c⟩
   rw[e]
   exact a73 W M F L H w h0 h1 h2 (by omega)
 ·have e:aax W M F L H=false:=by
   unfold aax
   rw[decide_eq_false_iff_not]
   rintro⟨a,b,c,_⟩
   exact h ⟨a,b,c⟩
  rw[e]
  exact bcf W M F L H w (by omega)
abbrev jb (b:Bool) (n:Int):Value:=.agg #[.bool b,.int .i64 n]
def aae (b:Bool) (n lo hi:Int):Bool:=if b then decide (lo≤n∧n≤hi)else decide (n=0)
theorem axd (b:Bool) (n lo hi:Int) (w:World):Calls Tryz.prog 224 #[jb b n,.int .i64 lo,.int .i64 hi] w fun e w'=>e=.returned (.bool (aae b n lo hi))∧Below w.heap.size w w':=by
 cases b with
 | false=>
  by_cases h:n=0
  ·subst h
   have e:aae false 0 lo hi=true:=by unfold aae;simp
   rw[e]
   clear e
   go_enter Tryz.func224,Tryz.ntmps224
   go_wp2
   go_ret
   exact⟨rfl,qa _ _⟩
  ·have e:aae false n lo hi=false:=by unfold aae;simp[h]
   rw[e]
   clear e
   go_enter Tryz.func224,Tryz.ntmps224
   go_wp2
   go_ret
   exact⟨rfl,qa _ _⟩
 | true=>
  by_cases h:lo≤n
  ·have e:aae true n lo hi=decide (n≤hi):=by unfold aae;rw[if_pos rfl];simp[h]
   rw[e]
   clear e
   go_enter Tryz.func224,Tryz.ntmps224
   go_wp2
   go_ret
   exact⟨rfl,qa _ _⟩
  ·have e:aae true n lo hi=false:=by unfold aae;rw[if_pos rfl];simp[h]
   rw[e]
   clear e
   go_enter Tryz.func224,Tryz.ntmps224
   go_wp2
   go_ret
   exact⟨rfl,qa _ _⟩
def ae6:Nat→Nat→Nat→List UInt8
 | 0,_,_=>[]
 | f+1,n,l=>if 0<n∨0<l then ae6 f (n / 10) (l-1)++[UInt8.ofNat (48+n%10)]else []
def afc (n l:Nat):List UInt8:=ae6 20 n l
theorem arx (f:Nat):ae6 f 0 0=[]:=by cases f<;>simp[ae6]
theorem akr (f n l:Nat) (h:0<n∨0<l):ae6 (f+1) n l=ae6 f (n / 10) (l-1)++[UInt8.ofNat (48+n%10)]:=by rw[ae6,if_pos h]
def toB (l:List UInt8):ByteArray:=⟨l.toArray⟩
theorem awp (l:List UInt8):(toB l).data.toList=l:=by simp[toB]
theorem a9v (l:List UInt8):(toB l).size=l.length:=by show l.toArray.size=_;simp
theorem a9o (l:List UInt8) (c:UInt8):Lib.trimRightB (l++[c]) c=Lib.trimRightB l c:=by simp[Lib.trimRightB]
theorem a9e (l:List UInt8) (x c:UInt8) (h:x≠c):Lib.trimRightB (l++[x]) c=l++[x]:=by simp[Lib.trimRightB,h]
theorem a3k (s:ByteArray):s.toList.length=s.size:=by rw[ByteArray.toList_eq];simp
theorem qy {s:ByteArray} (h:0<s.size):s.toList.isEmpty=false ∧(s.toList==[])=false:=by
 have hl:=a3k s
 cases hs:s.toList with
 | nil=>rw[hs]at hl;simp at hl;omega
 | cons a l=>exact⟨rfl,rfl⟩
theorem axb (f:Nat):∀n l,n<10^f→l≤f→ae6 (f+1) n l=ae6 f n l:=by
 induction f with
 | zero=>
  intro n l h1 h2
  have:n<1:=h1
  rw[show n=0 from by omega,show l=0 from by omega]
  rfl
 | succ f ih=>
  intro n l h1 h2
  by_cases h:0<n∨0<l
  ·rw[akr (f+1) n l h,akr f n l h,ih (n / 10) (l-1) (by rw[Nat.pow_succ]at h1;omega) (by omega)]
  ·rw[show n=0 from by omega,show l=0 from by omega,arx,arx]
theorem arb (n l:Nat) (hn:n≤1000000000000000000) (hl:l≤18) (h:0<n∨0<l):afc n l=afc (n / 10) (l-1)++[UInt8.ofNat (48+n%10)]:=by
 unfold afc
 rw [akr 19 n l h, ← axb 19 (n / 10) (l - 1) (by have:(10:Nat)^19=10000000000000000000:=by decide
                                                 omega) (by omega)]
theorem aze (m:Nat) (h:m<10):UInt8.ofNat (48+m)=48↔m=0:=by
 constructor
 ·intro k
  have:=congrArg UInt8.toNat k
  simp at this
  omega
 ·rintro rfl;rfl
def ana (r f:Nat):List UInt8:=if r=0 then []else Lib.trimRightB (46::afc r f) 48
theorem a70 (r f:Nat) (hr:0<r) (h:r%10=0) (hm:r≤1000000000000000000) (hf:f≤18):Lib.trimRightB (46::afc r f) 48=Lib.trimRightB (46::afc (r / 10) (f-1)) 48:=by
 rw[arb r f hm hf (.inl hr),(aze (r%10) (by omega)).2 h,← List.cons_append,a9o]
theorem a74 (r f:Nat) (hr:0<r) (h:r%10≠0) (hm:r≤1000000000000000000) (hf:f≤18):Lib.trimRightB (46::afc r f) 48=46::afc r f:=by
 rw[arb r f hm hf (.inl hr),← List.cons_append,a9e _ _ _ (fun k=>h ((aze (r%10) (by omega)).1 k))]
def aie (n whole f:Nat):List UInt8:=afc (n / 10^f) whole++ana (n%10^f) f
def asd (b:Bool) (n W M F L H:Int):ByteArray×Int:=
 if aax W M F L H=false then(ByteArray.empty,1)
 else if aae b n L H=false then(ByteArray.empty,5)
 else if b=false then(ByteArray.empty,0)
 else if n<0 then(toB (45::aie (-n).toNat W.toNat F.toNat),0)else(toB (aie n.toNat W.toNat F.toNat),0)
def isD (c:UInt8):Bool:=decide (48≤c.toNat∧c.toNat≤57)
def je (l:List UInt8):Nat:=(l.takeWhile isD).length
theorem bdu:∀(l:List UInt8) (k:Nat),(∀j (h:j<l.length),j<k→isD l[j]=true)→k≤l.length →(∀h:k<l.length,isD l[k]=false)→je l=k:=by
 intro l
 induction l with
 | nil=>intro k _ h _;simp at h;subst h;rfl
 | cons c l ih=>
  intro k h1 h2 h3
  cases k with
  | zero=>
   have:=h3 (by simp)
   unfold je
   rw[List.takeWhile_cons,if_neg (by simpa using this)]
   rfl
  | succ k=>
   have hc:=h1 0 (by simp) (by omega)
   unfold je
   rw[List.takeWhile_cons,if_pos (by simpa using hc),List.length_cons]
   have:=ih k (fun j hj hk=>h1 (j+1) (by simpa using hj) (by omega)) (by simpa using h2) (fun hk=>h3 (by simpa using hk))
   unfold je at this
   rw[this]
def vx (l:List UInt8):Nat:=l.foldl (fun n c=>10*n +(c.toNat-48)) 0
theorem ag3 (l:List UInt8) (c:UInt8):vx (l++[c])=10*vx l +(c.toNat-48):=by simp[vx]
theorem ahc (l:List UInt8) (h:∀c∈l,isD c=true):vx l<10^l.length:=by
 have key:∀r:List UInt8,(∀c∈r,isD c=true)→vx r.reverse<10^r.length:=by
  intro r
  induction r with
  | nil=>intro _;decide
  | cons c r ih=>
   intro hr
   have h1:=ih (fun x hx=>hr x (by simp[hx]))
   have h2:=of_decide_eq_true (hr c (by simp))
   rw[List.reverse_cons,ag3,List.length_cons,Nat.pow_succ]
   omega
 have:=key l.reverse (fun c hc=>h c (by simpa using hc))
 rw[List.reverse_reverse,List.length_reverse]at this
 exact this
def v7 (l:List UInt8) (least most frac:Nat):Option Nat:=
 if je l<least∨most<je l then none
 else if je l=l.length then some (vx l*10^frac)
 else if l[je l]?≠some 46∨je (l.drop (je l+1))<1∨frac<je (l.drop (je l+1))∨je l+1+je (l.drop (je l+1))≠l.length then none
 else some (vx (l.take (je l))*10^frac+vx (l.drop (je l+1))*10^(frac-je (l.drop (je l+1))))
theorem amj (l:List UInt8):je l≤l.length:=by
 unfold je
 exact(List.takeWhile_prefix isD).length_le
theorem a6h:∀l:List UInt8,∀c∈l.takeWhile isD,isD c=true:=by
 intro l
 induction l with
 | nil=>intro c h;simp at h
 | cons x l ih=>
  intro c h
  rw[List.takeWhile_cons]at h
  split at h
  ·rename_i hx
   rcases List.mem_cons.1 h with rfl|h
   ·exact hx
   ·exact ih c h
  ·simp at h
theorem abc (l:List UInt8):∀c∈l.take (je l),isD c=true:=by
 intro c hc
 have:l.take (je l)=l.takeWhile isD:=by
  unfold je
  exact(List.prefix_iff_eq_take.1 (List.takeWhile_prefix isD)).symm
 rw[this]at hc
 exact a6h l c hc
theorem jt (k:Nat):jz k=((10^k:Nat):Int):=rfl
theorem akb {l:List UInt8} {n:Nat} (h:∀c∈l,isD c=true) (hn:l.length+n≤18):(vx l:Int)*jz n≤1000000000000000000∧0 ≤(vx l:Int)*jz n:=by
 have h1:=ahc l h
 have h2:vx l*10^n<10^l.length*10^n:=Nat.mul_lt_mul_of_pos_right h1 (Nat.pow_pos (by decide))
 rw[← Nat.pow_add]at h2
 have h3:(10:Nat)^(l.length+n)≤10^18:=Nat.pow_le_pow_right (by decide) hn
 have e:(10:Nat)^18=1000000000000000000:=by decide
 rw[jt,← Int.natCast_mul]
 omega
def yf (c:UInt8):Bool:=decide (48≤c.toNat) && decide (c.toNat≤57)
def ap6 (a b:UInt8):Int:=10*((a.toNat:Int)-48) +((b.toNat:Int)-48)
def aa5:List UInt8→Option (Int×Int×Int)
 | [a,b,c,d,e,f]=>if yf a && yf b && yf c && yf d && yf e && yf f then some (ap6 a b,ap6 c d,ap6 e f)else none
 | _=>none
def ad1:List UInt8→Option Int
 | []=>some 0
 | [p,a]=>if p=46∧yf a=true then some (10*((a.toNat:Int)-48))else none
 | [p,a,b]=>if p=46∧yf a=true∧yf b=true then some (ap6 a b)else none
 | _=>none
abbrev Clk:=Bool×Int×Int×Int×Int
abbrev Dat:=Bool×Int×Int×Int
def zC:Clk:=(false,0,0,0,0)
def zD:Dat:=(false,0,0,0)
def alr (c:Clk):Bool:=if c.1=true then decide (0≤c.2.1∧c.2.1≤23∧0≤c.2.2.1∧c.2.2.1≤59∧0≤c.2.2.2.1∧c.2.2.2.1≤59∧0≤c.2.2.2.2∧c.2.2.2.2≤99)else decide (c.2.1=0∧c.2.2.1=0∧c.2.2.2.1=0∧c.2.2.2.2=0)
def yh (l:List UInt8):Clk×Int:=
 if l=[]then(zC,0)else match aa5 (l.take 6),ad1 (l.drop 6)with
 | some (h,m,s),some c=>if alr (true,h,m,s,c)=true then((true,h,m,s,c),0)else(zC,5)
 | _,_=>(zC,3)
def ai4 (y:Int):Int:=if y%4=0 then 1 else 0
def ac1 (m y:Int):Int:=if m<1∨12<m∨y<2000∨2099<y then 0 else if m=2 then 28+ai4 y else if m=4∨m=6∨m=9∨m=11 then 30 else 31
def asz (m:Int):Int:=if m=1 then 0 else if m=2 then 31 else if m=3 then 59 else if m=4 then 90 else if m=5 then 120 else if m=6 then 151 else if m=7 then 181 else if m=8 then 212 else if m=9 then 243 else if m=10 then 273 else if m=11 then 304 else if m=12 then 334 else 365
def ae9 (m y:Int):Int:=asz m+if 2<m then ai4 y else 0
def apw (d:Dat):Bool:=if d.1=true then decide (1≤d.2.1∧d.2.1≤ac1 d.2.2.1 d.2.2.2)else decide (d.2.1=0∧d.2.2.1=0∧d.2.2.2=0)
def abh (l:List UInt8):Dat×Int:=
 if l=[]then(zD,0)else match aa5 l with
 | some (a,b,c)=>if apw (true,a,b,2000+c)=true then((true,a,b,2000+c),0)else(zD,5)
 | none=>(zD,3)
theorem a0n {m y:Int} (h1:1≤m) (h2:m≤12) (h3:2000≤y) (h4:y≤2099):ae9 (m+1) y=ae9 m y+ac1 m y:=by
 unfold ae9 ac1 asz
 rw[if_neg (by omega)]
 rcases(by omega:m=1∨m=2∨m=3∨m=4∨m=5∨m=6∨m=7∨m=8∨m=9∨m=10∨m=11∨m=12)with rfl|rfl|rfl|rfl|rfl|rfl|rfl|rfl|rfl|rfl|rfl|rfl<;>simp<;>omega
theorem asl (y:Int):ai4 y=0∨ai4 y=1:=by unfold ai4;split<;>simp
theorem bd0 (m y:Int):0≤ac1 m y∧ac1 m y≤31:=by
 have:=asl y
 unfold ac1
 split
 ·omega
 ·split
  ·omega
  ·split<;>omega
theorem bd1 {a b:UInt8} (ha:yf a=true) (hb:yf b=true):0≤ap6 a b∧ap6 a b≤99:=by
 unfold yf at ha hb
 simp only[Bool.and_eq_true,decide_eq_true_eq]at ha hb
 unfold ap6
 omega
end Go.Proofs.YtdkhlkfleggbaaaGreat
