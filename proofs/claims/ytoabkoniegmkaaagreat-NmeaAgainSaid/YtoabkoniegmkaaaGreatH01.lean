/- strings.TrimRight of noughts; the reference's Digits. -/
import Derived.Test.YtoabkoniegmkaaaGreatH00
import Derived.IntWalk
import Derived.Deep.RegionHeld3
namespace Go.Proofs.YtoabkoniegmkaaaGreat
set_option linter.unusedVariables false
open Go.RowKit
theorem toList_len (s:ByteArray):s.toList.length=s.size:=by rw [ByteArray.toList_eq];simp
theorem nonempty_forms {s:ByteArray} (h:0 < s.size):s.toList.isEmpty=false∧(s.toList==[])=false:=by
  have hl:=toList_len s
  cases hs:s.toList with
  | nil=>rw [hs] at hl;simp at hl;omega
  | cons a l=>exact⟨rfl,rfl⟩
set_option maxRecDepth 20000 in
set_option maxHeartbeats 1000000 in
theorem trimRight_any (s:ByteArray) (w:World) (hs:s.size≤1000000) (h0:0 < s.size) :
    Calls Tryz.prog 243 #[.string s,.string ⟨#[48]⟩] w fun e w'=>e=.returned (.string (toB (Lib.trimRightB s.data.toList 48)))∧w=w':=by
  obtain⟨f1,f2⟩:=nonempty_forms h0
  have HT:=fun W=>Lib.hid (trimByte_any s 48 W hs)
  go_enter Tryz.func243,Tryz.ntmps243
  go_wp2_with fail
  refine (HT _).out.mono ?_
  rintro e w' ⟨rfl,rfl⟩
  go_wp2_with fail
  go_ret
  exact⟨rfl,rfl⟩
theorem digF_enough (f:Nat):∀ n l,n < 10 ^ f→l≤f→digF (f+1) n l=digF f n l:=by
  induction f with
  | zero=>
    intro n l h1 h2
    have:n < 1:=h1
    rw [show n=0 from by omega,show l=0 from by omega]
    rfl
  | succ f ih=>
    intro n l h1 h2
    by_cases h:0 < n∨0 < l
    · rw [digF_step (f+1) n l h,digF_step f n l h,ih (n / 10) (l - 1) (by rw [Nat.pow_succ] at h1;omega) (by omega)]
    · rw [show n=0 from by omega,show l=0 from by omega,digF_stop,digF_stop]
theorem digL_step (n l:Nat) (hn:n≤1000000000000000000) (hl:l≤18) (h:0 < n∨0 < l):digL n l=digL (n / 10) (l - 1)++[UInt8.ofNat (48+n % 10)]:=by
  unfold digL
  rw [digF_step 19 n l h, ← digF_enough 19 (n / 10) (l - 1) (by have : (10 : Nat) ^ 19 = 10000000000000000000 := by decide
                                                                omega) (by omega)]
theorem ofNat_48 (m:Nat) (h:m < 10):UInt8.ofNat (48+m)=48↔m=0:=by
  constructor
  · intro k
    have:=congrArg UInt8.toNat k
    simp at this
    omega
  · rintro rfl;rfl
def tailB (r f:Nat):List UInt8:=if r=0 then [] else Lib.trimRightB (46 :: digL r f) 48
theorem trim_down (r f:Nat) (hr:0 < r) (h:r % 10=0) (hm:r≤1000000000000000000) (hf:f≤18):Lib.trimRightB (46 :: digL r f) 48=Lib.trimRightB (46 :: digL (r / 10) (f - 1)) 48:=by
  rw [digL_step r f hm hf (.inl hr),(ofNat_48 (r % 10) (by omega)).2 h,← List.cons_append,trimR_eq]
theorem trim_stay (r f:Nat) (hr:0 < r) (h:r % 10≠0) (hm:r≤1000000000000000000) (hf:f≤18):Lib.trimRightB (46 :: digL r f) 48=46 :: digL r f:=by
  rw [digL_step r f hm hf (.inl hr),← List.cons_append,trimR_ne _ _ _ (fun k=>h ((ofNat_48 (r % 10) (by omega)).1 k))]
def pointL (n whole f:Nat):List UInt8:=digL (n / 10 ^ f) whole++tailB (n % 10 ^ f) f
set_option maxRecDepth 8000 in
set_option maxHeartbeats 2000000 in
theorem pointed_any (n whole f:Nat) (w:World) (hn:n≤1000000000000000000) (hw:whole≤18) (hf:f≤17) :
    Calls Tryz.prog 240 #[.int .i64 (n:Int),.int .i64 (whole:Int),.int .i64 (f:Int)] w fun e w'=>e=.returned (.string (toB (pointL n whole f)))∧Below w.heap.size w w':=by
  have hT:=fun W=>Lib.hid (ten_any f W (by omega))
  have t1:=tenI_pos f
  have t2:=tenI_le hf
  rw [tenI_17] at t2
  have hq:(n:Int) / tenI f=((n / 10 ^ f:Nat):Int):=by unfold tenI;rw [Int.natCast_ediv]
  have hr:(n:Int) % tenI f=((n % 10 ^ f:Nat):Int):=by unfold tenI;rw [Int.natCast_emod]
  have hq1:n / 10 ^ f≤1000000000000000000:=Nat.le_trans (Nat.div_le_self _ _) hn
  have hr1:n % 10 ^ f≤1000000000000000000:=Nat.le_trans (Nat.mod_le _ _) hn
  have HP:Hid (pointL n whole f=digL (n / 10 ^ f) whole++tailB (n % 10 ^ f) f):=rfl
  generalize n / 10 ^ f=q at *
  generalize n % 10 ^ f=r at *
  generalize tenI f=T at *
  have HD:=fun W=>Lib.hid (digits_any q whole W hq1 hw)
  have HD2:=fun W=>Lib.hid (digits_any r f W hr1 (by omega))
  have hA:(toB (digL q whole)).size≤20:=by rw [size_B];exact digF_len 20 q whole
  have hB:(toB (digL r f)).size≤20:=by rw [size_B];exact digF_len 20 r f
  change ∀ W,Hid (Calls Tryz.prog 241 #[.int .i64 (q:Int),.int .i64 (whole:Int)] W fun e w'=>e=.returned (.string (toB (digL q whole)))∧Below W.heap.size W w') at HD
  change ∀ W,Hid (Calls Tryz.prog 241 #[.int .i64 (r:Int),.int .i64 (f:Int)] W fun e w'=>e=.returned (.string (toB (digL r f)))∧Below W.heap.size W w') at HD2
  by_cases h0:r=0
  · subst h0
    have HR:Hid (toB (pointL n whole f)=toB (digL q whole)):=by
      show _=_
      rw [HP.out]
      show toB (digL q whole++[])=_
      rw [List.append_nil]
    clear HP HD2 hB hr1
    generalize toB (digL q whole)=A at *
    go_enter Tryz.func240,Tryz.ntmps240
    go_wp2_with fail
    refine (hT _).out.mono ?_
    rintro e w' ⟨rfl,rfl⟩
    go_wp2_with fail
    refine (HD _).out.mono ?_
    rintro e w1 ⟨rfl,hb1⟩
    go_wp2_with fail
    refine (hT _).out.mono ?_
    rintro e w' ⟨rfl,rfl⟩
    go_wp2_with fail
    go_ret
    exact⟨by rw [HR.out];rfl,hb1⟩
  · have hne:((r:Int) != 0)=true:=by rw [bne_iff_ne];omega
    have hBl:(toB (digL r f)).data.toList=digL r f:=toList_B _
    have hC:(⟨#[46]⟩++toB (digL r f):ByteArray).size≤21∧0 < (⟨#[46]⟩++toB (digL r f):ByteArray).size:=by
      have h1:(ByteArray.mk #[46]).size=1:=rfl
      rw [ByteArray.size_append];omega
    have hl:(⟨#[46]⟩++toB (digL r f):ByteArray).data.toList=46 :: digL r f:=by
      show (toB [46]++toB (digL r f)).data.toList=_
      rw [toB_append,toList_B];rfl
    have HTR:=fun W=>Lib.hid (trimRight_any (⟨#[46]⟩++toB (digL r f)) W (by omega) hC.2)
    rw [hl] at HTR
    have ht:tailB r f=Lib.trimRightB (46 :: digL r f) 48:=by unfold tailB;rw [if_neg h0]
    rw [← ht] at HTR
    have hD:(toB (tailB r f)).size≤21:=by
      rw [size_B,ht]
      have h1:(digL r f).length≤20:=digF_len 20 r f
      unfold Lib.trimRightB
      rw [List.length_reverse]
      have h2:=(List.dropWhile_suffix (fun x=>x==(48:UInt8)) (l:=(46 :: digL r f).reverse)).length_le
      rw [List.length_reverse,List.length_cons] at h2
      omega
    have HR:Hid (toB (pointL n whole f)=toB (digL q whole)++toB (tailB r f)):=by
      show _=_
      rw [HP.out,toB_append]
    clear HP hBl hl ht h0
    generalize toB (tailB r f)=D at *
    generalize toB (digL q whole)=A at *
    generalize toB (digL r f)=B at *
    go_enter Tryz.func240,Tryz.ntmps240
    go_wp2_with fail
    refine (hT _).out.mono ?_
    rintro e w' ⟨rfl,rfl⟩
    go_wp2_with fail
    refine (HD _).out.mono ?_
    rintro e w1 ⟨rfl,hb1⟩
    go_wp2_with fail
    refine (hT _).out.mono ?_
    rintro e w' ⟨rfl,rfl⟩
    go_wp2_with fail
    refine (HD2 _).out.mono ?_
    rintro e w2 ⟨rfl,hb2⟩
    go_wp2_with fail
    refine (HTR _).out.mono ?_
    rintro e w' ⟨rfl,rfl⟩
    go_wp2_with fail
    go_ret
    exact⟨by rw [HR.out];rfl,bthen hb1 hb2⟩
def putN (b:Bool) (n W M F L H:Int):ByteArray×Int:=
  if rightB W M F L H=false then (ByteArray.empty,1)
  else if fitsB b n L H=false then (ByteArray.empty,5)
  else if b=false then (ByteArray.empty,0)
  else if n < 0 then (toB (45 :: pointL (-n).toNat W.toNat F.toNat),0) else (toB (pointL n.toNat W.toNat F.toNat),0)
theorem right_bounds {W M F L H:Int} (h:rightB W M F L H=true):1≤W∧W≤12∧0≤F∧F≤6∧-1000000000000000000 < L∧H < 1000000000000000000:=by
  have h:=of_decide_eq_true h
  have t:=tenI_le (show (M+F).toNat≤18 by omega)
  rw [tenI_18] at t
  omega
theorem digL_len (n l:Nat):(digL n l).length≤20:=digF_len 20 n l
theorem trimR_len (l:List UInt8) (c:UInt8):(Lib.trimRightB l c).length≤l.length:=by
  unfold Lib.trimRightB
  rw [List.length_reverse]
  have h2:=(List.dropWhile_suffix (fun x=>x==c) (l:=l.reverse)).length_le
  rw [List.length_reverse] at h2
  exact h2
theorem pointL_len (n w f:Nat):(pointL n w f).length≤41:=by
  unfold pointL tailB
  rw [List.length_append]
  have h1:=digL_len (n / 10 ^ f) w
  split
  · simp;omega
  · have h2:=trimR_len (46 :: digL (n % 10 ^ f) f) 48
    have h3:=digL_len (n % 10 ^ f) f
    rw [List.length_cons] at h2
    omega
set_option maxHeartbeats 2000000 in
theorem Put23_arg (b:Bool) (n W M F L H:Int) (w:World) (h:rightB W M F L H=false) :
    Calls Tryz.prog 235 #[numV b n,colV W M F L H] w fun e w'=>e=.returned (.tuple #[.string ByteArray.empty,.int .i64 1])∧Below w.heap.size w w':=by
  have HR:=fun W'=>Lib.hid (Right_any W M F L H W')
  rw [h] at HR
  clear h
  go_enter Tryz.func235,Tryz.ntmps235
  go_wp2_with fail
  refine (HR _).out.mono ?_
  rintro e w1 ⟨rfl,hb1⟩
  go_wp2_with fail
  go_ret2
  exact⟨rfl,bthen (bthen (below_new _ _) (below_new _ _)) hb1⟩
set_option maxHeartbeats 2000000 in
theorem Put23_range (b:Bool) (n W M F L H:Int) (w:World) (h:rightB W M F L H=true) (h2:fitsB b n L H=false) :
    Calls Tryz.prog 235 #[numV b n,colV W M F L H] w fun e w'=>e=.returned (.tuple #[.string ByteArray.empty,.int .i64 5])∧Below w.heap.size w w':=by
  have HR:=fun W'=>Lib.hid (Right_any W M F L H W')
  have HF:=fun W'=>Lib.hid (fits_any b n L H W')
  rw [h] at HR
  rw [h2] at HF
  clear h h2
  go_enter Tryz.func235,Tryz.ntmps235
  go_wp2_with fail
  refine (HR _).out.mono ?_
  rintro e w1 ⟨rfl,hb1⟩
  obtain⟨c1,f1⟩:=bcell hb1
  have hz:=hb1.size
  simp at hz
  have hz1:w.heap.size < w1.heap.size:=by omega
  have hz4:w.heap.size+1 < w1.heap.size:=by omega
  go_wp2_with fail
  refine (HF _).out.mono ?_
  rintro e w2 ⟨rfl,hb2⟩
  go_wp2_with fail
  go_ret2
  exact⟨rfl,bthen (bthen (bthen (below_new _ _) (below_new _ _)) hb1) hb2⟩
set_option maxHeartbeats 2000000 in
theorem Put23_none (n W M F L H:Int) (w:World) (h:rightB W M F L H=true) (h2:fitsB false n L H=true) :
    Calls Tryz.prog 235 #[numV false n,colV W M F L H] w fun e w'=>e=.returned (.tuple #[.string ByteArray.empty,.int .i64 0])∧Below w.heap.size w w':=by
  have HR:=fun W'=>Lib.hid (Right_any W M F L H W')
  have HF:=fun W'=>Lib.hid (fits_any false n L H W')
  rw [h] at HR
  rw [h2] at HF
  clear h h2
  go_enter Tryz.func235,Tryz.ntmps235
  go_wp2_with fail
  refine (HR _).out.mono ?_
  rintro e w1 ⟨rfl,hb1⟩
  obtain⟨c1,f1⟩:=bcell hb1
  have hz:=hb1.size
  simp at hz
  have hz1:w.heap.size < w1.heap.size:=by omega
  have hz4:w.heap.size+1 < w1.heap.size:=by omega
  go_wp2_with fail
  refine (HF _).out.mono ?_
  rintro e w2 ⟨rfl,hb2⟩
  obtain⟨c2,f2⟩:=bcell hb2
  have hz2:=hb2.size
  have hz3:w.heap.size < w2.heap.size:=by omega
  go_wp2_with fail
  go_ret2
  exact⟨rfl,bthen (bthen (bthen (below_new _ _) (below_new _ _)) hb1) hb2⟩
set_option maxHeartbeats 2000000 in
theorem Put23_pos (n:Nat) (W F:Nat) (M L H:Int) (w:World) (h:rightB W M F L H=true) (h2:fitsB true n L H=true) (hn:n≤1000000000000000000) (hW:W≤12) (hF:F≤6) :
    Calls Tryz.prog 235 #[numV true n,colV W M F L H] w fun e w'=>e=.returned (.tuple #[.string (toB (pointL n W F)),.int .i64 0])∧Below w.heap.size w w':=by
  have HR:=fun W'=>Lib.hid (Right_any W M F L H W')
  have HF:=fun W'=>Lib.hid (fits_any true n L H W')
  have HP:=fun W'=>Lib.hid (pointed_any n W F W' hn (by omega) (by omega))
  rw [h] at HR
  rw [h2] at HF
  generalize toB (pointL n W F)=S at *
  clear h h2
  go_enter Tryz.func235,Tryz.ntmps235
  go_wp2_with fail
  refine (HR _).out.mono ?_
  rintro e w1 ⟨rfl,hb1⟩
  obtain⟨c1,f1⟩:=bcell hb1
  have hz:=hb1.size
  simp at hz
  have hz1:w.heap.size < w1.heap.size:=by omega
  have hz4:w.heap.size+1 < w1.heap.size:=by omega
  go_wp2_with fail
  refine (HF _).out.mono ?_
  rintro e w2 ⟨rfl,hb2⟩
  obtain⟨c2,f2⟩:=bcell hb2
  have hz2:=hb2.size
  have hz3:w.heap.size < w2.heap.size:=by omega
  go_wp2_with fail
  refine (HP _).out.mono ?_
  rintro e w3 ⟨rfl,hb3⟩
  go_wp2_with fail
  go_ret2
  exact⟨rfl,bthen (bthen (bthen (bthen (below_new _ _) (below_new _ _)) hb1) hb2) hb3⟩
set_option maxHeartbeats 2000000 in
theorem Put23_neg (n:Nat) (W F:Nat) (M L H:Int) (w:World) (h:rightB W M F L H=true) (h2:fitsB true (-(n:Int)) L H=true) (hn0:0 < n) (hn:n≤1000000000000000000) (hW:W≤12) (hF:F≤6) :
    Calls Tryz.prog 235 #[numV true (-(n:Int)),colV W M F L H] w fun e w'=>e=.returned (.tuple #[.string (toB (45 :: pointL n W F)),.int .i64 0])∧Below w.heap.size w w':=by
  have HR:=fun W'=>Lib.hid (Right_any W M F L H W')
  have HF:=fun W'=>Lib.hid (fits_any true (-(n:Int)) L H W')
  have HP:=fun W'=>Lib.hid (pointed_any n W F W' hn (by omega) (by omega))
  rw [h] at HR
  rw [h2] at HF
  have hS:(toB (pointL n W F)).size≤41:=by rw [size_B];exact pointL_len n W F
  have hT:Hid (toB (45 :: pointL n W F)=⟨#[45]⟩++toB (pointL n W F)):=(toB_append [45] (pointL n W F)).symm
  generalize toB (45 :: pointL n W F)=T at *
  generalize toB (pointL n W F)=S at *
  clear h h2
  go_enter Tryz.func235,Tryz.ntmps235
  go_wp2_with fail
  refine (HR _).out.mono ?_
  rintro e w1 ⟨rfl,hb1⟩
  obtain⟨c1,f1⟩:=bcell hb1
  have hz:=hb1.size
  simp at hz
  have hz1:w.heap.size < w1.heap.size:=by omega
  have hz4:w.heap.size+1 < w1.heap.size:=by omega
  go_wp2_with fail
  refine (HF _).out.mono ?_
  rintro e w2 ⟨rfl,hb2⟩
  obtain⟨c2,f2⟩:=bcell hb2
  have hz2:=hb2.size
  have hz3:w.heap.size < w2.heap.size:=by omega
  go_wp2_with fail
  refine (HP _).out.mono ?_
  rintro e w3 ⟨rfl,hb3⟩
  go_wp2_with fail
  go_ret2
  exact⟨by rw [hT.out];rfl,bthen (bthen (bthen (bthen (below_new _ _) (below_new _ _)) hb1) hb2) hb3⟩
theorem Put23_any (b:Bool) (n W M F L H:Int) (w:World) :
    Calls Tryz.prog 235 #[numV b n,colV W M F L H] w fun e w'=>e=.returned (.tuple #[.string (putN b n W M F L H).1,.int .i64 (putN b n W M F L H).2])∧Below w.heap.size w w':=by
  unfold putN
  cases h:rightB W M F L H with
  | false=>rw [if_pos rfl];exact Put23_arg b n W M F L H w h
  | true=>
    rw [if_neg (by decide)]
    cases h2:fitsB b n L H with
    | false=>rw [if_pos rfl];exact Put23_range b n W M F L H w h h2
    | true=>
      rw [if_neg (by decide)]
      cases b with
      | false=>rw [if_pos rfl];exact Put23_none n W M F L H w h h2
      | true=>
        rw [if_neg (by decide)]
        obtain⟨b1,b2,b3,b4,b5,b6⟩:=right_bounds h
        have hr:L≤n∧n≤H:=by have:=h2;unfold fitsB at this;rw [if_pos rfl] at this;exact of_decide_eq_true this
        obtain⟨W',rfl⟩:=Int.eq_ofNat_of_zero_le (show 0≤W by omega)
        obtain⟨F',rfl⟩:=Int.eq_ofNat_of_zero_le b3
        by_cases hn:n < 0
        · rw [if_pos hn]
          obtain⟨k,hk⟩:=Int.eq_ofNat_of_zero_le (show 0≤-n by omega)
          obtain rfl:n=-(k:Int):=by omega
          rw [show (-(-(k:Int))).toNat=k from by omega]
          exact Put23_neg k W' F' M L H w h h2 (by omega) (by omega) (by omega) (by omega)
        · rw [if_neg hn]
          obtain⟨k,rfl⟩:=Int.eq_ofNat_of_zero_le (show 0≤n by omega)
          exact Put23_pos k W' F' M L H w h h2 (by omega) (by omega) (by omega)
def isD (c:UInt8):Bool:=decide (48≤c.toNat∧c.toNat≤57)
def cntD (l:List UInt8):Nat:=(l.takeWhile isD).length
theorem cntD_is:∀ (l:List UInt8) (k:Nat),(∀ j (h:j < l.length),j < k→isD l[j]=true)→k≤l.length→(∀ h:k < l.length,isD l[k]=false)→cntD l=k:=by
  intro l
  induction l with
  | nil=>intro k _ h _;simp at h;subst h;rfl
  | cons c l ih=>
    intro k h1 h2 h3
    cases k with
    | zero=>
      have:=h3 (by simp)
      unfold cntD
      rw [List.takeWhile_cons,if_neg (by simpa using this)]
      rfl
    | succ k=>
      have hc:=h1 0 (by simp) (by omega)
      unfold cntD
      rw [List.takeWhile_cons,if_pos (by simpa using hc),List.length_cons]
      have:=ih k (fun j hj hk=>h1 (j+1) (by simpa using hj) (by omega)) (by simpa using h2) (fun hk=>h3 (by simpa using hk))
      unfold cntD at this
      rw [this]
def valD (l:List UInt8):Nat:=l.foldl (fun n c=>10 * n+(c.toNat - 48)) 0
theorem valD_snoc (l:List UInt8) (c:UInt8):valD (l++[c])=10 * valD l+(c.toNat - 48):=by simp [valD]
theorem valD_lt (l:List UInt8) (h:∀ c∈l,isD c=true):valD l < 10 ^ l.length:=by
  have key:∀ r:List UInt8,(∀ c∈r,isD c=true)→valD r.reverse < 10 ^ r.length:=by
    intro r
    induction r with
    | nil=>intro _;decide
    | cons c r ih=>
      intro hr
      have h1:=ih (fun x hx=>hr x (by simp [hx]))
      have h2:=of_decide_eq_true (hr c (by simp))
      rw [List.reverse_cons,valD_snoc,List.length_cons,Nat.pow_succ]
      omega
  have:=key l.reverse (fun c hc=>h c (by simpa using hc))
  rw [List.reverse_reverse,List.length_reverse] at this
  exact this
def parseN (l:List UInt8) (least most frac:Nat):Option Nat:=
  if cntD l < least∨most < cntD l then none
  else if cntD l=l.length then some (valD l * 10 ^ frac)
  else if l[cntD l]?≠some 46∨cntD (l.drop (cntD l+1)) < 1∨frac < cntD (l.drop (cntD l+1))∨cntD l+1+cntD (l.drop (cntD l+1))≠l.length then none
  else some (valD (l.take (cntD l)) * 10 ^ frac+valD (l.drop (cntD l+1)) * 10 ^ (frac - cntD (l.drop (cntD l+1))))
theorem cntD_le (l:List UInt8):cntD l≤l.length:=by
  unfold cntD
  exact (List.takeWhile_prefix isD).length_le
theorem while_all:∀ l:List UInt8,∀ c∈l.takeWhile isD,isD c=true:=by
  intro l
  induction l with
  | nil=>intro c h;simp at h
  | cons x l ih=>
    intro c h
    rw [List.takeWhile_cons] at h
    split at h
    · rename_i hx
      rcases List.mem_cons.1 h with rfl | h
      · exact hx
      · exact ih c h
    · simp at h
theorem cntD_take (l:List UInt8):∀ c∈l.take (cntD l),isD c=true:=by
  intro c hc
  have:l.take (cntD l)=l.takeWhile isD:=by
    unfold cntD
    exact (List.prefix_iff_eq_take.1 (List.takeWhile_prefix isD)).symm
  rw [this] at hc
  exact while_all l c hc
theorem tenI_cast (k:Nat):tenI k=((10 ^ k:Nat):Int):=rfl
theorem val_le {l:List UInt8} {n:Nat} (h:∀ c∈l,isD c=true) (hn:l.length+n≤18):(valD l:Int) * tenI n≤1000000000000000000∧0≤(valD l:Int) * tenI n:=by
  have h1:=valD_lt l h
  have h2:valD l * 10 ^ n < 10 ^ l.length * 10 ^ n:=Nat.mul_lt_mul_of_pos_right h1 (Nat.pow_pos (by decide))
  rw [← Nat.pow_add] at h2
  have h3:(10:Nat) ^ (l.length+n)≤10 ^ 18:=Nat.pow_le_pow_right (by decide) hn
  have e:(10:Nat) ^ 18=1000000000000000000:=by decide
  rw [tenI_cast,← Int.natCast_mul]
  omega
def NextSt (W:World) (gs gn ga:Nat) (s:ByteArray) (nv:Int) (a:Nat):Prop:=
  W.cell? ⟨gs,0,none⟩=some (.string s)∧W.cell? ⟨gn,0,none⟩=some (.int .i64 nv)∧W.cell? ⟨ga,0,none⟩=some (.int .i64 (a:Int))∧W.frozen? ⟨gn,0,none⟩=false∧W.frozen? ⟨ga,0,none⟩=false
def sumV (s:ByteArray) (a:Nat) (nv:Int) (k:Nat):Int:=nv * tenI k+(valD ((s.data.toList.drop a).take k):Int)
theorem sumV_zero (s:ByteArray) (a:Nat) (nv:Int):sumV s a nv 0=nv:=by
  unfold sumV
  rw [tenI_zero,List.take_zero]
  show nv * 1+0=nv
  omega
theorem sumV_succ (s:ByteArray) (a:Nat) (nv:Int) (k:Nat) (h:a+k < s.size) (hd:isD s[a+k]=true):sumV s a nv (k+1)=10 * sumV s a nv k+((s[a+k].toNat:Int) - 48):=by
  unfold sumV
  have hl : k < (s.data.toList.drop a).length := by rw [List.length_drop]; have : s.data.toList.length = s.size := by simp
                                                    omega
  have he:(s.data.toList.drop a)[k]=s[a+k]:=by rw [List.getElem_drop];rfl
  have h2:=of_decide_eq_true hd
  rw [List.take_succ_eq_append_getElem hl,valD_snoc,he,tenI_succ,← Int.mul_assoc]
  omega
def NextPost (s:ByteArray) (a most:Nat) (nv:Int) (gs gn ga B:Nat) (W:World) (e:Ending) (w':World):Prop:=
  ∃ (K:Nat) (nv2:Int),K=min (cntD (s.data.toList.drop a)) (most+1)∧e=.returned (.int .i64 (K:Int))∧NextSt w' gs gn ga s nv2 (a+K)∧Below B W w'∧w'.heap.size=W.heap.size∧(K≤most→nv2=sumV s a nv K)
def NextRel (s:ByteArray) (a most:Nat) (nv:Int) (gs gn ga B:Nat) (W:World) (v:Value) (wr:World):Prop:=
  ∃ (k:Nat) (nv2:Int),v=.int .i64 (k:Int)∧k≤most+1∧a+k≤s.size∧Hid (∀ j,j < k→∃ h:a+j < s.size,isD s[a+j]=true)∧Hid (NextSt wr gs gn ga s nv2 (a+k))∧Hid (Below B W wr)∧Hid (wr.heap.size=W.heap.size)∧Hid (k≤most→nv2=sumV s a nv k)
theorem next_round {s:ByteArray} {a most:Nat} {nv:Int} {gs gn ga B:Nat} {W wr:World} {k:Nat} {nv2:Int}
    (hm:most≤12) (hd1:gs≠gn) (hd2:gs≠ga) (hd3:gn≠ga) (hB1:B≤gn) (hB2:B≤ga)
    (HB:∀ k,k≤most→0≤sumV s a nv k∧sumV s a nv k≤9000000000000000000)
    (hkm:k≤most) (hlt:a+k < s.size) (hd:isD s[a+k]=true) (hall:∀ j,j < k→∃ h:a+j < s.size,isD s[a+j]=true)
    (hst:NextSt wr gs gn ga s nv2 (a+k)) (hb:Below B W wr) (hz:wr.heap.size=W.heap.size) (hex:k≤most→nv2=sumV s a nv k) :
    NextRel s a most nv gs gn ga B W (.int .i64 ((k:Int)+1)) ((wr.setCell ⟨gn,0,none⟩ (.int .i64 (wrap64 (wrap64 (10 * nv2)+(((s[a+k]'hlt).toNat:Int) - 48))))).setCell ⟨ga,0,none⟩ (.int .i64 (((a+k:Nat):Int)+1))).drew:=by
  obtain⟨c1,c2,c3,z1,z2⟩:=hst
  refine⟨k+1,wrap64 (wrap64 (10 * nv2)+(((s[a+k]'hlt).toNat:Int) - 48)),by rw [Int.natCast_add];rfl,by omega,by omega,Lib.hid ?_,Lib.hid ⟨?_,?_,?_,?_,?_⟩,Lib.hid ?_,Lib.hid ?_,Lib.hid ?_⟩
  · intro j hj
    rcases Nat.lt_or_ge j k with h | h
    · exact hall j h
    · obtain rfl:j=k:=by omega
      exact⟨hlt,hd⟩
  · show ((wr.setCell _ _).setCell _ _).cell? _=_
    rw [World.cell?_setCell_other _ _ _ _ (fun e=>by injection e with e;exact hd2 e.symm),World.cell?_setCell_other _ _ _ _ (fun e=>by injection e with e;exact hd1 e.symm)]
    exact c1
  · show ((wr.setCell _ _).setCell _ _).cell? _=_
    rw [World.cell?_setCell_other _ _ _ _ (fun e=>by injection e with e;exact hd3 e.symm),World.cell?_setCell_same _ _ _ c2]
  · show ((wr.setCell _ _).setCell _ _).cell? _=_
    have h0:(wr.setCell ⟨gn,0,none⟩ (.int .i64 (wrap64 (wrap64 (10 * nv2)+(((s[a+k]'hlt).toNat:Int) - 48))))).cell? ⟨ga,0,none⟩=_:=(World.cell?_setCell_other _ _ _ _ (fun e=>by injection e with e;exact hd3 e)).trans c3
    rw [World.cell?_setCell_same _ _ _ h0]
    rw [show ((a+(k+1):Nat):Int)=((a+k:Nat):Int)+1 from by omega]
  · show ((wr.setCell _ _).setCell _ _).frozen? _=_
    simpa using z1
  · show ((wr.setCell _ _).setCell _ _).frozen? _=_
    simpa using z2
  · exact bdrew ((hb.setCell hB1 _).setCell hB2 _)
  · show ((wr.setCell _ _).setCell _ _).heap.size=_
    simpa using hz
  · intro hk1
    have e1:=hex (by omega)
    have b1:=HB k (by omega)
    have b2:=HB (k+1) hk1
    have e2:=sumV_succ s a nv k hlt hd
    have e3:=of_decide_eq_true hd
    subst e1
    rw [e2] at b2 ⊢
    have q1:wrap64 (10 * sumV s a nv k)=10 * sumV s a nv k:=IntWalk.wrap64_in _ (by omega)
    rw [q1,IntWalk.wrap64_in _ (by omega)]
theorem cntD_ge:∀ (l:List UInt8) (k:Nat),(∀ j (h:j < l.length),j < k→isD l[j]=true)→k≤l.length→k≤cntD l:=by
  intro l
  induction l with
  | nil=>intro k _ h;exact Nat.le_trans h (Nat.zero_le _)
  | cons c l ih=>
    intro k h1 h2
    cases k with
    | zero=>exact Nat.zero_le _
    | succ k=>
      have h0:isD c=true:=h1 0 (by simp) (by omega)
      have h3:=ih k (fun j hj hk=>h1 (j+1) (by simpa using hj) (by omega)) (by simpa using h2)
      unfold cntD at h3 ⊢
      rw [List.takeWhile_cons_of_pos h0,List.length_cons]
      omega
theorem next_out {s:ByteArray} {a most:Nat} {nv:Int} {gs gn ga B:Nat} {W wr:World} {k:Nat} {nv2:Int}
    (hak:a+k≤s.size) (hstop:k=most+1∨¬ a+k < s.size∨∃ h:a+k < s.size,isD s[a+k]=false) (hk:k≤most+1) (hall:∀ j,j < k→∃ h:a+j < s.size,isD s[a+j]=true)
    (hst:NextSt wr gs gn ga s nv2 (a+k)) (hb:Below B W wr) (hz:wr.heap.size=W.heap.size) (hex:k≤most→nv2=sumV s a nv k) :
    NextPost s a most nv gs gn ga B W (.returned (.int .i64 (k:Int))) wr:=by
  refine⟨k,nv2,?_,rfl,hst,hb,hz,hex⟩
  have hsz:s.data.toList.length=s.size:=by simp
  have hlen:(s.data.toList.drop a).length=s.size - a:=by rw [List.length_drop,hsz]
  have hg:∀ j (h:j < (s.data.toList.drop a).length) (h2:a+j < s.size),(s.data.toList.drop a)[j]=s[a+j]:=fun j h h2=>by rw [List.getElem_drop];rfl
  have hle:k≤cntD (s.data.toList.drop a):=cntD_ge _ _ (fun j hj hk=>by
    obtain⟨h,e⟩:=hall j hk
    rw [hg j hj h]
    exact e) (by omega)
  rcases hstop with h | h | ⟨h,e⟩
  · omega
  · have:=cntD_le (s.data.toList.drop a)
    omega
  · have:cntD (s.data.toList.drop a)=k:=cntD_is _ k (fun j hj hk=>by
      obtain⟨h,e⟩:=hall j hk
      rw [hg j hj h]
      exact e) (by omega) (fun h'=>by rw [hg k h' h];exact e)
    omega
set_option maxHeartbeats 2000000 in
theorem next_any (s:ByteArray) (a most:Nat) (nv:Int) (gs gn ga B:Nat) (W:World) (hs:s.size≤1000000) (ha:a≤s.size) (hm:most≤12)
    (hst:NextSt W gs gn ga s nv a) (hd1:gs≠gn) (hd2:gs≠ga) (hd3:gn≠ga) (hB1:B≤gn) (hB2:B≤ga)
    (HB:Hid (∀ k,k≤most→0≤sumV s a nv k∧sumV s a nv k≤9000000000000000000)) :
    Calls Tryz.prog 202 #[.int .i64 (most:Int),.pointer (some ⟨ga,0,none⟩),.pointer (some ⟨gs,0,none⟩),.pointer (some ⟨gn,0,none⟩)] W (NextPost s a most nv gs gn ga B W):=by
  have HST:=Lib.hid hst
  clear hst
  go_enter Tryz.func202,Tryz.ntmps202
  go_wp2
  go_loopw [6] (fun v wr=>NextRel s a most nv gs gn ga B W v wr) (fun v _=>most+1 - (intOf v).toNat)
  case atStart=>exact⟨0,nv,rfl,Nat.zero_le _,ha,fun j h=>absurd h (Nat.not_lt_zero _),HST,Lib.hid (Below.refl _ _),rfl,fun _=>(sumV_zero s a nv).symm⟩
  case round=>
    obtain⟨k,nv2,rfl,hk,hak,hall,hst,hb,hz,hex⟩:=hrel
    obtain⟨c1,c2,c3,z1,z2⟩:=hst.out
    by_cases hlt:a+k < s.size
    · have i1:((a+k:Nat):Int) < (s.size:Int):=by omega
      have i2:(0:Int)≤((a+k:Nat):Int):=Int.natCast_nonneg _
      have i3:((a+k:Nat):Int).toNat=a+k:=by omega
      by_cases hd:isD s[a+k]=true
      · have hdd:=of_decide_eq_true hd
        have h48:(48:Int)≤((s[a+k]'hlt).toNat:Int):=by omega
        have h57:((s[a+k]'hlt).toNat:Int)≤57:=by omega
        by_cases hkm:k≤most
        · have HN:=Lib.hid (next_round hm hd1 hd2 hd3 hB1 hB2 HB.out hkm hlt hd hall.out hst.out hb.out hz.out hex.out)
          clear hall hst hb hz hex
          generalize hA:a+k=A at *
          go_wp2
          go_region_with (fail)
          all_goals go_wp2
          all_goals go_roundw
          all_goals first | exact HN.out | (show most+1 - ((k:Int)+1).toNat < most+1 - (k:Int).toNat;omega)
        · have HO:=Lib.hid (next_out hak (.inl (by omega)) hk hall.out hst.out hb.out hz.out hex.out)
          have hkm2:(most:Int) < (k:Int):=by omega
          clear hall hst hb hz hex hkm
          generalize hA:a+k=A at *
          go_wp2
          go_ret
          exact HO.out
      · have HO:=Lib.hid (next_out hak (.inr (.inr ⟨hlt,by simpa using hd⟩)) hk hall.out hst.out hb.out hz.out hex.out)
        have hdd:¬ (48≤(s[a+k]'hlt).toNat∧(s[a+k]'hlt).toNat≤57):=fun h=>hd (decide_eq_true h)
        clear hall hst hb hz hex hd
        by_cases h1:48≤(s[a+k]'hlt).toNat
        · have h48:(48:Int)≤((s[a+k]'hlt).toNat:Int):=by omega
          have h57:(57:Int) < ((s[a+k]'hlt).toNat:Int):=by omega
          generalize hA:a+k=A at *
          go_wp2
          go_ret
          exact HO.out
        · have h48:((s[a+k]'hlt).toNat:Int) < (48:Int):=by omega
          generalize hA:a+k=A at *
          go_wp2
          go_ret
          exact HO.out
    · have HO:=Lib.hid (next_out hak (.inr (.inl hlt)) hk hall.out hst.out hb.out hz.out hex.out)
      have i1:(s.size:Int)≤((a+k:Nat):Int):=by omega
      clear hall hst hb hz hex
      generalize hA:a+k=A at *
      go_wp2
      go_ret
      exact HO.out
def digB (c:UInt8):Bool:=decide (48≤c.toNat) && decide (c.toNat≤57)
def twoL (n:Int):List UInt8:=[UInt8.ofNat (48+n / 10).toNat,UInt8.ofNat (48+n % 10).toNat]
def numP (a b:UInt8):Int:=10 * ((a.toNat:Int) - 48)+((b.toNat:Int) - 48)
def threeL:List UInt8→Option (Int×Int×Int)
  | [a,b,c,d,e,f]=>if digB a && digB b && digB c && digB d && digB e && digB f then some (numP a b,numP c d,numP e f) else none
  | _=>none
def behindL:List UInt8→Option Int
  | []=>some 0
  | [p,a]=>if p=46∧digB a=true then some (10 * ((a.toNat:Int) - 48)) else none
  | [p,a,b]=>if p=46∧digB a=true∧digB b=true then some (numP a b) else none
  | _=>none
abbrev Clk:=Bool×Int×Int×Int×Int
abbrev Dat:=Bool×Int×Int×Int
def zC:Clk:=(false,0,0,0,0)
def zD:Dat:=(false,0,0,0)
def clkB (c:Clk):Bool:=if c.1=true then decide (0≤c.2.1∧c.2.1≤23∧0≤c.2.2.1∧c.2.2.1≤59∧0≤c.2.2.2.1∧c.2.2.2.1≤59∧0≤c.2.2.2.2∧c.2.2.2.2≤99) else decide (c.2.1=0∧c.2.2.1=0∧c.2.2.2.1=0∧c.2.2.2.2=0)
def clkTail (n:Int):List UInt8:=if n=0 then [] else if n % 10=0 then [46,UInt8.ofNat (48+n / 10).toNat] else 46 :: twoL n
def clkT (c:Clk):ByteArray×Int:=
  if clkB c=false then (ByteArray.empty,5) else if c.1=false then (ByteArray.empty,0) else (toB (twoL c.2.1++twoL c.2.2.1++twoL c.2.2.2.1++clkTail c.2.2.2.2),0)
def takeClk (l:List UInt8):Clk×Int:=
  if l=[] then (zC,0) else match threeL (l.take 6),behindL (l.drop 6) with
  | some (h,m,s),some c=>if clkB (true,h,m,s,c)=true then ((true,h,m,s,c),0) else (zC,5)
  | _,_=>(zC,3)
def leapI (y:Int):Int:=if y % 4=0 then 1 else 0
def daysI (m y:Int):Int:=if m < 1∨12 < m∨y < 2000∨2099 < y then 0 else if m=2 then 28+leapI y else if m=4∨m=6∨m=9∨m=11 then 30 else 31
def tableI (m:Int):Int:=if m=1 then 0 else if m=2 then 31 else if m=3 then 59 else if m=4 then 90 else if m=5 then 120 else if m=6 then 151 else if m=7 then 181 else if m=8 then 212 else if m=9 then 243 else if m=10 then 273 else if m=11 then 304 else if m=12 then 334 else 365
def aheadI (m y:Int):Int:=tableI m+if 2 < m then leapI y else 0
def datB (d:Dat):Bool:=if d.1=true then decide (1≤d.2.1∧d.2.1≤daysI d.2.2.1 d.2.2.2) else decide (d.2.1=0∧d.2.2.1=0∧d.2.2.2=0)
def datT (d:Dat):ByteArray×Int:=
  if datB d=false then (ByteArray.empty,5) else if d.1=false then (ByteArray.empty,0) else (toB (twoL d.2.1++twoL d.2.2.1++twoL (d.2.2.2 - 2000)),0)
def takeDat (l:List UInt8):Dat×Int:=
  if l=[] then (zD,0) else match threeL l with
  | some (a,b,c)=>if datB (true,a,b,2000+c)=true then ((true,a,b,2000+c),0) else (zD,5)
  | none=>(zD,3)
theorem ahead_succ {m y:Int} (h1:1≤m) (h2:m≤12) (h3:2000≤y) (h4:y≤2099):aheadI (m+1) y=aheadI m y+daysI m y:=by
  unfold aheadI daysI tableI
  rw [if_neg (by omega)]
  rcases (by omega:m=1∨m=2∨m=3∨m=4∨m=5∨m=6∨m=7∨m=8∨m=9∨m=10∨m=11∨m=12) with rfl | rfl | rfl | rfl | rfl | rfl | rfl | rfl | rfl | rfl | rfl | rfl <;> simp <;> omega
theorem leap_01 (y:Int):leapI y=0∨leapI y=1:=by unfold leapI;split <;> simp
theorem days_le (m y:Int):0≤daysI m y∧daysI m y≤31:=by
  have:=leap_01 y
  unfold daysI
  split
  · omega
  · split
    · omega
    · split <;> omega
theorem days_pos {m y:Int} (h:1≤daysI m y):1≤m∧m≤12∧2000≤y∧y≤2099:=by
  unfold daysI at h
  by_cases q:m < 1∨12 < m∨y < 2000∨2099 < y
  · rw [if_pos q] at h;omega
  · omega
theorem u8_of {n:Int} (h0:0≤n) (h1:n≤9):(UInt8.ofNat (48+n).toNat).toNat=48+n.toNat:=by
  simp
  omega
theorem two_back {n:Int} (h0:0≤n) (h1:n≤99):digB (UInt8.ofNat (48+n / 10).toNat)=true∧digB (UInt8.ofNat (48+n % 10).toNat)=true∧numP (UInt8.ofNat (48+n / 10).toNat) (UInt8.ofNat (48+n % 10).toNat)=n:=by
  have e1:=u8_of (n:=n / 10) (by omega) (by omega)
  have e2:=u8_of (n:=n % 10) (by omega) (by omega)
  unfold digB numP
  rw [e1,e2]
  refine⟨by simp;omega,by simp;omega,by omega⟩
theorem numP_le {a b:UInt8} (ha:digB a=true) (hb:digB b=true):0≤numP a b∧numP a b≤99:=by
  unfold digB at ha hb
  simp only [Bool.and_eq_true,decide_eq_true_eq] at ha hb
  unfold numP
  omega
theorem threeL_two {a b c:Int} (a0:0≤a) (a1:a≤99) (b0:0≤b) (b1:b≤99) (c0:0≤c) (c1:c≤99):threeL (twoL a++twoL b++twoL c)=some (a,b,c):=by
  obtain⟨x1,x2,x3⟩:=two_back a0 a1
  obtain⟨y1,y2,y3⟩:=two_back b0 b1
  obtain⟨z1,z2,z3⟩:=two_back c0 c1
  show (if _ then _ else _)=_
  rw [x1,x2,y1,y2,z1,z2,x3,y3,z3]
  rfl
theorem behindL_tail {n:Int} (h0:0≤n) (h1:n≤99):behindL (clkTail n)=some n:=by
  unfold clkTail
  split
  · next q=>rw [q];rfl
  · split
    · next q=>
      obtain⟨x1,-,-⟩:=two_back h0 h1
      have e1:=u8_of (n:=n / 10) (by omega) (by omega)
      show (if _ then _ else _)=_
      rw [if_pos ⟨rfl,x1⟩,e1]
      congr 1
      omega
    · obtain⟨x1,x2,x3⟩:=two_back h0 h1
      show (if _ then _ else _)=_
      rw [if_pos ⟨rfl,x1,x2⟩,x3]
theorem clkB_true {h m s c:Int} (q:clkB (true,h,m,s,c)=true):0≤h∧h≤23∧0≤m∧m≤59∧0≤s∧s≤59∧0≤c∧c≤99:=of_decide_eq_true q
theorem clkB_false {h m s c:Int} (q:clkB (false,h,m,s,c)=true):h=0∧m=0∧s=0∧c=0:=of_decide_eq_true q
theorem clk_put_take {c:Clk} (h:(clkT c).2=0):takeClk (clkT c).1.data.toList=(c,0):=by
  obtain⟨b,h',m,s,e⟩:=c
  unfold clkT at h ⊢
  by_cases hb:clkB (b,h',m,s,e)=false
  · rw [if_pos hb] at h;exact absurd h (by decide)
  rw [if_neg hb] at h ⊢
  have hb:clkB (b,h',m,s,e)=true:=by simpa using hb
  cases b with
  | false=>
    obtain⟨rfl,rfl,rfl,rfl⟩:=clkB_false hb
    rfl
  | true=>
    obtain⟨x1,x2,x3,x4,x5,x6,x7,x8⟩:=clkB_true hb
    have e1:=threeL_two x1 (show h'≤99 by omega) x3 (show m≤99 by omega) x5 (show s≤99 by omega)
    have e2:=behindL_tail x7 x8
    show takeClk (twoL h'++twoL m++twoL s++clkTail e)=_
    unfold takeClk
    rw [if_neg (by simp [twoL])]
    have t1:(twoL h'++twoL m++twoL s++clkTail e).take 6=twoL h'++twoL m++twoL s:=List.take_left' (by rfl)
    have t2:(twoL h'++twoL m++twoL s++clkTail e).drop 6=clkTail e:=List.drop_left' (by rfl)
    rw [t1,t2,e1,e2]
    simp only
    rw [if_pos hb]
theorem behindL_le {l:List UInt8} {n:Int} (h:behindL l=some n):0≤n∧n≤99∧(clkTail n).length≤l.length:=by
  unfold behindL at h
  split at h
  · injection h with h;subst h;simp [clkTail]
  · next p a=>
    split at h
    · next q=>
      injection h with h
      have q2:=q.2
      unfold digB at q2
      simp only [Bool.and_eq_true,decide_eq_true_eq] at q2
      refine⟨by omega,by omega,?_⟩
      unfold clkTail
      split
      · simp
      · rw [if_pos (by omega)];simp
    · cases h
  · next p a b=>
    split at h
    · next q=>
      injection h with h
      have:=numP_le q.2.1 q.2.2
      refine⟨by omega,by omega,?_⟩
      unfold clkTail twoL
      split
      · simp
      · split <;> simp
    · cases h
  · cases h
theorem threeL_le {l:List UInt8} {a b c:Int} (h:threeL l=some (a,b,c)):l.length=6∧0≤a∧a≤99∧0≤b∧b≤99∧0≤c∧c≤99:=by
  unfold threeL at h
  split at h
  · split at h
    · next q=>
      simp only [Bool.and_eq_true] at q
      obtain⟨⟨⟨⟨⟨q1,q2⟩,q3⟩,q4⟩,q5⟩,q6⟩:=q
      have h1:=numP_le q1 q2
      have h2:=numP_le q3 q4
      have h3:=numP_le q5 q6
      injection h with h
      injection h with e1 h
      injection h with e2 e3
      subst e1 e2 e3
      exact⟨rfl,h1.1,h1.2,h2.1,h2.2,h3.1,h3.2⟩
    · cases h
  · cases h
theorem clk_take_put {l:List UInt8} (h:(takeClk l).2=0):(clkT (takeClk l).1).2=0∧(clkT (takeClk l).1).1.size≤l.length:=by
  unfold takeClk at h ⊢
  by_cases hl:l=[]
  · subst hl;exact⟨rfl,by decide⟩
  rw [if_neg hl] at h ⊢
  cases h1:threeL (l.take 6) with
  | none=>rw [h1] at h;exact absurd h (by simp)
  | some x=>
    obtain⟨a,b,c⟩:=x
    rw [h1] at h
    cases h2:behindL (l.drop 6) with
    | none=>rw [h2] at h;exact absurd h (by simp)
    | some n=>
      rw [h2] at h
      simp only at h ⊢
      by_cases hb:clkB (true,a,b,c,n)=true
      · rw [if_pos hb]
        have l1:=(threeL_le h1).1
        have l2:=(behindL_le h2).2.2
        unfold clkT
        rw [if_neg (by rw [hb];decide),if_neg (by simp)]
        refine⟨rfl,?_⟩
        show (twoL a++twoL b++twoL c++clkTail n).toArray.size≤_
        rw [List.length_take] at l1
        rw [List.length_drop] at l2
        simp [twoL]
        omega
      · rw [if_neg hb] at h
        exact absurd h (by decide)
theorem dat_put_take {d:Dat} (h:(datT d).2=0):takeDat (datT d).1.data.toList=(d,0):=by
  obtain⟨b,x,m,y⟩:=d
  unfold datT at h ⊢
  by_cases hb:datB (b,x,m,y)=false
  · rw [if_pos hb] at h;exact absurd h (by decide)
  rw [if_neg hb] at h ⊢
  have hb:datB (b,x,m,y)=true:=by simpa using hb
  cases b with
  | false=>
    obtain⟨rfl,rfl,rfl⟩:x=0∧m=0∧y=0:=of_decide_eq_true hb
    rfl
  | true=>
    obtain⟨x1,x2⟩:1≤x∧x≤daysI m y:=of_decide_eq_true hb
    have d1:=days_le m y
    have d2:=days_pos (show 1≤daysI m y by omega)
    have e1:=threeL_two (show 0≤x by omega) (show x≤99 by omega) (show 0≤m by omega) (show m≤99 by omega) (show 0≤y - 2000 by omega) (show y - 2000≤99 by omega)
    show takeDat (twoL x++twoL m++twoL (y - 2000))=_
    unfold takeDat
    rw [if_neg (by simp [twoL]),e1]
    simp only
    rw [show 2000+(y - 2000)=y by omega,if_pos hb]
theorem dat_take_put {l:List UInt8} (h:(takeDat l).2=0):(datT (takeDat l).1).2=0∧(datT (takeDat l).1).1.size≤l.length:=by
  unfold takeDat at h ⊢
  by_cases hl:l=[]
  · subst hl;exact⟨rfl,by decide⟩
  rw [if_neg hl] at h ⊢
  cases h1:threeL l with
  | none=>rw [h1] at h;exact absurd h (by decide)
  | some x=>
    obtain⟨a,b,c⟩:=x
    rw [h1] at h
    simp only at h ⊢
    by_cases hb:datB (true,a,b,2000+c)=true
    · rw [if_pos hb]
      have l1:=(threeL_le h1).1
      unfold datT
      rw [if_neg (by rw [hb];decide),if_neg (by simp)]
      refine⟨rfl,?_⟩
      show (twoL a++twoL b++twoL (2000+c - 2000)).toArray.size≤_
      simp [twoL]
      omega
    · rw [if_neg hb] at h
      exact absurd h (by decide)
end Go.Proofs.YtoabkoniegmkaaaGreat
