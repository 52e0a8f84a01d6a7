/- Layer 23: the reference's Put. -/
import Derived.Test.YtoabkoniegmkaaaGreatH02
import Derived.Deep.RegionHeld3
namespace Go.Proofs.YtoabkoniegmkaaaGreat
set_option linter.unusedVariables false
open Go.RowKit
def farI (lat:Bool):Int:=if lat then 540000000 else 1080000000
def sidesB (lat:Bool):ByteArray:=if lat then ⟨#[78,83]⟩ else ⟨#[69,87]⟩
def sideB (lat neg:Bool):ByteArray:=if lat then (if neg then ⟨#[83]⟩ else ⟨#[78]⟩) else (if neg then ⟨#[87]⟩ else ⟨#[69]⟩)
def wideN (lat:Bool):Nat:=if lat then 2 else 3
def angL (x:Nat) (lat:Bool):List UInt8:=digL (x / 6000000) (wideN lat)++pointL (x % 6000000) 2 5
def angN (b:Bool) (n:Int) (lat:Bool):ByteArray×ByteArray×Int:=
  if fitsB b n (-farI lat) (farI lat)=false then (ByteArray.empty,ByteArray.empty,5)
  else if b=false then (ByteArray.empty,ByteArray.empty,0)
  else if n < 0 then (toB (angL (-n).toNat lat),sideB lat true,0) else (toB (angL n.toNat lat),sideB lat false,0)
theorem sideB_false (lat:Bool):(sidesB lat).extract 0 1=sideB lat false:=by cases lat <;> rfl
theorem sideB_true (lat:Bool):(sidesB lat).extract 1 2=sideB lat true:=by cases lat <;> rfl
theorem results3 {fn:Func} {t u v:Tmp} (h:fn.results=#[.tmp t,.tmp u,.tmp v]) (tmps:Array Value) (P:Program) (w:World) :
    (results fn tmps).run P w=.ok (.tuple #[tmps.getD t undef,tmps.getD u undef,tmps.getD v undef]) w:=by
  simp [results,h]
theorem kind_any (lat:Bool) (w:World):Calls Tryz.prog 193 #[.bool lat] w fun e w'=>e=.returned (.tuple #[.int .i64 (if lat then 90 else 180),.int .i64 (if lat then 2 else 3),.string (sidesB lat)])∧w=w':=by
  cases lat
  all_goals
    go_enter Tryz.func193,Tryz.ntmps193
    go_wp2
    try simp only [Exit.inBlock,Exit.then]
    refine bodyPost_ret (results3 rfl _ _ _) rfl ?_
    exact⟨rfl,rfl⟩
set_option maxHeartbeats 2000000 in
theorem Angle_range (b:Bool) (n:Int) (lat:Bool) (w:World) (h:fitsB b n (-farI lat) (farI lat)=false) :
    Calls Tryz.prog 237 #[numV b n,.bool lat] w fun e w'=>e=.returned (.tuple #[.string ByteArray.empty,.string ByteArray.empty,.int .i64 5])∧Below w.heap.size w w':=by
  have HF:=fun W'=>Lib.hid (fits_any b n (-farI lat) (farI lat) W')
  rw [h] at HF
  have HK:=fun W'=>Lib.hid (kind_any lat W')
  clear h
  cases lat
  all_goals
    go_enter Tryz.func237,Tryz.ntmps237
    go_wp2_with fail
    refine ((HK _).out).mono ?_
    rintro e w0 ⟨rfl,rfl⟩
    go_wp2_with fail
    refine ((HF _).out).mono ?_
    rintro e w1 ⟨rfl,hb1⟩
    go_wp2_with fail
    try simp only [Exit.inBlock,Exit.then]
    refine bodyPost_ret (results3 rfl _ _ _) rfl ?_
    exact⟨rfl,bthen (below_new w _) hb1⟩
set_option maxHeartbeats 2000000 in
theorem Angle_none (n:Int) (lat:Bool) (w:World) (h:fitsB false n (-farI lat) (farI lat)=true) :
    Calls Tryz.prog 237 #[numV false n,.bool lat] w fun e w'=>e=.returned (.tuple #[.string ByteArray.empty,.string ByteArray.empty,.int .i64 0])∧Below w.heap.size w w':=by
  have HF:=fun W'=>Lib.hid (fits_any false n (-farI lat) (farI lat) W')
  rw [h] at HF
  have HK:=fun W'=>Lib.hid (kind_any lat W')
  clear h
  cases lat
  all_goals
    go_enter Tryz.func237,Tryz.ntmps237
    go_wp2_with fail
    refine ((HK _).out).mono ?_
    rintro e w0 ⟨rfl,rfl⟩
    go_wp2_with fail
    refine ((HF _).out).mono ?_
    rintro e w1 ⟨rfl,hb1⟩
    obtain⟨c1,f1⟩:=bcell hb1
    have hz:=hb1.size
    simp at hz
    have hz1:w.heap.size < w1.heap.size:=by omega
    go_wp2_with fail
    try simp only [Exit.inBlock,Exit.then]
    refine bodyPost_ret (results3 rfl _ _ _) rfl ?_
    exact⟨rfl,bthen (below_new w _) hb1⟩
set_option maxHeartbeats 2000000 in
theorem Angle_pos (x:Nat) (lat:Bool) (w:World) (h:fitsB true x (-farI lat) (farI lat)=true) :
    Calls Tryz.prog 237 #[numV true x,.bool lat] w fun e w'=>e=.returned (.tuple #[.string (toB (angL x lat)),.string (sideB lat false),.int .i64 0])∧Below w.heap.size w w':=by
  have HF:=fun W'=>Lib.hid (fits_any true x (-farI lat) (farI lat) W')
  rw [h] at HF
  have hx:=(fitsB_true h).2
  have hx2:(x:Int)≤1080000000:=by unfold farI at hx;split at hx <;> omega
  have HK:=fun W'=>Lib.hid (kind_any lat W')
  have HD:=fun W'=>Lib.hid (digits_any (x / 6000000) (wideN lat) W' (by omega) (by unfold wideN;split <;> omega))
  have HP:=fun W'=>Lib.hid (pointed_any (x % 6000000) 2 5 W' (by omega) (by omega) (by omega))
  have e1:((x / 6000000:Nat):Int)=(x:Int) / 6000000:=by omega
  have e2:((x % 6000000:Nat):Int)=(x:Int) % 6000000:=by omega
  rw [e1] at HD
  rw [e2] at HP
  have HR:Hid (toB (angL x lat)=toB (digL (x / 6000000) (wideN lat))++toB (pointL (x % 6000000) 2 5)):=by show _=_;rw [toB_append];rfl
  have hA:(toB (digL (x / 6000000) (wideN lat))).size≤20:=by rw [size_B];exact digF_len 20 _ _
  have hB:(toB (pointL (x % 6000000) 2 5)).size≤41:=by rw [size_B];exact pointL_len _ _ _
  change ∀ W,Hid (Calls Tryz.prog 241 #[.int .i64 ((x:Int) / 6000000),.int .i64 (wideN lat:Int)] W fun e w'=>e=.returned (.string (toB (digL (x / 6000000) (wideN lat))))∧Below W.heap.size W w') at HD
  clear h hx e1 e2
  generalize toB (digL (x / 6000000) (wideN lat))=A at *
  generalize toB (pointL (x % 6000000) 2 5)=B at *
  generalize toB (angL x lat)=R at *
  have hS:(sidesB lat).size=2:=by cases lat <;> rfl
  have HS:=Lib.hid (sideB_false lat)
  generalize sidesB lat=S at *
  generalize sideB lat false=Y at *
  cases lat
  all_goals
    go_enter Tryz.func237,Tryz.ntmps237
    go_wp2_with fail
    refine ((HK _).out).mono ?_
    rintro e w0 ⟨rfl,rfl⟩
    go_wp2_with fail
    refine ((HF _).out).mono ?_
    rintro e w1 ⟨rfl,hb1⟩
    obtain⟨c1,f1⟩:=bcell hb1
    have hz:=hb1.size
    simp at hz
    have hz1:w.heap.size < w1.heap.size:=by omega
    have b1:=Lib.hid (bthen (below_new w _) hb1)
    go_wp2_with fail
    go_quiet (fail)
    go_wp2_with fail
    refine (HD _).out.mono ?_
    rintro e w2 ⟨rfl,hb2⟩
    replace hb2:=undrewN hb2
    go_wp2_with fail
    refine ((HP _).out).mono ?_
    rintro e w3 ⟨rfl,hb3⟩
    go_wp2_with fail
    try simp only [Exit.inBlock,Exit.then]
    refine bodyPost_ret (results3 rfl _ _ _) rfl ?_
    exact⟨by rw [HR.out,← HS.out];rfl,bthen (bthen b1.out hb2) hb3⟩
set_option maxHeartbeats 2000000 in
theorem Angle_neg (x:Nat) (hp:0 < x) (lat:Bool) (w:World) (h:fitsB true (-(x:Int)) (-farI lat) (farI lat)=true) :
    Calls Tryz.prog 237 #[numV true (-(x:Int)),.bool lat] w fun e w'=>e=.returned (.tuple #[.string (toB (angL x lat)),.string (sideB lat true),.int .i64 0])∧Below w.heap.size w w':=by
  have HF:=fun W'=>Lib.hid (fits_any true (-(x:Int)) (-farI lat) (farI lat) W')
  rw [h] at HF
  have hx:=(fitsB_true h).1
  have hx2:(x:Int)≤1080000000:=by unfold farI at hx;split at hx <;> omega
  have HK:=fun W'=>Lib.hid (kind_any lat W')
  have HD:=fun W'=>Lib.hid (digits_any (x / 6000000) (wideN lat) W' (by omega) (by unfold wideN;split <;> omega))
  have HP:=fun W'=>Lib.hid (pointed_any (x % 6000000) 2 5 W' (by omega) (by omega) (by omega))
  have e1:((x / 6000000:Nat):Int)=(x:Int) / 6000000:=by omega
  have e2:((x % 6000000:Nat):Int)=(x:Int) % 6000000:=by omega
  rw [e1] at HD
  rw [e2] at HP
  have HR:Hid (toB (angL x lat)=toB (digL (x / 6000000) (wideN lat))++toB (pointL (x % 6000000) 2 5)):=by show _=_;rw [toB_append];rfl
  have hA:(toB (digL (x / 6000000) (wideN lat))).size≤20:=by rw [size_B];exact digF_len 20 _ _
  have hB:(toB (pointL (x % 6000000) 2 5)).size≤41:=by rw [size_B];exact pointL_len _ _ _
  change ∀ W,Hid (Calls Tryz.prog 241 #[.int .i64 ((x:Int) / 6000000),.int .i64 (wideN lat:Int)] W fun e w'=>e=.returned (.string (toB (digL (x / 6000000) (wideN lat))))∧Below W.heap.size W w') at HD
  clear h hx e1 e2
  generalize toB (digL (x / 6000000) (wideN lat))=A at *
  generalize toB (pointL (x % 6000000) 2 5)=B at *
  generalize toB (angL x lat)=R at *
  have hS:(sidesB lat).size=2:=by cases lat <;> rfl
  have HS:=Lib.hid (sideB_true lat)
  generalize sidesB lat=S at *
  generalize sideB lat true=Y at *
  cases lat
  all_goals
    go_enter Tryz.func237,Tryz.ntmps237
    go_wp2_with fail
    refine ((HK _).out).mono ?_
    rintro e w0 ⟨rfl,rfl⟩
    go_wp2_with fail
    refine ((HF _).out).mono ?_
    rintro e w1 ⟨rfl,hb1⟩
    obtain⟨c1,f1⟩:=bcell hb1
    have hz:=hb1.size
    simp at hz
    have hz1:w.heap.size < w1.heap.size:=by omega
    have b1:=Lib.hid (bthen (below_new w _) hb1)
    go_wp2_with fail
    go_quiet (fail)
    go_wp2_with fail
    go_quiet (fail)
    go_wp2_with fail
    refine (HD _).out.mono ?_
    rintro e w2 ⟨rfl,hb2⟩
    replace hb2:=undrewN hb2
    go_wp2_with fail
    refine ((HP _).out).mono ?_
    rintro e w3 ⟨rfl,hb3⟩
    go_wp2_with fail
    try simp only [Exit.inBlock,Exit.then]
    refine bodyPost_ret (results3 rfl _ _ _) rfl ?_
    exact⟨by rw [HR.out,← HS.out];rfl,bthen (bthen b1.out hb2) hb3⟩
theorem Angle23_any (b:Bool) (n:Int) (lat:Bool) (w:World) :
    Calls Tryz.prog 237 #[numV b n,.bool lat] w fun e w'=>e=.returned (.tuple #[.string (angN b n lat).1,.string (angN b n lat).2.1,.int .i64 (angN b n lat).2.2])∧Below w.heap.size w w':=by
  unfold angN
  cases h:fitsB b n (-farI lat) (farI lat) with
  | false=>rw [if_pos rfl];exact Angle_range b n lat w h
  | true=>
    rw [if_neg (by decide)]
    cases b with
    | false=>rw [if_pos rfl];exact Angle_none n lat w h
    | true=>
      rw [if_neg (by decide)]
      by_cases hn:n < 0
      · rw [if_pos hn]
        obtain⟨k,hk⟩:=Int.eq_ofNat_of_zero_le (show 0≤-n by omega)
        obtain rfl:n=-(k:Int):=by omega
        rw [show (-(-(k:Int))).toNat=k from by omega]
        exact Angle_neg k (by omega) lat w h
      · rw [if_neg hn]
        obtain⟨k,rfl⟩:=Int.eq_ofNat_of_zero_le (show 0≤n by omega)
        exact Angle_pos k lat w h
end Go.Proofs.YtoabkoniegmkaaaGreat
