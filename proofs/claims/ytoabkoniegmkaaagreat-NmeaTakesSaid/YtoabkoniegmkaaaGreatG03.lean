/- Layer 23: the reference's Put. -/
import Derived.Test.YtoabkoniegmkaaaGreatG02
import Derived.Deep.RegionHeld3
namespace Go.Proofs.YtoabkoniegmkaaaGreat
set_option linter.unusedVariables false
open Go.RowKit
def farI (lat:Bool):Int:=if lat then 540000000 else 1080000000
def sidesB (lat:Bool):ByteArray:=if lat then ⟨#[78,83]⟩ else ⟨#[69,87]⟩
def sideB (lat neg:Bool):ByteArray:=if lat then (if neg then ⟨#[83]⟩ else ⟨#[78]⟩) else (if neg then ⟨#[87]⟩ else ⟨#[69]⟩)
def wideN (lat:Bool):Nat:=if lat then 2 else 3
def angL (x:Nat) (lat:Bool):List UInt8:=digL (x / 6000000) (wideN lat)++pointL (x % 6000000) 2 5
def angN (b:Bool) (n:Int) (lat:Bool):ByteArray×ByteArray×Int:=
  if fitsB b n (-farI lat) (farI lat)=false then (ByteArray.empty,ByteArray.empty,5)
  else if b=false then (ByteArray.empty,ByteArray.empty,0)
  else if n < 0 then (toB (angL (-n).toNat lat),sideB lat true,0) else (toB (angL n.toNat lat),sideB lat false,0)
theorem sideB_false (lat:Bool):(sidesB lat).extract 0 1=sideB lat false:=by cases lat <;> rfl
theorem sideB_true (lat:Bool):(sidesB lat).extract 1 2=sideB lat true:=by cases lat <;> rfl
theorem results3 {fn:Func} {t u v:Tmp} (h:fn.results=#[.tmp t,.tmp u,.tmp v]) (tmps:Array Value) (P:Program) (w:World) :
    (results fn tmps).run P w=.ok (.tuple #[tmps.getD t undef,tmps.getD u undef,tmps.getD v undef]) w:=by
  simp [results,h]
theorem kind_any (lat:Bool) (w:World):Calls Tryz.prog 193 #[.bool lat] w fun e w'=>e=.returned (.tuple #[.int .i64 (if lat then 90 else 180),.int .i64 (if lat then 2 else 3),.string (sidesB lat)])∧w=w':=by
  cases lat
  all_goals
    go_enter Tryz.func193,Tryz.ntmps193
    go_wp2
    try simp only [Exit.inBlock,Exit.then]
    refine bodyPost_ret (results3 rfl _ _ _) rfl ?_
    exact⟨rfl,rfl⟩
theorem r23Far_any (lat:Bool) (w:World):Calls Tryz.prog 180 #[.bool lat] w fun e w'=>e=.returned (.int .i64 (farI lat))∧w=w':=by
  cases lat
  all_goals
    go_enter Tryz.func180,Tryz.ntmps180
    go_wp2
    go_ret
    exact⟨rfl,rfl⟩
theorem r23sides_any (lat:Bool) (w:World):Calls Tryz.prog 179 #[.bool lat] w fun e w'=>e=.returned (.string (sidesB lat))∧w=w':=by
  cases lat
  all_goals
    go_enter Tryz.func179,Tryz.ntmps179
    go_wp2
    go_ret
    exact⟨rfl,rfl⟩
end Go.Proofs.YtoabkoniegmkaaaGreat
