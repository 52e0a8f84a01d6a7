/- Layer 23: the reference's Put. -/
import Derived.Test.YtdkhlkfleggbaaaGreatP10
import Derived.Deep.RegionHeld3
import Derived.Deep.QuietTactic
namespace Go.Proofs.YtdkhlkfleggbaaaGreat
open Lib (hid)
set_option linter.unusedVariables false
open Go.RowKit
def ape (lat:Bool):Int:=if lat then 540000000 else 1080000000
def xq (lat:Bool):ByteArray:=if lat then⟨#[78,83]⟩else⟨#[69,87]⟩
def ahz (lat neg:Bool):ByteArray:=if lat then(if neg then⟨#[83]⟩else⟨#[78]⟩)else(if neg then⟨#[87]⟩else⟨#[69]⟩)
theorem ad5 (lat:Bool):(xq lat).extract 0 1=ahz lat false:=by cases lat<;>rfl
theorem ade (lat:Bool):(xq lat).extract 1 2=ahz lat true:=by cases lat<;>rfl
theorem bax {fn:Func} {t u v:Tmp} (h:fn.results=#[.tmp t,.tmp u,.tmp v]) (tmps:Array Value) (P:Program) (w:World) :
 (results fn tmps).run P w=.ok (.tuple #[tmps.getD t undef,tmps.getD u undef,tmps.getD v undef]) w:=by
 simp[results,h]
theorem aa2 (lat:Bool) (w:World):Calls Tryz.prog 225 #[.bool lat] w fun e w'=>e=.returned (.tuple #[.int .i64 (if lat then 90 else 180),.int .i64 (if lat then 2 else 3),.string (xq lat)])∧w=w':=by
 cases lat
 all_goals
  go_enter Tryz.func225,Tryz.ntmps225
  go_wp2
  try simp only[Exit.inBlock,Exit.then]
  refine bodyPost_ret (bax rfl _ _ _) rfl ?_
  exact⟨rfl,rfl⟩
end Go.Proofs.YtdkhlkfleggbaaaGreat
