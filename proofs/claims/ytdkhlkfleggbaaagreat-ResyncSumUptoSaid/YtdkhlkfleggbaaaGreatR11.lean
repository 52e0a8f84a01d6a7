/- Layer 23: the reference's Put. -/
import Derived.Test.YtdkhlkfleggbaaaGreatR10
namespace Go.Proofs.YtdkhlkfleggbaaaGreat
open Lib (hid)
open Tryz
set_option linter.unusedVariables false
open Go.RowKit
def ao9 (lat:Bool):Int:=if lat then 540000000 else 1080000000
def xz (lat:Bool):ByteArray:=if lat then⟨#[78,83]⟩else⟨#[69,87]⟩
def aix (lat neg:Bool):ByteArray:=if lat then(if neg then⟨#[83]⟩else⟨#[78]⟩)else(if neg then⟨#[87]⟩else⟨#[69]⟩)
theorem aea (lat:Bool):(xz lat).extract 0 1=aix lat false:=by cases lat<;>rfl
theorem adu (lat:Bool):(xz lat).extract 1 2=aix lat true:=by cases lat<;>rfl
theorem bek {fn:Func} {t u v:Tmp} (h:fn.results=#[.tmp t,.tmp u,.tmp v]) (tmps:Array Value) (P:Program) (w:World) :
 (results fn tmps).run P w=.ok (.tuple #[tmps.getD t undef,tmps.getD u undef,tmps.getD v undef]) w:=by
 simp[results,h]
theorem abg (lat:Bool) (w:World):Calls Tryz.prog 225 #[.bool lat] w fun e w'=>e=.returned (.tuple #[.int .i64 (if lat then 90 else 180),.int .i64 (if lat then 2 else 3),.string (xz lat)])∧w=w':=by
 cases lat
 all_goals
  go_enter func225,ntmps225;go_wp2
  try simp only[Exit.inBlock,Exit.then]
  refine bodyPost_ret (bek rfl _ _ _) rfl ?_;exact⟨rfl,rfl⟩
end Go.Proofs.YtdkhlkfleggbaaaGreat
