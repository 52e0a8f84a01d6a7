/- Layer 26: values, columns, sided, the closures of Put. Printed by genrmcp.py. -/
import Derived.Test.YtdkhlkfleggbaaaGreatR25
namespace Go.Proofs.YtdkhlkfleggbaaaGreat
open Lib (hid)
open Tryz
set_option linter.unusedVariables false
open Go.RowKit
abbrev xr (cb:Bool) (ch:Int) (cm:Int) (cs:Int) (cc:Int) (st:Bool) (lb:Bool) (ln:Int) (ob:Bool) (on:Int) (sb:Bool) (sn:Int) (kb:Bool) (kn:Int) (vb:Bool) (vn:Int) (db:Bool) (dd:Int) (dm:Int) (dy:Int):Array Value:=#[.bool cb,.int .i64 ch,.int .i64 cm,.int .i64 cs,.int .i64 cc,.bool st,.bool lb,.int .i64 ln,.bool ob,.int .i64 on,.bool sb,.int .i64 sn,.bool kb,.int .i64 kn,.bool vb,.int .i64 vn,.bool db,.int .i64 dd,.int .i64 dm,.int .i64 dy]
abbrev bhz (cb:Bool) (ch:Int) (cm:Int) (cs:Int) (cc:Int) (st:Bool) (lb:Bool) (ln:Int) (ob:Bool) (on:Int) (sb:Bool) (sn:Int) (kb:Bool) (kn:Int) (vb:Bool) (vn:Int) (db:Bool) (dd:Int) (dm:Int) (dy:Int):Value:=.agg (xr cb ch cm cs cc st lb ln ob on sb sn kb kn vb vn db dd dm dy)
theorem avs (w:World):Calls Tryz.prog 158 #[] w fun e w'=>e=.returned (jv 1 4 2 0 999999)∧Below w.1.size w w':=by
 go_enter func158,ntmps158;go_wp2;refine bodyPost_ret (v:=jv 1 4 2 0 999999) (by simp[results,results158,go_sem]) rfl ⟨rfl,qa _ _⟩
theorem arq (w:World):Calls Tryz.prog 160 #[] w fun e w'=>e=.returned (jv 1 3 2 0 36000)∧Below w.1.size w w':=by
 go_enter func160,ntmps160;go_wp2;refine bodyPost_ret (v:=jv 1 3 2 0 36000) (by simp[results,results160,go_sem]) rfl ⟨rfl,qa _ _⟩
theorem jm (w:World):Calls Tryz.prog 213 #[] w fun e w'=>e=.returned (jv 1 3 1 0 1800)∧Below w.1.size w w':=by
 go_enter func213,ntmps213;go_wp2;refine bodyPost_ret (v:=jv 1 3 1 0 1800) (by simp[results,results213,go_sem]) rfl ⟨rfl,qa _ _⟩
end Go.Proofs.YtdkhlkfleggbaaaGreat
