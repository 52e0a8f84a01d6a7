/- Layer 26: values, columns, sided, the closures of Put. Printed by genrmcp.py. -/
import Derived.Test.YtoabkoniegmkaaaGreatG15
namespace Go.Proofs.YtoabkoniegmkaaaGreat
set_option linter.unusedVariables false
open Go.RowKit
abbrev rmcC (cb:Bool) (ch:Int) (cm:Int) (cs:Int) (cc:Int) (st:Bool) (lb:Bool) (ln:Int) (ob:Bool) (on:Int) (sb:Bool) (sn:Int) (kb:Bool) (kn:Int) (vb:Bool) (vn:Int) (db:Bool) (dd:Int) (dm:Int) (dy:Int):Array Value:=#[.bool cb,.int .i64 ch,.int .i64 cm,.int .i64 cs,.int .i64 cc,.bool st,.bool lb,.int .i64 ln,.bool ob,.int .i64 on,.bool sb,.int .i64 sn,.bool kb,.int .i64 kn,.bool vb,.int .i64 vn,.bool db,.int .i64 dd,.int .i64 dm,.int .i64 dy]
abbrev rmcV (cb:Bool) (ch:Int) (cm:Int) (cs:Int) (cc:Int) (st:Bool) (lb:Bool) (ln:Int) (ob:Bool) (on:Int) (sb:Bool) (sn:Int) (kb:Bool) (kn:Int) (vb:Bool) (vn:Int) (db:Bool) (dd:Int) (dm:Int) (dy:Int):Value:=.agg (rmcC cb ch cm cs cc st lb ln ob on sb sn kb kn vb vn db dd dm dy)
theorem rmcspeed_any (w:World):Calls Tryz.prog 118 #[] w fun e w'=>e=.returned (colV 1 4 2 0 999999)∧Below w.heap.size w w':=by
  go_enter Tryz.func118,Tryz.ntmps118
  go_wp2
  refine bodyPost_ret (v:=colV 1 4 2 0 999999) (by simp [results,Tryz.results118,go_sem]) rfl ⟨rfl,below_new _ _⟩
theorem rmccourse_any (w:World):Calls Tryz.prog 120 #[] w fun e w'=>e=.returned (colV 1 3 2 0 36000)∧Below w.heap.size w w':=by
  go_enter Tryz.func120,Tryz.ntmps120
  go_wp2
  refine bodyPost_ret (v:=colV 1 3 2 0 36000) (by simp [results,Tryz.results120,go_sem]) rfl ⟨rfl,below_new _ _⟩
theorem rmcvariation_any (w:World):Calls Tryz.prog 176 #[] w fun e w'=>e=.returned (colV 1 3 1 0 1800)∧Below w.heap.size w w':=by
  go_enter Tryz.func176,Tryz.ntmps176
  go_wp2
  refine bodyPost_ret (v:=colV 1 3 1 0 1800) (by simp [results,Tryz.results176,go_sem]) rfl ⟨rfl,below_new _ _⟩
end Go.Proofs.YtoabkoniegmkaaaGreat
