/- Layer 26: the reference's One, Cols; rdVar and rdMode in parts. -/
import Derived.Test.YtoabkoniegmkaaaGreatJ24
import Derived.Test.YtoabkoniegmkaaaGreatJ10
namespace Go.Proofs.YtoabkoniegmkaaaGreat
set_option linter.unusedVariables false
open Go.RowKit
abbrev colsM:Array Value:=#[.int .i64 1,.int .i64 4,.int .i64 2,.int .i64 0,.int .i64 999999,.int .i64 1,.int .i64 3,.int .i64 2,.int .i64 0,.int .i64 36000,.int .i64 1,.int .i64 3,.int .i64 1,.int .i64 0,.int .i64 1800]
theorem r26Cols_any (w:World):Calls Tryz.prog 56 #[] w fun e w'=>e=.returned (.slice (some ⟨w.heap.size,0,none⟩) 3 3)∧(∀ o,w'.cell? ⟨w.heap.size,o,none⟩=colsM[o]?)∧w'.heap.size=w.heap.size+1∧Below w.heap.size w w':=by
  go_enter Tryz.func56,Tryz.ntmps56
  go_wp2
  go_ret
  exact⟨rfl,fun o=>World.cell?_alloc_at _ _ _ _ rfl,by simp,below_new _ _⟩
end Go.Proofs.YtoabkoniegmkaaaGreat
