/- Layer 29: columns, digits. -/
import Derived.Test.YtoabkoniegmkaaaGreatG10
import Derived.Test.YtoabkoniegmkaaaGreatG12
namespace Go.Proofs.YtoabkoniegmkaaaGreat
set_option linter.unusedVariables false
open Go.RowKit
theorem gsvseen_any (w:World):Calls Tryz.prog 138 #[] w fun e w'=>e=.returned (colV 1 2 0 0 99)∧Below w.heap.size w w':=by
  go_enter Tryz.func138,Tryz.ntmps138
  go_wp2
  refine bodyPost_ret (v:=colV 1 2 0 0 99) (by simp [results,Tryz.results138,go_sem]) rfl ⟨rfl,below_new _ _⟩
theorem gsvid_any (w:World):Calls Tryz.prog 139 #[] w fun e w'=>e=.returned (colV 1 3 0 1 255)∧Below w.heap.size w w':=by
  go_enter Tryz.func139,Tryz.ntmps139
  go_wp2
  refine bodyPost_ret (v:=colV 1 3 0 1 255) (by simp [results,Tryz.results139,go_sem]) rfl ⟨rfl,below_new _ _⟩
theorem gsvelev_any (w:World):Calls Tryz.prog 140 #[] w fun e w'=>e=.returned (colV 1 2 0 0 90)∧Below w.heap.size w w':=by
  go_enter Tryz.func140,Tryz.ntmps140
  go_wp2
  refine bodyPost_ret (v:=colV 1 2 0 0 90) (by simp [results,Tryz.results140,go_sem]) rfl ⟨rfl,below_new _ _⟩
theorem gsvazim_any (w:World):Calls Tryz.prog 141 #[] w fun e w'=>e=.returned (colV 1 3 0 0 359)∧Below w.heap.size w w':=by
  go_enter Tryz.func141,Tryz.ntmps141
  go_wp2
  refine bodyPost_ret (v:=colV 1 3 0 0 359) (by simp [results,Tryz.results141,go_sem]) rfl ⟨rfl,below_new _ _⟩
theorem gsvlevel_any (w:World):Calls Tryz.prog 142 #[] w fun e w'=>e=.returned (colV 1 2 0 0 99)∧Below w.heap.size w w':=by
  go_enter Tryz.func142,Tryz.ntmps142
  go_wp2
  refine bodyPost_ret (v:=colV 1 2 0 0 99) (by simp [results,Tryz.results142,go_sem]) rfl ⟨rfl,below_new _ _⟩
abbrev colsG:Array Value:=#[.int .i64 1,.int .i64 2,.int .i64 0,.int .i64 0,.int .i64 99,.int .i64 1,.int .i64 3,.int .i64 0,.int .i64 1,.int .i64 255,.int .i64 1,.int .i64 2,.int .i64 0,.int .i64 0,.int .i64 90,.int .i64 1,.int .i64 3,.int .i64 0,.int .i64 0,.int .i64 359,.int .i64 1,.int .i64 2,.int .i64 0,.int .i64 0,.int .i64 99]
theorem r29Cols_any (w:World):Calls Tryz.prog 65 #[] w fun e w'=>e=.returned (.slice (some ⟨w.heap.size,0,none⟩) 5 5)∧(∀ o,w'.cell? ⟨w.heap.size,o,none⟩=colsG[o]?)∧w'.heap.size=w.heap.size+1∧Below w.heap.size w w':=by
  go_enter Tryz.func65,Tryz.ntmps65
  go_wp2
  go_ret
  exact⟨rfl,fun o=>World.cell?_alloc_at _ _ _ _ rfl,by simp,below_new _ _⟩
end Go.Proofs.YtoabkoniegmkaaaGreat
