/- Layer 24: times and dates, the reference's checks and what it puts. -/
import Derived.Test.YtdkhlkfleggbaaaGreatR24
import Derived.Test.YtdkhlkfleggbaaaGreatR18
namespace Go.Proofs.YtdkhlkfleggbaaaGreat
open Lib (hid)
open Tryz
set_option linter.unusedVariables false
open Go.RowKit
set_option linter.unusedSimpArgs false
abbrev j4 (cb:Bool) (ch:Int) (cm:Int) (cs:Int) (cc:Int) (lb:Bool) (ln:Int) (ob:Bool) (on:Int) (q:Int) (sb:Bool) (sn:Int) (hb:Bool) (hn:Int) (ab:Bool) (an:Int) (gb:Bool) (gn:Int) (eb:Bool) (en:Int) (tb:Bool) (tn:Int):Array Value:=#[.bool cb,.int .i64 ch,.int .i64 cm,.int .i64 cs,.int .i64 cc,.bool lb,.int .i64 ln,.bool ob,.int .i64 on,.int .i64 q,.bool sb,.int .i64 sn,.bool hb,.int .i64 hn,.bool ab,.int .i64 an,.bool gb,.int .i64 gn,.bool eb,.int .i64 en,.bool tb,.int .i64 tn]
abbrev bgp (cb:Bool) (ch:Int) (cm:Int) (cs:Int) (cc:Int) (lb:Bool) (ln:Int) (ob:Bool) (on:Int) (q:Int) (sb:Bool) (sn:Int) (hb:Bool) (hn:Int) (ab:Bool) (an:Int) (gb:Bool) (gn:Int) (eb:Bool) (en:Int) (tb:Bool) (tn:Int):Value:=.agg (j4 cb ch cm cs cc lb ln ob on q sb sn hb hn ab an gb gn eb en tb tn)
theorem ay0 (w:World):Calls Tryz.prog 140 #[] w fun e w'=>e=.returned (jv 1 2 0 0 99)∧Below w.1.size w w':=by
 go_enter func140,ntmps140;go_wp2;refine bodyPost_ret (v:=jv 1 2 0 0 99) (by simp[results,results140,go_sem]) rfl ⟨rfl,qa _ _⟩
theorem ayz (w:World):Calls Tryz.prog 141 #[] w fun e w'=>e=.returned (jv 1 3 2 0 99999)∧Below w.1.size w w':=by
 go_enter func141,ntmps141;go_wp2;refine bodyPost_ret (v:=jv 1 3 2 0 99999) (by simp[results,results141,go_sem]) rfl ⟨rfl,qa _ _⟩
theorem a3x (w:World):Calls Tryz.prog 142 #[] w fun e w'=>e=.returned (jv 1 6 1 (-9999999) 9999999)∧Below w.1.size w w':=by
 go_enter func142,ntmps142;go_wp2;refine bodyPost_ret (v:=jv 1 6 1 (-9999999) 9999999) (by simp[results,results142,go_sem]) rfl ⟨rfl,qa _ _⟩
theorem au2 (w:World):Calls Tryz.prog 144 #[] w fun e w'=>e=.returned (jv 1 4 1 (-99999) 99999)∧Below w.1.size w w':=by
 go_enter func144,ntmps144;go_wp2;refine bodyPost_ret (v:=jv 1 4 1 (-99999) 99999) (by simp[results,results144,go_sem]) rfl ⟨rfl,qa _ _⟩
theorem a3w (w:World):Calls Tryz.prog 145 #[] w fun e w'=>e=.returned (jv 1 4 1 0 99999)∧Below w.1.size w w':=by
 go_enter func145,ntmps145;go_wp2;refine bodyPost_ret (v:=jv 1 4 1 0 99999) (by simp[results,results145,go_sem]) rfl ⟨rfl,qa _ _⟩
theorem a8s (w:World):Calls Tryz.prog 146 #[] w fun e w'=>e=.returned (jv 1 4 0 0 1023)∧Below w.1.size w w':=by
 go_enter func146,ntmps146;go_wp2;refine bodyPost_ret (v:=jv 1 4 0 0 1023) (by simp[results,results146,go_sem]) rfl ⟨rfl,qa _ _⟩
end Go.Proofs.YtdkhlkfleggbaaaGreat
