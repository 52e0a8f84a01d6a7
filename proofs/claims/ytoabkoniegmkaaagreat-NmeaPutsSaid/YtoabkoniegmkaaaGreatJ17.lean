/- Layer 24: times and dates, the program's checks and what it puts. -/
import Derived.Test.YtoabkoniegmkaaaGreatJ16
import Derived.Deep.RegionHeld3
import Derived.Deep.QuietTactic
import Derived.BigQuiet
import Derived.Deep.RegionWith
import Derived.Deep.DeepCutAuto
import Derived.Deep.CutBlock
namespace Go.Proofs.YtoabkoniegmkaaaGreat
set_option linter.unusedVariables false
open Go.RowKit
abbrev clkV (b:Bool) (h m s c:Int):Value:=.agg #[.bool b,.int .i64 h,.int .i64 m,.int .i64 s,.int .i64 c]
abbrev datV (b:Bool) (d m y:Int):Value:=.agg #[.bool b,.int .i64 d,.int .i64 m,.int .i64 y]
theorem cin_yes (n lo hi:Int) (w:World) (h1:lo≤n) (h2:n≤hi):Calls Tryz.prog 195 #[.int .i64 n,.int .i64 lo,.int .i64 hi] w fun e w'=>e=.returned (.bool true)∧w=w':=by
  go_enter Tryz.func195,Tryz.ntmps195
  go_wp2
  go_ret
  exact⟨rfl,rfl⟩
theorem cin_no (n lo hi:Int) (w:World) (h:n < lo∨hi < n):Calls Tryz.prog 195 #[.int .i64 n,.int .i64 lo,.int .i64 hi] w fun e w'=>e=.returned (.bool false)∧w=w':=by
  by_cases h1:n < lo
  · clear h
    go_enter Tryz.func195,Tryz.ntmps195
    go_wp2
    go_ret
    exact⟨rfl,rfl⟩
  · have h2:decide (n≤hi)=false:=decide_eq_false (by omega)
    clear h
    go_enter Tryz.func195,Tryz.ntmps195
    go_wp2
    go_ret
    exact⟨rfl,rfl⟩
theorem cleap_any (y:Int) (w:World) (h0:0≤y) (h9:y≤10000):Calls Tryz.prog 208 #[.int .i64 y] w fun e w'=>e=.returned (.int .i64 (leapI y))∧w=w':=by
  by_cases h:y % 4=0
  · have e:leapI y=1:=if_pos h
    rw [e]
    clear e
    have hb:(y % 4==0)=true:=by rw [beq_iff_eq];exact h
    clear h
    go_enter Tryz.func208,Tryz.ntmps208
    go_wp2
    go_ret
    exact⟨rfl,rfl⟩
  · have e:leapI y=0:=if_neg h
    rw [e]
    clear e
    have hb:(y % 4==0)=false:=by rw [beq_eq_false_iff_ne];exact h
    clear h
    go_enter Tryz.func208,Tryz.ntmps208
    go_wp2
    go_ret
    exact⟨rfl,rfl⟩
set_option maxRecDepth 8000 in
set_option maxHeartbeats 4000000 in
theorem cahead_any (m y:Int) (w:World) (h1:1≤m) (h2:m≤13) (h3:2000≤y) (h4:y≤2099):Calls Tryz.prog 204 #[.int .i64 m,.int .i64 y] w fun e w'=>e=.returned (.int .i64 (aheadI m y))∧Below w.heap.size w w':=by
  have HL:=fun W=>Lib.hid (cleap_any y W (by omega) (by omega))
  have hlp:=leap_01 y
  rcases (by omega:m=1∨m=2∨m=3∨m=4∨m=5∨m=6∨m=7∨m=8∨m=9∨m=10∨m=11∨m=12∨m=13) with rfl | rfl | rfl | rfl | rfl | rfl | rfl | rfl | rfl | rfl | rfl | rfl | rfl
  all_goals
    unfold aheadI
    simp only [tableI,Int.reduceEq,Int.reduceLT,if_true,if_false]
    generalize leapI y=L at *
    have l0:0≤L:=by omega
    have l1:L≤1:=by omega
    clear hlp h1 h2
    go_enter Tryz.func204,Tryz.ntmps204
    go_wp2_with (refine (HL _).out.mono ?_;rintro e w' ⟨rfl,rfl⟩)
    go_ret
    exact⟨ret_i64 (by omega),by first | exact Below.refl _ _ | exact below_new _ _⟩
set_option maxHeartbeats 4000000 in
theorem cDays_any (m y:Int) (w:World):Calls Tryz.prog 196 #[.int .i64 m,.int .i64 y] w fun e w'=>e=.returned (.int .i64 (daysI m y))∧Below w.heap.size w w':=by
  by_cases hm:m < 1∨12 < m
  · have e:daysI m y=0:=if_pos (by omega)
    rw [e]
    have HM:=fun W=>Lib.hid (cin_no m 1 12 W hm)
    clear e hm
    go_enter Tryz.func196,Tryz.ntmps196
    go_wp2_with fail
    refine ((HM _).out).mono ?_
    rintro e w' ⟨rfl,rfl⟩
    go_wp2_with fail
    go_ret
    exact⟨rfl,Below.refl _ _⟩
  have HM:=fun W=>Lib.hid (cin_yes m 1 12 W (by omega) (by omega))
  by_cases hy:y < 2000∨2099 < y
  · have e:daysI m y=0:=if_pos (by omega)
    rw [e]
    have HY:=fun W=>Lib.hid (cin_no y 2000 2099 W hy)
    clear e hm hy
    go_enter Tryz.func196,Tryz.ntmps196
    go_wp2_with fail
    refine ((HM _).out).mono ?_
    rintro e w' ⟨rfl,rfl⟩
    go_wp2_with fail
    refine ((HY _).out).mono ?_
    rintro e w' ⟨rfl,rfl⟩
    go_wp2_with fail
    go_ret
    exact⟨rfl,Below.refl _ _⟩
  have HY:=fun W=>Lib.hid (cin_yes y 2000 2099 W (by omega) (by omega))
  have hs:=ahead_succ (m:=m) (y:=y) (by omega) (by omega) (by omega) (by omega)
  have hd:=days_le m y
  have HA:=fun W=>Lib.hid (cahead_any m y W (by omega) (by omega) (by omega) (by omega))
  have HB:=fun W=>Lib.hid (cahead_any (m+1) y W (by omega) (by omega) (by omega) (by omega))
  have ha:0≤aheadI m y∧aheadI m y≤400:=by
    have:=leap_01 y
    unfold aheadI tableI
    rcases (by omega:m=1∨m=2∨m=3∨m=4∨m=5∨m=6∨m=7∨m=8∨m=9∨m=10∨m=11∨m=12) with rfl | rfl | rfl | rfl | rfl | rfl | rfl | rfl | rfl | rfl | rfl | rfl <;> simp <;> omega
  rw [hs] at HB
  have i1:1≤m:=by omega
  have i2:m≤12:=by omega
  clear hs hm hy
  generalize aheadI m y=a at *
  generalize daysI m y=d at *
  obtain⟨a0,a1⟩:=ha
  obtain⟨d0,d1⟩:=hd
  have z1:IntKind.i64.wrap (m+1)=m+1:=IntWalk.i64_in _ (by omega)
  have z2:IntKind.i64.wrap (a+d - a)=d:=by rw [show a+d - a=d by omega];exact IntWalk.i64_in _ (by omega)
  go_enter Tryz.func196,Tryz.ntmps196
  go_wp2_with fail
  refine ((HM _).out).mono ?_
  rintro e w' ⟨rfl,rfl⟩
  go_wp2_with fail
  refine ((HY _).out).mono ?_
  rintro e w' ⟨rfl,rfl⟩
  go_wp2_with fail
  refine ((HB _).out).mono ?_
  rintro e w1 ⟨rfl,hb1⟩
  go_wp2_with fail
  refine ((HA _).out).mono ?_
  rintro e w2 ⟨rfl,hb2⟩
  go_wp2_with fail
  go_ret
  exact⟨ret_i64 (by omega),bthen hb1 hb2⟩
set_option maxHeartbeats 4000000 in
theorem cmay_any (b:Bool) (h m s c:Int) (w:World):Calls Tryz.prog 174 #[clkV b h m s c] w fun e w'=>e=.returned (.bool (clkB (b,h,m,s,c)))∧Below w.heap.size w w':=by
  cases b with
  | false=>
    rcases (by omega:(h=0∧m=0∧s=0∧c=0)∨h≠0∨(h=0∧m≠0)∨(h=0∧m=0∧s≠0)∨(h=0∧m=0∧s=0∧c≠0)) with ⟨rfl,rfl,rfl,rfl⟩ | q | ⟨rfl,q⟩ | ⟨rfl,rfl,q⟩ | ⟨rfl,rfl,rfl,q⟩
    · rw [show clkB (false,0,0,0,0)=true from rfl]
      go_enter Tryz.func174,Tryz.ntmps174
      go_wp2
      go_ret
      exact⟨rfl,below_new _ _⟩
    all_goals
      rw [show clkB (false,_,_,_,_)=false from decide_eq_false (by simp only;omega)]
      go_enter Tryz.func174,Tryz.ntmps174
      go_wp2
      go_ret
      exact⟨rfl,below_new _ _⟩
  | true=>
    by_cases h1:h < 0∨23 < h
    · rw [show clkB (true,h,m,s,c)=false from decide_eq_false (by simp only;omega)]
      have H1:=fun W=>Lib.hid (cin_no h 0 23 W h1)
      clear h1
      go_enter Tryz.func174,Tryz.ntmps174
      go_wp2_with fail
      refine ((H1 _).out).mono ?_
      rintro e w' ⟨rfl,rfl⟩
      go_wp2_with fail
      go_ret
      exact⟨rfl,below_new _ _⟩
    have H1:=fun W=>Lib.hid (cin_yes h 0 23 W (by omega) (by omega))
    by_cases h2:m < 0∨59 < m
    · rw [show clkB (true,h,m,s,c)=false from decide_eq_false (by simp only;omega)]
      have H2:=fun W=>Lib.hid (cin_no m 0 59 W h2)
      clear h1 h2
      go_enter Tryz.func174,Tryz.ntmps174
      go_wp2_with fail
      refine ((H1 _).out).mono ?_
      rintro e w' ⟨rfl,rfl⟩
      go_wp2_with fail
      refine ((H2 _).out).mono ?_
      rintro e w' ⟨rfl,rfl⟩
      go_wp2_with fail
      go_ret
      exact⟨rfl,below_new _ _⟩
    have H2:=fun W=>Lib.hid (cin_yes m 0 59 W (by omega) (by omega))
    by_cases h3:s < 0∨59 < s
    · rw [show clkB (true,h,m,s,c)=false from decide_eq_false (by simp only;omega)]
      have H3:=fun W=>Lib.hid (cin_no s 0 59 W h3)
      clear h1 h2 h3
      go_enter Tryz.func174,Tryz.ntmps174
      go_wp2_with fail
      refine ((H1 _).out).mono ?_
      rintro e w' ⟨rfl,rfl⟩
      go_wp2_with fail
      refine ((H2 _).out).mono ?_
      rintro e w' ⟨rfl,rfl⟩
      go_wp2_with fail
      refine ((H3 _).out).mono ?_
      rintro e w' ⟨rfl,rfl⟩
      go_wp2_with fail
      go_ret
      exact⟨rfl,below_new _ _⟩
    have H3:=fun W=>Lib.hid (cin_yes s 0 59 W (by omega) (by omega))
    by_cases h4:c < 0∨99 < c
    · rw [show clkB (true,h,m,s,c)=false from decide_eq_false (by simp only;omega)]
      have H4:=fun W=>Lib.hid (cin_no c 0 99 W h4)
      clear h1 h2 h3 h4
      go_enter Tryz.func174,Tryz.ntmps174
      go_wp2_with fail
      refine ((H1 _).out).mono ?_
      rintro e w' ⟨rfl,rfl⟩
      go_wp2_with fail
      refine ((H2 _).out).mono ?_
      rintro e w' ⟨rfl,rfl⟩
      go_wp2_with fail
      refine ((H3 _).out).mono ?_
      rintro e w' ⟨rfl,rfl⟩
      go_wp2_with fail
      refine ((H4 _).out).mono ?_
      rintro e w' ⟨rfl,rfl⟩
      go_wp2_with fail
      go_ret
      exact⟨rfl,below_new _ _⟩
    · have H4:=fun W=>Lib.hid (cin_yes c 0 99 W (by omega) (by omega))
      rw [show clkB (true,h,m,s,c)=true from decide_eq_true (by simp only;omega)]
      clear h1 h2 h3 h4
      go_enter Tryz.func174,Tryz.ntmps174
      go_wp2_with fail
      refine ((H1 _).out).mono ?_
      rintro e w' ⟨rfl,rfl⟩
      go_wp2_with fail
      refine ((H2 _).out).mono ?_
      rintro e w' ⟨rfl,rfl⟩
      go_wp2_with fail
      refine ((H3 _).out).mono ?_
      rintro e w' ⟨rfl,rfl⟩
      go_wp2_with fail
      refine ((H4 _).out).mono ?_
      rintro e w' ⟨rfl,rfl⟩
      go_wp2_with fail
      go_ret
      exact⟨rfl,below_new _ _⟩
set_option maxHeartbeats 4000000 in
theorem cmayDate_any (b:Bool) (d m y:Int) (w:World):Calls Tryz.prog 175 #[datV b d m y] w fun e w'=>e=.returned (.bool (datB (b,d,m,y)))∧Below w.heap.size w w':=by
  cases b with
  | false=>
    rcases (by omega:(d=0∧m=0∧y=0)∨d≠0∨(d=0∧m≠0)∨(d=0∧m=0∧y≠0)) with ⟨rfl,rfl,rfl⟩ | q | ⟨rfl,q⟩ | ⟨rfl,rfl,q⟩
    · rw [show datB (false,0,0,0)=true from rfl]
      go_enter Tryz.func175,Tryz.ntmps175
      go_wp2
      go_ret
      exact⟨rfl,below_new _ _⟩
    all_goals
      rw [show datB (false,_,_,_)=false from decide_eq_false (by simp only;omega)]
      go_enter Tryz.func175,Tryz.ntmps175
      go_wp2
      go_ret
      exact⟨rfl,below_new _ _⟩
  | true=>
    have HD:=fun W=>Lib.hid (cDays_any m y W)
    have HS:Hid (∀ o,(w.alloc (.cells #[.bool true,.int .i64 d,.int .i64 m,.int .i64 y] 34)).cell? ⟨w.heap.size,o,none⟩=(#[Value.bool true,.int .i64 d,.int .i64 m,.int .i64 y]:Array Value)[o]?):=fun o=>World.cell?_alloc_at _ _ _ _ rfl
    have HB0:=Lib.hid (below_new w (.cells #[.bool true,.int .i64 d,.int .i64 m,.int .i64 y] 34))
    have HZ0:Hid (w.heap.size < (w.alloc (.cells #[.bool true,.int .i64 d,.int .i64 m,.int .i64 y] 34)).heap.size):=by show _ < _;simp
    have h1:∀ W,Hid (Calls Tryz.prog 195 #[.int .i64 d,.int .i64 1,.int .i64 (daysI m y)] W fun e w'=>e=.returned (.bool (datB (true,d,m,y)))∧W=w'):=fun W=>by
      by_cases h1:d < 1∨daysI m y < d
      · rw [show datB (true,d,m,y)=false from decide_eq_false (by simp only;omega)]
        exact cin_no d 1 (daysI m y) W h1
      · rw [show datB (true,d,m,y)=true from decide_eq_true (by simp only;omega)]
        exact cin_yes d 1 (daysI m y) W (by omega) (by omega)
    generalize daysI m y=D at *
    generalize datB (true,d,m,y)=X at *
    go_enter Tryz.func175,Tryz.ntmps175
    go_upto_region 3 with fail
    generalize hW0:w.alloc (.cells #[.bool true,.int .i64 d,.int .i64 m,.int .i64 y] 34)=W0 at *
    clear hW0
    have c1:=HS.out 1
    have c2:=HS.out 2
    have c3:=HS.out 3
    go_region_with (first | (go_at_call 196;refine (HD _).out.mono ?_;rintro r y1 ⟨rfl,hb1⟩;have z1:=((bcell hb1).1 w.heap.size 1 HZ0.out).trans (HS.out 1)) | (go_at_call 195;refine (h1 _).out.mono ?_;rintro r y3 ⟨rfl,rfl⟩))
    all_goals go_wp2_with fail
    all_goals go_ret
    all_goals exact⟨rfl,bthen HB0.out (Below.trans (bdrew (Below.refl _ _)) hb1)⟩
theorem ctwo_any (n:Int) (w:World) (h0:0≤n) (h9:n≤99):Calls Tryz.prog 238 #[.int .i64 n] w fun e w'=>e=.returned (.string (toB (twoL n)))∧Below w.heap.size w w':=by
  have kc:=run_conv2 (P:=Tryz.prog) 141 9 5 Tryz.underlying141 Tryz.underlying5 Tryz.underlying9
  go_enter Tryz.func238,Tryz.ntmps238
  go_wp2
  all_goals go_ret
  all_goals exact⟨rfl,below_new _ _⟩
end Go.Proofs.YtoabkoniegmkaaaGreat
