/- Layer 24: times and dates, the reference's checks and what it puts. -/
import Derived.Test.YtoabkoniegmkaaaGreatG20
import Derived.Test.YtoabkoniegmkaaaGreatG01
namespace Go.Proofs.YtoabkoniegmkaaaGreat
set_option linter.unusedVariables false
open Go.RowKit
set_option linter.unusedSimpArgs false
set_option maxHeartbeats 4000000 in
theorem r24Days_any (m y:Int) (w:World):Calls Tryz.prog 182 #[.int .i64 m,.int .i64 y] w fun e w'=>e=.returned (.int .i64 (daysI m y))∧w=w':=by
  by_cases h:m < 1∨12 < m∨y < 2000∨2099 < y
  · rw [show daysI m y=0 from if_pos h]
    rcases (by omega:m < 1∨(1≤m∧12 < m)∨(1≤m∧m≤12∧y < 2000)∨(1≤m∧m≤12∧2000≤y∧2099 < y)) with q | ⟨q1,q⟩ | ⟨q1,q2,q⟩ | ⟨q1,q2,q3,q⟩
    all_goals
      clear h
      go_enter Tryz.func182,Tryz.ntmps182
      go_wp2
      go_ret
      exact⟨rfl,rfl⟩
  · have hy0:2000≤y:=by omega
    have hy1:y≤2099:=by omega
    have hb:(y % 4==0)=true∧leapI y=1∨(y % 4==0)=false∧leapI y=0:=by
      unfold leapI
      by_cases q:y % 4=0
      · exact .inl ⟨by rw [beq_iff_eq];exact q,if_pos q⟩
      · exact .inr ⟨by rw [beq_eq_false_iff_ne];exact q,if_neg q⟩
    rcases (by omega:m=1∨m=2∨m=3∨m=4∨m=5∨m=6∨m=7∨m=8∨m=9∨m=10∨m=11∨m=12) with rfl | rfl | rfl | rfl | rfl | rfl | rfl | rfl | rfl | rfl | rfl | rfl
    all_goals
      unfold daysI
      rw [if_neg h]
      clear h
      simp only [Int.reduceEq,if_true,if_false,reduceIte,or_true,true_or,or_self,or_false,false_or]
      rcases hb with ⟨hb,e⟩ | ⟨hb,e⟩
      all_goals
        try rw [e]
        clear e
        go_enter Tryz.func182,Tryz.ntmps182
        go_wp2
        go_ret
        exact⟨rfl,rfl⟩
set_option maxHeartbeats 4000000 in
theorem r24May_any (b:Bool) (h m s c:Int) (w:World):Calls Tryz.prog 177 #[clkV b h m s c] w fun e w'=>e=.returned (.bool (clkB (b,h,m,s,c)))∧Below w.heap.size w w':=by
  cases b with
  | false=>
    rcases (by omega:(h=0∧m=0∧s=0∧c=0)∨h≠0∨(h=0∧m≠0)∨(h=0∧m=0∧s≠0)∨(h=0∧m=0∧s=0∧c≠0)) with ⟨rfl,rfl,rfl,rfl⟩ | q | ⟨rfl,q⟩ | ⟨rfl,rfl,q⟩ | ⟨rfl,rfl,rfl,q⟩
    · rw [show clkB (false,0,0,0,0)=true from rfl]
      go_enter Tryz.func177,Tryz.ntmps177
      go_wp2
      go_ret
      exact⟨rfl,below_new _ _⟩
    all_goals
      rw [show clkB (false,_,_,_,_)=false from decide_eq_false (by simp only;omega)]
      go_enter Tryz.func177,Tryz.ntmps177
      go_wp2
      go_ret
      exact⟨rfl,below_new _ _⟩
  | true=>
    by_cases q:0≤h∧h≤23∧0≤m∧m≤59∧0≤s∧s≤59∧0≤c∧c≤99
    · rw [show clkB (true,h,m,s,c)=true from decide_eq_true q]
      obtain⟨q1,q2,q3,q4,q5,q6,q7,q8⟩:=q
      go_enter Tryz.func177,Tryz.ntmps177
      go_wp2
      go_ret
      exact⟨by rfl,below_new _ _⟩
    · rw [show clkB (true,h,m,s,c)=false from decide_eq_false q]
      rcases (by omega:h < 0∨(0≤h∧23 < h)∨(0≤h∧h≤23∧m < 0)∨(0≤h∧h≤23∧0≤m∧59 < m)∨(0≤h∧h≤23∧0≤m∧m≤59∧s < 0)∨(0≤h∧h≤23∧0≤m∧m≤59∧0≤s∧59 < s)∨(0≤h∧h≤23∧0≤m∧m≤59∧0≤s∧s≤59∧c < 0)∨(0≤h∧h≤23∧0≤m∧m≤59∧0≤s∧s≤59∧0≤c∧99 < c)) with q | ⟨q1,q⟩ | ⟨q1,q2,q⟩ | ⟨q1,q2,q3,q⟩ | ⟨q1,q2,q3,q4,q⟩ | ⟨q1,q2,q3,q4,q5,q⟩ | ⟨q1,q2,q3,q4,q5,q6,q⟩ | ⟨q1,q2,q3,q4,q5,q6,q7,q⟩
      all_goals
        rename_i qq
        clear qq
        go_enter Tryz.func177,Tryz.ntmps177
        go_wp2
        go_ret
        first | exact⟨rfl,below_new _ _⟩ | exact⟨ret_bool (decide_eq_false (by omega)),below_new _ _⟩
set_option maxHeartbeats 4000000 in
theorem r24MayDate_any (b:Bool) (d m y:Int) (w:World):Calls Tryz.prog 148 #[datV b d m y] w fun e w'=>e=.returned (.bool (datB (b,d,m,y)))∧Below w.heap.size w w':=by
  cases b with
  | false=>
    rcases (by omega:(d=0∧m=0∧y=0)∨d≠0∨(d=0∧m≠0)∨(d=0∧m=0∧y≠0)) with ⟨rfl,rfl,rfl⟩ | q | ⟨rfl,q⟩ | ⟨rfl,rfl,q⟩
    · rw [show datB (false,0,0,0)=true from rfl]
      go_enter Tryz.func148,Tryz.ntmps148
      go_wp2
      go_ret
      exact⟨rfl,below_new _ _⟩
    all_goals
      rw [show datB (false,_,_,_)=false from decide_eq_false (by simp only;omega)]
      go_enter Tryz.func148,Tryz.ntmps148
      go_wp2
      go_ret
      exact⟨rfl,below_new _ _⟩
  | true=>
    have HD:=fun W=>Lib.hid (r24Days_any m y W)
    rcases (by omega:d < 1∨(1≤d∧daysI m y < d)∨(1≤d∧d≤daysI m y)) with q | ⟨q1,q⟩ | ⟨q1,q⟩
    · rw [show datB (true,d,m,y)=false from decide_eq_false (by simp only;omega)]
      generalize daysI m y=D at *
      have i1:decide (1≤d)=false:=decide_eq_false (by omega)
      go_enter Tryz.func148,Tryz.ntmps148
      go_wp2_with fail
      go_quiet ((go_at_call 182;exact Calls.quiet_of_same ((HD _).out.mono fun _ _ h=>⟨h.1,h.2.symm⟩)))
      go_wp2_with fail
      go_ret
      first | exact⟨by rfl,bdrewN (below_new _ _) _⟩ | exact⟨by rfl,below_new _ _⟩
    · rw [show datB (true,d,m,y)=false from decide_eq_false (by simp only;omega)]
      generalize daysI m y=D at *
      go_enter Tryz.func148,Tryz.ntmps148
      go_wp2_with fail
      go_quiet ((go_at_call 182;exact Calls.quiet_of_same ((HD _).out.mono fun _ _ h=>⟨h.1,h.2.symm⟩)))
      go_wp2_with fail
      go_ret
      first | exact⟨ret_bool (decide_eq_false (by omega)),bdrewN (below_new _ _) _⟩ | exact⟨by rfl,bdrewN (below_new _ _) _⟩
    · rw [show datB (true,d,m,y)=true from decide_eq_true (by simp only;omega)]
      generalize daysI m y=D at *
      go_enter Tryz.func148,Tryz.ntmps148
      go_wp2_with fail
      go_quiet ((go_at_call 182;exact Calls.quiet_of_same ((HD _).out.mono fun _ _ h=>⟨h.1,h.2.symm⟩)))
      go_wp2_with fail
      go_ret
      exact⟨by rfl,bdrewN (below_new _ _) _⟩
end Go.Proofs.YtoabkoniegmkaaaGreat
