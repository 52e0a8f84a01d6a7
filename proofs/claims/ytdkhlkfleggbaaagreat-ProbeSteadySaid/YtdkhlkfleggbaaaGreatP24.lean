/- Layer 24: times and dates, the program's checks and what it puts. -/
import Derived.Test.YtdkhlkfleggbaaaGreatP09
import Derived.Deep.RegionHeld3
import Derived.Deep.QuietTactic
import Derived.BigQuiet
import Derived.Deep.RegionWith
import Derived.Deep.DeepCutAuto
import Derived.Deep.CutBlock
namespace Go.Proofs.YtdkhlkfleggbaaaGreat
set_option maxHeartbeats 4000000
set_option maxRecDepth 8000
open Lib (hid)
set_option linter.unusedVariables false
open Go.RowKit
abbrev ao6 (b:Bool) (h m s c:Int):Value:=.agg #[.bool b,.int .i64 h,.int .i64 m,.int .i64 s,.int .i64 c]
abbrev a7d (b:Bool) (d m y:Int):Value:=.agg #[.bool b,.int .i64 d,.int .i64 m,.int .i64 y]
theorem afn (n lo hi:Int) (w:World) (h1:lo≤n) (h2:n≤hi):Calls Tryz.prog 227 #[.int .i64 n,.int .i64 lo,.int .i64 hi] w fun e w'=>e=.returned (.bool true)∧w=w':=by
 go_enter Tryz.func227,Tryz.ntmps227
 go_wp2
 go_ret
 exact⟨rfl,rfl⟩
theorem ail (n lo hi:Int) (w:World) (h:n<lo∨hi<n):Calls Tryz.prog 227 #[.int .i64 n,.int .i64 lo,.int .i64 hi] w fun e w'=>e=.returned (.bool false)∧w=w':=by
 by_cases h1:n<lo
 ·clear h
  go_enter Tryz.func227,Tryz.ntmps227
  go_wp2
  go_ret
  exact⟨rfl,rfl⟩
 ·have h2:decide (n≤hi)=false:=decide_eq_false (by omega)
  clear h
  go_enter Tryz.func227,Tryz.ntmps227
  go_wp2
  go_ret
  exact⟨rfl,rfl⟩
theorem a51 (y:Int) (w:World) (h0:0≤y) (h9:y≤10000):Calls Tryz.prog 237 #[.int .i64 y] w fun e w'=>e=.returned (.int .i64 (ai4 y))∧w=w':=by
 by_cases h:y%4=0
 ·have e:ai4 y=1:=if_pos h
  rw[e]
  clear e
  have hb:(y%4==0)=true:=by rw[beq_iff_eq];exact h
  clear h
  go_enter Tryz.func237,Tryz.ntmps237
  go_wp2
  go_ret
  exact⟨rfl,rfl⟩
 ·have e:ai4 y=0:=if_neg h
  rw[e]
  clear e
  have hb:(y%4==0)=false:=by rw[beq_eq_false_iff_ne];exact h
  clear h
  go_enter Tryz.func237,Tryz.ntmps237
  go_wp2
  go_ret
  exact⟨rfl,rfl⟩
theorem anh (m y:Int) (w:World) (h1:1≤m) (h2:m≤13) (h3:2000≤y) (h4:y≤2099):Calls Tryz.prog 235 #[.int .i64 m,.int .i64 y] w fun e w'=>e=.returned (.int .i64 (ae9 m y))∧Below w.heap.size w w':=by
 have HL:=fun W=>hid (a51 y W (by omega) (by omega))
 have hlp:=asl y
 rcases(by omega:m=1∨m=2∨m=3∨m=4∨m=5∨m=6∨m=7∨m=8∨m=9∨m=10∨m=11∨m=12∨m=13)with rfl|rfl|rfl|rfl|rfl|rfl|rfl|rfl|rfl|rfl|rfl|rfl|rfl
 all_goals
  unfold ae9
  simp only[asz,Int.reduceEq,Int.reduceLT,if_true,if_false]
  generalize ai4 y=L at *
  have l0:0≤L:=by omega
  have l1:L≤1:=by omega
  clear hlp h1 h2
  go_enter Tryz.func235,Tryz.ntmps235
  go_wp2_with (refine(HL _).out.mono ?_;rintro e w' ⟨rfl,rfl⟩)
  go_ret
  exact⟨a4g (by omega),by first|exact Below.refl _ _|exact qa _ _⟩
theorem a64 (m y:Int) (w:World):Calls Tryz.prog 228 #[.int .i64 m,.int .i64 y] w fun e w'=>e=.returned (.int .i64 (ac1 m y))∧Below w.heap.size w w':=by
 by_cases hm:m<1∨12<m
 ·have e:ac1 m y=0:=if_pos (by omega)
  rw[e]
  have HM:=fun W=>hid (ail m 1 12 W hm)
  clear e hm
  go_enter Tryz.func228,Tryz.ntmps228
  go_wp2_with fail
  refine((HM _).out).mono ?_
  rintro e w' ⟨rfl,rfl⟩
  go_wp2_with fail
  go_ret
  exact⟨rfl,Below.refl _ _⟩
 have HM:=fun W=>hid (afn m 1 12 W (by omega) (by omega))
 by_cases hy:y<2000∨2099<y
 ·have e:ac1 m y=0:=if_pos (by omega)
  rw[e]
  have HY:=fun W=>hid (ail y 2000 2099 W hy)
  clear e hm hy
  go_enter Tryz.func228,Tryz.ntmps228
  go_wp2_with fail
  refine((HM _).out).mono ?_
  rintro e w' ⟨rfl,rfl⟩
  go_wp2_with fail
  refine((HY _).out).mono ?_
  rintro e w' ⟨rfl,rfl⟩
  go_wp2_with fail
  go_ret
  exact⟨rfl,Below.refl _ _⟩
 have HY:=fun W=>hid (afn y 2000 2099 W (by omega) (by omega))
 have hs:=a0n (m:=m) (y:=y) (by omega) (by omega) (by omega) (by omega)
 have hd:=bd0 m y
 have HA:=fun W=>hid (anh m y W (by omega) (by omega) (by omega) (by omega))
 have HB:=fun W=>hid (anh (m+1) y W (by omega) (by omega) (by omega) (by omega))
 have ha:0≤ae9 m y∧ae9 m y≤400:=by
  have:=asl y
  unfold ae9 asz
  rcases(by omega:m=1∨m=2∨m=3∨m=4∨m=5∨m=6∨m=7∨m=8∨m=9∨m=10∨m=11∨m=12)with rfl|rfl|rfl|rfl|rfl|rfl|rfl|rfl|rfl|rfl|rfl|rfl<;>simp<;>omega
 rw[hs]at HB
 have i1:1≤m:=by omega
 have i2:m≤12:=by omega
 clear hs hm hy
 generalize ae9 m y=a at *
 generalize ac1 m y=d at *
 obtain⟨a0,a1⟩:=ha
 obtain⟨d0,d1⟩:=hd
 have z1:IntKind.i64.wrap (m+1)=m+1:=IntWalk.i64_in _ (by omega)
 have z2:IntKind.i64.wrap (a+d-a)=d:=by rw[show a+d-a=d by omega];exact IntWalk.i64_in _ (by omega)
 go_enter Tryz.func228,Tryz.ntmps228
 go_wp2_with fail
 refine((HM _).out).mono ?_
 rintro e w' ⟨rfl,rfl⟩
 go_wp2_with fail
 refine((HY _).out).mono ?_
 rintro e w' ⟨rfl,rfl⟩
 go_wp2_with fail
 refine((HB _).out).mono ?_
 rintro e w1 ⟨rfl,hb1⟩
 go_wp2_with fail
 refine((HA _).out).mono ?_
 rintro e w2 ⟨rfl,hb2⟩
 go_wp2_with fail
 go_ret
 exact⟨a4g (by omega),qb hb1 hb2⟩
theorem azh (b:Bool) (h m s c:Int) (w:World):Calls Tryz.prog 211 #[ao6 b h m s c] w fun e w'=>e=.returned (.bool (alr (b,h,m,s,c)))∧Below w.heap.size w w':=by
 cases b with
 | false=>
  rcases(by omega:(h=0∧m=0∧s=0∧c=0)∨h≠0 ∨(h=0∧m≠0) ∨(h=0∧m=0∧s≠0) ∨(h=0∧m=0∧s=0∧c≠0))with⟨rfl,rfl,rfl,rfl⟩|q|⟨rfl,q⟩|⟨rfl,rfl,q⟩|⟨rfl,rfl,rfl,q⟩
  ·rw[show alr (false,0,0,0,0)=true from rfl]
   go_enter Tryz.func211,Tryz.ntmps211
   go_wp2
   go_ret
   exact⟨rfl,qa _ _⟩
  all_goals
   rw[show alr (false,_,_,_,_)=false from decide_eq_false (by simp only;omega)]
   go_enter Tryz.func211,Tryz.ntmps211
   go_wp2
   go_ret
   exact⟨rfl,qa _ _⟩
 | true=>
  by_cases h1:h<0∨23<h
  ·rw[show alr (true,h,m,s,c)=false from decide_eq_false (by simp only;omega)]
   have H1:=fun W=>hid (ail h 0 23 W h1)
   clear h1
   go_enter Tryz.func211,Tryz.ntmps211
   go_wp2_with fail
   refine((H1 _).out).mono ?_
   rintro e w' ⟨rfl,rfl⟩
   go_wp2_with fail
   go_ret
   exact⟨rfl,qa _ _⟩
  have H1:=fun W=>hid (afn h 0 23 W (by omega) (by omega))
  by_cases h2:m<0∨59<m
  ·rw[show alr (true,h,m,s,c)=false from decide_eq_false (by simp only;omega)]
   have H2:=fun W=>hid (ail m 0 59 W h2)
   clear h1 h2
   go_enter Tryz.func211,Tryz.ntmps211
   go_wp2_with fail
   refine((H1 _).out).mono ?_
   rintro e w' ⟨rfl,rfl⟩
   go_wp2_with fail
   refine((H2 _).out).mono ?_
   rintro e w' ⟨rfl,rfl⟩
   go_wp2_with fail
   go_ret
   exact⟨rfl,qa _ _⟩
  have H2:=fun W=>hid (afn m 0 59 W (by omega) (by omega))
  by_cases h3:s<0∨59<s
  ·rw[show alr (true,h,m,s,c)=false from decide_eq_false (by simp only;omega)]
   have H3:=fun W=>hid (ail s 0 59 W h3)
   clear h1 h2 h3
   go_enter Tryz.func211,Tryz.ntmps211
   go_wp2_with fail
   refine((H1 _).out).mono ?_
   rintro e w' ⟨rfl,rfl⟩
   go_wp2_with fail
   refine((H2 _).out).mono ?_
   rintro e w' ⟨rfl,rfl⟩
   go_wp2_with fail
   refine((H3 _).out).mono ?_
   rintro e w' ⟨rfl,rfl⟩
   go_wp2_with fail
   go_ret
   exact⟨rfl,qa _ _⟩
  have H3:=fun W=>hid (afn s 0 59 W (by omega) (by omega))
  by_cases h4:c<0∨99<c
  ·rw[show alr (true,h,m,s,c)=false from decide_eq_false (by simp only;omega)]
   have H4:=fun W=>hid (ail c 0 99 W h4)
   clear h1 h2 h3 h4
   go_enter Tryz.func211,Tryz.ntmps211
   go_wp2_with fail
   refine((H1 _).out).mono ?_
   rintro e w' ⟨rfl,rfl⟩
   go_wp2_with fail
   refine((H2 _).out).mono ?_
   rintro e w' ⟨rfl,rfl⟩
   go_wp2_with fail
   refine((H3 _).out).mono ?_
   rintro e w' ⟨rfl,rfl⟩
   go_wp2_with fail
   refine((H4 _).out).mono ?_
   rintro e w' ⟨rfl,rfl⟩
   go_wp2_with fail
   go_ret
   exact⟨rfl,qa _ _⟩
  ·have H4:=fun W=>hid (afn c 0 99 W (by omega) (by omega))
   rw[show alr (true,h,m,s,c)=true from decide_eq_true (by simp only;omega)]
   clear h1 h2 h3 h4
   go_enter Tryz.func211,Tryz.ntmps211
   go_wp2_with fail
   refine((H1 _).out).mono ?_
   rintro e w' ⟨rfl,rfl⟩
   go_wp2_with fail
   refine((H2 _).out).mono ?_
   rintro e w' ⟨rfl,rfl⟩
   go_wp2_with fail
   refine((H3 _).out).mono ?_
   rintro e w' ⟨rfl,rfl⟩
   go_wp2_with fail
   refine((H4 _).out).mono ?_
   rintro e w' ⟨rfl,rfl⟩
   go_wp2_with fail
   go_ret
   exact⟨rfl,qa _ _⟩
theorem ath (b:Bool) (d m y:Int) (w:World):Calls Tryz.prog 212 #[a7d b d m y] w fun e w'=>e=.returned (.bool (apw (b,d,m,y)))∧Below w.heap.size w w':=by
 cases b with
 | false=>
  rcases(by omega:(d=0∧m=0∧y=0)∨d≠0 ∨(d=0∧m≠0) ∨(d=0∧m=0∧y≠0))with⟨rfl,rfl,rfl⟩|q|⟨rfl,q⟩|⟨rfl,rfl,q⟩
  ·rw[show apw (false,0,0,0)=true from rfl]
   go_enter Tryz.func212,Tryz.ntmps212
   go_wp2
   go_ret
   exact⟨rfl,qa _ _⟩
  all_goals
   rw[show apw (false,_,_,_)=false from decide_eq_false (by simp only;omega)]
   go_enter Tryz.func212,Tryz.ntmps212
   go_wp2
   go_ret
   exact⟨rfl,qa _ _⟩
 | true=>
  have HD:=fun W=>hid (a64 m y W)
  have HS:Hid (∀o,(w.alloc (.cells #[.bool true,.int .i64 d,.int .i64 m,.int .i64 y] 46)).cell? ⟨w.heap.size,o,none⟩=(#[Value.bool true,.int .i64 d,.int .i64 m,.int .i64 y]:Array Value)[o]?):=fun o=>World.cell?_alloc_at _ _ _ _ rfl
  have HB0:=hid (qa w (.cells #[.bool true,.int .i64 d,.int .i64 m,.int .i64 y] 46))
  have HZ0:Hid (w.heap.size<(w.alloc (.cells #[.bool true,.int .i64 d,.int .i64 m,.int .i64 y] 46)).heap.size):=by show _<_;simp
  have h1:∀W,Hid (Calls Tryz.prog 227 #[.int .i64 d,.int .i64 1,.int .i64 (ac1 m y)] W fun e w'=>e=.returned (.bool (apw (true,d,m,y)))∧W=w'):=fun W=>by
   by_cases h1:d<1∨ac1 m y<d
   ·rw[show apw (true,d,m,y)=false from decide_eq_false (by simp only;omega)]
    exact ail d 1 (ac1 m y) W h1
   ·rw[show apw (true,d,m,y)=true from decide_eq_true (by simp only;omega)]
    exact afn d 1 (ac1 m y) W (by omega) (by omega)
  generalize ac1 m y=D at *
  generalize apw (true,d,m,y)=X at *
  go_enter Tryz.func212,Tryz.ntmps212
  go_upto_region 3 with fail
  generalize hW0:w.alloc (.cells #[.bool true,.int .i64 d,.int .i64 m,.int .i64 y] 46)=W0 at *
  clear hW0
  have c1:=HS.out 1
  have c2:=HS.out 2
  have c3:=HS.out 3
  go_region_with (first|(go_at_call 228;refine(HD _).out.mono ?_;rintro r y1 ⟨rfl,hb1⟩;have z1:=((qv hb1).1 w.heap.size 1 HZ0.out).trans (HS.out 1))|(go_at_call 227;refine(h1 _).out.mono ?_;rintro r y3 ⟨rfl,rfl⟩))
  all_goals go_wp2_with fail
  all_goals go_ret
  all_goals exact⟨rfl,qb HB0.out (Below.trans (abi (Below.refl _ _)) hb1)⟩
end Go.Proofs.YtdkhlkfleggbaaaGreat
