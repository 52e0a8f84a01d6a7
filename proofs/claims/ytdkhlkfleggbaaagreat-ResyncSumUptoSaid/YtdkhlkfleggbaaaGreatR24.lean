/- Layer 24: times and dates, the program's checks and what it puts. -/
import Derived.Test.YtdkhlkfleggbaaaGreatR09
import Derived.Deep.RegionHeld3
import Derived.Deep.RegionWith
import Derived.Deep.CutBlock
namespace Go.Proofs.YtdkhlkfleggbaaaGreat
set_option maxHeartbeats 4000000
set_option maxRecDepth 8000
open Lib (hid)
open Tryz
set_option linter.unusedVariables false
open Go.RowKit
abbrev aoy (b:Bool) (h m s c:Int):Value:=.agg #[.bool b,.int .i64 h,.int .i64 m,.int .i64 s,.int .i64 c]
abbrev a8f (b:Bool) (d m y:Int):Value:=.agg #[.bool b,.int .i64 d,.int .i64 m,.int .i64 y]
theorem afh (n lo hi:Int) (w:World) (h1:lo≤n) (h2:n≤hi):Calls Tryz.prog 227 #[.int .i64 n,.int .i64 lo,.int .i64 hi] w fun e w'=>e=.returned (.bool true)∧w=w':=by
 go_enter func227,ntmps227;go_wp2;go_ret;exact⟨rfl,rfl⟩
theorem ai6 (n lo hi:Int) (w:World) (h:n<lo∨hi<n):Calls Tryz.prog 227 #[.int .i64 n,.int .i64 lo,.int .i64 hi] w fun e w'=>e=.returned (.bool false)∧w=w':=by
 by_cases h1:n<lo
 ·clear h;go_enter func227,ntmps227;go_wp2;go_ret;exact⟨rfl,rfl⟩
 ·have h2:decide (n≤hi)=false:=decide_eq_false om;clear h;go_enter func227,ntmps227;go_wp2;go_ret;exact⟨rfl,rfl⟩
theorem a77 (y:Int) (w:World) (h0:0≤y) (h9:y≤10000):Calls Tryz.prog 237 #[.int .i64 y] w fun e w'=>e=.returned (.int .i64 (akk y))∧w=w':=by
 by_cases h:y%4=0
 ·have e:akk y=1:=if_pos h;rw[e];clear e;have hb:(y%4==0)=true:=by rw[beq_iff_eq];exact h
  clear h;go_enter func237,ntmps237;go_wp2;go_ret;exact⟨rfl,rfl⟩
 ·have e:akk y=0:=if_neg h;rw[e];clear e;have hb:(y%4==0)=false:=by rw[beq_eq_false_iff_ne];exact h
  clear h;go_enter func237,ntmps237;go_wp2;go_ret;exact⟨rfl,rfl⟩
theorem aox (m y:Int) (w:World) (h1:1≤m) (h2:m≤13) (h3:2000≤y) (h4:y≤2099):Calls Tryz.prog 235 #[.int .i64 m,.int .i64 y] w fun e w'=>e=.returned (.int .i64 (afc m y))∧Below w.1.size w w':=by
 have HL:=fun W=>hid (a77 y W om om)
 have hlp:=au7 y;rcases(by omega:m=1∨m=2∨m=3∨m=4∨m=5∨m=6∨m=7∨m=8∨m=9∨m=10∨m=11∨m=12∨m=13)with rfl|rfl|rfl|rfl|rfl|rfl|rfl|rfl|rfl|rfl|rfl|rfl|rfl
 all_goals
  unfold afc;simp only[awo,Int.reduceEq,Int.reduceLT,if_true,if_false];generalize akk y=L at *;have l0:0≤L:=by omega
  have l1:L≤1:=by omega
  clear hlp h1 h2;go_enter func235,ntmps235;go_wp2_with (refine(HL _).out.mono ?_;rintro e w' ⟨rfl,rfl⟩);go_ret;exact⟨a62 om,by first|exact Below.refl _ _|exact qa _ _⟩
theorem a76 (m y:Int) (w:World):Calls Tryz.prog 228 #[.int .i64 m,.int .i64 y] w fun e w'=>e=.returned (.int .i64 (adm m y))∧Below w.1.size w w':=by
 by_cases hm:m<1∨12<m
 ·have e:adm m y=0:=if_pos om;rw[e];have HM:=fun W=>hid (ai6 m 1 12 W hm)
  clear e hm;go_enter func228,ntmps228;go_wp2_with fail;refine((HM _).out).mono ?_;rintro e w' ⟨rfl,rfl⟩;go_wp2_with fail;go_ret;exact⟨rfl,Below.refl _ _⟩
 have HM:=fun W=>hid (afh m 1 12 W om om)
 by_cases hy:y<2000∨2099<y
 ·have e:adm m y=0:=if_pos om;rw[e];have HY:=fun W=>hid (ai6 y 2000 2099 W hy)
  clear e hm hy;go_enter func228,ntmps228;go_wp2_with fail;refine((HM _).out).mono ?_;rintro e w' ⟨rfl,rfl⟩;go_wp2_with fail;refine((HY _).out).mono ?_;rintro e w' ⟨rfl,rfl⟩;go_wp2_with fail;go_ret;exact⟨rfl,Below.refl _ _⟩
 have HY:=fun W=>hid (afh y 2000 2099 W om om)
 have hs:=a2s (m:=m) (y:=y) om om om om;have hd:=bgg m y;have HA:=fun W=>hid (aox m y W om om om om)
 have HB:=fun W=>hid (aox (m+1) y W om om om om)
 have ha:0≤afc m y∧afc m y≤400:=by
  have:=au7 y;unfold afc awo;rcases(by omega:m=1∨m=2∨m=3∨m=4∨m=5∨m=6∨m=7∨m=8∨m=9∨m=10∨m=11∨m=12)with rfl|rfl|rfl|rfl|rfl|rfl|rfl|rfl|rfl|rfl|rfl|rfl<;>simp<;>omega
 rw[hs]at HB;have i1:1≤m:=by omega
 have i2:m≤12:=by omega
 clear hs hm hy;generalize afc m y=a at *;generalize adm m y=d at *;obtain⟨a0,a1⟩:=ha;obtain⟨d0,d1⟩:=hd;have z1:IntKind.i64.wrap (m+1)=m+1:=IntWalk.i64_in _ om;have z2:IntKind.i64.wrap (a+d-a)=d:=by rw[show a+d-a=d by omega];exact IntWalk.i64_in _ om
 go_enter func228,ntmps228;go_wp2_with fail;refine((HM _).out).mono ?_;rintro e w' ⟨rfl,rfl⟩;go_wp2_with fail;refine((HY _).out).mono ?_;rintro e w' ⟨rfl,rfl⟩;go_wp2_with fail;refine((HB _).out).mono ?_;rintro e w1 ⟨rfl,hb1⟩;go_wp2_with fail;refine((HA _).out).mono ?_;rintro e w2 ⟨rfl,hb2⟩;go_wp2_with fail;go_ret;exact⟨a62 om,qb hb1 hb2⟩
theorem ax2 (b:Bool) (h m s c:Int) (w:World):Calls Tryz.prog 211 #[aoy b h m s c] w fun e w'=>e=.returned (.bool (am4 (b,h,m,s,c)))∧Below w.1.size w w':=by
 cases b with
 | false=>
  rcases(by omega:(h=0∧m=0∧s=0∧c=0)∨h≠0 ∨(h=0∧m≠0) ∨(h=0∧m=0∧s≠0) ∨(h=0∧m=0∧s=0∧c≠0))with⟨rfl,rfl,rfl,rfl⟩|q|⟨rfl,q⟩|⟨rfl,rfl,q⟩|⟨rfl,rfl,rfl,q⟩
  ·rw[show am4 (false,0,0,0,0)=true from rfl];go_enter func211,ntmps211;go_wp2;go_ret;exact⟨rfl,qa _ _⟩
  all_goals
   rw[show am4 (false,_,_,_,_)=false from decide_eq_false (by simp only;omega)];go_enter func211,ntmps211;go_wp2;go_ret;exact⟨rfl,qa _ _⟩
 | true=>
  by_cases h1:h<0∨23<h
  ·rw[show am4 (true,h,m,s,c)=false from decide_eq_false (by simp only;omega)];have H1:=fun W=>hid (ai6 h 0 23 W h1)
   clear h1;go_enter func211,ntmps211;go_wp2_with fail;refine((H1 _).out).mono ?_;rintro e w' ⟨rfl,rfl⟩;go_wp2_with fail;go_ret;exact⟨rfl,qa _ _⟩
  have H1:=fun W=>hid (afh h 0 23 W om om)
  by_cases h2:m<0∨59<m
  ·rw[show am4 (true,h,m,s,c)=false from decide_eq_false (by simp only;omega)];have H2:=fun W=>hid (ai6 m 0 59 W h2)
   clear h1 h2;go_enter func211,ntmps211;go_wp2_with fail;refine((H1 _).out).mono ?_;rintro e w' ⟨rfl,rfl⟩;go_wp2_with fail;refine((H2 _).out).mono ?_;rintro e w' ⟨rfl,rfl⟩;go_wp2_with fail;go_ret;exact⟨rfl,qa _ _⟩
  have H2:=fun W=>hid (afh m 0 59 W om om)
  by_cases h3:s<0∨59<s
  ·rw[show am4 (true,h,m,s,c)=false from decide_eq_false (by simp only;omega)];have H3:=fun W=>hid (ai6 s 0 59 W h3)
   clear h1 h2 h3;go_enter func211,ntmps211;go_wp2_with fail;refine((H1 _).out).mono ?_;rintro e w' ⟨rfl,rfl⟩;go_wp2_with fail;refine((H2 _).out).mono ?_;rintro e w' ⟨rfl,rfl⟩;go_wp2_with fail;refine((H3 _).out).mono ?_;rintro e w' ⟨rfl,rfl⟩;go_wp2_with fail;go_ret;exact⟨rfl,qa _ _⟩
  have H3:=fun W=>hid (afh s 0 59 W om om)
  by_cases h4:c<0∨99<c
  ·rw[show am4 (true,h,m,s,c)=false from decide_eq_false (by simp only;omega)];have H4:=fun W=>hid (ai6 c 0 99 W h4)
   clear h1 h2 h3 h4;go_enter func211,ntmps211;go_wp2_with fail;refine((H1 _).out).mono ?_;rintro e w' ⟨rfl,rfl⟩;go_wp2_with fail;refine((H2 _).out).mono ?_;rintro e w' ⟨rfl,rfl⟩;go_wp2_with fail;refine((H3 _).out).mono ?_;rintro e w' ⟨rfl,rfl⟩;go_wp2_with fail;refine((H4 _).out).mono ?_;rintro e w' ⟨rfl,rfl⟩;go_wp2_with fail;go_ret;exact⟨rfl,qa _ _⟩
  ·have H4:=fun W=>hid (afh c 0 99 W om om)
   rw[show am4 (true,h,m,s,c)=true from decide_eq_true (by simp only;omega)];clear h1 h2 h3 h4;go_enter func211,ntmps211;go_wp2_with fail;refine((H1 _).out).mono ?_;rintro e w' ⟨rfl,rfl⟩;go_wp2_with fail;refine((H2 _).out).mono ?_;rintro e w' ⟨rfl,rfl⟩;go_wp2_with fail;refine((H3 _).out).mono ?_;rintro e w' ⟨rfl,rfl⟩;go_wp2_with fail;refine((H4 _).out).mono ?_;rintro e w' ⟨rfl,rfl⟩;go_wp2_with fail;go_ret;exact⟨rfl,qa _ _⟩
theorem auh (b:Bool) (d m y:Int) (w:World):Calls Tryz.prog 212 #[a8f b d m y] w fun e w'=>e=.returned (.bool (ari (b,d,m,y)))∧Below w.1.size w w':=by
 cases b with
 | false=>
  rcases(by omega:(d=0∧m=0∧y=0)∨d≠0 ∨(d=0∧m≠0) ∨(d=0∧m=0∧y≠0))with⟨rfl,rfl,rfl⟩|q|⟨rfl,q⟩|⟨rfl,rfl,q⟩
  ·rw[show ari (false,0,0,0)=true from rfl];go_enter func212,ntmps212;go_wp2;go_ret;exact⟨rfl,qa _ _⟩
  all_goals
   rw[show ari (false,_,_,_)=false from decide_eq_false (by simp only;omega)];go_enter func212,ntmps212;go_wp2;go_ret;exact⟨rfl,qa _ _⟩
 | true=>
  have HD:=fun W=>hid (a76 m y W)
  have HS:Hid (∀o,(w.alloc (.cells #[.bool true,.int .i64 d,.int .i64 m,.int .i64 y] 46)).cell? ⟨w.1.size,o,none⟩=(#[Value.bool true,.int .i64 d,.int .i64 m,.int .i64 y]:Array Value)[o]?):=fun o=>World.cell?_alloc_at _ _ _ _ rfl
  have HB0:=hid (qa w (.cells #[.bool true,.int .i64 d,.int .i64 m,.int .i64 y] 46));have HZ0:Hid (w.1.size<(w.alloc (.cells #[.bool true,.int .i64 d,.int .i64 m,.int .i64 y] 46)).1.size):=by show _<_;simp
  have h1:∀W,Hid (Calls Tryz.prog 227 #[.int .i64 d,.int .i64 1,.int .i64 (adm m y)] W fun e w'=>e=.returned (.bool (ari (true,d,m,y)))∧W=w'):=fun W=>by
   by_cases h1:d<1∨adm m y<d
   ·rw[show ari (true,d,m,y)=false from decide_eq_false (by simp only;omega)];exact ai6 d 1 (adm m y) W h1
   ·rw[show ari (true,d,m,y)=true from decide_eq_true (by simp only;omega)];exact afh d 1 (adm m y) W om om
  generalize adm m y=D at *;generalize ari (true,d,m,y)=X at *;go_enter func212,ntmps212;go_upto_region 3 with fail;generalize hW0:w.alloc (.cells #[.bool true,.int .i64 d,.int .i64 m,.int .i64 y] 46)=W0 at *;clear hW0;have c1:=HS.out 1;have c2:=HS.out 2;have c3:=HS.out 3
  go_region_with (first|(go_at_call 228;refine(HD _).out.mono ?_;rintro r y1 ⟨rfl,hb1⟩;have z1:=((qx hb1).1 w.1.size 1 HZ0.out).trans (HS.out 1))|(go_at_call 227;refine(h1 _).out.mono ?_;rintro r y3 ⟨rfl,rfl⟩))
  all_goals go_wp2_with fail
  all_goals go_ret
  all_goals exact⟨rfl,qb HB0.out (Below.trans (abx (Below.refl _ _)) hb1)⟩
end Go.Proofs.YtdkhlkfleggbaaaGreat
