/- Parts. -/
import Derived.Test.YtdkhlkfleggbaaaGreatU14
namespace Go.Proofs.YtdkhlkfleggbaaaGreat
set_option maxHeartbeats 4000000
set_option maxRecDepth 8000
open Lib (hid)
open Tryz
set_option linter.unusedVariables false
open Go.RowKit
abbrev apo (b:Bool) (h m s c:Int):Value:=.agg #[.bool b,.int .i64 h,.int .i64 m,.int .i64 s,.int .i64 c]
abbrev a9l (b:Bool) (d m y:Int):Value:=.agg #[.bool b,.int .i64 d,.int .i64 m,.int .i64 y]
theorem af2 (n lo hi:Int) (w:World) (h1:lo≤n) (h2:n≤hi):Calls prog 227 #[.int .i64 n,.int .i64 lo,.int .i64 hi] w fun e w'=>e=.returned (.bool true)∧w=w':=by
 go_enter func227,ntmps227;go_wp2;go_ret;exact⟨rfl,rfl⟩
theorem ajp (n lo hi:Int) (w:World) (h:n<lo∨hi<n):Calls prog 227 #[.int .i64 n,.int .i64 lo,.int .i64 hi] w fun e w'=>e=.returned (.bool false)∧w=w':=by
 by_cases h1:n<lo
 ·clear h;go_enter func227,ntmps227;go_wp2;go_ret;exact⟨rfl,rfl⟩
 ·have h2:decide (n≤hi)=false:=o3 om;clear h;go_enter func227,ntmps227;go_wp2;go_ret;exact⟨rfl,rfl⟩
theorem a9d (y:Int) (w:World) (h0:0≤y) (h9:y≤10000):Calls prog 237 #[.int .i64 y] w fun e w'=>e=.returned (.int .i64 (ak2 y))∧w=w':=by
 by_cases h:y%4=0
 ·have e:ak2 y=1:=if_pos h;rw[e];clear e;have hb:(y%4==0)=true:=by rw[b1o];exact h
  clear h;go_enter func237,ntmps237;go_wp2;go_ret;exact⟨rfl,rfl⟩
 ·have e:ak2 y=0:=if_neg h;rw[e];clear e;have hb:(y%4==0)=false:=by rw[l6];exact h
  clear h;go_enter func237,ntmps237;go_wp2;go_ret;exact⟨rfl,rfl⟩
theorem apn (m y:Int) (w:World) (h1:1≤m) (h2:m≤13) (h3:2000≤y) (h4:y≤2099):Calls prog 235 #[.int .i64 m,.int .i64 y] w fun e w'=>e=.returned (.int .i64 (afx m y))∧Below w.1.size w w':=by
 have HL:=fun W=>hid (a9d y W om om)
 have hlp:=avv y;rcases(by omega:m=1∨m=2∨m=3∨m=4∨m=5∨m=6∨m=7∨m=8∨m=9∨m=10∨m=11∨m=12∨m=13)with rfl|rfl|rfl|rfl|rfl|rfl|rfl|rfl|rfl|rfl|rfl|rfl|rfl
 all_goals
  unfold afx;simp only[axg,Int.reduceEq,Int.reduceLT,if_true,b4z];generalize ak2 y=L at *;have l0:0≤L:=by omega
  have l1:L≤1:=by omega
  clear hlp h1 h2;go_enter func235,ntmps235;go_wp2_with (refine(HL _).out.mono ?_;rintro e w' ⟨rfl,rfl⟩);go_ret;exact⟨a78 om,by first|exact n6 _ _|exact qa _ _⟩
theorem a9b (m y:Int) (w:World):Calls prog 228 #[.int .i64 m,.int .i64 y] w fun e w'=>e=.returned (.int .i64 (ady m y))∧Below w.1.size w w':=by
 by_cases hm:m<1∨12<m
 ·have e:ady m y=0:=if_pos om;rw[e];have HM:=fun W=>hid (ajp m 1 12 W hm)
  clear e hm;go_enter func228,ntmps228;go_wp2_with fail;refine((HM _).out).mono ?_;rintro e w' ⟨rfl,rfl⟩;go_wp2_with fail;go_ret;exact⟨rfl,n6 _ _⟩
 have HM:=fun W=>hid (af2 m 1 12 W om om)
 by_cases hy:y<2000∨2099<y
 ·have e:ady m y=0:=if_pos om;rw[e];have HY:=fun W=>hid (ajp y 2000 2099 W hy)
  clear e hm hy;go_enter func228,ntmps228;go_wp2_with fail;refine((HM _).out).mono ?_;rintro e w' ⟨rfl,rfl⟩;go_wp2_with fail;refine((HY _).out).mono ?_;rintro e w' ⟨rfl,rfl⟩;go_wp2_with fail;go_ret;exact⟨rfl,n6 _ _⟩
 have HY:=fun W=>hid (af2 y 2000 2099 W om om)
 have hs:=a3m (m:=m) (y:=y) om om om om;have hd:=bht m y;have HA:=fun W=>hid (apn m y W om om om om)
 have HB:=fun W=>hid (apn (m+1) y W om om om om)
 have ha:0≤afx m y∧afx m y≤400:=by
  have:=avv y;unfold afx axg;rcases(by omega:m=1∨m=2∨m=3∨m=4∨m=5∨m=6∨m=7∨m=8∨m=9∨m=10∨m=11∨m=12)with rfl|rfl|rfl|rfl|rfl|rfl|rfl|rfl|rfl|rfl|rfl|rfl<;>simp<;>omega
 rw[hs]at HB;have i1:1≤m:=by omega
 have i2:m≤12:=by omega
 clear hs hm hy;generalize afx m y=a at *;generalize ady m y=d at *;obtain⟨a0,a1⟩:=ha;obtain⟨d0,d1⟩:=hd;have z1:IntKind.i64.wrap (m+1)=m+1:=b00 _ om;have z2:IntKind.i64.wrap (a+d-a)=d:=by rw[show a+d-a=d by omega];exact b00 _ om
 go_enter func228,ntmps228;go_wp2_with fail;refine((HM _).out).mono ?_;rintro e w' ⟨rfl,rfl⟩;go_wp2_with fail;refine((HY _).out).mono ?_;rintro e w' ⟨rfl,rfl⟩;go_wp2_with fail;refine((HB _).out).mono ?_;rintro e w1 ⟨rfl,hb1⟩;go_wp2_with fail;refine((HA _).out).mono ?_;rintro e w2 ⟨rfl,hb2⟩;go_wp2_with fail;go_ret;exact⟨a78 om,qb hb1 hb2⟩
theorem ayt (b:Bool) (h m s c:Int) (w:World):Calls prog 211 #[apo b h m s c] w fun e w'=>e=.returned (.bool (ans (b,h,m,s,c)))∧Below w.1.size w w':=by
 cases b with
 | false=>
  rcases(by omega:(h=0∧m=0∧s=0∧c=0)∨h≠0 ∨(h=0∧m≠0) ∨(h=0∧m=0∧s≠0) ∨(h=0∧m=0∧s=0∧c≠0))with⟨rfl,rfl,rfl,rfl⟩|q|⟨rfl,q⟩|⟨rfl,rfl,q⟩|⟨rfl,rfl,rfl,q⟩
  ·rw[show ans (false,0,0,0,0)=true from rfl];go_enter func211,ntmps211;go_wp2;go_ret;exact⟨rfl,qa _ _⟩
  all_goals
   rw[show ans (false,_,_,_,_)=false from o3 (by simp only;omega)];go_enter func211,ntmps211;go_wp2;go_ret;exact⟨rfl,qa _ _⟩
 | true=>
  by_cases h1:h<0∨23<h
  ·rw[show ans (true,h,m,s,c)=false from o3 (by simp only;omega)];have H1:=fun W=>hid (ajp h 0 23 W h1)
   clear h1;go_enter func211,ntmps211;go_wp2_with fail;refine((H1 _).out).mono ?_;rintro e w' ⟨rfl,rfl⟩;go_wp2_with fail;go_ret;exact⟨rfl,qa _ _⟩
  have H1:=fun W=>hid (af2 h 0 23 W om om)
  by_cases h2:m<0∨59<m
  ·rw[show ans (true,h,m,s,c)=false from o3 (by simp only;omega)];have H2:=fun W=>hid (ajp m 0 59 W h2)
   clear h1 h2;go_enter func211,ntmps211;go_wp2_with fail;refine((H1 _).out).mono ?_;rintro e w' ⟨rfl,rfl⟩;go_wp2_with fail;refine((H2 _).out).mono ?_;rintro e w' ⟨rfl,rfl⟩;go_wp2_with fail;go_ret;exact⟨rfl,qa _ _⟩
  have H2:=fun W=>hid (af2 m 0 59 W om om)
  by_cases h3:s<0∨59<s
  ·rw[show ans (true,h,m,s,c)=false from o3 (by simp only;omega)];have H3:=fun W=>hid (ajp s 0 59 W h3)
   clear h1 h2 h3;go_enter func211,ntmps211;go_wp2_with fail;refine((H1 _).out).mono ?_;rintro e w' ⟨rfl,rfl⟩;go_wp2_with fail;refine((H2 _).out).mono ?_;rintro e w' ⟨rfl,rfl⟩;go_wp2_with fail;refine((H3 _).out).mono ?_;rintro e w' ⟨rfl,rfl⟩;go_wp2_with fail;go_ret;exact⟨rfl,qa _ _⟩
  have H3:=fun W=>hid (af2 s 0 59 W om om)
  by_cases h4:c<0∨99<c
  ·rw[show ans (true,h,m,s,c)=false from o3 (by simp only;omega)];have H4:=fun W=>hid (ajp c 0 99 W h4)
   clear h1 h2 h3 h4;go_enter func211,ntmps211;go_wp2_with fail;refine((H1 _).out).mono ?_;rintro e w' ⟨rfl,rfl⟩;go_wp2_with fail;refine((H2 _).out).mono ?_;rintro e w' ⟨rfl,rfl⟩;go_wp2_with fail;refine((H3 _).out).mono ?_;rintro e w' ⟨rfl,rfl⟩;go_wp2_with fail;refine((H4 _).out).mono ?_;rintro e w' ⟨rfl,rfl⟩;go_wp2_with fail;go_ret;exact⟨rfl,qa _ _⟩
  ·have H4:=fun W=>hid (af2 c 0 99 W om om)
   rw[show ans (true,h,m,s,c)=true from p9 (by simp only;omega)];clear h1 h2 h3 h4;go_enter func211,ntmps211;go_wp2_with fail;refine((H1 _).out).mono ?_;rintro e w' ⟨rfl,rfl⟩;go_wp2_with fail;refine((H2 _).out).mono ?_;rintro e w' ⟨rfl,rfl⟩;go_wp2_with fail;refine((H3 _).out).mono ?_;rintro e w' ⟨rfl,rfl⟩;go_wp2_with fail;refine((H4 _).out).mono ?_;rintro e w' ⟨rfl,rfl⟩;go_wp2_with fail;go_ret;exact⟨rfl,qa _ _⟩
theorem au4 (b:Bool) (d m y:Int) (w:World):Calls prog 212 #[a9l b d m y] w fun e w'=>e=.returned (.bool (ar5 (b,d,m,y)))∧Below w.1.size w w':=by
 cases b with
 | false=>
  rcases(by omega:(d=0∧m=0∧y=0)∨d≠0 ∨(d=0∧m≠0) ∨(d=0∧m=0∧y≠0))with⟨rfl,rfl,rfl⟩|q|⟨rfl,q⟩|⟨rfl,rfl,q⟩
  ·rw[show ar5 (false,0,0,0)=true from rfl];go_enter func212,ntmps212;go_wp2;go_ret;exact⟨rfl,qa _ _⟩
  all_goals
   rw[show ar5 (false,_,_,_)=false from o3 (by simp only;omega)];go_enter func212,ntmps212;go_wp2;go_ret;exact⟨rfl,qa _ _⟩
 | true=>
  have HD:=fun W=>hid (a9b m y W)
  have HS:Hid (∀o,(w.alloc (.cells #[.bool true,.int .i64 d,.int .i64 m,.int .i64 y] 46)).cell? ⟨w.1.size,o,none⟩=(#[Value.bool true,.int .i64 d,.int .i64 m,.int .i64 y]:Array Value)[o]?):=fun o=>b8 _ _ _ _ rfl
  have HB0:=hid (qa w (.cells #[.bool true,.int .i64 d,.int .i64 m,.int .i64 y] 46));have HZ0:Hid (w.1.size<(w.alloc (.cells #[.bool true,.int .i64 d,.int .i64 m,.int .i64 y] 46)).1.size):=by show _<_;simp
  have h1:∀W,Hid (Calls prog 227 #[.int .i64 d,.int .i64 1,.int .i64 (ady m y)] W fun e w'=>e=.returned (.bool (ar5 (true,d,m,y)))∧W=w'):=fun W=>by
   by_cases h1:d<1∨ady m y<d
   ·rw[show ar5 (true,d,m,y)=false from o3 (by simp only;omega)];exact ajp d 1 (ady m y) W h1
   ·rw[show ar5 (true,d,m,y)=true from p9 (by simp only;omega)];exact af2 d 1 (ady m y) W om om
  generalize ady m y=D at *;generalize ar5 (true,d,m,y)=X at *;go_enter func212,ntmps212;go_upto_region 3 with fail;generalize hW0:w.alloc (.cells #[.bool true,.int .i64 d,.int .i64 m,.int .i64 y] 46)=W0 at *;clear hW0;have c1:=HS.out 1;have c2:=HS.out 2;have c3:=HS.out 3
  go_region_with (first|(go_at_call 228;refine(HD _).out.mono ?_;rintro r y1 ⟨rfl,hb1⟩;have z1:=((qy hb1).1 w.1.size 1 HZ0.out).trans (HS.out 1))|(go_at_call 227;refine(h1 _).out.mono ?_;rintro r y3 ⟨rfl,rfl⟩))
  all_goals go_wp2_with fail
  all_goals go_ret
  all_goals exact⟨rfl,qb HB0.out (b2k (aca (n6 _ _)) hb1)⟩
set_option linter.unusedSimpArgs false
abbrev kf (cb:Bool) (ch:Int) (cm:Int) (cs:Int) (cc:Int) (lb:Bool) (ln:Int) (ob:Bool) (on:Int) (q:Int) (sb:Bool) (sn:Int) (hb:Bool) (hn:Int) (ab:Bool) (an:Int) (gb:Bool) (gn:Int) (eb:Bool) (en:Int) (tb:Bool) (tn:Int):Array Value:=#[.bool cb,.int .i64 ch,.int .i64 cm,.int .i64 cs,.int .i64 cc,.bool lb,.int .i64 ln,.bool ob,.int .i64 on,.int .i64 q,.bool sb,.int .i64 sn,.bool hb,.int .i64 hn,.bool ab,.int .i64 an,.bool gb,.int .i64 gn,.bool eb,.int .i64 en,.bool tb,.int .i64 tn]
abbrev bh1 (cb:Bool) (ch:Int) (cm:Int) (cs:Int) (cc:Int) (lb:Bool) (ln:Int) (ob:Bool) (on:Int) (q:Int) (sb:Bool) (sn:Int) (hb:Bool) (hn:Int) (ab:Bool) (an:Int) (gb:Bool) (gn:Int) (eb:Bool) (en:Int) (tb:Bool) (tn:Int):Value:=.agg (kf cb ch cm cs cc lb ln ob on q sb sn hb hn ab an gb gn eb en tb tn)
theorem azv (w:World):Calls prog 140 #[] w fun e w'=>e=.returned (j7 1 2 0 0 99)∧Below w.1.size w w':=by
 go_enter func140,ntmps140;go_wp2;refine b9 (v:=j7 1 2 0 0 99) (by simp[results,results140,go_sem]) rfl ⟨rfl,qa _ _⟩
theorem azu (w:World):Calls prog 141 #[] w fun e w'=>e=.returned (j7 1 3 2 0 99999)∧Below w.1.size w w':=by
 go_enter func141,ntmps141;go_wp2;refine b9 (v:=j7 1 3 2 0 99999) (by simp[results,results141,go_sem]) rfl ⟨rfl,qa _ _⟩
theorem a4t (w:World):Calls prog 142 #[] w fun e w'=>e=.returned (j7 1 6 1 (-9999999) 9999999)∧Below w.1.size w w':=by
 go_enter func142,ntmps142;go_wp2;refine b9 (v:=j7 1 6 1 (-9999999) 9999999) (by simp[results,results142,go_sem]) rfl ⟨rfl,qa _ _⟩
theorem avq (w:World):Calls prog 144 #[] w fun e w'=>e=.returned (j7 1 4 1 (-99999) 99999)∧Below w.1.size w w':=by
 go_enter func144,ntmps144;go_wp2;refine b9 (v:=j7 1 4 1 (-99999) 99999) (by simp[results,results144,go_sem]) rfl ⟨rfl,qa _ _⟩
theorem a4s (w:World):Calls prog 145 #[] w fun e w'=>e=.returned (j7 1 4 1 0 99999)∧Below w.1.size w w':=by
 go_enter func145,ntmps145;go_wp2;refine b9 (v:=j7 1 4 1 0 99999) (by simp[results,results145,go_sem]) rfl ⟨rfl,qa _ _⟩
theorem a9y (w:World):Calls prog 146 #[] w fun e w'=>e=.returned (j7 1 4 0 0 1023)∧Below w.1.size w w':=by
 go_enter func146,ntmps146;go_wp2;refine b9 (v:=j7 1 4 0 0 1023) (by simp[results,results146,go_sem]) rfl ⟨rfl,qa _ _⟩
