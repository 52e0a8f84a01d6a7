/- Parts. -/
import Derived.Test.YtdkhlkfleggbaaaGreatQ10
import Derived.OwnWalk
import Derived.KernelRfl
import Derived.Deep.RegionWith
namespace Go.Proofs.YtdkhlkfleggbaaaGreat
set_option maxHeartbeats 2000000
set_option maxRecDepth 8000
open Lib (hid)
open Tryz
set_option linter.unusedVariables false
open Go.RowKit
def yw (lat:Bool):Nat:=if lat then 4 else 5
theorem ana (s d:ByteArray) (lat:Bool) (w:World) (h0:s.size=0) (h1:d.size=0) :
 Calls prog 207 #[.string s,.string d,.bool lat] w fun e w'=>e=.returned (.tuple #[jo false (0),.int .i64 0])∧Below w.1.size w w':=by
 obtain rfl:s=⟨#[]⟩:=ByteArray.ext (Array.eq_empty_of_size_eq_zero h0);obtain rfl:d=⟨#[]⟩:=ByteArray.ext (Array.eq_empty_of_size_eq_zero h1);have HK:=fun W'=>hid (abm lat W')
 generalize je lat=S at *;cases lat
 all_goals
  go_enter func207,ntmps207;go_wp2_with fail;refine bodyPost_ret (v:=.tuple #[jo false (0),.int .i64 0]) (by simp[results,results207,go_sem,World.cell?_alloc_at]) rfl ⟨rfl,qa w _⟩
theorem aoh (s d:ByteArray) (lat:Bool) (n:Int) (w:World) (h0:0<s.size) (HP:∀W',Hid (Calls prog 223 #[.string s,.int .i64 (yw lat:Int),.int .i64 (yw lat:Int),.int .i64 5] W' fun e w'=>e=.returned (.tuple #[.int .i64 n,.bool false])∧Below W'.1.size W' w')) :
 Calls prog 207 #[.string s,.string d,.bool lat] w fun e w'=>e=.returned (.tuple #[jo false (0),.int .i64 3])∧Below w.1.size w w':=by
 obtain⟨hne1,hne2⟩:=q9 h0;have HK:=fun W'=>hid (abm lat W')
 generalize je lat=S at *;cases lat
 all_goals
  go_enter func207,ntmps207;have q0:(w.alloc (.cells #[.bool false,.int .i64 0] 42)).cell? ⟨w.1.size,0,none⟩=some (.bool false):=by simp[World.cell?_alloc_at]
  have q1:(w.alloc (.cells #[.bool false,.int .i64 0] 42)).cell? ⟨w.1.size,1,none⟩=some (.int .i64 0):=by simp[World.cell?_alloc_at]
  go_wp2_with fail;refine((HK _).out).mono ?_;rintro e w' ⟨rfl,rfl⟩;go_wp2_with fail;refine((HP _).out).mono ?_;rintro e w2 ⟨rfl,hb2⟩;obtain⟨c2,f2⟩:=qv hb2;have hz:=hb2.size;simp at hz;have hz1:w.1.size<w2.1.size:=by omega
  have b2:=hid (qb (qa w _) hb2);replace q0:=(c2 w.1.size 0 sm).trans q0;replace q1:=(c2 w.1.size 1 sm).trans q1;go_wp2_with fail;obtain⟨p0,p1⟩:=zg w2 w.1.size (.bool false) (.int .i64 (0)) _ _ q0 q1;refine bodyPost_ret (v:=.tuple #[jo false (0),.int .i64 3]) (by simp[results,results207,go_sem,p0,p1]) rfl ⟨rfl,?_⟩;exact(Below.setCell (Below.setCell b2.out (p:=⟨w.1.size,0,none⟩) (Nat.le_refl _) _) (p:=⟨w.1.size,1,none⟩) (Nat.le_refl _) _)
theorem anb (s d:ByteArray) (lat:Bool) (n:Int) (w:World) (h0:s.size=0) (h1:0<d.size) (HP:∀W',Hid (Calls prog 223 #[.string s,.int .i64 (yw lat:Int),.int .i64 (yw lat:Int),.int .i64 5] W' fun e w'=>e=.returned (.tuple #[.int .i64 n,.bool false])∧Below W'.1.size W' w')) :
 Calls prog 207 #[.string s,.string d,.bool lat] w fun e w'=>e=.returned (.tuple #[jo false (0),.int .i64 3])∧Below w.1.size w w':=by
 obtain rfl:s=⟨#[]⟩:=ByteArray.ext (Array.eq_empty_of_size_eq_zero h0);obtain⟨hne1,hne2⟩:=q9 h1;have HK:=fun W'=>hid (abm lat W')
 generalize je lat=S at *;cases lat
 all_goals
  go_enter func207,ntmps207;have q0:(w.alloc (.cells #[.bool false,.int .i64 0] 42)).cell? ⟨w.1.size,0,none⟩=some (.bool false):=by simp[World.cell?_alloc_at]
  have q1:(w.alloc (.cells #[.bool false,.int .i64 0] 42)).cell? ⟨w.1.size,1,none⟩=some (.int .i64 0):=by simp[World.cell?_alloc_at]
  go_wp2_with fail;refine((HK _).out).mono ?_;rintro e w' ⟨rfl,rfl⟩;go_wp2_with fail;refine((HP _).out).mono ?_;rintro e w2 ⟨rfl,hb2⟩;obtain⟨c2,f2⟩:=qv hb2;have hz:=hb2.size;simp at hz;have hz1:w.1.size<w2.1.size:=by omega
  have b2:=hid (qb (qa w _) hb2);replace q0:=(c2 w.1.size 0 sm).trans q0;replace q1:=(c2 w.1.size 1 sm).trans q1;go_wp2_with fail;obtain⟨p0,p1⟩:=zg w2 w.1.size (.bool false) (.int .i64 (0)) _ _ q0 q1;refine bodyPost_ret (v:=.tuple #[jo false (0),.int .i64 3]) (by simp[results,results207,go_sem,p0,p1]) rfl ⟨rfl,?_⟩;exact(Below.setCell (Below.setCell b2.out (p:=⟨w.1.size,0,none⟩) (Nat.le_refl _) _) (p:=⟨w.1.size,1,none⟩) (Nat.le_refl _) _)
theorem aok (s d:ByteArray) (lat:Bool) (n:Int) (w:World) (h0:0<s.size) (HP:∀W',Hid (Calls prog 223 #[.string s,.int .i64 (yw lat:Int),.int .i64 (yw lat:Int),.int .i64 5] W' fun e w'=>e=.returned (.tuple #[.int .i64 n,.bool true])∧Below W'.1.size W' w')) (k1:(d.toList==((je lat).extract 0 1).toList)=false) (k2:(d.toList==((je lat).extract 1 2).toList)=false) (hn0:0≤n) (hn:n≤2000000000000000000) :
 Calls prog 207 #[.string s,.string d,.bool lat] w fun e w'=>e=.returned (.tuple #[jo false (0),.int .i64 3])∧Below w.1.size w w':=by
 obtain⟨hne1,hne2⟩:=q9 h0;have hS:(je lat).size=2:=by cases lat<;>rfl
 have HK:=fun W'=>hid (abm lat W')
 generalize je lat=S at *;cases lat
 all_goals
  go_enter func207,ntmps207;have q0:(w.alloc (.cells #[.bool false,.int .i64 0] 42)).cell? ⟨w.1.size,0,none⟩=some (.bool false):=by simp[World.cell?_alloc_at]
  have q1:(w.alloc (.cells #[.bool false,.int .i64 0] 42)).cell? ⟨w.1.size,1,none⟩=some (.int .i64 0):=by simp[World.cell?_alloc_at]
  go_wp2_with fail;refine((HK _).out).mono ?_;rintro e w' ⟨rfl,rfl⟩;go_wp2_with fail;refine((HP _).out).mono ?_;rintro e w2 ⟨rfl,hb2⟩;obtain⟨c2,f2⟩:=qv hb2;have hz:=hb2.size;simp at hz;have hz1:w.1.size<w2.1.size:=by omega
  have b2:=hid (qb (qa w _) hb2);replace q0:=(c2 w.1.size 0 sm).trans q0;replace q1:=(c2 w.1.size 1 sm).trans q1;go_wp2_with fail;obtain⟨p0,p1⟩:=zg w2 w.1.size (.bool false) (.int .i64 (0)) _ _ q0 q1;refine bodyPost_ret (v:=.tuple #[jo false (0),.int .i64 3]) (by simp[results,results207,go_sem,p0,p1]) rfl ⟨rfl,?_⟩;exact(Below.setCell (Below.setCell b2.out (p:=⟨w.1.size,0,none⟩) (Nat.le_refl _) _) (p:=⟨w.1.size,1,none⟩) (Nat.le_refl _) _)
theorem ark (s d:ByteArray) (lat:Bool) (n:Int) (w:World) (h0:0<s.size) (HP:∀W',Hid (Calls prog 223 #[.string s,.int .i64 (yw lat:Int),.int .i64 (yw lat:Int),.int .i64 5] W' fun e w'=>e=.returned (.tuple #[.int .i64 n,.bool true])∧Below W'.1.size W' w')) (k1:(d.toList==((je lat).extract 0 1).toList)=true) (k2:(d.toList==((je lat).extract 1 2).toList)=false) (hn0:0≤n) (hn:n≤2000000000000000000) (g:6000000≤n%10000000) :
 Calls prog 207 #[.string s,.string d,.bool lat] w fun e w'=>e=.returned (.tuple #[jo false (0),.int .i64 5])∧Below w.1.size w w':=by
 obtain⟨hne1,hne2⟩:=q9 h0;have hS:(je lat).size=2:=by cases lat<;>rfl
 have HK:=fun W'=>hid (abm lat W')
 generalize je lat=S at *;cases lat
 all_goals
  go_enter func207,ntmps207;have q0:(w.alloc (.cells #[.bool false,.int .i64 0] 42)).cell? ⟨w.1.size,0,none⟩=some (.bool false):=by simp[World.cell?_alloc_at]
  have q1:(w.alloc (.cells #[.bool false,.int .i64 0] 42)).cell? ⟨w.1.size,1,none⟩=some (.int .i64 0):=by simp[World.cell?_alloc_at]
  go_wp2_with fail;refine((HK _).out).mono ?_;rintro e w' ⟨rfl,rfl⟩;go_wp2_with fail;refine((HP _).out).mono ?_;rintro e w2 ⟨rfl,hb2⟩;obtain⟨c2,f2⟩:=qv hb2;have hz:=hb2.size;simp at hz;have hz1:w.1.size<w2.1.size:=by omega
  have b2:=hid (qb (qa w _) hb2);replace q0:=(c2 w.1.size 0 sm).trans q0;replace q1:=(c2 w.1.size 1 sm).trans q1;go_wp2_with fail;obtain⟨p0,p1⟩:=zg w2 w.1.size (.bool false) (.int .i64 (0)) _ _ q0 q1;refine bodyPost_ret (v:=.tuple #[jo false (0),.int .i64 5]) (by simp[results,results207,go_sem,p0,p1]) rfl ⟨rfl,?_⟩;exact(Below.setCell (Below.setCell b2.out (p:=⟨w.1.size,0,none⟩) (Nat.le_refl _) _) (p:=⟨w.1.size,1,none⟩) (Nat.le_refl _) _)
theorem arl (s d:ByteArray) (lat:Bool) (n:Int) (w:World) (h0:0<s.size) (HP:∀W',Hid (Calls prog 223 #[.string s,.int .i64 (yw lat:Int),.int .i64 (yw lat:Int),.int .i64 5] W' fun e w'=>e=.returned (.tuple #[.int .i64 n,.bool true])∧Below W'.1.size W' w')) (k1:(d.toList==((je lat).extract 0 1).toList)=false) (k2:(d.toList==((je lat).extract 1 2).toList)=true) (hn0:0≤n) (hn:n≤2000000000000000000) (g:6000000≤n%10000000) :
 Calls prog 207 #[.string s,.string d,.bool lat] w fun e w'=>e=.returned (.tuple #[jo false (0),.int .i64 5])∧Below w.1.size w w':=by
 obtain⟨hne1,hne2⟩:=q9 h0;have hS:(je lat).size=2:=by cases lat<;>rfl
 have HK:=fun W'=>hid (abm lat W')
 generalize je lat=S at *;cases lat
 all_goals
  go_enter func207,ntmps207;have q0:(w.alloc (.cells #[.bool false,.int .i64 0] 42)).cell? ⟨w.1.size,0,none⟩=some (.bool false):=by simp[World.cell?_alloc_at]
  have q1:(w.alloc (.cells #[.bool false,.int .i64 0] 42)).cell? ⟨w.1.size,1,none⟩=some (.int .i64 0):=by simp[World.cell?_alloc_at]
  go_wp2_with fail;refine((HK _).out).mono ?_;rintro e w' ⟨rfl,rfl⟩;go_wp2_with fail;refine((HP _).out).mono ?_;rintro e w2 ⟨rfl,hb2⟩;obtain⟨c2,f2⟩:=qv hb2;have hz:=hb2.size;simp at hz;have hz1:w.1.size<w2.1.size:=by omega
  have b2:=hid (qb (qa w _) hb2);replace q0:=(c2 w.1.size 0 sm).trans q0;replace q1:=(c2 w.1.size 1 sm).trans q1;go_wp2_with fail;obtain⟨p0,p1⟩:=zg w2 w.1.size (.bool false) (.int .i64 (0)) _ _ q0 q1;refine bodyPost_ret (v:=.tuple #[jo false (0),.int .i64 5]) (by simp[results,results207,go_sem,p0,p1]) rfl ⟨rfl,?_⟩;exact(Below.setCell (Below.setCell b2.out (p:=⟨w.1.size,0,none⟩) (Nat.le_refl _) _) (p:=⟨w.1.size,1,none⟩) (Nat.le_refl _) _)
theorem arm (s d:ByteArray) (lat:Bool) (n:Int) (w:World) (h0:0<s.size) (HP:∀W',Hid (Calls prog 223 #[.string s,.int .i64 (yw lat:Int),.int .i64 (yw lat:Int),.int .i64 5] W' fun e w'=>e=.returned (.tuple #[.int .i64 n,.bool true])∧Below W'.1.size W' w')) (k1:(d.toList==((je lat).extract 0 1).toList)=true) (k2:(d.toList==((je lat).extract 1 2).toList)=false) (hn0:0≤n) (hn:n≤2000000000000000000) (g:n%10000000<6000000) (g2:apl lat<n / 10000000*6000000+n%10000000) :
 Calls prog 207 #[.string s,.string d,.bool lat] w fun e w'=>e=.returned (.tuple #[jo false (0),.int .i64 5])∧Below w.1.size w w':=by
 obtain⟨hne1,hne2⟩:=q9 h0;have hS:(je lat).size=2:=by cases lat<;>rfl
 have HK:=fun W'=>hid (abm lat W')
 generalize je lat=S at *;cases lat
 all_goals
  have g2':=g2;unfold apl at g2';simp at g2';clear g2;go_enter func207,ntmps207;have q0:(w.alloc (.cells #[.bool false,.int .i64 0] 42)).cell? ⟨w.1.size,0,none⟩=some (.bool false):=by simp[World.cell?_alloc_at]
  have q1:(w.alloc (.cells #[.bool false,.int .i64 0] 42)).cell? ⟨w.1.size,1,none⟩=some (.int .i64 0):=by simp[World.cell?_alloc_at]
  go_wp2_with fail;refine((HK _).out).mono ?_;rintro e w' ⟨rfl,rfl⟩;go_wp2_with fail;refine((HP _).out).mono ?_;rintro e w2 ⟨rfl,hb2⟩;obtain⟨c2,f2⟩:=qv hb2;have hz:=hb2.size;simp at hz;have hz1:w.1.size<w2.1.size:=by omega
  have b2:=hid (qb (qa w _) hb2);replace q0:=(c2 w.1.size 0 sm).trans q0;replace q1:=(c2 w.1.size 1 sm).trans q1;go_wp2_with fail;obtain⟨p0,p1⟩:=zg w2 w.1.size (.bool false) (.int .i64 (0)) _ _ q0 q1;refine bodyPost_ret (v:=.tuple #[jo false (0),.int .i64 5]) (by simp[results,results207,go_sem,p0,p1]) rfl ⟨rfl,?_⟩;exact(Below.setCell (Below.setCell b2.out (p:=⟨w.1.size,0,none⟩) (Nat.le_refl _) _) (p:=⟨w.1.size,1,none⟩) (Nat.le_refl _) _)
theorem arn (s d:ByteArray) (lat:Bool) (n:Int) (w:World) (h0:0<s.size) (HP:∀W',Hid (Calls prog 223 #[.string s,.int .i64 (yw lat:Int),.int .i64 (yw lat:Int),.int .i64 5] W' fun e w'=>e=.returned (.tuple #[.int .i64 n,.bool true])∧Below W'.1.size W' w')) (k1:(d.toList==((je lat).extract 0 1).toList)=false) (k2:(d.toList==((je lat).extract 1 2).toList)=true) (hn0:0≤n) (hn:n≤2000000000000000000) (g:n%10000000<6000000) (g2:apl lat<n / 10000000*6000000+n%10000000) :
 Calls prog 207 #[.string s,.string d,.bool lat] w fun e w'=>e=.returned (.tuple #[jo false (0),.int .i64 5])∧Below w.1.size w w':=by
 obtain⟨hne1,hne2⟩:=q9 h0;have hS:(je lat).size=2:=by cases lat<;>rfl
 have HK:=fun W'=>hid (abm lat W')
 generalize je lat=S at *;cases lat
 all_goals
  have g2':=g2;unfold apl at g2';simp at g2';clear g2;go_enter func207,ntmps207;have q0:(w.alloc (.cells #[.bool false,.int .i64 0] 42)).cell? ⟨w.1.size,0,none⟩=some (.bool false):=by simp[World.cell?_alloc_at]
  have q1:(w.alloc (.cells #[.bool false,.int .i64 0] 42)).cell? ⟨w.1.size,1,none⟩=some (.int .i64 0):=by simp[World.cell?_alloc_at]
  go_wp2_with fail;refine((HK _).out).mono ?_;rintro e w' ⟨rfl,rfl⟩;go_wp2_with fail;refine((HP _).out).mono ?_;rintro e w2 ⟨rfl,hb2⟩;obtain⟨c2,f2⟩:=qv hb2;have hz:=hb2.size;simp at hz;have hz1:w.1.size<w2.1.size:=by omega
  have b2:=hid (qb (qa w _) hb2);replace q0:=(c2 w.1.size 0 sm).trans q0;replace q1:=(c2 w.1.size 1 sm).trans q1;go_wp2_with fail;obtain⟨p0,p1⟩:=zg w2 w.1.size (.bool false) (.int .i64 (0)) _ _ q0 q1;refine bodyPost_ret (v:=.tuple #[jo false (0),.int .i64 5]) (by simp[results,results207,go_sem,p0,p1]) rfl ⟨rfl,?_⟩;exact(Below.setCell (Below.setCell b2.out (p:=⟨w.1.size,0,none⟩) (Nat.le_refl _) _) (p:=⟨w.1.size,1,none⟩) (Nat.le_refl _) _)
theorem aoi (s d:ByteArray) (lat:Bool) (n:Int) (w:World) (h0:0<s.size) (HP:∀W',Hid (Calls prog 223 #[.string s,.int .i64 (yw lat:Int),.int .i64 (yw lat:Int),.int .i64 5] W' fun e w'=>e=.returned (.tuple #[.int .i64 n,.bool true])∧Below W'.1.size W' w')) (k1:(d.toList==((je lat).extract 0 1).toList)=true) (k2:(d.toList==((je lat).extract 1 2).toList)=false) (hn0:0≤n) (hn:n≤2000000000000000000) (g:n%10000000<6000000) (g2:n / 10000000*6000000+n%10000000≤apl lat) :
 Calls prog 207 #[.string s,.string d,.bool lat] w fun e w'=>e=.returned (.tuple #[jo true (n / 10000000*6000000+n%10000000),.int .i64 0])∧Below w.1.size w w':=by
 obtain⟨hne1,hne2⟩:=q9 h0;have hS:(je lat).size=2:=by cases lat<;>rfl
 have HK:=fun W'=>hid (abm lat W')
 generalize je lat=S at *;cases lat
 all_goals
  have g2':=g2;unfold apl at g2';simp at g2';clear g2;go_enter func207,ntmps207;have q0:(w.alloc (.cells #[.bool false,.int .i64 0] 42)).cell? ⟨w.1.size,0,none⟩=some (.bool false):=by simp[World.cell?_alloc_at]
  have q1:(w.alloc (.cells #[.bool false,.int .i64 0] 42)).cell? ⟨w.1.size,1,none⟩=some (.int .i64 0):=by simp[World.cell?_alloc_at]
  go_wp2_with fail;refine((HK _).out).mono ?_;rintro e w' ⟨rfl,rfl⟩;go_wp2_with fail;refine((HP _).out).mono ?_;rintro e w2 ⟨rfl,hb2⟩;obtain⟨c2,f2⟩:=qv hb2;have hz:=hb2.size;simp at hz;have hz1:w.1.size<w2.1.size:=by omega
  have b2:=hid (qb (qa w _) hb2);replace q0:=(c2 w.1.size 0 sm).trans q0;replace q1:=(c2 w.1.size 1 sm).trans q1;go_wp2_with fail;obtain⟨p0,p1⟩:=zg w2 w.1.size (.bool true) (.int .i64 (n / 10000000*6000000+n%10000000)) _ _ q0 q1;refine bodyPost_ret (v:=.tuple #[jo true (n / 10000000*6000000+n%10000000),.int .i64 0]) (by simp[results,results207,go_sem,p0,p1]) rfl ⟨rfl,?_⟩;exact(Below.setCell (Below.setCell b2.out (p:=⟨w.1.size,0,none⟩) (Nat.le_refl _) _) (p:=⟨w.1.size,1,none⟩) (Nat.le_refl _) _)
theorem aoj (s d:ByteArray) (lat:Bool) (n:Int) (w:World) (h0:0<s.size) (HP:∀W',Hid (Calls prog 223 #[.string s,.int .i64 (yw lat:Int),.int .i64 (yw lat:Int),.int .i64 5] W' fun e w'=>e=.returned (.tuple #[.int .i64 n,.bool true])∧Below W'.1.size W' w')) (k1:(d.toList==((je lat).extract 0 1).toList)=false) (k2:(d.toList==((je lat).extract 1 2).toList)=true) (hn0:0≤n) (hn:n≤2000000000000000000) (g:n%10000000<6000000) (g2:n / 10000000*6000000+n%10000000≤apl lat) :
 Calls prog 207 #[.string s,.string d,.bool lat] w fun e w'=>e=.returned (.tuple #[jo true (-(n / 10000000*6000000+n%10000000)),.int .i64 0])∧Below w.1.size w w':=by
 obtain⟨hne1,hne2⟩:=q9 h0;have hS:(je lat).size=2:=by cases lat<;>rfl
 have HK:=fun W'=>hid (abm lat W')
 generalize je lat=S at *;cases lat
 all_goals
  have g2':=g2;unfold apl at g2';simp at g2';clear g2;go_enter func207,ntmps207;have q0:(w.alloc (.cells #[.bool false,.int .i64 0] 42)).cell? ⟨w.1.size,0,none⟩=some (.bool false):=by simp[World.cell?_alloc_at]
  have q1:(w.alloc (.cells #[.bool false,.int .i64 0] 42)).cell? ⟨w.1.size,1,none⟩=some (.int .i64 0):=by simp[World.cell?_alloc_at]
  go_wp2_with fail;refine((HK _).out).mono ?_;rintro e w' ⟨rfl,rfl⟩;go_wp2_with fail;refine((HP _).out).mono ?_;rintro e w2 ⟨rfl,hb2⟩;obtain⟨c2,f2⟩:=qv hb2;have hz:=hb2.size;simp at hz;have hz1:w.1.size<w2.1.size:=by omega
  have b2:=hid (qb (qa w _) hb2);replace q0:=(c2 w.1.size 0 sm).trans q0;replace q1:=(c2 w.1.size 1 sm).trans q1;go_wp2_with fail;obtain⟨p0,p1⟩:=zg w2 w.1.size (.bool true) (.int .i64 (-(n / 10000000*6000000+n%10000000))) _ _ q0 q1;refine bodyPost_ret (v:=.tuple #[jo true (-(n / 10000000*6000000+n%10000000)),.int .i64 0]) (by simp[results,results207,go_sem,p0,p1]) rfl ⟨rfl,?_⟩;exact(Below.setCell (Below.setCell b2.out (p:=⟨w.1.size,0,none⟩) (Nat.le_refl _) _) (p:=⟨w.1.size,1,none⟩) (Nat.le_refl _) _)
theorem asr (f g:ByteArray):(f.toList==g.toList)=decide (f=g):=by
 rw[ByteArray.toList_eq,ByteArray.toList_eq]
 by_cases h:f=g
 ·subst h;simp
 ·rw[decide_eq_false h,beq_eq_false_iff_ne];intro k;exact h (ByteArray.ext (by simpa using k))
def aa7 (l:List UInt8) (d:ByteArray) (lat:Bool):Bool×Int×Int:=
 if l=[]∧d.data.toList=[]then(false,0,0)
 else match yo l (yw lat) (yw lat) 5 with
 | none=>(false,0,3)
 | some n=>if d≠aiz lat false∧d≠aiz lat true then(false,0,3)
  else if 6000000≤n%10000000∨apl lat<((n / 10000000*6000000+n%10000000:Nat):Int)then(false,0,5)
  else(true,(if d=aiz lat true then -((n / 10000000*6000000+n%10000000:Nat):Int)else((n / 10000000*6000000+n%10000000:Nat):Int)),0)
theorem bfa (lat:Bool):aiz lat false≠aiz lat true:=by cases lat<;>decide
theorem ap3 (k m f:Nat) (hk:1≤k):yo [] k m f=none:=by
 unfold yo;rw[if_pos (.inl (by show 0<k;omega))]
theorem am9 (s d:ByteArray) (lat:Bool) (w:World) (hs:s.size≤1000000) :
 Calls prog 207 #[.string s,.string d,.bool lat] w fun e w'=>e=.returned (.tuple #[jo (aa7 s.data.toList d lat).1 (aa7 s.data.toList d lat).2.1,.int .i64 (aa7 s.data.toList d lat).2.2])∧Below w.1.size w w':=by
 unfold aa7;have hw:1≤yw lat∧yw lat≤5:=by unfold yw;split<;>omega
 by_cases h0:s.data.toList=[]∧d.data.toList=[]
 ·rw[if_pos h0];exact ana s d lat w (aeg h0.1) (aeg h0.2)
 rw[if_neg h0];have HP:=fun W'=>hid (alw s (yw lat) (yw lat) 5 W' hs om om)
 by_cases hn:s.data.toList=[]
 ·have hd:d.data.toList≠[]:=fun k=>h0 ⟨hn,k⟩
  rw[hn,ap3 _ _ _ hw.1]at HP;rw[hn,ap3 _ _ _ hw.1];exact anb s d lat 0 w (aeg hn) (aqu hd) HP
 have hp:=aqu hn;cases hq:yo s.data.toList (yw lat) (yw lat) 5 with
 | none=>
  simp only[hq]at HP;exact aoh s d lat 0 w hp HP
 | some n=>
  simp only[hq]at HP;have hle:=alv hq om;have k1:=asr d ((je lat).extract 0 1);have k2:=asr d ((je lat).extract 1 2);rw[aex]at k1;rw[aef]at k2;rw[← aex]at k1;rw[← aef]at k2;have hx:((n / 10000000*6000000+n%10000000:Nat):Int)=(n:Int) / 10000000*6000000 +(n:Int)%10000000:=by omega
  have hm:((n%10000000:Nat):Int)=(n:Int)%10000000:=by omega
  dsimp only
  by_cases hN:d=aiz lat false
  ·have hS:d≠aiz lat true:=fun k=>bfa lat (hN.symm.trans k)
   rw[if_neg (fun k=>k.1 hN)];rw[decide_eq_true (by rw[aex];exact hN)]at k1;rw[decide_eq_false (by rw[aef];exact hS)]at k2
   by_cases g:6000000≤n%10000000
   ·rw[if_pos (.inl g)];exact ark s d lat n w hp HP k1 k2 om om om
   by_cases g2:apl lat<((n / 10000000*6000000+n%10000000:Nat):Int)
   ·rw[if_pos (.inr g2)];exact arm s d lat n w hp HP k1 k2 om om om om
   rw[if_neg om,if_neg hS,hx];exact aoi s d lat n w hp HP k1 k2 om om om om
  rw[decide_eq_false (by rw[aex];exact hN)]at k1
  by_cases hS:d=aiz lat true
  ·rw[if_neg (fun k=>k.2 hS)];rw[decide_eq_true (by rw[aef];exact hS)]at k2
   by_cases g:6000000≤n%10000000
   ·rw[if_pos (.inl g)];exact arl s d lat n w hp HP k1 k2 om om om
   by_cases g2:apl lat<((n / 10000000*6000000+n%10000000:Nat):Int)
   ·rw[if_pos (.inr g2)];exact arn s d lat n w hp HP k1 k2 om om om om
   rw[if_neg om,if_pos hS,hx];exact aoj s d lat n w hp HP k1 k2 om om om om
  ·rw[if_pos ⟨hN,hS⟩];rw[decide_eq_false (by rw[aef];exact hS)]at k2;exact aok s d lat n w hp HP k1 k2 om om
structure Frm (g:Nat) (v:Value) (w w':World):Prop where
 os:w'.os=w.os
 tape:w'.tape=w.tape
 output:w'.output=w.output
 size:w.1.size≤w'.1.size
 block:∀k,k<w.1.size→k≠g→v.ownBlock≠some k→w'.heap[k]?=w.heap[k]?
theorem Frm.of_below {g:Nat} {v:Value} {w w':World} (h:Below w.1.size w w'):Frm g v w w':=⟨h.os,h.tape,h.output,h.size,fun k hk _ _=>h.block k hk⟩
theorem Frm.set {g:Nat} {v:Value} {w w':World} (h:Frm g v w w') (o:Nat) (u:Value):Frm g v w (w'.setCell ⟨g,o,none⟩ u):=
 ⟨h.os,h.tape,h.output,by simpa using h.size,fun k hk h1 h2=>(Below.heap_setCell _ _ _ _ h1).trans (h.block k hk h1 h2)⟩
theorem Frm.then_below {g:Nat} {v:Value} {w w1 w2:World} (h:Frm g v w w1) (hb:Below w1.1.size w1 w2):Frm g v w w2:=
 ⟨hb.os.trans h.os,hb.tape.trans h.tape,hb.output.trans h.output,Nat.le_trans h.size hb.size,fun k hk h1 h2=>(hb.block k (Nat.lt_of_lt_of_le hk h.size)).trans (h.block k hk h1 h2)⟩
def blc (w:World) (v v':Value):Prop:=v'.ownBlock=v.ownBlock∨∀k,v'.ownBlock=some k→w.1.size≤k
theorem Frm.trans {g:Nat} {v v':Value} {w w1 w2:World} (h:Frm g v w w1) (k:Frm g v' w1 w2) (hm:blc w v v'):Frm g v w w2:=
 ⟨k.os.trans h.os,k.tape.trans h.tape,k.output.trans h.output,Nat.le_trans h.size k.size,fun i hi h1 h2=>(k.block i (Nat.lt_of_lt_of_le hi h.size) h1 (by
  rcases hm with hm|hm
  ·rw[hm];exact h2
  ·intro e;have:=hm i e;omega)).trans (h.block i hi h1 h2)⟩
theorem Frm.cell {g:Nat} {v:Value} {w w':World} (h:Frm g v w w') {b o:Nat} (hb:b<w.1.size) (h1:b≠g) (h2:v.ownBlock≠some b):w'.cell? ⟨b,o,none⟩=w.cell? ⟨b,o,none⟩:=World.cell?_of_block (a:=⟨b,o,none⟩) (h.block b hb h1 h2)
theorem Frm.below {g B:Nat} {v:Value} {w w':World} (h:Frm g v w w') (hg:B≤g) (hv:∀k,v.ownBlock=some k→B≤k) (hB:B≤w.1.size):Below B w w':=
 ⟨h.os,h.tape,h.output,h.size,fun k hk=>h.block k om om (fun e=>by have:=hv k e;omega)⟩
def aay (e E:Int):Int:=if e=0 then E else e
theorem azw (g:Nat) (e E:Int) (w:World) (h1:w.cell? ⟨g,1,none⟩=some (.int .i64 e)) (hf:w.frozen? ⟨g,1,none⟩=false) :
 Calls prog 208 #[.pointer (some ⟨g,0,none⟩),.int .i64 E] w fun r w'=>r=.returned (.tuple #[])∧w'=if e=0 then w.setCell ⟨g,1,none⟩ (.int .i64 E)else w:=by
 by_cases h:e=0
 ·subst h;go_enter func208,ntmps208;go_wp2
  go_end0
  exact⟨rfl,rfl⟩
 ·have hne:(e==0)=false:=by rw[beq_eq_false_iff_ne];exact h
  rw[if_neg h];clear h;go_enter func208,ntmps208;go_wp2
  go_end0
  exact⟨rfl,rfl⟩
theorem bba:(prog.info? 9).map (fun i=>(i.zero,i.size,i.bytes))=some (some (.string ByteArray.empty),1,16):=by kernel_rfl
theorem amu {P:Program} {t:TypeId} {z:Value} {s b:Nat} (h:(P.info? t).map (fun i=>(i.zero,i.size,i.bytes))=some (some z,s,b)):∃i,P.info? t=some i∧i.zero=some z∧i.size=s∧i.bytes=b:=by
 cases hi:P.info? t with
 | none=>rw[hi]at h;cases h
 | some i=>
  rw[hi]at h;injection h with h
  injection h with h1 h2
  injection h2 with h2 h3
  exact⟨i,rfl,h1,h2,h3⟩
theorem awy {w:World} {B:Nat} {e:TypeId} {A:Option Addr} {n c:Nat} {fs:List ByteArray} (h:w.ownsRow B e 1 (.slice A n c) n (fs.map Value.string)):fs.length=n∧vy w w.1.size A fs∧aaq B A:=by
 have hl:fs.length=n:=by have:=h.1;simpa using this
 refine⟨hl,?_,fun a ha=>?_⟩
 ·intro k hk;rcases h.2 with⟨hv,h0⟩|⟨g,cap,cur,hv,_,hg,_⟩
  ·omega
  ·have hA:A=some ⟨g,0,none⟩:=by injection hv
   subst hA;have hc:=h.cells (g:=g) rfl k (.string fs[k]) (by simp[hk])
   exact⟨g,0,rfl,(Array.getElem?_eq_some_iff.1 hg).1,by
    have:(⟨g,0,none⟩:Addr).add k=⟨g,0+k,none⟩:=by unfold Addr.add;split<;>simp_all
    rw[← this];exact hc⟩
 ·rcases h.2 with⟨hv,h0⟩|⟨g,cap,cur,hv,hb,hg,_⟩
  ·have hA:A=none:=by injection hv
   rw[hA]at ha;cases ha
  ·have hA:A=some ⟨g,0,none⟩:=by injection hv
   rw[hA]at ha;injection ha with ha
   rw[← ha];exact hb
theorem a9v {w:World} {B:Nat} {e:TypeId} {size n:Nat} {v:Value} {xs:List Value} (h:w.ownsRow B e size v n xs):∃A c,v=.slice A n c:=by
 rcases h.2 with⟨hv,h0⟩|⟨g,cap,cur,hv,_⟩
 ·exact⟨none,0,by rw[hv,h0]⟩
 ·exact⟨_,_,hv⟩
variable {Q : Nat → Prop}
abbrev vj:Value:=.slice none 0 0
def adf (e:Int) (R:List ByteArray):Int:=if R=[]then aay e 3 else e
def bcd (Q:Nat→Prop) (w:World) (A:Option Addr) (fs:List ByteArray):Prop:=
 ∀k (hk:k<fs.length),∃b off,A=some ⟨b,off,none⟩∧Q b∧w.cell? ⟨b,off+k,none⟩=some (.string (fs[k]'hk))
def ach (Q:Nat→Prop) (w:World) (g:Nat) (e:Int) (R:List ByteArray):Prop:=
 ∃A c,w.cell? ⟨g,0,none⟩=some (.bool true)∧w.cell? ⟨g,1,none⟩=some (.int .i64 e)∧w.cell? ⟨g,2,none⟩=some (.slice A R.length c) ∧(∀o,w.frozen? ⟨g,o,none⟩=false)∧g<w.1.size∧bcd Q w A R ∧(∀b,Q b→b<w.1.size) ∧(∀b,Q b→b≠g)∧R.length≤1000000∧R.length≤c
theorem atw {w w':World} {A:Option Addr} {R:List ByteArray} {g:Nat} (h:bcd Q w A R) (hB:∀b,Q b→b<w.1.size) (hA:∀b,Q b→b≠g) (hf:Frm g vj w w'):bcd Q w' A R:=by
 intro k hk;obtain⟨b,off,h1,h2,h3⟩:=h k hk;exact⟨b,off,h1,h2,(hf.cell (hB b h2) (hA b h2) (by simp[Value.ownBlock])).trans h3⟩
theorem ach.keep {w w':World} {g:Nat} {e:Int} {R:List ByteArray} (h:ach Q w g e R) (hb:Below w.1.size w w'):ach Q w' g e R:=by
 obtain⟨A,c,h0,h1,h2,h3,h4,h5,hB,h6,h7,h8⟩:=h;obtain⟨cc,ff⟩:=qv hb;exact⟨A,c,(cc g 0 h4).trans h0,(cc g 1 h4).trans h1,(cc g 2 h4).trans h2,fun o=>(ff g o h4).trans (h3 o),Nat.lt_of_lt_of_le h4 hb.size,atw h5 hB h6 (Frm.of_below hb),(fun b q=>Nat.lt_of_lt_of_le (hB b q) hb.size),h6,h7,h8⟩
theorem an4 (w:World) (g o:Nat) (u:Value):Frm g vj w (w.setCell ⟨g,o,none⟩ u):=(Frm.of_below (Below.refl _ _)).set _ _
theorem ach.err {w:World} {g:Nat} {e E:Int} {R:List ByteArray} (h:ach Q w g e R):ach Q (w.setCell ⟨g,1,none⟩ (.int .i64 E)) g E R:=by
 obtain⟨A,c,h0,h1,h2,h3,h4,h5,hB,h6,h7,h8⟩:=h;refine⟨A,c,?_,World.cell?_setCell_same _ _ _ h1,?_,fun o=>by simpa using h3 o,by simpa using h4,atw h5 hB h6 (an4 _ _ _ _),by simpa using hB,h6,h7,h8⟩
 ·rw[World.cell?_setCell_other _ _ _ _ sm];exact h0
 ·rw[World.cell?_setCell_other _ _ _ _ sm];exact h2
def ab6 (Q:Nat→Prop) (g:Nat) (x:Value) (e:Int) (R:List ByteArray) (w:World) (r:Ending) (w':World):Prop:=r=.returned x∧ach Q w' g e R∧Frm g vj w w'
theorem ach.noted {w:World} {g:Nat} {e E:Int} {R:List ByteArray} (h:ach Q w g e R):ach Q (if e=0 then w.setCell ⟨g,1,none⟩ (.int .i64 E)else w) g (aay e E) R:=by
 unfold aay
 by_cases he:e=0
 ·rw[if_pos he,if_pos he];exact h.err
 ·rw[if_neg he,if_neg he];exact h
theorem ay6 (w:World) (g o:Nat) (e E:Int):Frm g vj w (if e=0 then w.setCell ⟨g,o,none⟩ (.int .i64 E)else w):=by
 split
 ·exact an4 _ _ _ _
 ·exact Frm.of_below (Below.refl _ _)
theorem agy (g:Nat) (e E:Int) (R:List ByteArray) (w:World) (h:ach Q w g e R) :
 Calls prog 149 #[.pointer (some ⟨g,0,none⟩),.int .i64 E] w (ab6 Q g (.tuple #[]) (aay e E) R w):=by
 have HN:Hid (ab6 Q g (.tuple #[]) (aay e E) R w (.returned (.tuple #[])) (if e=0 then w.setCell ⟨g,1,none⟩ (.int .i64 E)else w)):=⟨rfl,h.noted,ay6 _ _ _ _ _⟩;obtain⟨A,c,h0,h1,h2,h3,h4,h5,hB,h6,h7,h8⟩:=h;have HC:=hid (azw g e E w h1 (h3 1));clear h1 h2 h3 h4 h5 h6;generalize (if e=0 then w.setCell ⟨g,1,none⟩ (.int .i64 E)else w)=W at *;go_enter func149,ntmps149;go_wp2_with fail;refine(HC.out).mono ?_;rintro e w' ⟨rfl,rfl⟩;go_wp2_with fail
 go_end0
 exact HN.out
theorem a2m (g:Nat) (e:Int) (R:List ByteArray) (w:World) (h:ach Q w g e R) :
 Calls prog 147 #[.pointer (some ⟨g,0,none⟩)] w fun r w'=>r=.returned (.int .i64 e)∧w=w':=by
 obtain⟨A,c,h0,h1,h2,h3,h4,h5,hB,h6,h7,h8⟩:=h;clear h5 h6 h3;go_enter func147,ntmps147;go_wp2;go_ret;exact⟨rfl,rfl⟩
theorem axn (g:Nat) (e:Int) (R:List ByteArray) (w:World) (h:ach Q w g e R) :
 Calls prog 175 #[.pointer (some ⟨g,0,none⟩)] w fun r w'=>r=.returned (.int .i64 (R.length:Int))∧w=w':=by
 obtain⟨A,c,h0,h1,h2,h3,h4,h5,hB,h6,h7,h8⟩:=h;clear h5 h6 h3;generalize R.length=n at *;go_enter func175,ntmps175;go_wp2;go_ret;exact⟨rfl,rfl⟩
variable {Q : Nat → Prop}
theorem aep (g:Nat) (e:Int) (R:List ByteArray) (w:World) (h:ach Q w g e R) :
 Calls prog 152 #[.pointer (some ⟨g,0,none⟩)] w (ab6 Q g (.string (R.headD ByteArray.empty)) (adf e R) R.tail w):=by
 cases R with
 | nil=>
  have HN:Hid (ab6 Q g (.string ByteArray.empty) (aay e 3) [] w (.returned (.string ByteArray.empty)) (if e=0 then w.setCell ⟨g,1,none⟩ (.int .i64 3)else w)):=⟨rfl,h.noted,ay6 _ _ _ _ _⟩;obtain⟨A,c,h0,h1,h2,h3,h4,h5,hB,h6,h7,h8⟩:=h;have HC:=hid (azw g e 3 w h1 (h3 1));change Calls prog 152 #[.pointer (some ⟨g,0,none⟩)] w (ab6 Q g (.string ByteArray.empty) (aay e 3) [] w);replace h2:w.cell? ⟨g,2,none⟩=some (.slice A 0 c):=h2;clear h1 h3 h4 h5 h6 h7 h8;generalize (if e=0 then w.setCell ⟨g,1,none⟩ (.int .i64 3)else w)=W at *;go_enter func152,ntmps152;go_wp2_with fail;refine(HC.out).mono ?_;rintro e w' ⟨rfl,rfl⟩;go_wp2_with fail;go_ret;exact HN.out
 | cons s t=>
  obtain⟨A,c,h0,h1,h2,h3,h4,h5,hB,h6,h7,h8⟩:=h;obtain⟨b,off,rfl,hb,hc⟩:=h5 0 sm;have hbg:=h6 b hb;have H6:=hid h6;replace hc:w.cell? ⟨b,off,none⟩=some (.string s):=hc;have hn:(s::t).length=t.length+1:=rfl;rw[hn]at h2 h7 h8;have z2:=h3 2
  have HN:Hid (ab6 Q g (.string s) e t w (.returned (.string s)) (w.setCell ⟨g,2,none⟩ (.slice (some ⟨b,off+1,none⟩) t.length (c-1)))):=by
   refine⟨rfl,⟨some ⟨b,off+1,none⟩,c-1,?_,?_,World.cell?_setCell_same _ _ _ h2,fun o=>by simpa using h3 o,by simpa using h4,?_,by simpa using hB,?_,by omega,by omega⟩,an4 _ _ _ _⟩
   ·rw[World.cell?_setCell_other _ _ _ _ sm];exact h0
   ·rw[World.cell?_setCell_other _ _ _ _ sm];exact h1
   ·intro k hk;obtain⟨b2,off2,e1,e2,e3⟩:=h5 (k+1) (by simpa using hk);injection e1 with e1
    injection e1 with e1 e1'
    subst e1 e1';refine⟨b,off+1,rfl,hb,?_⟩;rw[World.cell?_setCell_other _ _ _ _ (fun q=>by injection q with q;exact hbg q.symm),show off+1+k=off +(k+1)from by omega,e3];rfl
   ·exact H6.out
  change Calls prog 152 #[.pointer (some ⟨g,0,none⟩)] w (ab6 Q g (.string s) e t w);have HF:=hid h3;clear h3 h5 h6 hn;have i1:(1:Int) ≤((t.length+1:Nat):Int):=by omega
  have i2:((t.length+1:Nat):Int) ≤(c:Int):=by omega
  have i3:(((t.length+1:Nat):Int)==0)=false:=by rw[beq_eq_false_iff_ne];omega
  have i4:(0:Int)<((t.length+1:Nat):Int):=by omega
  have i5:t.length+1-1=t.length:=by omega
  by_cases hc1:c=1
  ·subst hc1;have ht:t=[]:=List.eq_nil_of_length_eq_zero om;subst ht
   have HN2:Hid (ab6 Q g (.string s) e [] w (.returned (.string s)) (w.setCell ⟨g,2,none⟩ (.slice (some ⟨b,off,none⟩) 0 0))):=by
    refine⟨rfl,⟨some ⟨b,off,none⟩,0,?_,?_,World.cell?_setCell_same _ _ _ h2,fun o=>by simpa using HF.out o,by simpa using h4,fun k hk=>absurd hk sm,by simpa using hB,H6.out,by simp,by simp⟩,an4 _ _ _ _⟩
    ·rw[World.cell?_setCell_other _ _ _ _ sm];exact h0
    ·rw[World.cell?_setCell_other _ _ _ _ sm];exact h1
   replace h2:w.cell? ⟨g,2,none⟩=some (.slice (some ⟨b,off,none⟩) 1 1):=h2;clear HN i1 i2 i3 i4 i5 h7 h8 HF;go_enter func152,ntmps152;go_wp2_with fail;go_ret;exact HN2.out
  ·clear HF;generalize t.length+1=n at *;generalize t.length=m at *;go_enter func152,ntmps152;go_wp2_with fail;go_ret;exact HN.out
theorem bc0 (f:Nat):∀n l,∀c∈af7 f n l,isD c=true:=by
 induction f with
 | zero=>intro n l c h;simp[af7]at h
 | succ f ih=>
  intro n l c h;unfold af7 at h
  split at h
  ·rcases List.mem_append.1 h with h|h
   ·exact ih _ _ c h
   ·have:c=UInt8.ofNat (48+n%10):=by simpa using h
    subst this;refine decide_eq_true ?_;simp;omega
  ·simp at h
theorem bc1 (f:Nat):∀n l,n<10^f→yu (af7 f n l)=n:=by
 induction f with
 | zero => intro n l h;have:n<1:=h;have:n=0:=by omega
           subst this;rfl
 | succ f ih=>
  intro n l h;unfold af7
  split
  ·rw[aie,ih _ _ (by rw[Nat.pow_succ]at h;omega)];simp;omega
  ·have:n=0:=by omega
   subst this;rfl
theorem bgx (f:Nat):∀n l,l≤f→l ≤(af7 f n l).length:=by
 induction f with
 | zero=>intro n l h;omega
 | succ f ih=>
  intro n l h;unfold af7
  split
  ·have:=ih (n / 10) (l-1) om;simp;omega
  ·simp;omega
theorem bgy (f:Nat):∀n l k,n<10^k→l≤k →(af7 f n l).length≤k:=by
 induction f with
 | zero=>intro n l k _ _;simp[af7]
 | succ f ih=>
  intro n l k h1 h2;unfold af7
  split
  ·rename_i h;cases k with
   | zero=>have:n<1:=h1;omega
   | succ k=>
    have:=ih (n / 10) (l-1) k (by rw[Nat.pow_succ]at h1;omega) om;simp;omega
  ·simp
theorem blj {n:Nat} (h:n≤1000000000000000000):n<10^20:=by
 have:(10:Nat)^20=100000000000000000000:=by decide
 omega
theorem ayo (n l:Nat):∀c∈af8 n l,isD c=true:=bc0 20 n l
theorem ayp {n l:Nat} (h:n≤1000000000000000000):yu (af8 n l)=n:=bc1 20 n l (blj h)
theorem a66 {n l:Nat} (h:l≤20):l ≤(af8 n l).length:=bgx 20 n l h
theorem an1 {n l k:Nat} (h:n<10^k) (hl:l≤k):(af8 n l).length≤k:=bgy 20 n l k h hl
theorem a65 {n l:Nat} (h:n<10^l) (hl:l≤20):(af8 n l).length=l:=Nat.le_antisymm (an1 h (Nat.le_refl _)) (a66 hl)
theorem atx (f:Nat):∀r,0<r→r<10^f→f≤18→∃r' k,r=r'*10^k∧k<f∧r'%10≠0∧Lib.trimRightB (46::af8 r f) 48=46::af8 r' (f-k):=by
 induction f with
 | zero=>intro r h1 h2 _;have:r<1:=h2;omega
 | succ f ih=>
  intro r h1 h2 h3
  have hm:r≤1000000000000000000:=by
   have h4:(10:Nat)^(f+1)≤10^18:=Nat.pow_le_pow_right dc h3;have e:(10:Nat)^18=1000000000000000000:=by decide
   omega
  by_cases h:r%10=0
  ·rw[bbn r (f+1) h1 h hm h3,Nat.add_sub_cancel];obtain⟨r',k,e1,e2,e3,e4⟩:=ih (r / 10) om (by rw[Nat.pow_succ]at h2;omega) om;refine⟨r',k+1,?_,by omega,e3,?_⟩
   ·rw[Nat.pow_succ,← Nat.mul_assoc,← e1];omega
   ·rw[e4,show f+1-(k+1)=f-k from by omega]
  ·exact⟨r,0,by simp,by omega,h,bbo r (f+1) h1 h hm h3⟩
theorem bfn {r' k v j:Nat} (h:r'*10^k=v*10^j) (hr:r'%10≠0):j≤k:=by
 rcases Nat.lt_or_ge k j with h1|h1
 ·exfalso
  obtain⟨d,rfl⟩:∃d,j=k +(d+1):=⟨j-k-1,by omega⟩
  have e1:r'=v*10^(d+1):=by
   have:r'*10^k=v*10^(d+1)*10^k:=by rw[h,Nat.pow_add,Nat.mul_assoc,Nat.mul_comm (10^k)]
   exact Nat.eq_of_mul_eq_mul_right (Nat.pow_pos dc) this
  rw[Nat.pow_succ,← Nat.mul_assoc]at e1;omega
 ·exact h1
theorem ape {A T:List UInt8} (hA:∀c∈A,isD c=true) (hT:∀c,T.head?=some c→isD c=false):js (A++T)=A.length:=by
 unfold js;rw[List.takeWhile_append_of_pos hA]
 have:T.takeWhile isD=[]:=by
  cases T with
  | nil=>rfl
  | cons c T=>rw[List.takeWhile_cons_of_neg (by rw[hT c rfl];decide)]
 rw[this,List.append_nil]
theorem ayg {B:List UInt8} (hB:∀c∈B,isD c=true):js B=B.length:=by
 have:=ape (T:=[]) hB (fun c h=>by simp at h)
 rwa [List.append_nil]at this
def aj2 (l:List UInt8) (a m f n:Nat):Prop:=
 ∃A T,l=A++T ∧(∀c∈A,isD c=true)∧a≤A.length∧A.length≤m ∧
  (T=[]∧n=yu A*10^f∨∃B,T=46::B ∧(∀c∈B,isD c=true)∧1≤B.length∧B.length≤f∧n=yu A*10^f+yu B*10^(f-B.length))
theorem ath {l:List UInt8} {a m f n:Nat} (h:aj2 l a m f n):yo l a m f=some n:=by
 obtain⟨A,T,rfl,hA,h1,h2,h3⟩:=h;rcases h3 with⟨rfl,rfl⟩|⟨B,rfl,hB,h4,h5,rfl⟩
 ·rw[List.append_nil];unfold yo;rw[ayg hA,if_neg om,if_pos rfl]
 ·have hc:=ape (T:=46::B) hA (fun c h=>by
   have:c=46:=by simpa using h.symm
   subst this;decide)
  have hd:(A++46::B).drop (A.length+1)=B:=by
   rw[← List.drop_drop,List.drop_left];rfl
  unfold yo;have g:(A++46::B)[A.length]?=some 46:=by simp
  have g2:(A++46::B).length=A.length+1+B.length:=by simp;omega
  rw[hc,hd,ayg hB,if_neg om,if_neg om,if_neg (by
   intro k;rcases k with k|k|k|k
   ·exact k g
   ·omega
   ·omega
   ·exact k g2.symm)]
  rw[List.take_left]
theorem a4q {l:List UInt8} {a m f n:Nat} (h:yo l a m f=some n):aj2 l a m f n:=by
 unfold yo at h;have hA:=abx l
 split at h
 ·cases h
 rename_i g1
 split at h
 ·rename_i g2;injection h with h
  rw[g2,List.take_length]at hA;exact⟨l,[],by simp,hA,by omega,by omega,.inl ⟨rfl,h.symm⟩⟩
 rename_i g2
 split at h
 ·cases h
 rename_i g3;injection h with h
 have hle:=anx l;have g4:l[js l]?=some 46:=Classical.not_not.1 fun k=>g3 (.inl k)
 have hB:=abx (l.drop (js l+1));have e1:js (l.drop (js l+1))=(l.drop (js l+1)).length:=by rw[List.length_drop];omega
 rw[e1,List.take_length]at hB;refine⟨l.take (js l),l.drop (js l),(List.take_append_drop _ _).symm,hA,by rw[List.length_take];omega,by rw[List.length_take];omega,.inr ⟨l.drop (js l+1),?_,hB,by omega,by omega,by rw[← e1];exact h.symm⟩⟩;have hlt:js l<l.length:=by omega
 rw[List.drop_eq_getElem_cons hlt];rw[List.getElem?_eq_getElem hlt]at g4;injection g4 with g4
 rw[g4]
theorem a51 (r f:Nat) (hr:r<10^f) (hf:f≤18):aq3 r f=[]∧r=0∨∃B,aq3 r f=46::B ∧(∀c∈B,isD c=true)∧1≤B.length∧B.length≤f∧yu B*10^(f-B.length)=r:=by
 unfold aq3
 by_cases h0:r=0
 ·rw[if_pos h0];exact .inl ⟨rfl,h0⟩
 ·rw[if_neg h0];obtain⟨r',k,e1,e2,e3,e4⟩:=atx f r om hr hf
  have hr':r'<10^(f-k):=by
   rw[e1,show f=(f-k)+k from by omega,Nat.pow_add]at hr;exact Nat.lt_of_mul_lt_mul_right (a:=10^k) hr
  have hm:r'≤1000000000000000000:=by
   have h4:(10:Nat)^(f-k)≤10^18:=Nat.pow_le_pow_right dc om;have e:(10:Nat)^18=1000000000000000000:=by decide
   omega
  have hl:(af8 r' (f-k)).length=f-k:=a65 hr' om;refine .inr ⟨af8 r' (f-k),e4,ayo _ _,by omega,by omega,?_⟩;rw[hl,ayp hm,show f-(f-k)=k from by omega,e1]
theorem a1n (v j f:Nat) (h:v*10^j<10^f) (hf:f≤18) (hj:j≤f):(aq3 (v*10^j) f).length≤1 +(f-j):=by
 unfold aq3
 by_cases h0:v*10^j=0
 ·rw[if_pos h0];simp
 ·rw[if_neg h0];obtain⟨r',k,e1,e2,e3,e4⟩:=atx f _ om h hf;have hk:=bfn e1.symm e3
  have hr':r'<10^(f-k):=by
   rw[e1,show f=(f-k)+k from by omega,Nat.pow_add]at h;exact Nat.lt_of_mul_lt_mul_right (a:=10^k) h
  rw[e4,List.length_cons,a65 hr' om];omega
theorem amz (n w m f:Nat) (hn:n<10^(m+f)) (hmf:m+f≤18) (hw:1≤w) (hwm:w≤m):aj2 (ajj n w f) 1 m f n:=by
 have hn2:n≤1000000000000000000:=by
  have h4:(10:Nat)^(m+f)≤10^18:=Nat.pow_le_pow_right dc om;have e:(10:Nat)^18=1000000000000000000:=by decide
  omega
 have hq:n / 10^f<10^m:=by
  rw[Nat.pow_add]at hn;exact Nat.div_lt_of_lt_mul (by rwa [Nat.mul_comm])
 have hq2:n / 10^f≤1000000000000000000:=Nat.le_trans (Nat.div_le_self _ _) hn2;have hr:n%10^f<10^f:=Nat.mod_lt _ (Nat.pow_pos dc);have hdm:n / 10^f*10^f+n%10^f=n:=by rw[Nat.mul_comm];exact Nat.div_add_mod n (10^f)
 refine⟨af8 (n / 10^f) w,aq3 (n%10^f) f,rfl,ayo _ _,Nat.le_trans hw (a66 om),an1 hq hwm,?_⟩;rw[ayp hq2];rcases a51 (n%10^f) f hr om with⟨h1,h2⟩|⟨B,h1,h2,h3,h4,h5⟩
 ·exact .inl ⟨h1,by omega⟩
 ·exact .inr ⟨B,h1,h2,h3,h4,by omega⟩
theorem ast (l:List UInt8):aii (45::l)=true∧afc (45::l)=l:=⟨rfl,rfl⟩
theorem a8d {l:List UInt8} {a m f n:Nat} (h:aj2 l a m f n) (ha:1≤a):aii l=false∧afc l=l∧l≠[]:=by
 obtain⟨A,T,rfl,hA,h1,-⟩:=h;cases A with
 | nil=>simp at h1;omega
 | cons c A=>
  have hc:=of_decide_eq_true (hA c sm)
  have:aii (c::A++T)=false:=by
   show (some c==some 45)=false;have:c≠45:=by rintro rfl;exact absurd hc dc
   simpa using this
  refine⟨this,?_,by simp⟩;unfold afc;rw[this];rfl
theorem a0m {W M F L H:Int} (h:abi W M F L H=true):∃w m f:Nat,W=(w:Int)∧M=(m:Int)∧F=(f:Int)∧1≤w∧w≤m∧m≤12∧f≤6∧-kq (m+f)<L∧H<kq (m+f):=by
 have h:=of_decide_eq_true h;refine⟨W.toNat,M.toNat,F.toNat,by omega,by omega,by omega,by omega,by omega,by omega,by omega,?_⟩;rw[show M.toNat+F.toNat=(M+F).toNat from by omega];exact⟨h.2.2.2.2.2.2.1,h.2.2.2.2.2.2.2⟩
theorem bex {b:Bool} {n W M F L H:Int} (h:(avs b n W M F L H).2=0):j4 (avs b n W M F L H).1.data.toList W M F L H=(b,n,0):=by
 unfold avs at h ⊢
 by_cases hr:abi W M F L H=false
 ·rw[if_pos hr]at h;exact absurd h dc
 rw[if_neg hr]at h ⊢
 by_cases hf:aaz b n L H=false
 ·rw[if_pos hf]at h;exact absurd h dc
 rw[if_neg hf]at h ⊢;cases b with
 | false=>
  rw[if_pos rfl]
  have:n=0:=by
   unfold aaz at hf
   simpa using hf
  subst this;unfold j4;rw[if_neg hr];rfl
 | true=>
  rw[if_neg dc];have hfit:aaz true n L H=true:=by simpa using hf
  have hb:=apm hfit;obtain⟨w,m,f,rfl,rfl,rfl,h1,h2,h3,h4,h5,h6⟩:=a0m (by simpa using hr)
  have hx:n.natAbs<10^(m+f):=by
   rw[j9]at h5 h6;omega
  by_cases hn:n<0
  ·rw[if_pos hn];have ht:=amz n.natAbs w m f hx om h1 h2;have hp:=ath ht;show j4 (toB (45::ajj (-n).toNat w f)).data.toList w m f L H=_;rw[a11,show (-n).toNat=n.natAbs from by omega];unfold j4;rw[if_neg hr,if_neg sm,(ast _).1,(ast _).2,Int.toNat_natCast,Int.toNat_natCast,hp];simp only[if_true];rw[show -((n.natAbs:Nat):Int)=n from by omega,hfit];rfl
  ·rw[if_neg hn];have ht:=amz n.natAbs w m f hx om h1 h2;have hp:=ath ht;obtain⟨k1,k2,k3⟩:=a8d ht (Nat.le_refl _);show j4 (toB (ajj n.toNat w f)).data.toList w m f L H=_;rw[a11,show n.toNat=n.natAbs from by omega];unfold j4;rw[if_neg hr,if_neg k3,k1,k2,Int.toNat_natCast,Int.toNat_natCast,hp];simp only[Bool.false_eq_true,if_false];rw[show ((n.natAbs:Nat):Int)=n from by omega,hfit];rfl
theorem avr {l:List UInt8} {a m f n:Nat} (h:aj2 l a m f n) (ha:1≤a) (hmf:m+f≤18):(ajj n 1 f).length≤l.length:=by
 obtain⟨A,T,rfl,hA,h1,h2,h3⟩:=h;have hv:=aid A hA;have hp:0<10^f:=Nat.pow_pos dc;unfold ajj;rw[List.length_append,List.length_append];rcases h3 with⟨rfl,rfl⟩|⟨B,rfl,hB,h4,h5,rfl⟩
 ·rw[Nat.mul_div_cancel _ hp,Nat.mul_mod_left];have:=an1 (l:=1) hv om;show _ +([]:List UInt8).length≤_
  simpa using this
 ·have hvb:=aid B hB
  have hr:yu B*10^(f-B.length)<10^f:=by
   have:yu B*10^(f-B.length)<10^B.length*10^(f-B.length):=Nat.mul_lt_mul_of_pos_right hvb (Nat.pow_pos dc)
   rwa [← Nat.pow_add,show B.length +(f-B.length)=f from by omega]at this
  have e1:(yu A*10^f+yu B*10^(f-B.length)) / 10^f=yu A:=by
   rw[Nat.mul_comm,Nat.mul_add_div hp,Nat.div_eq_of_lt hr,Nat.add_zero]
  have e2:(yu A*10^f+yu B*10^(f-B.length))%10^f=yu B*10^(f-B.length):=by
   rw[Nat.mul_comm,Nat.mul_add_mod,Nat.mod_eq_of_lt hr]
  rw[e1,e2];have k1:=an1 (l:=1) hv om;have k2:=a1n (yu B) (f-B.length) f hr om om;rw[List.length_cons];omega
theorem bfr {l:List UInt8} {b:Bool} {n W M F L H:Int} (h:j4 l W M F L H=(b,n,0)) :
 ∃t:ByteArray,avs b n W M F L H=(t,0) ∧(W=1→t.size≤l.length):=by
 unfold j4 at h
 by_cases hr:abi W M F L H=false
 ·rw[if_pos hr]at h;simp at h
 rw[if_neg hr]at h
 by_cases h0:l=[]
 ·rw[if_pos h0]at h;injection h with h1 h2
  injection h2 with h2 h3
  subst h1 h2;refine⟨ByteArray.empty,?_,fun _=>by show 0≤_;omega⟩;unfold avs;rw[if_neg hr,if_neg (by unfold aaz;simp),if_pos rfl]
 rw[if_neg h0]at h;obtain⟨w,m,f,rfl,rfl,rfl,g1,g2,g3,g4,g5,g6⟩:=a0m (by simpa using hr);rw[Int.toNat_natCast,Int.toNat_natCast]at h;cases hq:yo (afc l) 1 m f with
 | none=>rw[hq]at h;simp at h
 | some k=>
  rw[hq]at h;dsimp only at h
  by_cases hf:aaz true (if aii l then -(k:Int)else(k:Int)) L H=true
  ·rw[if_pos hf]at h;injection h with h1 h2
   injection h2 with h2 h3
   subst h1;rw[h2]at hf;have ht:=avr (a4q hq) (Nat.le_refl _) om;have hab:n.natAbs=k:=by split at h2<;>omega
   unfold avs;rw[if_neg hr,if_neg (by rw[hf];decide),if_neg dc,Int.toNat_natCast,Int.toNat_natCast]
   by_cases hn:n<0
   ·rw[if_pos hn,show (-n).toNat=k from by omega];refine⟨_,rfl,fun e=>?_⟩;have hw:w=1:=by omega
    subst hw
    have hneg:aii l=true:=by
     cases hg:aii l with
     | true=>rfl
     | false=>rw[hg]at h2;simp at h2;omega
    unfold afc at ht;rw[hneg,if_pos rfl,List.length_drop]at ht;have:0<l.length:=List.length_pos_iff.2 h0;rw[bfd,List.length_cons];omega
   ·rw[if_neg hn,show n.toNat=k from by omega];refine⟨_,rfl,fun e=>?_⟩;have hw:w=1:=by omega
    subst hw;rw[bfd];refine Nat.le_trans ht ?_;unfold afc
    split
    ·rw[List.length_drop];omega
    ·omega
  ·rw[if_neg hf]at h;simp at h
