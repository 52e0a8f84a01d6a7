/- Layer 23: the program's TakeAngle, case by case. -/
import Derived.Test.YtdkhlkfleggbaaaGreatR11
import Derived.OwnWalk
import Derived.KernelRfl
namespace Go.Proofs.YtdkhlkfleggbaaaGreat
set_option maxHeartbeats 2000000
set_option maxRecDepth 8000
open Lib (hid)
open Tryz
set_option linter.unusedVariables false
open Go.RowKit
def yp (lat:Bool):Nat:=if lat then 4 else 5
theorem am1 (s d:ByteArray) (lat:Bool) (w:World) (h0:s.size=0) (h1:d.size=0) :
 Calls Tryz.prog 207 #[.string s,.string d,.bool lat] w fun e w'=>e=.returned (.tuple #[ji false (0),.int .i64 0])∧Below w.1.size w w':=by
 obtain rfl:s=⟨#[]⟩:=ByteArray.ext (Array.eq_empty_of_size_eq_zero h0);obtain rfl:d=⟨#[]⟩:=ByteArray.ext (Array.eq_empty_of_size_eq_zero h1);have HK:=fun W'=>hid (abg lat W')
 generalize xz lat=S at *;cases lat
 all_goals
  go_enter func207,ntmps207;go_wp2_with fail;refine bodyPost_ret (v:=.tuple #[ji false (0),.int .i64 0]) (by simp[results,results207,go_sem,World.cell?_alloc_at]) rfl ⟨rfl,qa w _⟩
theorem an1 (s d:ByteArray) (lat:Bool) (n:Int) (w:World) (h0:0<s.size) (HP:∀W',Hid (Calls Tryz.prog 223 #[.string s,.int .i64 (yp lat:Int),.int .i64 (yp lat:Int),.int .i64 5] W' fun e w'=>e=.returned (.tuple #[.int .i64 n,.bool false])∧Below W'.1.size W' w')) :
 Calls Tryz.prog 207 #[.string s,.string d,.bool lat] w fun e w'=>e=.returned (.tuple #[ji false (0),.int .i64 3])∧Below w.1.size w w':=by
 obtain⟨hne1,hne2⟩:=q8 h0;have HK:=fun W'=>hid (abg lat W')
 generalize xz lat=S at *;cases lat
 all_goals
  go_enter func207,ntmps207;have q0:(w.alloc (.cells #[.bool false,.int .i64 0] 42)).cell? ⟨w.1.size,0,none⟩=some (.bool false):=by simp[World.cell?_alloc_at]
  have q1:(w.alloc (.cells #[.bool false,.int .i64 0] 42)).cell? ⟨w.1.size,1,none⟩=some (.int .i64 0):=by simp[World.cell?_alloc_at]
  go_wp2_with fail;refine((HK _).out).mono ?_;rintro e w' ⟨rfl,rfl⟩;go_wp2_with fail;refine((HP _).out).mono ?_;rintro e w2 ⟨rfl,hb2⟩;obtain⟨c2,f2⟩:=qx hb2;have hz:=hb2.size;simp at hz;have hz1:w.1.size<w2.1.size:=by omega
  have b2:=hid (qb (qa w _) hb2);replace q0:=(c2 w.1.size 0 sm).trans q0;replace q1:=(c2 w.1.size 1 sm).trans q1;go_wp2_with fail;obtain⟨p0,p1⟩:=zi w2 w.1.size (.bool false) (.int .i64 (0)) _ _ q0 q1;refine bodyPost_ret (v:=.tuple #[ji false (0),.int .i64 3]) (by simp[results,results207,go_sem,p0,p1]) rfl ⟨rfl,?_⟩;exact(Below.setCell (Below.setCell b2.out (p:=⟨w.1.size,0,none⟩) (Nat.le_refl _) _) (p:=⟨w.1.size,1,none⟩) (Nat.le_refl _) _)
theorem am2 (s d:ByteArray) (lat:Bool) (n:Int) (w:World) (h0:s.size=0) (h1:0<d.size) (HP:∀W',Hid (Calls Tryz.prog 223 #[.string s,.int .i64 (yp lat:Int),.int .i64 (yp lat:Int),.int .i64 5] W' fun e w'=>e=.returned (.tuple #[.int .i64 n,.bool false])∧Below W'.1.size W' w')) :
 Calls Tryz.prog 207 #[.string s,.string d,.bool lat] w fun e w'=>e=.returned (.tuple #[ji false (0),.int .i64 3])∧Below w.1.size w w':=by
 obtain rfl:s=⟨#[]⟩:=ByteArray.ext (Array.eq_empty_of_size_eq_zero h0);obtain⟨hne1,hne2⟩:=q8 h1;have HK:=fun W'=>hid (abg lat W')
 generalize xz lat=S at *;cases lat
 all_goals
  go_enter func207,ntmps207;have q0:(w.alloc (.cells #[.bool false,.int .i64 0] 42)).cell? ⟨w.1.size,0,none⟩=some (.bool false):=by simp[World.cell?_alloc_at]
  have q1:(w.alloc (.cells #[.bool false,.int .i64 0] 42)).cell? ⟨w.1.size,1,none⟩=some (.int .i64 0):=by simp[World.cell?_alloc_at]
  go_wp2_with fail;refine((HK _).out).mono ?_;rintro e w' ⟨rfl,rfl⟩;go_wp2_with fail;refine((HP _).out).mono ?_;rintro e w2 ⟨rfl,hb2⟩;obtain⟨c2,f2⟩:=qx hb2;have hz:=hb2.size;simp at hz;have hz1:w.1.size<w2.1.size:=by omega
  have b2:=hid (qb (qa w _) hb2);replace q0:=(c2 w.1.size 0 sm).trans q0;replace q1:=(c2 w.1.size 1 sm).trans q1;go_wp2_with fail;obtain⟨p0,p1⟩:=zi w2 w.1.size (.bool false) (.int .i64 (0)) _ _ q0 q1;refine bodyPost_ret (v:=.tuple #[ji false (0),.int .i64 3]) (by simp[results,results207,go_sem,p0,p1]) rfl ⟨rfl,?_⟩;exact(Below.setCell (Below.setCell b2.out (p:=⟨w.1.size,0,none⟩) (Nat.le_refl _) _) (p:=⟨w.1.size,1,none⟩) (Nat.le_refl _) _)
theorem an4 (s d:ByteArray) (lat:Bool) (n:Int) (w:World) (h0:0<s.size) (HP:∀W',Hid (Calls Tryz.prog 223 #[.string s,.int .i64 (yp lat:Int),.int .i64 (yp lat:Int),.int .i64 5] W' fun e w'=>e=.returned (.tuple #[.int .i64 n,.bool true])∧Below W'.1.size W' w')) (k1:(d.toList==((xz lat).extract 0 1).toList)=false) (k2:(d.toList==((xz lat).extract 1 2).toList)=false) (hn0:0≤n) (hn:n≤2000000000000000000) :
 Calls Tryz.prog 207 #[.string s,.string d,.bool lat] w fun e w'=>e=.returned (.tuple #[ji false (0),.int .i64 3])∧Below w.1.size w w':=by
 obtain⟨hne1,hne2⟩:=q8 h0;have hS:(xz lat).size=2:=by cases lat<;>rfl
 have HK:=fun W'=>hid (abg lat W')
 generalize xz lat=S at *;cases lat
 all_goals
  go_enter func207,ntmps207;have q0:(w.alloc (.cells #[.bool false,.int .i64 0] 42)).cell? ⟨w.1.size,0,none⟩=some (.bool false):=by simp[World.cell?_alloc_at]
  have q1:(w.alloc (.cells #[.bool false,.int .i64 0] 42)).cell? ⟨w.1.size,1,none⟩=some (.int .i64 0):=by simp[World.cell?_alloc_at]
  go_wp2_with fail;refine((HK _).out).mono ?_;rintro e w' ⟨rfl,rfl⟩;go_wp2_with fail;refine((HP _).out).mono ?_;rintro e w2 ⟨rfl,hb2⟩;obtain⟨c2,f2⟩:=qx hb2;have hz:=hb2.size;simp at hz;have hz1:w.1.size<w2.1.size:=by omega
  have b2:=hid (qb (qa w _) hb2);replace q0:=(c2 w.1.size 0 sm).trans q0;replace q1:=(c2 w.1.size 1 sm).trans q1;go_wp2_with fail;obtain⟨p0,p1⟩:=zi w2 w.1.size (.bool false) (.int .i64 (0)) _ _ q0 q1;refine bodyPost_ret (v:=.tuple #[ji false (0),.int .i64 3]) (by simp[results,results207,go_sem,p0,p1]) rfl ⟨rfl,?_⟩;exact(Below.setCell (Below.setCell b2.out (p:=⟨w.1.size,0,none⟩) (Nat.le_refl _) _) (p:=⟨w.1.size,1,none⟩) (Nat.le_refl _) _)
theorem aq8 (s d:ByteArray) (lat:Bool) (n:Int) (w:World) (h0:0<s.size) (HP:∀W',Hid (Calls Tryz.prog 223 #[.string s,.int .i64 (yp lat:Int),.int .i64 (yp lat:Int),.int .i64 5] W' fun e w'=>e=.returned (.tuple #[.int .i64 n,.bool true])∧Below W'.1.size W' w')) (k1:(d.toList==((xz lat).extract 0 1).toList)=true) (k2:(d.toList==((xz lat).extract 1 2).toList)=false) (hn0:0≤n) (hn:n≤2000000000000000000) (g:6000000≤n%10000000) :
 Calls Tryz.prog 207 #[.string s,.string d,.bool lat] w fun e w'=>e=.returned (.tuple #[ji false (0),.int .i64 5])∧Below w.1.size w w':=by
 obtain⟨hne1,hne2⟩:=q8 h0;have hS:(xz lat).size=2:=by cases lat<;>rfl
 have HK:=fun W'=>hid (abg lat W')
 generalize xz lat=S at *;cases lat
 all_goals
  go_enter func207,ntmps207;have q0:(w.alloc (.cells #[.bool false,.int .i64 0] 42)).cell? ⟨w.1.size,0,none⟩=some (.bool false):=by simp[World.cell?_alloc_at]
  have q1:(w.alloc (.cells #[.bool false,.int .i64 0] 42)).cell? ⟨w.1.size,1,none⟩=some (.int .i64 0):=by simp[World.cell?_alloc_at]
  go_wp2_with fail;refine((HK _).out).mono ?_;rintro e w' ⟨rfl,rfl⟩;go_wp2_with fail;refine((HP _).out).mono ?_;rintro e w2 ⟨rfl,hb2⟩;obtain⟨c2,f2⟩:=qx hb2;have hz:=hb2.size;simp at hz;have hz1:w.1.size<w2.1.size:=by omega
  have b2:=hid (qb (qa w _) hb2);replace q0:=(c2 w.1.size 0 sm).trans q0;replace q1:=(c2 w.1.size 1 sm).trans q1;go_wp2_with fail;obtain⟨p0,p1⟩:=zi w2 w.1.size (.bool false) (.int .i64 (0)) _ _ q0 q1;refine bodyPost_ret (v:=.tuple #[ji false (0),.int .i64 5]) (by simp[results,results207,go_sem,p0,p1]) rfl ⟨rfl,?_⟩;exact(Below.setCell (Below.setCell b2.out (p:=⟨w.1.size,0,none⟩) (Nat.le_refl _) _) (p:=⟨w.1.size,1,none⟩) (Nat.le_refl _) _)
theorem aq9 (s d:ByteArray) (lat:Bool) (n:Int) (w:World) (h0:0<s.size) (HP:∀W',Hid (Calls Tryz.prog 223 #[.string s,.int .i64 (yp lat:Int),.int .i64 (yp lat:Int),.int .i64 5] W' fun e w'=>e=.returned (.tuple #[.int .i64 n,.bool true])∧Below W'.1.size W' w')) (k1:(d.toList==((xz lat).extract 0 1).toList)=false) (k2:(d.toList==((xz lat).extract 1 2).toList)=true) (hn0:0≤n) (hn:n≤2000000000000000000) (g:6000000≤n%10000000) :
 Calls Tryz.prog 207 #[.string s,.string d,.bool lat] w fun e w'=>e=.returned (.tuple #[ji false (0),.int .i64 5])∧Below w.1.size w w':=by
 obtain⟨hne1,hne2⟩:=q8 h0;have hS:(xz lat).size=2:=by cases lat<;>rfl
 have HK:=fun W'=>hid (abg lat W')
 generalize xz lat=S at *;cases lat
 all_goals
  go_enter func207,ntmps207;have q0:(w.alloc (.cells #[.bool false,.int .i64 0] 42)).cell? ⟨w.1.size,0,none⟩=some (.bool false):=by simp[World.cell?_alloc_at]
  have q1:(w.alloc (.cells #[.bool false,.int .i64 0] 42)).cell? ⟨w.1.size,1,none⟩=some (.int .i64 0):=by simp[World.cell?_alloc_at]
  go_wp2_with fail;refine((HK _).out).mono ?_;rintro e w' ⟨rfl,rfl⟩;go_wp2_with fail;refine((HP _).out).mono ?_;rintro e w2 ⟨rfl,hb2⟩;obtain⟨c2,f2⟩:=qx hb2;have hz:=hb2.size;simp at hz;have hz1:w.1.size<w2.1.size:=by omega
  have b2:=hid (qb (qa w _) hb2);replace q0:=(c2 w.1.size 0 sm).trans q0;replace q1:=(c2 w.1.size 1 sm).trans q1;go_wp2_with fail;obtain⟨p0,p1⟩:=zi w2 w.1.size (.bool false) (.int .i64 (0)) _ _ q0 q1;refine bodyPost_ret (v:=.tuple #[ji false (0),.int .i64 5]) (by simp[results,results207,go_sem,p0,p1]) rfl ⟨rfl,?_⟩;exact(Below.setCell (Below.setCell b2.out (p:=⟨w.1.size,0,none⟩) (Nat.le_refl _) _) (p:=⟨w.1.size,1,none⟩) (Nat.le_refl _) _)
theorem ara (s d:ByteArray) (lat:Bool) (n:Int) (w:World) (h0:0<s.size) (HP:∀W',Hid (Calls Tryz.prog 223 #[.string s,.int .i64 (yp lat:Int),.int .i64 (yp lat:Int),.int .i64 5] W' fun e w'=>e=.returned (.tuple #[.int .i64 n,.bool true])∧Below W'.1.size W' w')) (k1:(d.toList==((xz lat).extract 0 1).toList)=true) (k2:(d.toList==((xz lat).extract 1 2).toList)=false) (hn0:0≤n) (hn:n≤2000000000000000000) (g:n%10000000<6000000) (g2:ao9 lat<n / 10000000*6000000+n%10000000) :
 Calls Tryz.prog 207 #[.string s,.string d,.bool lat] w fun e w'=>e=.returned (.tuple #[ji false (0),.int .i64 5])∧Below w.1.size w w':=by
 obtain⟨hne1,hne2⟩:=q8 h0;have hS:(xz lat).size=2:=by cases lat<;>rfl
 have HK:=fun W'=>hid (abg lat W')
 generalize xz lat=S at *;cases lat
 all_goals
  have g2':=g2;unfold ao9 at g2';simp at g2';clear g2;go_enter func207,ntmps207;have q0:(w.alloc (.cells #[.bool false,.int .i64 0] 42)).cell? ⟨w.1.size,0,none⟩=some (.bool false):=by simp[World.cell?_alloc_at]
  have q1:(w.alloc (.cells #[.bool false,.int .i64 0] 42)).cell? ⟨w.1.size,1,none⟩=some (.int .i64 0):=by simp[World.cell?_alloc_at]
  go_wp2_with fail;refine((HK _).out).mono ?_;rintro e w' ⟨rfl,rfl⟩;go_wp2_with fail;refine((HP _).out).mono ?_;rintro e w2 ⟨rfl,hb2⟩;obtain⟨c2,f2⟩:=qx hb2;have hz:=hb2.size;simp at hz;have hz1:w.1.size<w2.1.size:=by omega
  have b2:=hid (qb (qa w _) hb2);replace q0:=(c2 w.1.size 0 sm).trans q0;replace q1:=(c2 w.1.size 1 sm).trans q1;go_wp2_with fail;obtain⟨p0,p1⟩:=zi w2 w.1.size (.bool false) (.int .i64 (0)) _ _ q0 q1;refine bodyPost_ret (v:=.tuple #[ji false (0),.int .i64 5]) (by simp[results,results207,go_sem,p0,p1]) rfl ⟨rfl,?_⟩;exact(Below.setCell (Below.setCell b2.out (p:=⟨w.1.size,0,none⟩) (Nat.le_refl _) _) (p:=⟨w.1.size,1,none⟩) (Nat.le_refl _) _)
theorem arb (s d:ByteArray) (lat:Bool) (n:Int) (w:World) (h0:0<s.size) (HP:∀W',Hid (Calls Tryz.prog 223 #[.string s,.int .i64 (yp lat:Int),.int .i64 (yp lat:Int),.int .i64 5] W' fun e w'=>e=.returned (.tuple #[.int .i64 n,.bool true])∧Below W'.1.size W' w')) (k1:(d.toList==((xz lat).extract 0 1).toList)=false) (k2:(d.toList==((xz lat).extract 1 2).toList)=true) (hn0:0≤n) (hn:n≤2000000000000000000) (g:n%10000000<6000000) (g2:ao9 lat<n / 10000000*6000000+n%10000000) :
 Calls Tryz.prog 207 #[.string s,.string d,.bool lat] w fun e w'=>e=.returned (.tuple #[ji false (0),.int .i64 5])∧Below w.1.size w w':=by
 obtain⟨hne1,hne2⟩:=q8 h0;have hS:(xz lat).size=2:=by cases lat<;>rfl
 have HK:=fun W'=>hid (abg lat W')
 generalize xz lat=S at *;cases lat
 all_goals
  have g2':=g2;unfold ao9 at g2';simp at g2';clear g2;go_enter func207,ntmps207;have q0:(w.alloc (.cells #[.bool false,.int .i64 0] 42)).cell? ⟨w.1.size,0,none⟩=some (.bool false):=by simp[World.cell?_alloc_at]
  have q1:(w.alloc (.cells #[.bool false,.int .i64 0] 42)).cell? ⟨w.1.size,1,none⟩=some (.int .i64 0):=by simp[World.cell?_alloc_at]
  go_wp2_with fail;refine((HK _).out).mono ?_;rintro e w' ⟨rfl,rfl⟩;go_wp2_with fail;refine((HP _).out).mono ?_;rintro e w2 ⟨rfl,hb2⟩;obtain⟨c2,f2⟩:=qx hb2;have hz:=hb2.size;simp at hz;have hz1:w.1.size<w2.1.size:=by omega
  have b2:=hid (qb (qa w _) hb2);replace q0:=(c2 w.1.size 0 sm).trans q0;replace q1:=(c2 w.1.size 1 sm).trans q1;go_wp2_with fail;obtain⟨p0,p1⟩:=zi w2 w.1.size (.bool false) (.int .i64 (0)) _ _ q0 q1;refine bodyPost_ret (v:=.tuple #[ji false (0),.int .i64 5]) (by simp[results,results207,go_sem,p0,p1]) rfl ⟨rfl,?_⟩;exact(Below.setCell (Below.setCell b2.out (p:=⟨w.1.size,0,none⟩) (Nat.le_refl _) _) (p:=⟨w.1.size,1,none⟩) (Nat.le_refl _) _)
theorem an2 (s d:ByteArray) (lat:Bool) (n:Int) (w:World) (h0:0<s.size) (HP:∀W',Hid (Calls Tryz.prog 223 #[.string s,.int .i64 (yp lat:Int),.int .i64 (yp lat:Int),.int .i64 5] W' fun e w'=>e=.returned (.tuple #[.int .i64 n,.bool true])∧Below W'.1.size W' w')) (k1:(d.toList==((xz lat).extract 0 1).toList)=true) (k2:(d.toList==((xz lat).extract 1 2).toList)=false) (hn0:0≤n) (hn:n≤2000000000000000000) (g:n%10000000<6000000) (g2:n / 10000000*6000000+n%10000000≤ao9 lat) :
 Calls Tryz.prog 207 #[.string s,.string d,.bool lat] w fun e w'=>e=.returned (.tuple #[ji true (n / 10000000*6000000+n%10000000),.int .i64 0])∧Below w.1.size w w':=by
 obtain⟨hne1,hne2⟩:=q8 h0;have hS:(xz lat).size=2:=by cases lat<;>rfl
 have HK:=fun W'=>hid (abg lat W')
 generalize xz lat=S at *;cases lat
 all_goals
  have g2':=g2;unfold ao9 at g2';simp at g2';clear g2;go_enter func207,ntmps207;have q0:(w.alloc (.cells #[.bool false,.int .i64 0] 42)).cell? ⟨w.1.size,0,none⟩=some (.bool false):=by simp[World.cell?_alloc_at]
  have q1:(w.alloc (.cells #[.bool false,.int .i64 0] 42)).cell? ⟨w.1.size,1,none⟩=some (.int .i64 0):=by simp[World.cell?_alloc_at]
  go_wp2_with fail;refine((HK _).out).mono ?_;rintro e w' ⟨rfl,rfl⟩;go_wp2_with fail;refine((HP _).out).mono ?_;rintro e w2 ⟨rfl,hb2⟩;obtain⟨c2,f2⟩:=qx hb2;have hz:=hb2.size;simp at hz;have hz1:w.1.size<w2.1.size:=by omega
  have b2:=hid (qb (qa w _) hb2);replace q0:=(c2 w.1.size 0 sm).trans q0;replace q1:=(c2 w.1.size 1 sm).trans q1;go_wp2_with fail;obtain⟨p0,p1⟩:=zi w2 w.1.size (.bool true) (.int .i64 (n / 10000000*6000000+n%10000000)) _ _ q0 q1;refine bodyPost_ret (v:=.tuple #[ji true (n / 10000000*6000000+n%10000000),.int .i64 0]) (by simp[results,results207,go_sem,p0,p1]) rfl ⟨rfl,?_⟩;exact(Below.setCell (Below.setCell b2.out (p:=⟨w.1.size,0,none⟩) (Nat.le_refl _) _) (p:=⟨w.1.size,1,none⟩) (Nat.le_refl _) _)
theorem an3 (s d:ByteArray) (lat:Bool) (n:Int) (w:World) (h0:0<s.size) (HP:∀W',Hid (Calls Tryz.prog 223 #[.string s,.int .i64 (yp lat:Int),.int .i64 (yp lat:Int),.int .i64 5] W' fun e w'=>e=.returned (.tuple #[.int .i64 n,.bool true])∧Below W'.1.size W' w')) (k1:(d.toList==((xz lat).extract 0 1).toList)=false) (k2:(d.toList==((xz lat).extract 1 2).toList)=true) (hn0:0≤n) (hn:n≤2000000000000000000) (g:n%10000000<6000000) (g2:n / 10000000*6000000+n%10000000≤ao9 lat) :
 Calls Tryz.prog 207 #[.string s,.string d,.bool lat] w fun e w'=>e=.returned (.tuple #[ji true (-(n / 10000000*6000000+n%10000000)),.int .i64 0])∧Below w.1.size w w':=by
 obtain⟨hne1,hne2⟩:=q8 h0;have hS:(xz lat).size=2:=by cases lat<;>rfl
 have HK:=fun W'=>hid (abg lat W')
 generalize xz lat=S at *;cases lat
 all_goals
  have g2':=g2;unfold ao9 at g2';simp at g2';clear g2;go_enter func207,ntmps207;have q0:(w.alloc (.cells #[.bool false,.int .i64 0] 42)).cell? ⟨w.1.size,0,none⟩=some (.bool false):=by simp[World.cell?_alloc_at]
  have q1:(w.alloc (.cells #[.bool false,.int .i64 0] 42)).cell? ⟨w.1.size,1,none⟩=some (.int .i64 0):=by simp[World.cell?_alloc_at]
  go_wp2_with fail;refine((HK _).out).mono ?_;rintro e w' ⟨rfl,rfl⟩;go_wp2_with fail;refine((HP _).out).mono ?_;rintro e w2 ⟨rfl,hb2⟩;obtain⟨c2,f2⟩:=qx hb2;have hz:=hb2.size;simp at hz;have hz1:w.1.size<w2.1.size:=by omega
  have b2:=hid (qb (qa w _) hb2);replace q0:=(c2 w.1.size 0 sm).trans q0;replace q1:=(c2 w.1.size 1 sm).trans q1;go_wp2_with fail;obtain⟨p0,p1⟩:=zi w2 w.1.size (.bool true) (.int .i64 (-(n / 10000000*6000000+n%10000000))) _ _ q0 q1;refine bodyPost_ret (v:=.tuple #[ji true (-(n / 10000000*6000000+n%10000000)),.int .i64 0]) (by simp[results,results207,go_sem,p0,p1]) rfl ⟨rfl,?_⟩;exact(Below.setCell (Below.setCell b2.out (p:=⟨w.1.size,0,none⟩) (Nat.le_refl _) _) (p:=⟨w.1.size,1,none⟩) (Nat.le_refl _) _)
theorem asi (f g:ByteArray):(f.toList==g.toList)=decide (f=g):=by
 rw[ByteArray.toList_eq,ByteArray.toList_eq]
 by_cases h:f=g
 ·subst h;simp
 ·rw[decide_eq_false h,beq_eq_false_iff_ne];intro k;exact h (ByteArray.ext (by simpa using k))
def aa0 (l:List UInt8) (d:ByteArray) (lat:Bool):Bool×Int×Int:=
 if l=[]∧d.data.toList=[]then(false,0,0)
 else match yh l (yp lat) (yp lat) 5 with
 | none=>(false,0,3)
 | some n=>if d≠aix lat false∧d≠aix lat true then(false,0,3)
  else if 6000000≤n%10000000∨ao9 lat<((n / 10000000*6000000+n%10000000:Nat):Int)then(false,0,5)
  else(true,(if d=aix lat true then -((n / 10000000*6000000+n%10000000:Nat):Int)else((n / 10000000*6000000+n%10000000:Nat):Int)),0)
theorem bet (lat:Bool):aix lat false≠aix lat true:=by cases lat<;>decide
theorem apr (k m f:Nat) (hk:1≤k):yh [] k m f=none:=by
 unfold yh;rw[if_pos (.inl (by show 0<k;omega))]
theorem am0 (s d:ByteArray) (lat:Bool) (w:World) (hs:s.size≤1000000) :
 Calls Tryz.prog 207 #[.string s,.string d,.bool lat] w fun e w'=>e=.returned (.tuple #[ji (aa0 s.data.toList d lat).1 (aa0 s.data.toList d lat).2.1,.int .i64 (aa0 s.data.toList d lat).2.2])∧Below w.1.size w w':=by
 unfold aa0;have hw:1≤yp lat∧yp lat≤5:=by unfold yp;split<;>omega
 by_cases h0:s.data.toList=[]∧d.data.toList=[]
 ·rw[if_pos h0];exact am1 s d lat w (adv h0.1) (adv h0.2)
 rw[if_neg h0];have HP:=fun W'=>hid (alm s (yp lat) (yp lat) 5 W' hs om om)
 by_cases hn:s.data.toList=[]
 ·have hd:d.data.toList≠[]:=fun k=>h0 ⟨hn,k⟩
  rw[hn,apr _ _ _ hw.1]at HP;rw[hn,apr _ _ _ hw.1];exact am2 s d lat 0 w (adv hn) (aqi hd) HP
 have hp:=aqi hn;cases hq:yh s.data.toList (yp lat) (yp lat) 5 with
 | none=>
  simp only[hq]at HP;exact an1 s d lat 0 w hp HP
 | some n=>
  simp only[hq]at HP;have hle:=alk hq om;have k1:=asi d ((xz lat).extract 0 1);have k2:=asi d ((xz lat).extract 1 2);rw[aea]at k1;rw[adu]at k2;rw[← aea]at k1;rw[← adu]at k2;have hx:((n / 10000000*6000000+n%10000000:Nat):Int)=(n:Int) / 10000000*6000000 +(n:Int)%10000000:=by omega
  have hm:((n%10000000:Nat):Int)=(n:Int)%10000000:=by omega
  dsimp only
  by_cases hN:d=aix lat false
  ·have hS:d≠aix lat true:=fun k=>bet lat (hN.symm.trans k)
   rw[if_neg (fun k=>k.1 hN)];rw[decide_eq_true (by rw[aea];exact hN)]at k1;rw[decide_eq_false (by rw[adu];exact hS)]at k2
   by_cases g:6000000≤n%10000000
   ·rw[if_pos (.inl g)];exact aq8 s d lat n w hp HP k1 k2 om om om
   by_cases g2:ao9 lat<((n / 10000000*6000000+n%10000000:Nat):Int)
   ·rw[if_pos (.inr g2)];exact ara s d lat n w hp HP k1 k2 om om om om
   rw[if_neg om,if_neg hS,hx];exact an2 s d lat n w hp HP k1 k2 om om om om
  rw[decide_eq_false (by rw[aea];exact hN)]at k1
  by_cases hS:d=aix lat true
  ·rw[if_neg (fun k=>k.2 hS)];rw[decide_eq_true (by rw[adu];exact hS)]at k2
   by_cases g:6000000≤n%10000000
   ·rw[if_pos (.inl g)];exact aq9 s d lat n w hp HP k1 k2 om om om
   by_cases g2:ao9 lat<((n / 10000000*6000000+n%10000000:Nat):Int)
   ·rw[if_pos (.inr g2)];exact arb s d lat n w hp HP k1 k2 om om om om
   rw[if_neg om,if_pos hS,hx];exact an3 s d lat n w hp HP k1 k2 om om om om
  ·rw[if_pos ⟨hN,hS⟩];rw[decide_eq_false (by rw[adu];exact hS)]at k2;exact an4 s d lat n w hp HP k1 k2 om om
structure Frm (g:Nat) (v:Value) (w w':World):Prop where
 os:w'.os=w.os
 tape:w'.tape=w.tape
 output:w'.output=w.output
 size:w.1.size≤w'.1.size
 block:∀k,k<w.1.size→k≠g→v.ownBlock≠some k→w'.heap[k]?=w.heap[k]?
theorem Frm.of_below {g:Nat} {v:Value} {w w':World} (h:Below w.1.size w w'):Frm g v w w':=⟨h.os,h.tape,h.output,h.size,fun k hk _ _=>h.block k hk⟩
theorem Frm.set {g:Nat} {v:Value} {w w':World} (h:Frm g v w w') (o:Nat) (u:Value):Frm g v w (w'.setCell ⟨g,o,none⟩ u):=
 ⟨h.os,h.tape,h.output,by simpa using h.size,fun k hk h1 h2=>(Below.heap_setCell _ _ _ _ h1).trans (h.block k hk h1 h2)⟩
theorem Frm.then_below {g:Nat} {v:Value} {w w1 w2:World} (h:Frm g v w w1) (hb:Below w1.1.size w1 w2):Frm g v w w2:=
 ⟨hb.os.trans h.os,hb.tape.trans h.tape,hb.output.trans h.output,Nat.le_trans h.size hb.size,fun k hk h1 h2=>(hb.block k (Nat.lt_of_lt_of_le hk h.size)).trans (h.block k hk h1 h2)⟩
def bk3 (w:World) (v v':Value):Prop:=v'.ownBlock=v.ownBlock∨∀k,v'.ownBlock=some k→w.1.size≤k
theorem Frm.trans {g:Nat} {v v':Value} {w w1 w2:World} (h:Frm g v w w1) (k:Frm g v' w1 w2) (hm:bk3 w v v'):Frm g v w w2:=
 ⟨k.os.trans h.os,k.tape.trans h.tape,k.output.trans h.output,Nat.le_trans h.size k.size,fun i hi h1 h2=>(k.block i (Nat.lt_of_lt_of_le hi h.size) h1 (by
  rcases hm with hm|hm
  ·rw[hm];exact h2
  ·intro e;have:=hm i e;omega)).trans (h.block i hi h1 h2)⟩
theorem Frm.cell {g:Nat} {v:Value} {w w':World} (h:Frm g v w w') {b o:Nat} (hb:b<w.1.size) (h1:b≠g) (h2:v.ownBlock≠some b):w'.cell? ⟨b,o,none⟩=w.cell? ⟨b,o,none⟩:=World.cell?_of_block (a:=⟨b,o,none⟩) (h.block b hb h1 h2)
theorem Frm.below {g B:Nat} {v:Value} {w w':World} (h:Frm g v w w') (hg:B≤g) (hv:∀k,v.ownBlock=some k→B≤k) (hB:B≤w.1.size):Below B w w':=
 ⟨h.os,h.tape,h.output,h.size,fun k hk=>h.block k om om (fun e=>by have:=hv k e;omega)⟩
def aaq (e E:Int):Int:=if e=0 then E else e
theorem azj (g:Nat) (e E:Int) (w:World) (h1:w.cell? ⟨g,1,none⟩=some (.int .i64 e)) (hf:w.frozen? ⟨g,1,none⟩=false) :
 Calls Tryz.prog 208 #[.pointer (some ⟨g,0,none⟩),.int .i64 E] w fun r w'=>r=.returned (.tuple #[])∧w'=if e=0 then w.setCell ⟨g,1,none⟩ (.int .i64 E)else w:=by
 by_cases h:e=0
 ·subst h;go_enter func208,ntmps208;go_wp2
  go_end0
  exact⟨rfl,rfl⟩
 ·have hne:(e==0)=false:=by rw[beq_eq_false_iff_ne];exact h
  rw[if_neg h];clear h;go_enter func208,ntmps208;go_wp2
  go_end0
  exact⟨rfl,rfl⟩
theorem bav:(Tryz.prog.info? 9).map (fun i=>(i.zero,i.size,i.bytes))=some (some (.string ByteArray.empty),1,16):=by kernel_rfl
theorem amj {P:Program} {t:TypeId} {z:Value} {s b:Nat} (h:(P.info? t).map (fun i=>(i.zero,i.size,i.bytes))=some (some z,s,b)):∃i,P.info? t=some i∧i.zero=some z∧i.size=s∧i.bytes=b:=by
 cases hi:P.info? t with
 | none=>rw[hi]at h;cases h
 | some i=>
  rw[hi]at h;injection h with h
  injection h with h1 h2
  injection h2 with h2 h3
  exact⟨i,rfl,h1,h2,h3⟩
theorem awm {w:World} {B:Nat} {e:TypeId} {A:Option Addr} {n c:Nat} {fs:List ByteArray} (h:w.ownsRow B e 1 (.slice A n c) n (fs.map Value.string)):fs.length=n∧vg w w.1.size A fs∧aag B A:=by
 have hl:fs.length=n:=by have:=h.1;simpa using this
 refine⟨hl,?_,fun a ha=>?_⟩
 ·intro k hk;rcases h.2 with⟨hv,h0⟩|⟨g,cap,cur,hv,_,hg,_⟩
  ·omega
  ·have hA:A=some ⟨g,0,none⟩:=by injection hv
   subst hA;have hc:=h.cells (g:=g) rfl k (.string fs[k]) (by simp[hk])
   exact⟨g,0,rfl,(Array.getElem?_eq_some_iff.1 hg).1,by
    have:(⟨g,0,none⟩:Addr).add k=⟨g,0+k,none⟩:=by unfold Addr.add;split<;>simp_all
    rw[← this];exact hc⟩
 ·rcases h.2 with⟨hv,h0⟩|⟨g,cap,cur,hv,hb,hg,_⟩
  ·have hA:A=none:=by injection hv
   rw[hA]at ha;cases ha
  ·have hA:A=some ⟨g,0,none⟩:=by injection hv
   rw[hA]at ha;injection ha with ha
   rw[← ha];exact hb
theorem a9d {w:World} {B:Nat} {e:TypeId} {size n:Nat} {v:Value} {xs:List Value} (h:w.ownsRow B e size v n xs):∃A c,v=.slice A n c:=by
 rcases h.2 with⟨hv,h0⟩|⟨g,cap,cur,hv,_⟩
 ·exact⟨none,0,by rw[hv,h0]⟩
 ·exact⟨_,_,hv⟩
theorem bci (f:Nat):∀n l,∀c∈afk f n l,isD c=true:=by
 induction f with
 | zero=>intro n l c h;simp[afk]at h
 | succ f ih=>
  intro n l c h;unfold afk at h
  split at h
  ·rcases List.mem_append.1 h with h|h
   ·exact ih _ _ c h
   ·have:c=UInt8.ofNat (48+n%10):=by simpa using h
    subst this;refine decide_eq_true ?_;simp;omega
  ·simp at h
theorem bcj (f:Nat):∀n l,n<10^f→yn (afk f n l)=n:=by
 induction f with
 | zero => intro n l h;have:n<1:=h;have:n=0:=by omega
           subst this;rfl
 | succ f ih=>
  intro n l h;unfold afk
  split
  ·rw[aib,ih _ _ (by rw[Nat.pow_succ]at h;omega)];simp;omega
  ·have:n=0:=by omega
   subst this;rfl
theorem bgh (f:Nat):∀n l,l≤f→l ≤(afk f n l).length:=by
 induction f with
 | zero=>intro n l h;omega
 | succ f ih=>
  intro n l h;unfold afk
  split
  ·have:=ih (n / 10) (l-1) om;simp;omega
  ·simp;omega
theorem bgi (f:Nat):∀n l k,n<10^k→l≤k →(afk f n l).length≤k:=by
 induction f with
 | zero=>intro n l k _ _;simp[afk]
 | succ f ih=>
  intro n l k h1 h2;unfold afk
  split
  ·rename_i h;cases k with
   | zero=>have:n<1:=h1;omega
   | succ k=>
    have:=ih (n / 10) (l-1) k (by rw[Nat.pow_succ]at h1;omega) om;simp;omega
  ·simp
theorem bk9 {n:Nat} (h:n≤1000000000000000000):n<10^20:=by
 have:(10:Nat)^20=100000000000000000000:=by decide
 omega
theorem aye (n l:Nat):∀c∈afl n l,isD c=true:=bci 20 n l
theorem ayf {n l:Nat} (h:n≤1000000000000000000):yn (afl n l)=n:=bcj 20 n l (bk9 h)
theorem a6r {n l:Nat} (h:l≤20):l ≤(afl n l).length:=bgh 20 n l h
theorem ann {n l k:Nat} (h:n<10^k) (hl:l≤k):(afl n l).length≤k:=bgi 20 n l k h hl
theorem a6q {n l:Nat} (h:n<10^l) (hl:l≤20):(afl n l).length=l:=Nat.le_antisymm (ann h (Nat.le_refl _)) (a6r hl)
theorem atr (f:Nat):∀r,0<r→r<10^f→f≤18→∃r' k,r=r'*10^k∧k<f∧r'%10≠0∧Lib.trimRightB (46::afl r f) 48=46::afl r' (f-k):=by
 induction f with
 | zero=>intro r h1 h2 _;have:r<1:=h2;omega
 | succ f ih=>
  intro r h1 h2 h3
  have hm:r≤1000000000000000000:=by
   have h4:(10:Nat)^(f+1)≤10^18:=Nat.pow_le_pow_right dc h3;have e:(10:Nat)^18=1000000000000000000:=by decide
   omega
  by_cases h:r%10=0
  ·rw[ba8 r (f+1) h1 h hm h3,Nat.add_sub_cancel];obtain⟨r',k,e1,e2,e3,e4⟩:=ih (r / 10) om (by rw[Nat.pow_succ]at h2;omega) om;refine⟨r',k+1,?_,by omega,e3,?_⟩
   ·rw[Nat.pow_succ,← Nat.mul_assoc,← e1];omega
   ·rw[e4,show f+1-(k+1)=f-k from by omega]
  ·exact⟨r,0,by simp,by omega,h,ba9 r (f+1) h1 h hm h3⟩
theorem be2 {r' k v j:Nat} (h:r'*10^k=v*10^j) (hr:r'%10≠0):j≤k:=by
 rcases Nat.lt_or_ge k j with h1|h1
 ·exfalso
  obtain⟨d,rfl⟩:∃d,j=k +(d+1):=⟨j-k-1,by omega⟩
  have e1:r'=v*10^(d+1):=by
   have:r'*10^k=v*10^(d+1)*10^k:=by rw[h,Nat.pow_add,Nat.mul_assoc,Nat.mul_comm (10^k)]
   exact Nat.eq_of_mul_eq_mul_right (Nat.pow_pos dc) this
  rw[Nat.pow_succ,← Nat.mul_assoc]at e1;omega
 ·exact h1
theorem aoz {A T:List UInt8} (hA:∀c∈A,isD c=true) (hT:∀c,T.head?=some c→isD c=false):jl (A++T)=A.length:=by
 unfold jl;rw[List.takeWhile_append_of_pos hA]
 have:T.takeWhile isD=[]:=by
  cases T with
  | nil=>rfl
  | cons c T=>rw[List.takeWhile_cons_of_neg (by rw[hT c rfl];decide)]
 rw[this,List.append_nil]
theorem ax4 {B:List UInt8} (hB:∀c∈B,isD c=true):jl B=B.length:=by
 have:=aoz (T:=[]) hB (fun c h=>by simp at h)
 rwa [List.append_nil]at this
def aj1 (l:List UInt8) (a m f n:Nat):Prop:=
 ∃A T,l=A++T ∧(∀c∈A,isD c=true)∧a≤A.length∧A.length≤m ∧
  (T=[]∧n=yn A*10^f∨∃B,T=46::B ∧(∀c∈B,isD c=true)∧1≤B.length∧B.length≤f∧n=yn A*10^f+yn B*10^(f-B.length))
theorem atc {l:List UInt8} {a m f n:Nat} (h:aj1 l a m f n):yh l a m f=some n:=by
 obtain⟨A,T,rfl,hA,h1,h2,h3⟩:=h;rcases h3 with⟨rfl,rfl⟩|⟨B,rfl,hB,h4,h5,rfl⟩
 ·rw[List.append_nil];unfold yh;rw[ax4 hA,if_neg om,if_pos rfl]
 ·have hc:=aoz (T:=46::B) hA (fun c h=>by
   have:c=46:=by simpa using h.symm
   subst this;decide)
  have hd:(A++46::B).drop (A.length+1)=B:=by
   rw[← List.drop_drop,List.drop_left];rfl
  unfold yh;have g:(A++46::B)[A.length]?=some 46:=by simp
  have g2:(A++46::B).length=A.length+1+B.length:=by simp;omega
  rw[hc,hd,ax4 hB,if_neg om,if_neg om,if_neg (by
   intro k;rcases k with k|k|k|k
   ·exact k g
   ·omega
   ·omega
   ·exact k g2.symm)]
  rw[List.take_left]
theorem a4i {l:List UInt8} {a m f n:Nat} (h:yh l a m f=some n):aj1 l a m f n:=by
 unfold yh at h;have hA:=abr l
 split at h
 ·cases h
 rename_i g1
 split at h
 ·rename_i g2;injection h with h
  rw[g2,List.take_length]at hA;exact⟨l,[],by simp,hA,by omega,by omega,.inl ⟨rfl,h.symm⟩⟩
 rename_i g2
 split at h
 ·cases h
 rename_i g3;injection h with h
 have hle:=anl l;have g4:l[jl l]?=some 46:=Classical.not_not.1 fun k=>g3 (.inl k)
 have hB:=abr (l.drop (jl l+1));have e1:jl (l.drop (jl l+1))=(l.drop (jl l+1)).length:=by rw[List.length_drop];omega
 rw[e1,List.take_length]at hB;refine⟨l.take (jl l),l.drop (jl l),(List.take_append_drop _ _).symm,hA,by rw[List.length_take];omega,by rw[List.length_take];omega,.inr ⟨l.drop (jl l+1),?_,hB,by omega,by omega,by rw[← e1];exact h.symm⟩⟩;have hlt:jl l<l.length:=by omega
 rw[List.drop_eq_getElem_cons hlt];rw[List.getElem?_eq_getElem hlt]at g4;injection g4 with g4
 rw[g4]
theorem a5m (r f:Nat) (hr:r<10^f) (hf:f≤18):aqr r f=[]∧r=0∨∃B,aqr r f=46::B ∧(∀c∈B,isD c=true)∧1≤B.length∧B.length≤f∧yn B*10^(f-B.length)=r:=by
 unfold aqr
 by_cases h0:r=0
 ·rw[if_pos h0];exact .inl ⟨rfl,h0⟩
 ·rw[if_neg h0];obtain⟨r',k,e1,e2,e3,e4⟩:=atr f r om hr hf
  have hr':r'<10^(f-k):=by
   rw[e1,show f=(f-k)+k from by omega,Nat.pow_add]at hr;exact Nat.lt_of_mul_lt_mul_right (a:=10^k) hr
  have hm:r'≤1000000000000000000:=by
   have h4:(10:Nat)^(f-k)≤10^18:=Nat.pow_le_pow_right dc om;have e:(10:Nat)^18=1000000000000000000:=by decide
   omega
  have hl:(afl r' (f-k)).length=f-k:=a6q hr' om;refine .inr ⟨afl r' (f-k),e4,aye _ _,by omega,by omega,?_⟩;rw[hl,ayf hm,show f-(f-k)=k from by omega,e1]
theorem a08 (v j f:Nat) (h:v*10^j<10^f) (hf:f≤18) (hj:j≤f):(aqr (v*10^j) f).length≤1 +(f-j):=by
 unfold aqr
 by_cases h0:v*10^j=0
 ·rw[if_pos h0];simp
 ·rw[if_neg h0];obtain⟨r',k,e1,e2,e3,e4⟩:=atr f _ om h hf;have hk:=be2 e1.symm e3
  have hr':r'<10^(f-k):=by
   rw[e1,show f=(f-k)+k from by omega,Nat.pow_add]at h;exact Nat.lt_of_mul_lt_mul_right (a:=10^k) h
  rw[e4,List.length_cons,a6q hr' om];omega
theorem amo (n w m f:Nat) (hn:n<10^(m+f)) (hmf:m+f≤18) (hw:1≤w) (hwm:w≤m):aj1 (ajk n w f) 1 m f n:=by
 have hn2:n≤1000000000000000000:=by
  have h4:(10:Nat)^(m+f)≤10^18:=Nat.pow_le_pow_right dc om;have e:(10:Nat)^18=1000000000000000000:=by decide
  omega
 have hq:n / 10^f<10^m:=by
  rw[Nat.pow_add]at hn;exact Nat.div_lt_of_lt_mul (by rwa [Nat.mul_comm])
 have hq2:n / 10^f≤1000000000000000000:=Nat.le_trans (Nat.div_le_self _ _) hn2;have hr:n%10^f<10^f:=Nat.mod_lt _ (Nat.pow_pos dc);have hdm:n / 10^f*10^f+n%10^f=n:=by rw[Nat.mul_comm];exact Nat.div_add_mod n (10^f)
 refine⟨afl (n / 10^f) w,aqr (n%10^f) f,rfl,aye _ _,Nat.le_trans hw (a6r om),ann hq hwm,?_⟩;rw[ayf hq2];rcases a5m (n%10^f) f hr om with⟨h1,h2⟩|⟨B,h1,h2,h3,h4,h5⟩
 ·exact .inl ⟨h1,by omega⟩
 ·exact .inr ⟨B,h1,h2,h3,h4,by omega⟩
theorem asj (l:List UInt8):aif (45::l)=true∧aeq (45::l)=l:=⟨rfl,rfl⟩
theorem a7w {l:List UInt8} {a m f n:Nat} (h:aj1 l a m f n) (ha:1≤a):aif l=false∧aeq l=l∧l≠[]:=by
 obtain⟨A,T,rfl,hA,h1,-⟩:=h;cases A with
 | nil=>simp at h1;omega
 | cons c A=>
  have hc:=of_decide_eq_true (hA c sm)
  have:aif (c::A++T)=false:=by
   show (some c==some 45)=false;have:c≠45:=by rintro rfl;exact absurd hc dc
   simpa using this
  refine⟨this,?_,by simp⟩;unfold aeq;rw[this];rfl
theorem az4 {W M F L H:Int} (h:abb W M F L H=true):∃w m f:Nat,W=(w:Int)∧M=(m:Int)∧F=(f:Int)∧1≤w∧w≤m∧m≤12∧f≤6∧-j9 (m+f)<L∧H<j9 (m+f):=by
 have h:=of_decide_eq_true h;refine⟨W.toNat,M.toNat,F.toNat,by omega,by omega,by omega,by omega,by omega,by omega,by omega,?_⟩;rw[show M.toNat+F.toNat=(M+F).toNat from by omega];exact⟨h.2.2.2.2.2.2.1,h.2.2.2.2.2.2.2⟩
theorem bed {b:Bool} {n W M F L H:Int} (h:(avh b n W M F L H).2=0):jt (avh b n W M F L H).1.data.toList W M F L H=(b,n,0):=by
 unfold avh at h ⊢
 by_cases hr:abb W M F L H=false
 ·rw[if_pos hr]at h;exact absurd h dc
 rw[if_neg hr]at h ⊢
 by_cases hf:aar b n L H=false
 ·rw[if_pos hf]at h;exact absurd h dc
 rw[if_neg hf]at h ⊢;cases b with
 | false=>
  rw[if_pos rfl]
  have:n=0:=by
   unfold aar at hf
   simpa using hf
  subst this;unfold jt;rw[if_neg hr];rfl
 | true=>
  rw[if_neg dc];have hfit:aar true n L H=true:=by simpa using hf
  have hb:=apa hfit;obtain⟨w,m,f,rfl,rfl,rfl,h1,h2,h3,h4,h5,h6⟩:=az4 (by simpa using hr)
  have hx:n.natAbs<10^(m+f):=by
   rw[jx]at h5 h6;omega
  by_cases hn:n<0
  ·rw[if_pos hn];have ht:=amo n.natAbs w m f hx om h1 h2;have hp:=atc ht;show jt (toB (45::ajk (-n).toNat w f)).data.toList w m f L H=_;rw[a1m,show (-n).toNat=n.natAbs from by omega];unfold jt;rw[if_neg hr,if_neg sm,(asj _).1,(asj _).2,Int.toNat_natCast,Int.toNat_natCast,hp];simp only[if_true];rw[show -((n.natAbs:Nat):Int)=n from by omega,hfit];rfl
  ·rw[if_neg hn];have ht:=amo n.natAbs w m f hx om h1 h2;have hp:=atc ht;obtain⟨k1,k2,k3⟩:=a7w ht (Nat.le_refl _);show jt (toB (ajk n.toNat w f)).data.toList w m f L H=_;rw[a1m,show n.toNat=n.natAbs from by omega];unfold jt;rw[if_neg hr,if_neg k3,k1,k2,Int.toNat_natCast,Int.toNat_natCast,hp];simp only[Bool.false_eq_true,if_false];rw[show ((n.natAbs:Nat):Int)=n from by omega,hfit];rfl
end Go.Proofs.YtdkhlkfleggbaaaGreat
