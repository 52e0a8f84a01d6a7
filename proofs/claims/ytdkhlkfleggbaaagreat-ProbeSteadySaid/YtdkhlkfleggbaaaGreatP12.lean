/- Layer 23: the program's TakeAngle, case by case. -/
import Derived.Test.YtdkhlkfleggbaaaGreatP11
import Derived.Deep.QuietTactic
import Derived.OwnWalk
import Derived.Deep.AppendLies
import Derived.KernelRfl
namespace Go.Proofs.YtdkhlkfleggbaaaGreat
set_option maxHeartbeats 2000000
set_option maxRecDepth 8000
open Lib (hid)
set_option linter.unusedVariables false
open Go.RowKit
def yc (lat:Bool):Nat:=if lat then 4 else 5
theorem alx (s d:ByteArray) (lat:Bool) (w:World) (h0:s.size=0) (h1:d.size=0) :
 Calls Tryz.prog 207 #[.string s,.string d,.bool lat] w fun e w'=>e=.returned (.tuple #[jb false (0),.int .i64 0])∧Below w.heap.size w w':=by
 obtain rfl:s=⟨#[]⟩:=ByteArray.ext (Array.eq_empty_of_size_eq_zero h0)
 obtain rfl:d=⟨#[]⟩:=ByteArray.ext (Array.eq_empty_of_size_eq_zero h1)
 have HK:=fun W'=>hid (aa2 lat W')
 generalize xq lat=S at *
 cases lat
 all_goals
  go_enter Tryz.func207,Tryz.ntmps207
  go_wp2_with fail
  refine bodyPost_ret (v:=.tuple #[jb false (0),.int .i64 0]) (by simp[results,Tryz.results207,go_sem,World.cell?_alloc_at]) rfl ⟨rfl,qa w _⟩
theorem anw (s d:ByteArray) (lat:Bool) (n:Int) (w:World) (h0:0<s.size) (HP:∀W',Hid (Calls Tryz.prog 223 #[.string s,.int .i64 (yc lat:Int),.int .i64 (yc lat:Int),.int .i64 5] W' fun e w'=>e=.returned (.tuple #[.int .i64 n,.bool false])∧Below W'.heap.size W' w')) :
 Calls Tryz.prog 207 #[.string s,.string d,.bool lat] w fun e w'=>e=.returned (.tuple #[jb false (0),.int .i64 3])∧Below w.heap.size w w':=by
 obtain⟨hne1,hne2⟩:=qy h0
 have HK:=fun W'=>hid (aa2 lat W')
 generalize xq lat=S at *
 cases lat
 all_goals
  go_enter Tryz.func207,Tryz.ntmps207
  have q0:(w.alloc (.cells #[.bool false,.int .i64 0] 42)).cell? ⟨w.heap.size,0,none⟩=some (.bool false):=by simp[World.cell?_alloc_at]
  have q1:(w.alloc (.cells #[.bool false,.int .i64 0] 42)).cell? ⟨w.heap.size,1,none⟩=some (.int .i64 0):=by simp[World.cell?_alloc_at]
  go_wp2_with fail
  refine((HK _).out).mono ?_
  rintro e w' ⟨rfl,rfl⟩
  go_wp2_with fail
  refine((HP _).out).mono ?_
  rintro e w2 ⟨rfl,hb2⟩
  obtain⟨c2,f2⟩:=qv hb2
  have hz:=hb2.size
  simp at hz
  have hz1:w.heap.size<w2.heap.size:=by omega
  have b2:=hid (qb (qa w _) hb2)
  replace q0:=(c2 w.heap.size 0 (by simp)).trans q0
  replace q1:=(c2 w.heap.size 1 (by simp)).trans q1
  go_wp2_with fail
  obtain⟨p0,p1⟩:=zb w2 w.heap.size (.bool false) (.int .i64 (0)) _ _ q0 q1
  refine bodyPost_ret (v:=.tuple #[jb false (0),.int .i64 3]) (by simp[results,Tryz.results207,go_sem,p0,p1]) rfl ⟨rfl,?_⟩
  exact(Below.setCell (Below.setCell b2.out (p:=⟨w.heap.size,0,none⟩) (Nat.le_refl _) _) (p:=⟨w.heap.size,1,none⟩) (Nat.le_refl _) _)
theorem al7 (s d:ByteArray) (lat:Bool) (n:Int) (w:World) (h0:s.size=0) (h1:0<d.size) (HP:∀W',Hid (Calls Tryz.prog 223 #[.string s,.int .i64 (yc lat:Int),.int .i64 (yc lat:Int),.int .i64 5] W' fun e w'=>e=.returned (.tuple #[.int .i64 n,.bool false])∧Below W'.heap.size W' w')) :
 Calls Tryz.prog 207 #[.string s,.string d,.bool lat] w fun e w'=>e=.returned (.tuple #[jb false (0),.int .i64 3])∧Below w.heap.size w w':=by
 obtain rfl:s=⟨#[]⟩:=ByteArray.ext (Array.eq_empty_of_size_eq_zero h0)
 obtain⟨hne1,hne2⟩:=qy h1
 have HK:=fun W'=>hid (aa2 lat W')
 generalize xq lat=S at *
 cases lat
 all_goals
  go_enter Tryz.func207,Tryz.ntmps207
  have q0:(w.alloc (.cells #[.bool false,.int .i64 0] 42)).cell? ⟨w.heap.size,0,none⟩=some (.bool false):=by simp[World.cell?_alloc_at]
  have q1:(w.alloc (.cells #[.bool false,.int .i64 0] 42)).cell? ⟨w.heap.size,1,none⟩=some (.int .i64 0):=by simp[World.cell?_alloc_at]
  go_wp2_with fail
  refine((HK _).out).mono ?_
  rintro e w' ⟨rfl,rfl⟩
  go_wp2_with fail
  refine((HP _).out).mono ?_
  rintro e w2 ⟨rfl,hb2⟩
  obtain⟨c2,f2⟩:=qv hb2
  have hz:=hb2.size
  simp at hz
  have hz1:w.heap.size<w2.heap.size:=by omega
  have b2:=hid (qb (qa w _) hb2)
  replace q0:=(c2 w.heap.size 0 (by simp)).trans q0
  replace q1:=(c2 w.heap.size 1 (by simp)).trans q1
  go_wp2_with fail
  obtain⟨p0,p1⟩:=zb w2 w.heap.size (.bool false) (.int .i64 (0)) _ _ q0 q1
  refine bodyPost_ret (v:=.tuple #[jb false (0),.int .i64 3]) (by simp[results,Tryz.results207,go_sem,p0,p1]) rfl ⟨rfl,?_⟩
  exact(Below.setCell (Below.setCell b2.out (p:=⟨w.heap.size,0,none⟩) (Nat.le_refl _) _) (p:=⟨w.heap.size,1,none⟩) (Nat.le_refl _) _)
theorem amz (s d:ByteArray) (lat:Bool) (n:Int) (w:World) (h0:0<s.size) (HP:∀W',Hid (Calls Tryz.prog 223 #[.string s,.int .i64 (yc lat:Int),.int .i64 (yc lat:Int),.int .i64 5] W' fun e w'=>e=.returned (.tuple #[.int .i64 n,.bool true])∧Below W'.heap.size W' w')) (k1:(d.toList==((xq lat).extract 0 1).toList)=false) (k2:(d.toList==((xq lat).extract 1 2).toList)=false) (hn0:0≤n) (hn:n≤2000000000000000000) :
 Calls Tryz.prog 207 #[.string s,.string d,.bool lat] w fun e w'=>e=.returned (.tuple #[jb false (0),.int .i64 3])∧Below w.heap.size w w':=by
 obtain⟨hne1,hne2⟩:=qy h0
 have hS:(xq lat).size=2:=by cases lat<;>rfl
 have HK:=fun W'=>hid (aa2 lat W')
 generalize xq lat=S at *
 cases lat
 all_goals
  go_enter Tryz.func207,Tryz.ntmps207
  have q0:(w.alloc (.cells #[.bool false,.int .i64 0] 42)).cell? ⟨w.heap.size,0,none⟩=some (.bool false):=by simp[World.cell?_alloc_at]
  have q1:(w.alloc (.cells #[.bool false,.int .i64 0] 42)).cell? ⟨w.heap.size,1,none⟩=some (.int .i64 0):=by simp[World.cell?_alloc_at]
  go_wp2_with fail
  refine((HK _).out).mono ?_
  rintro e w' ⟨rfl,rfl⟩
  go_wp2_with fail
  refine((HP _).out).mono ?_
  rintro e w2 ⟨rfl,hb2⟩
  obtain⟨c2,f2⟩:=qv hb2
  have hz:=hb2.size
  simp at hz
  have hz1:w.heap.size<w2.heap.size:=by omega
  have b2:=hid (qb (qa w _) hb2)
  replace q0:=(c2 w.heap.size 0 (by simp)).trans q0
  replace q1:=(c2 w.heap.size 1 (by simp)).trans q1
  go_wp2_with fail
  obtain⟨p0,p1⟩:=zb w2 w.heap.size (.bool false) (.int .i64 (0)) _ _ q0 q1
  refine bodyPost_ret (v:=.tuple #[jb false (0),.int .i64 3]) (by simp[results,Tryz.results207,go_sem,p0,p1]) rfl ⟨rfl,?_⟩
  exact(Below.setCell (Below.setCell b2.out (p:=⟨w.heap.size,0,none⟩) (Nat.le_refl _) _) (p:=⟨w.heap.size,1,none⟩) (Nat.le_refl _) _)
theorem apt (s d:ByteArray) (lat:Bool) (n:Int) (w:World) (h0:0<s.size) (HP:∀W',Hid (Calls Tryz.prog 223 #[.string s,.int .i64 (yc lat:Int),.int .i64 (yc lat:Int),.int .i64 5] W' fun e w'=>e=.returned (.tuple #[.int .i64 n,.bool true])∧Below W'.heap.size W' w')) (k1:(d.toList==((xq lat).extract 0 1).toList)=true) (k2:(d.toList==((xq lat).extract 1 2).toList)=false) (hn0:0≤n) (hn:n≤2000000000000000000) (g:6000000≤n%10000000) :
 Calls Tryz.prog 207 #[.string s,.string d,.bool lat] w fun e w'=>e=.returned (.tuple #[jb false (0),.int .i64 5])∧Below w.heap.size w w':=by
 obtain⟨hne1,hne2⟩:=qy h0
 have hS:(xq lat).size=2:=by cases lat<;>rfl
 have HK:=fun W'=>hid (aa2 lat W')
 generalize xq lat=S at *
 cases lat
 all_goals
  go_enter Tryz.func207,Tryz.ntmps207
  have q0:(w.alloc (.cells #[.bool false,.int .i64 0] 42)).cell? ⟨w.heap.size,0,none⟩=some (.bool false):=by simp[World.cell?_alloc_at]
  have q1:(w.alloc (.cells #[.bool false,.int .i64 0] 42)).cell? ⟨w.heap.size,1,none⟩=some (.int .i64 0):=by simp[World.cell?_alloc_at]
  go_wp2_with fail
  refine((HK _).out).mono ?_
  rintro e w' ⟨rfl,rfl⟩
  go_wp2_with fail
  refine((HP _).out).mono ?_
  rintro e w2 ⟨rfl,hb2⟩
  obtain⟨c2,f2⟩:=qv hb2
  have hz:=hb2.size
  simp at hz
  have hz1:w.heap.size<w2.heap.size:=by omega
  have b2:=hid (qb (qa w _) hb2)
  replace q0:=(c2 w.heap.size 0 (by simp)).trans q0
  replace q1:=(c2 w.heap.size 1 (by simp)).trans q1
  go_wp2_with fail
  obtain⟨p0,p1⟩:=zb w2 w.heap.size (.bool false) (.int .i64 (0)) _ _ q0 q1
  refine bodyPost_ret (v:=.tuple #[jb false (0),.int .i64 5]) (by simp[results,Tryz.results207,go_sem,p0,p1]) rfl ⟨rfl,?_⟩
  exact(Below.setCell (Below.setCell b2.out (p:=⟨w.heap.size,0,none⟩) (Nat.le_refl _) _) (p:=⟨w.heap.size,1,none⟩) (Nat.le_refl _) _)
theorem aqj (s d:ByteArray) (lat:Bool) (n:Int) (w:World) (h0:0<s.size) (HP:∀W',Hid (Calls Tryz.prog 223 #[.string s,.int .i64 (yc lat:Int),.int .i64 (yc lat:Int),.int .i64 5] W' fun e w'=>e=.returned (.tuple #[.int .i64 n,.bool true])∧Below W'.heap.size W' w')) (k1:(d.toList==((xq lat).extract 0 1).toList)=false) (k2:(d.toList==((xq lat).extract 1 2).toList)=true) (hn0:0≤n) (hn:n≤2000000000000000000) (g:6000000≤n%10000000) :
 Calls Tryz.prog 207 #[.string s,.string d,.bool lat] w fun e w'=>e=.returned (.tuple #[jb false (0),.int .i64 5])∧Below w.heap.size w w':=by
 obtain⟨hne1,hne2⟩:=qy h0
 have hS:(xq lat).size=2:=by cases lat<;>rfl
 have HK:=fun W'=>hid (aa2 lat W')
 generalize xq lat=S at *
 cases lat
 all_goals
  go_enter Tryz.func207,Tryz.ntmps207
  have q0:(w.alloc (.cells #[.bool false,.int .i64 0] 42)).cell? ⟨w.heap.size,0,none⟩=some (.bool false):=by simp[World.cell?_alloc_at]
  have q1:(w.alloc (.cells #[.bool false,.int .i64 0] 42)).cell? ⟨w.heap.size,1,none⟩=some (.int .i64 0):=by simp[World.cell?_alloc_at]
  go_wp2_with fail
  refine((HK _).out).mono ?_
  rintro e w' ⟨rfl,rfl⟩
  go_wp2_with fail
  refine((HP _).out).mono ?_
  rintro e w2 ⟨rfl,hb2⟩
  obtain⟨c2,f2⟩:=qv hb2
  have hz:=hb2.size
  simp at hz
  have hz1:w.heap.size<w2.heap.size:=by omega
  have b2:=hid (qb (qa w _) hb2)
  replace q0:=(c2 w.heap.size 0 (by simp)).trans q0
  replace q1:=(c2 w.heap.size 1 (by simp)).trans q1
  go_wp2_with fail
  obtain⟨p0,p1⟩:=zb w2 w.heap.size (.bool false) (.int .i64 (0)) _ _ q0 q1
  refine bodyPost_ret (v:=.tuple #[jb false (0),.int .i64 5]) (by simp[results,Tryz.results207,go_sem,p0,p1]) rfl ⟨rfl,?_⟩
  exact(Below.setCell (Below.setCell b2.out (p:=⟨w.heap.size,0,none⟩) (Nat.le_refl _) _) (p:=⟨w.heap.size,1,none⟩) (Nat.le_refl _) _)
theorem apl (s d:ByteArray) (lat:Bool) (n:Int) (w:World) (h0:0<s.size) (HP:∀W',Hid (Calls Tryz.prog 223 #[.string s,.int .i64 (yc lat:Int),.int .i64 (yc lat:Int),.int .i64 5] W' fun e w'=>e=.returned (.tuple #[.int .i64 n,.bool true])∧Below W'.heap.size W' w')) (k1:(d.toList==((xq lat).extract 0 1).toList)=true) (k2:(d.toList==((xq lat).extract 1 2).toList)=false) (hn0:0≤n) (hn:n≤2000000000000000000) (g:n%10000000<6000000) (g2:ape lat<n / 10000000*6000000+n%10000000) :
 Calls Tryz.prog 207 #[.string s,.string d,.bool lat] w fun e w'=>e=.returned (.tuple #[jb false (0),.int .i64 5])∧Below w.heap.size w w':=by
 obtain⟨hne1,hne2⟩:=qy h0
 have hS:(xq lat).size=2:=by cases lat<;>rfl
 have HK:=fun W'=>hid (aa2 lat W')
 generalize xq lat=S at *
 cases lat
 all_goals
  have g2':=g2
  unfold ape at g2'
  simp at g2'
  clear g2
  go_enter Tryz.func207,Tryz.ntmps207
  have q0:(w.alloc (.cells #[.bool false,.int .i64 0] 42)).cell? ⟨w.heap.size,0,none⟩=some (.bool false):=by simp[World.cell?_alloc_at]
  have q1:(w.alloc (.cells #[.bool false,.int .i64 0] 42)).cell? ⟨w.heap.size,1,none⟩=some (.int .i64 0):=by simp[World.cell?_alloc_at]
  go_wp2_with fail
  refine((HK _).out).mono ?_
  rintro e w' ⟨rfl,rfl⟩
  go_wp2_with fail
  refine((HP _).out).mono ?_
  rintro e w2 ⟨rfl,hb2⟩
  obtain⟨c2,f2⟩:=qv hb2
  have hz:=hb2.size
  simp at hz
  have hz1:w.heap.size<w2.heap.size:=by omega
  have b2:=hid (qb (qa w _) hb2)
  replace q0:=(c2 w.heap.size 0 (by simp)).trans q0
  replace q1:=(c2 w.heap.size 1 (by simp)).trans q1
  go_wp2_with fail
  obtain⟨p0,p1⟩:=zb w2 w.heap.size (.bool false) (.int .i64 (0)) _ _ q0 q1
  refine bodyPost_ret (v:=.tuple #[jb false (0),.int .i64 5]) (by simp[results,Tryz.results207,go_sem,p0,p1]) rfl ⟨rfl,?_⟩
  exact(Below.setCell (Below.setCell b2.out (p:=⟨w.heap.size,0,none⟩) (Nat.le_refl _) _) (p:=⟨w.heap.size,1,none⟩) (Nat.le_refl _) _)
theorem apx (s d:ByteArray) (lat:Bool) (n:Int) (w:World) (h0:0<s.size) (HP:∀W',Hid (Calls Tryz.prog 223 #[.string s,.int .i64 (yc lat:Int),.int .i64 (yc lat:Int),.int .i64 5] W' fun e w'=>e=.returned (.tuple #[.int .i64 n,.bool true])∧Below W'.heap.size W' w')) (k1:(d.toList==((xq lat).extract 0 1).toList)=false) (k2:(d.toList==((xq lat).extract 1 2).toList)=true) (hn0:0≤n) (hn:n≤2000000000000000000) (g:n%10000000<6000000) (g2:ape lat<n / 10000000*6000000+n%10000000) :
 Calls Tryz.prog 207 #[.string s,.string d,.bool lat] w fun e w'=>e=.returned (.tuple #[jb false (0),.int .i64 5])∧Below w.heap.size w w':=by
 obtain⟨hne1,hne2⟩:=qy h0
 have hS:(xq lat).size=2:=by cases lat<;>rfl
 have HK:=fun W'=>hid (aa2 lat W')
 generalize xq lat=S at *
 cases lat
 all_goals
  have g2':=g2
  unfold ape at g2'
  simp at g2'
  clear g2
  go_enter Tryz.func207,Tryz.ntmps207
  have q0:(w.alloc (.cells #[.bool false,.int .i64 0] 42)).cell? ⟨w.heap.size,0,none⟩=some (.bool false):=by simp[World.cell?_alloc_at]
  have q1:(w.alloc (.cells #[.bool false,.int .i64 0] 42)).cell? ⟨w.heap.size,1,none⟩=some (.int .i64 0):=by simp[World.cell?_alloc_at]
  go_wp2_with fail
  refine((HK _).out).mono ?_
  rintro e w' ⟨rfl,rfl⟩
  go_wp2_with fail
  refine((HP _).out).mono ?_
  rintro e w2 ⟨rfl,hb2⟩
  obtain⟨c2,f2⟩:=qv hb2
  have hz:=hb2.size
  simp at hz
  have hz1:w.heap.size<w2.heap.size:=by omega
  have b2:=hid (qb (qa w _) hb2)
  replace q0:=(c2 w.heap.size 0 (by simp)).trans q0
  replace q1:=(c2 w.heap.size 1 (by simp)).trans q1
  go_wp2_with fail
  obtain⟨p0,p1⟩:=zb w2 w.heap.size (.bool false) (.int .i64 (0)) _ _ q0 q1
  refine bodyPost_ret (v:=.tuple #[jb false (0),.int .i64 5]) (by simp[results,Tryz.results207,go_sem,p0,p1]) rfl ⟨rfl,?_⟩
  exact(Below.setCell (Below.setCell b2.out (p:=⟨w.heap.size,0,none⟩) (Nat.le_refl _) _) (p:=⟨w.heap.size,1,none⟩) (Nat.le_refl _) _)
theorem aom (s d:ByteArray) (lat:Bool) (n:Int) (w:World) (h0:0<s.size) (HP:∀W',Hid (Calls Tryz.prog 223 #[.string s,.int .i64 (yc lat:Int),.int .i64 (yc lat:Int),.int .i64 5] W' fun e w'=>e=.returned (.tuple #[.int .i64 n,.bool true])∧Below W'.heap.size W' w')) (k1:(d.toList==((xq lat).extract 0 1).toList)=true) (k2:(d.toList==((xq lat).extract 1 2).toList)=false) (hn0:0≤n) (hn:n≤2000000000000000000) (g:n%10000000<6000000) (g2:n / 10000000*6000000+n%10000000≤ape lat) :
 Calls Tryz.prog 207 #[.string s,.string d,.bool lat] w fun e w'=>e=.returned (.tuple #[jb true (n / 10000000*6000000+n%10000000),.int .i64 0])∧Below w.heap.size w w':=by
 obtain⟨hne1,hne2⟩:=qy h0
 have hS:(xq lat).size=2:=by cases lat<;>rfl
 have HK:=fun W'=>hid (aa2 lat W')
 generalize xq lat=S at *
 cases lat
 all_goals
  have g2':=g2
  unfold ape at g2'
  simp at g2'
  clear g2
  go_enter Tryz.func207,Tryz.ntmps207
  have q0:(w.alloc (.cells #[.bool false,.int .i64 0] 42)).cell? ⟨w.heap.size,0,none⟩=some (.bool false):=by simp[World.cell?_alloc_at]
  have q1:(w.alloc (.cells #[.bool false,.int .i64 0] 42)).cell? ⟨w.heap.size,1,none⟩=some (.int .i64 0):=by simp[World.cell?_alloc_at]
  go_wp2_with fail
  refine((HK _).out).mono ?_
  rintro e w' ⟨rfl,rfl⟩
  go_wp2_with fail
  refine((HP _).out).mono ?_
  rintro e w2 ⟨rfl,hb2⟩
  obtain⟨c2,f2⟩:=qv hb2
  have hz:=hb2.size
  simp at hz
  have hz1:w.heap.size<w2.heap.size:=by omega
  have b2:=hid (qb (qa w _) hb2)
  replace q0:=(c2 w.heap.size 0 (by simp)).trans q0
  replace q1:=(c2 w.heap.size 1 (by simp)).trans q1
  go_wp2_with fail
  obtain⟨p0,p1⟩:=zb w2 w.heap.size (.bool true) (.int .i64 (n / 10000000*6000000+n%10000000)) _ _ q0 q1
  refine bodyPost_ret (v:=.tuple #[jb true (n / 10000000*6000000+n%10000000),.int .i64 0]) (by simp[results,Tryz.results207,go_sem,p0,p1]) rfl ⟨rfl,?_⟩
  exact(Below.setCell (Below.setCell b2.out (p:=⟨w.heap.size,0,none⟩) (Nat.le_refl _) _) (p:=⟨w.heap.size,1,none⟩) (Nat.le_refl _) _)
theorem anp (s d:ByteArray) (lat:Bool) (n:Int) (w:World) (h0:0<s.size) (HP:∀W',Hid (Calls Tryz.prog 223 #[.string s,.int .i64 (yc lat:Int),.int .i64 (yc lat:Int),.int .i64 5] W' fun e w'=>e=.returned (.tuple #[.int .i64 n,.bool true])∧Below W'.heap.size W' w')) (k1:(d.toList==((xq lat).extract 0 1).toList)=false) (k2:(d.toList==((xq lat).extract 1 2).toList)=true) (hn0:0≤n) (hn:n≤2000000000000000000) (g:n%10000000<6000000) (g2:n / 10000000*6000000+n%10000000≤ape lat) :
 Calls Tryz.prog 207 #[.string s,.string d,.bool lat] w fun e w'=>e=.returned (.tuple #[jb true (-(n / 10000000*6000000+n%10000000)),.int .i64 0])∧Below w.heap.size w w':=by
 obtain⟨hne1,hne2⟩:=qy h0
 have hS:(xq lat).size=2:=by cases lat<;>rfl
 have HK:=fun W'=>hid (aa2 lat W')
 generalize xq lat=S at *
 cases lat
 all_goals
  have g2':=g2
  unfold ape at g2'
  simp at g2'
  clear g2
  go_enter Tryz.func207,Tryz.ntmps207
  have q0:(w.alloc (.cells #[.bool false,.int .i64 0] 42)).cell? ⟨w.heap.size,0,none⟩=some (.bool false):=by simp[World.cell?_alloc_at]
  have q1:(w.alloc (.cells #[.bool false,.int .i64 0] 42)).cell? ⟨w.heap.size,1,none⟩=some (.int .i64 0):=by simp[World.cell?_alloc_at]
  go_wp2_with fail
  refine((HK _).out).mono ?_
  rintro e w' ⟨rfl,rfl⟩
  go_wp2_with fail
  refine((HP _).out).mono ?_
  rintro e w2 ⟨rfl,hb2⟩
  obtain⟨c2,f2⟩:=qv hb2
  have hz:=hb2.size
  simp at hz
  have hz1:w.heap.size<w2.heap.size:=by omega
  have b2:=hid (qb (qa w _) hb2)
  replace q0:=(c2 w.heap.size 0 (by simp)).trans q0
  replace q1:=(c2 w.heap.size 1 (by simp)).trans q1
  go_wp2_with fail
  obtain⟨p0,p1⟩:=zb w2 w.heap.size (.bool true) (.int .i64 (-(n / 10000000*6000000+n%10000000))) _ _ q0 q1
  refine bodyPost_ret (v:=.tuple #[jb true (-(n / 10000000*6000000+n%10000000)),.int .i64 0]) (by simp[results,Tryz.results207,go_sem,p0,p1]) rfl ⟨rfl,?_⟩
  exact(Below.setCell (Below.setCell b2.out (p:=⟨w.heap.size,0,none⟩) (Nat.le_refl _) _) (p:=⟨w.heap.size,1,none⟩) (Nat.le_refl _) _)
theorem aqy (f g:ByteArray):(f.toList==g.toList)=decide (f=g):=by
 rw[ByteArray.toList_eq,ByteArray.toList_eq]
 by_cases h:f=g
 ·subst h;simp
 ·rw[decide_eq_false h,beq_eq_false_iff_ne]
  intro k
  exact h (ByteArray.ext (by simpa using k))
def aaq (l:List UInt8) (d:ByteArray) (lat:Bool):Bool×Int×Int:=
 if l=[]∧d.data.toList=[]then(false,0,0)
 else match v7 l (yc lat) (yc lat) 5 with
 | none=>(false,0,3)
 | some n=>if d≠ahz lat false∧d≠ahz lat true then(false,0,3)
  else if 6000000≤n%10000000∨ape lat<((n / 10000000*6000000+n%10000000:Nat):Int)then(false,0,5)
  else(true,(if d=ahz lat true then -((n / 10000000*6000000+n%10000000:Nat):Int)else((n / 10000000*6000000+n%10000000:Nat):Int)),0)
theorem bcb (lat:Bool):ahz lat false≠ahz lat true:=by cases lat<;>decide
theorem am0 (k m f:Nat) (hk:1≤k):v7 [] k m f=none:=by
 unfold v7
 rw[if_pos (.inl (by show 0<k;omega))]
theorem al6 (s d:ByteArray) (lat:Bool) (w:World) (hs:s.size≤1000000) :
 Calls Tryz.prog 207 #[.string s,.string d,.bool lat] w fun e w'=>e=.returned (.tuple #[jb (aaq s.data.toList d lat).1 (aaq s.data.toList d lat).2.1,.int .i64 (aaq s.data.toList d lat).2.2])∧Below w.heap.size w w':=by
 unfold aaq
 have hw:1≤yc lat∧yc lat≤5:=by unfold yc;split<;>omega
 by_cases h0:s.data.toList=[]∧d.data.toList=[]
 ·rw[if_pos h0]
  exact alx s d lat w (adn h0.1) (adn h0.2)
 rw[if_neg h0]
 have HP:=fun W'=>hid (aku s (yc lat) (yc lat) 5 W' hs (by omega) (by omega))
 by_cases hn:s.data.toList=[]
 ·have hd:d.data.toList≠[]:=fun k=>h0 ⟨hn,k⟩
  rw[hn,am0 _ _ _ hw.1]at HP
  rw[hn,am0 _ _ _ hw.1]
  exact al7 s d lat 0 w (adn hn) (aph hd) HP
 have hp:=aph hn
 cases hq:v7 s.data.toList (yc lat) (yc lat) 5 with
 | none=>
  simp only[hq]at HP
  exact anw s d lat 0 w hp HP
 | some n=>
  simp only[hq]at HP
  have hle:=aj0 hq (by omega)
  have k1:=aqy d ((xq lat).extract 0 1)
  have k2:=aqy d ((xq lat).extract 1 2)
  rw[ad5]at k1
  rw[ade]at k2
  rw[← ad5]at k1
  rw[← ade]at k2
  have hx:((n / 10000000*6000000+n%10000000:Nat):Int)=(n:Int) / 10000000*6000000 +(n:Int)%10000000:=by omega
  have hm:((n%10000000:Nat):Int)=(n:Int)%10000000:=by omega
  dsimp only
  by_cases hN:d=ahz lat false
  ·have hS:d≠ahz lat true:=fun k=>bcb lat (hN.symm.trans k)
   rw[if_neg (fun k=>k.1 hN)]
   rw[decide_eq_true (by rw[ad5];exact hN)]at k1
   rw[decide_eq_false (by rw[ade];exact hS)]at k2
   by_cases g:6000000≤n%10000000
   ·rw[if_pos (.inl g)]
    exact apt s d lat n w hp HP k1 k2 (by omega) (by omega) (by omega)
   by_cases g2:ape lat<((n / 10000000*6000000+n%10000000:Nat):Int)
   ·rw[if_pos (.inr g2)]
    exact apl s d lat n w hp HP k1 k2 (by omega) (by omega) (by omega) (by omega)
   rw[if_neg (by omega),if_neg hS,hx]
   exact aom s d lat n w hp HP k1 k2 (by omega) (by omega) (by omega) (by omega)
  rw[decide_eq_false (by rw[ad5];exact hN)]at k1
  by_cases hS:d=ahz lat true
  ·rw[if_neg (fun k=>k.2 hS)]
   rw[decide_eq_true (by rw[ade];exact hS)]at k2
   by_cases g:6000000≤n%10000000
   ·rw[if_pos (.inl g)]
    exact aqj s d lat n w hp HP k1 k2 (by omega) (by omega) (by omega)
   by_cases g2:ape lat<((n / 10000000*6000000+n%10000000:Nat):Int)
   ·rw[if_pos (.inr g2)]
    exact apx s d lat n w hp HP k1 k2 (by omega) (by omega) (by omega) (by omega)
   rw[if_neg (by omega),if_pos hS,hx]
   exact anp s d lat n w hp HP k1 k2 (by omega) (by omega) (by omega) (by omega)
  ·rw[if_pos ⟨hN,hS⟩]
   rw[decide_eq_false (by rw[ade];exact hS)]at k2
   exact amz s d lat n w hp HP k1 k2 (by omega) (by omega)
structure Frm (g:Nat) (v:Value) (w w':World):Prop where
 os:w'.os=w.os
 tape:w'.tape=w.tape
 output:w'.output=w.output
 size:w.heap.size≤w'.heap.size
 block:∀k,k<w.heap.size→k≠g→v.ownBlock≠some k→w'.heap[k]?=w.heap[k]?
theorem Frm.of_below {g:Nat} {v:Value} {w w':World} (h:Below w.heap.size w w'):Frm g v w w':=⟨h.os,h.tape,h.output,h.size,fun k hk _ _=>h.block k hk⟩
theorem Frm.set {g:Nat} {v:Value} {w w':World} (h:Frm g v w w') (o:Nat) (u:Value):Frm g v w (w'.setCell ⟨g,o,none⟩ u):=
 ⟨h.os,h.tape,h.output,by simpa using h.size,fun k hk h1 h2=>(Below.heap_setCell _ _ _ _ h1).trans (h.block k hk h1 h2)⟩
theorem Frm.then_below {g:Nat} {v:Value} {w w1 w2:World} (h:Frm g v w w1) (hb:Below w1.heap.size w1 w2):Frm g v w w2:=
 ⟨hb.os.trans h.os,hb.tape.trans h.tape,hb.output.trans h.output,Nat.le_trans h.size hb.size,fun k hk h1 h2=>(hb.block k (Nat.lt_of_lt_of_le hk h.size)).trans (h.block k hk h1 h2)⟩
def bhv (w:World) (v v':Value):Prop:=v'.ownBlock=v.ownBlock∨∀k,v'.ownBlock=some k→w.heap.size≤k
theorem Frm.trans {g:Nat} {v v':Value} {w w1 w2:World} (h:Frm g v w w1) (k:Frm g v' w1 w2) (hm:bhv w v v'):Frm g v w w2:=
 ⟨k.os.trans h.os,k.tape.trans h.tape,k.output.trans h.output,Nat.le_trans h.size k.size,fun i hi h1 h2=>(k.block i (Nat.lt_of_lt_of_le hi h.size) h1 (by
  rcases hm with hm|hm
  ·rw[hm];exact h2
  ·intro e;have:=hm i e;omega)).trans (h.block i hi h1 h2)⟩
theorem Frm.cell {g:Nat} {v:Value} {w w':World} (h:Frm g v w w') {b o:Nat} (hb:b<w.heap.size) (h1:b≠g) (h2:v.ownBlock≠some b):w'.cell? ⟨b,o,none⟩=w.cell? ⟨b,o,none⟩:=World.cell?_of_block (a:=⟨b,o,none⟩) (h.block b hb h1 h2)
theorem Frm.below {g B:Nat} {v:Value} {w w':World} (h:Frm g v w w') (hg:B≤g) (hv:∀k,v.ownBlock=some k→B≤k) (hB:B≤w.heap.size):Below B w w':=
 ⟨h.os,h.tape,h.output,h.size,fun k hk=>h.block k (by omega) (by omega) (fun e=>by have:=hv k e;omega)⟩
def aac (e E:Int):Int:=if e=0 then E else e
theorem ax0 (g:Nat) (e E:Int) (w:World) (h1:w.cell? ⟨g,1,none⟩=some (.int .i64 e)) (hf:w.frozen? ⟨g,1,none⟩=false) :
 Calls Tryz.prog 208 #[.pointer (some ⟨g,0,none⟩),.int .i64 E] w fun r w'=>r=.returned (.tuple #[])∧w'=if e=0 then w.setCell ⟨g,1,none⟩ (.int .i64 E)else w:=by
 by_cases h:e=0
 ·subst h
  go_enter Tryz.func208,Tryz.ntmps208
  go_wp2
  go_end0
  exact⟨rfl,rfl⟩
 ·have hne:(e==0)=false:=by rw[beq_eq_false_iff_ne];exact h
  rw[if_neg h]
  clear h
  go_enter Tryz.func208,Tryz.ntmps208
  go_wp2
  go_end0
  exact⟨rfl,rfl⟩
theorem a77:(Tryz.prog.info? 9).map (fun i=>(i.zero,i.size,i.bytes))=some (some (.string ByteArray.empty),1,16):=by kernel_rfl
theorem ak0 {P:Program} {t:TypeId} {z:Value} {s b:Nat} (h:(P.info? t).map (fun i=>(i.zero,i.size,i.bytes))=some (some z,s,b)):∃i,P.info? t=some i∧i.zero=some z∧i.size=s∧i.bytes=b:=by
 cases hi:P.info? t with
 | none=>rw[hi]at h;cases h
 | some i=>
  rw[hi]at h
  injection h with h
  injection h with h1 h2
  injection h2 with h2 h3
  exact⟨i,rfl,h1,h2,h3⟩
theorem asc {w:World} {B:Nat} {e:TypeId} {A:Option Addr} {n c:Nat} {fs:List ByteArray} (h:w.ownsRow B e 1 (.slice A n c) n (fs.map Value.string)):fs.length=n∧vf w w.heap.size A fs∧yt B A:=by
 have hl:fs.length=n:=by have:=h.1;simpa using this
 refine⟨hl,?_,fun a ha=>?_⟩
 ·intro k hk
  rcases h.2 with⟨hv,h0⟩|⟨g,cap,cur,hv,_,hg,_⟩
  ·omega
  ·have hA:A=some ⟨g,0,none⟩:=by injection hv
   subst hA
   have hc:=h.cells (g:=g) rfl k (.string fs[k]) (by simp[hk])
   exact⟨g,0,rfl,(Array.getElem?_eq_some_iff.1 hg).1,by
    have:(⟨g,0,none⟩:Addr).add k=⟨g,0+k,none⟩:=by unfold Addr.add;split<;>simp_all
    rw[← this];exact hc⟩
 ·rcases h.2 with⟨hv,h0⟩|⟨g,cap,cur,hv,hb,hg,_⟩
  ·have hA:A=none:=by injection hv
   rw[hA]at ha
   cases ha
  ·have hA:A=some ⟨g,0,none⟩:=by injection hv
   rw[hA]at ha
   injection ha with ha
   rw[← ha]
   exact hb
theorem a6s {w:World} {B:Nat} {e:TypeId} {size n:Nat} {v:Value} {xs:List Value} (h:w.ownsRow B e size v n xs):∃A c,v=.slice A n c:=by
 rcases h.2 with⟨hv,h0⟩|⟨g,cap,cur,hv,_⟩
 ·exact⟨none,0,by rw[hv,h0]⟩
 ·exact⟨_,_,hv⟩
theorem bab (f:Nat):∀n l,∀c∈ae6 f n l,isD c=true:=by
 induction f with
 | zero=>intro n l c h;simp[ae6]at h
 | succ f ih=>
  intro n l c h
  unfold ae6 at h
  split at h
  ·rcases List.mem_append.1 h with h|h
   ·exact ih _ _ c h
   ·have:c=UInt8.ofNat (48+n%10):=by simpa using h
    subst this
    refine decide_eq_true ?_
    simp
    omega
  ·simp at h
theorem a8s (f:Nat):∀n l,n<10^f→vx (ae6 f n l)=n:=by
 induction f with
 | zero => intro n l h;have:n<1:=h;have:n=0:=by omega
           subst this;rfl
 | succ f ih=>
  intro n l h
  unfold ae6
  split
  ·rw[ag3,ih _ _ (by rw[Nat.pow_succ]at h;omega)]
   simp
   omega
  ·have:n=0:=by omega
   subst this;rfl
theorem bei (f:Nat):∀n l,l≤f→l ≤(ae6 f n l).length:=by
 induction f with
 | zero=>intro n l h;omega
 | succ f ih=>
  intro n l h
  unfold ae6
  split
  ·have:=ih (n / 10) (l-1) (by omega)
   simp
   omega
  ·simp;omega
theorem bc5 (f:Nat):∀n l k,n<10^k→l≤k →(ae6 f n l).length≤k:=by
 induction f with
 | zero=>intro n l k _ _;simp[ae6]
 | succ f ih=>
  intro n l k h1 h2
  unfold ae6
  split
  ·rename_i h
   cases k with
   | zero=>have:n<1:=h1;omega
   | succ k=>
    have:=ih (n / 10) (l-1) k (by rw[Nat.pow_succ]at h1;omega) (by omega)
    simp
    omega
  ·simp
theorem bh1 {n:Nat} (h:n≤1000000000000000000):n<10^20:=by
 have:(10:Nat)^20=100000000000000000000:=by decide
 omega
theorem ayb (n l:Nat):∀c∈afc n l,isD c=true:=bab 20 n l
theorem azf {n l:Nat} (h:n≤1000000000000000000):vx (afc n l)=n:=a8s 20 n l (bh1 h)
theorem a4p {n l:Nat} (h:l≤20):l ≤(afc n l).length:=bei 20 n l h
theorem al9 {n l k:Nat} (h:n<10^k) (hl:l≤k):(afc n l).length≤k:=bc5 20 n l k h hl
theorem a4u {n l:Nat} (h:n<10^l) (hl:l≤20):(afc n l).length=l:=Nat.le_antisymm (al9 h (Nat.le_refl _)) (a4p hl)
theorem arz (f:Nat):∀r,0<r→r<10^f→f≤18→∃r' k,r=r'*10^k∧k<f∧r'%10≠0∧Lib.trimRightB (46::afc r f) 48=46::afc r' (f-k):=by
 induction f with
 | zero=>intro r h1 h2 _;have:r<1:=h2;omega
 | succ f ih=>
  intro r h1 h2 h3
  have hm:r≤1000000000000000000:=by
   have h4:(10:Nat)^(f+1)≤10^18:=Nat.pow_le_pow_right (by decide) h3
   have e:(10:Nat)^18=1000000000000000000:=by decide
   omega
  by_cases h:r%10=0
  ·rw[a70 r (f+1) h1 h hm h3,Nat.add_sub_cancel]
   obtain⟨r',k,e1,e2,e3,e4⟩:=ih (r / 10) (by omega) (by rw[Nat.pow_succ]at h2;omega) (by omega)
   refine⟨r',k+1,?_,by omega,e3,?_⟩
   ·rw[Nat.pow_succ,← Nat.mul_assoc,← e1];omega
   ·rw[e4,show f+1-(k+1)=f-k from by omega]
  ·exact⟨r,0,by simp,by omega,h,a74 r (f+1) h1 h hm h3⟩
theorem ba4 {r' k v j:Nat} (h:r'*10^k=v*10^j) (hr:r'%10≠0):j≤k:=by
 rcases Nat.lt_or_ge k j with h1|h1
 ·exfalso
  obtain⟨d,rfl⟩:∃d,j=k +(d+1):=⟨j-k-1,by omega⟩
  have e1:r'=v*10^(d+1):=by
   have:r'*10^k=v*10^(d+1)*10^k:=by rw[h,Nat.pow_add,Nat.mul_assoc,Nat.mul_comm (10^k)]
   exact Nat.eq_of_mul_eq_mul_right (Nat.pow_pos (by decide)) this
  rw[Nat.pow_succ,← Nat.mul_assoc]at e1
  omega
 ·exact h1
theorem apb {A T:List UInt8} (hA:∀c∈A,isD c=true) (hT:∀c,T.head?=some c→isD c=false):je (A++T)=A.length:=by
 unfold je
 rw[List.takeWhile_append_of_pos hA]
 have:T.takeWhile isD=[]:=by
  cases T with
  | nil=>rfl
  | cons c T=>rw[List.takeWhile_cons_of_neg (by rw[hT c rfl];decide)]
 rw[this,List.append_nil]
theorem azr {B:List UInt8} (hB:∀c∈B,isD c=true):je B=B.length:=by
 have:=apb (T:=[]) hB (fun c h=>by simp at h)
 rwa [List.append_nil]at this
def ajk (l:List UInt8) (a m f n:Nat):Prop:=
 ∃A T,l=A++T ∧(∀c∈A,isD c=true)∧a≤A.length∧A.length≤m ∧
  (T=[]∧n=vx A*10^f∨∃B,T=46::B ∧(∀c∈B,isD c=true)∧1≤B.length∧B.length≤f∧n=vx A*10^f+vx B*10^(f-B.length))
theorem arq {l:List UInt8} {a m f n:Nat} (h:ajk l a m f n):v7 l a m f=some n:=by
 obtain⟨A,T,rfl,hA,h1,h2,h3⟩:=h
 rcases h3 with⟨rfl,rfl⟩|⟨B,rfl,hB,h4,h5,rfl⟩
 ·rw[List.append_nil]
  unfold v7
  rw[azr hA,if_neg (by omega),if_pos rfl]
 ·have hc:=apb (T:=46::B) hA (fun c h=>by
   have:c=46:=by simpa using h.symm
   subst this
   decide)
  have hd:(A++46::B).drop (A.length+1)=B:=by
   rw[← List.drop_drop,List.drop_left]
   rfl
  unfold v7
  have g:(A++46::B)[A.length]?=some 46:=by simp
  have g2:(A++46::B).length=A.length+1+B.length:=by simp;omega
  rw[hc,hd,azr hB,if_neg (by omega),if_neg (by omega),if_neg (by
   intro k
   rcases k with k|k|k|k
   ·exact k g
   ·omega
   ·omega
   ·exact k g2.symm)]
  rw[List.take_left]
theorem a1z {l:List UInt8} {a m f n:Nat} (h:v7 l a m f=some n):ajk l a m f n:=by
 unfold v7 at h
 have hA:=abc l
 split at h
 ·cases h
 rename_i g1
 split at h
 ·rename_i g2
  injection h with h
  rw[g2,List.take_length]at hA
  exact⟨l,[],by simp,hA,by omega,by omega,.inl ⟨rfl,h.symm⟩⟩
 rename_i g2
 split at h
 ·cases h
 rename_i g3
 injection h with h
 have hle:=amj l
 have g4:l[je l]?=some 46:=Classical.not_not.1 fun k=>g3 (.inl k)
 have hB:=abc (l.drop (je l+1))
 have e1:je (l.drop (je l+1))=(l.drop (je l+1)).length:=by rw[List.length_drop];omega
 rw[e1,List.take_length]at hB
 refine⟨l.take (je l),l.drop (je l),(List.take_append_drop _ _).symm,hA,by rw[List.length_take];omega,by rw[List.length_take];omega,.inr ⟨l.drop (je l+1),?_,hB,by omega,by omega,by rw[← e1];exact h.symm⟩⟩
 have hlt:je l<l.length:=by omega
 rw[List.drop_eq_getElem_cons hlt]
 rw[List.getElem?_eq_getElem hlt]at g4
 injection g4 with g4
 rw[g4]
theorem a2m (r f:Nat) (hr:r<10^f) (hf:f≤18):ana r f=[]∧r=0∨∃B,ana r f=46::B ∧(∀c∈B,isD c=true)∧1≤B.length∧B.length≤f∧vx B*10^(f-B.length)=r:=by
 unfold ana
 by_cases h0:r=0
 ·rw[if_pos h0];exact .inl ⟨rfl,h0⟩
 ·rw[if_neg h0]
  obtain⟨r',k,e1,e2,e3,e4⟩:=arz f r (by omega) hr hf
  have hr':r'<10^(f-k):=by
   rw[e1,show f=(f-k)+k from by omega,Nat.pow_add]at hr
   exact Nat.lt_of_mul_lt_mul_right (a:=10^k) hr
  have hm:r'≤1000000000000000000:=by
   have h4:(10:Nat)^(f-k)≤10^18:=Nat.pow_le_pow_right (by decide) (by omega)
   have e:(10:Nat)^18=1000000000000000000:=by decide
   omega
  have hl:(afc r' (f-k)).length=f-k:=a4u hr' (by omega)
  refine .inr ⟨afc r' (f-k),e4,ayb _ _,by omega,by omega,?_⟩
  rw[hl,azf hm,show f-(f-k)=k from by omega,e1]
theorem avr (v j f:Nat) (h:v*10^j<10^f) (hf:f≤18) (hj:j≤f):(ana (v*10^j) f).length≤1 +(f-j):=by
 unfold ana
 by_cases h0:v*10^j=0
 ·rw[if_pos h0];simp
 ·rw[if_neg h0]
  obtain⟨r',k,e1,e2,e3,e4⟩:=arz f _ (by omega) h hf
  have hk:=ba4 e1.symm e3
  have hr':r'<10^(f-k):=by
   rw[e1,show f=(f-k)+k from by omega,Nat.pow_add]at h
   exact Nat.lt_of_mul_lt_mul_right (a:=10^k) h
  rw[e4,List.length_cons,a4u hr' (by omega)]
  omega
theorem ak9 (n w m f:Nat) (hn:n<10^(m+f)) (hmf:m+f≤18) (hw:1≤w) (hwm:w≤m):ajk (aie n w f) 1 m f n:=by
 have hn2:n≤1000000000000000000:=by
  have h4:(10:Nat)^(m+f)≤10^18:=Nat.pow_le_pow_right (by decide) (by omega)
  have e:(10:Nat)^18=1000000000000000000:=by decide
  omega
 have hq:n / 10^f<10^m:=by
  rw[Nat.pow_add]at hn
  exact Nat.div_lt_of_lt_mul (by rwa [Nat.mul_comm])
 have hq2:n / 10^f≤1000000000000000000:=Nat.le_trans (Nat.div_le_self _ _) hn2
 have hr:n%10^f<10^f:=Nat.mod_lt _ (Nat.pow_pos (by decide))
 have hdm:n / 10^f*10^f+n%10^f=n:=by rw[Nat.mul_comm];exact Nat.div_add_mod n (10^f)
 refine⟨afc (n / 10^f) w,ana (n%10^f) f,rfl,ayb _ _,Nat.le_trans hw (a4p (by omega)),al9 hq hwm,?_⟩
 rw[azf hq2]
 rcases a2m (n%10^f) f hr (by omega)with⟨h1,h2⟩|⟨B,h1,h2,h3,h4,h5⟩
 ·exact .inl ⟨h1,by omega⟩
 ·exact .inr ⟨B,h1,h2,h3,h4,by omega⟩
theorem ark (l:List UInt8):ahk (45::l)=true∧aex (45::l)=l:=⟨rfl,rfl⟩
theorem a5i {l:List UInt8} {a m f n:Nat} (h:ajk l a m f n) (ha:1≤a):ahk l=false∧aex l=l∧l≠[]:=by
 obtain⟨A,T,rfl,hA,h1,-⟩:=h
 cases A with
 | nil=>simp at h1;omega
 | cons c A=>
  have hc:=of_decide_eq_true (hA c (by simp))
  have:ahk (c::A++T)=false:=by
   show (some c==some 45)=false
   have:c≠45:=by rintro rfl;exact absurd hc (by decide)
   simpa using this
  refine⟨this,?_,by simp⟩
  unfold aex
  rw[this]
  rfl
theorem avo {W M F L H:Int} (h:aax W M F L H=true):∃w m f:Nat,W=(w:Int)∧M=(m:Int)∧F=(f:Int)∧1≤w∧w≤m∧m≤12∧f≤6∧-jz (m+f)<L∧H<jz (m+f):=by
 have h:=of_decide_eq_true h
 refine⟨W.toNat,M.toNat,F.toNat,by omega,by omega,by omega,by omega,by omega,by omega,by omega,?_⟩
 rw[show M.toNat+F.toNat=(M+F).toNat from by omega]
 exact⟨h.2.2.2.2.2.2.1,h.2.2.2.2.2.2.2⟩
theorem a9f {b:Bool} {n W M F L H:Int} (h:(asd b n W M F L H).2=0):jm (asd b n W M F L H).1.data.toList W M F L H=(b,n,0):=by
 unfold asd at h ⊢
 by_cases hr:aax W M F L H=false
 ·rw[if_pos hr]at h;exact absurd h (by decide)
 rw[if_neg hr]at h ⊢
 by_cases hf:aae b n L H=false
 ·rw[if_pos hf]at h;exact absurd h (by decide)
 rw[if_neg hf]at h ⊢
 cases b with
 | false=>
  rw[if_pos rfl]
  have:n=0:=by
   unfold aae at hf
   simpa using hf
  subst this
  unfold jm
  rw[if_neg hr]
  rfl
 | true=>
  rw[if_neg (by decide)]
  have hfit:aae true n L H=true:=by simpa using hf
  have hb:=an4 hfit
  obtain⟨w,m,f,rfl,rfl,rfl,h1,h2,h3,h4,h5,h6⟩:=avo (by simpa using hr)
  have hx:n.natAbs<10^(m+f):=by
   rw[jt]at h5 h6
   omega
  by_cases hn:n<0
  ·rw[if_pos hn]
   have ht:=ak9 n.natAbs w m f hx (by omega) h1 h2
   have hp:=arq ht
   show jm (toB (45::aie (-n).toNat w f)).data.toList w m f L H=_
   rw[awp,show (-n).toNat=n.natAbs from by omega]
   unfold jm
   rw[if_neg hr,if_neg (by simp),(ark _).1,(ark _).2,Int.toNat_natCast,Int.toNat_natCast,hp]
   simp only[if_true]
   rw[show -((n.natAbs:Nat):Int)=n from by omega,hfit]
   rfl
  ·rw[if_neg hn]
   have ht:=ak9 n.natAbs w m f hx (by omega) h1 h2
   have hp:=arq ht
   obtain⟨k1,k2,k3⟩:=a5i ht (Nat.le_refl _)
   show jm (toB (aie n.toNat w f)).data.toList w m f L H=_
   rw[awp,show n.toNat=n.natAbs from by omega]
   unfold jm
   rw[if_neg hr,if_neg k3,k1,k2,Int.toNat_natCast,Int.toNat_natCast,hp]
   simp only[Bool.false_eq_true,if_false]
   rw[show ((n.natAbs:Nat):Int)=n from by omega,hfit]
   rfl
end Go.Proofs.YtdkhlkfleggbaaaGreat
