/- Layer 23: the program's TakeAngle, case by case. -/
import Derived.Test.YtoabkoniegmkaaaGreatH04
import Derived.Deep.QuietTactic
namespace Go.Proofs.YtoabkoniegmkaaaGreat
set_option linter.unusedVariables false
open Go.RowKit
def wide2 (lat:Bool):Nat:=if lat then 4 else 5
set_option maxRecDepth 8000 in
set_option maxHeartbeats 2000000 in
theorem TakeAngle_empty (s d:ByteArray) (lat:Bool) (w:World) (h0:s.size=0) (h1:d.size=0) :
    Calls Tryz.prog 170 #[.string s,.string d,.bool lat] w fun e w'=>e=.returned (.tuple #[numV false (0),.int .i64 0])∧Below w.heap.size w w':=by
  obtain rfl:s=⟨#[]⟩:=ByteArray.ext (Array.eq_empty_of_size_eq_zero h0)
  obtain rfl:d=⟨#[]⟩:=ByteArray.ext (Array.eq_empty_of_size_eq_zero h1)
  have HK:=fun W'=>Lib.hid (kind_any lat W')
  generalize sidesB lat=S at *
  cases lat
  all_goals
    go_enter Tryz.func170,Tryz.ntmps170
    go_wp2_with fail
    refine bodyPost_ret (v:=.tuple #[numV false (0),.int .i64 0]) (by simp [results,Tryz.results170,go_sem,World.cell?_alloc_at]) rfl ⟨rfl,below_new w _⟩
set_option maxRecDepth 8000 in
set_option maxHeartbeats 2000000 in
theorem TakeAngle_form (s d:ByteArray) (lat:Bool) (n:Int) (w:World) (h0:0 < s.size) (HP:∀ W',Hid (Calls Tryz.prog 191 #[.string s,.int .i64 (wide2 lat:Int),.int .i64 (wide2 lat:Int),.int .i64 5] W' fun e w'=>e=.returned (.tuple #[.int .i64 n,.bool false])∧Below W'.heap.size W' w')) :
    Calls Tryz.prog 170 #[.string s,.string d,.bool lat] w fun e w'=>e=.returned (.tuple #[numV false (0),.int .i64 3])∧Below w.heap.size w w':=by
  obtain⟨hne1,hne2⟩:=nonempty_forms h0
  have HK:=fun W'=>Lib.hid (kind_any lat W')
  generalize sidesB lat=S at *
  cases lat
  all_goals
    go_enter Tryz.func170,Tryz.ntmps170
    have q0:(w.alloc (.cells #[.bool false,.int .i64 0] 30)).cell? ⟨w.heap.size,0,none⟩=some (.bool false):=by simp [World.cell?_alloc_at]
    have q1:(w.alloc (.cells #[.bool false,.int .i64 0] 30)).cell? ⟨w.heap.size,1,none⟩=some (.int .i64 0):=by simp [World.cell?_alloc_at]
    go_wp2_with fail
    refine ((HK _).out).mono ?_
    rintro e w' ⟨rfl,rfl⟩
    go_wp2_with fail
    refine ((HP _).out).mono ?_
    rintro e w2 ⟨rfl,hb2⟩
    obtain⟨c2,f2⟩:=bcell hb2
    have hz:=hb2.size
    simp at hz
    have hz1:w.heap.size < w2.heap.size:=by omega
    have b2:=Lib.hid (bthen (below_new w _) hb2)
    replace q0:=(c2 w.heap.size 0 (by simp)).trans q0
    replace q1:=(c2 w.heap.size 1 (by simp)).trans q1
    go_wp2_with fail
    obtain⟨p0,p1⟩:=two_cells w2 w.heap.size (.bool false) (.int .i64 (0)) _ _ q0 q1
    refine bodyPost_ret (v:=.tuple #[numV false (0),.int .i64 3]) (by simp [results,Tryz.results170,go_sem,p0,p1]) rfl ⟨rfl,?_⟩
    exact (Below.setCell (Below.setCell b2.out (p:=⟨w.heap.size,0,none⟩) (Nat.le_refl _) _) (p:=⟨w.heap.size,1,none⟩) (Nat.le_refl _) _)
set_option maxRecDepth 8000 in
set_option maxHeartbeats 2000000 in
theorem TakeAngle_forme (s d:ByteArray) (lat:Bool) (n:Int) (w:World) (h0:s.size=0) (h1:0 < d.size) (HP:∀ W',Hid (Calls Tryz.prog 191 #[.string s,.int .i64 (wide2 lat:Int),.int .i64 (wide2 lat:Int),.int .i64 5] W' fun e w'=>e=.returned (.tuple #[.int .i64 n,.bool false])∧Below W'.heap.size W' w')) :
    Calls Tryz.prog 170 #[.string s,.string d,.bool lat] w fun e w'=>e=.returned (.tuple #[numV false (0),.int .i64 3])∧Below w.heap.size w w':=by
  obtain rfl:s=⟨#[]⟩:=ByteArray.ext (Array.eq_empty_of_size_eq_zero h0)
  obtain⟨hne1,hne2⟩:=nonempty_forms h1
  have HK:=fun W'=>Lib.hid (kind_any lat W')
  generalize sidesB lat=S at *
  cases lat
  all_goals
    go_enter Tryz.func170,Tryz.ntmps170
    have q0:(w.alloc (.cells #[.bool false,.int .i64 0] 30)).cell? ⟨w.heap.size,0,none⟩=some (.bool false):=by simp [World.cell?_alloc_at]
    have q1:(w.alloc (.cells #[.bool false,.int .i64 0] 30)).cell? ⟨w.heap.size,1,none⟩=some (.int .i64 0):=by simp [World.cell?_alloc_at]
    go_wp2_with fail
    refine ((HK _).out).mono ?_
    rintro e w' ⟨rfl,rfl⟩
    go_wp2_with fail
    refine ((HP _).out).mono ?_
    rintro e w2 ⟨rfl,hb2⟩
    obtain⟨c2,f2⟩:=bcell hb2
    have hz:=hb2.size
    simp at hz
    have hz1:w.heap.size < w2.heap.size:=by omega
    have b2:=Lib.hid (bthen (below_new w _) hb2)
    replace q0:=(c2 w.heap.size 0 (by simp)).trans q0
    replace q1:=(c2 w.heap.size 1 (by simp)).trans q1
    go_wp2_with fail
    obtain⟨p0,p1⟩:=two_cells w2 w.heap.size (.bool false) (.int .i64 (0)) _ _ q0 q1
    refine bodyPost_ret (v:=.tuple #[numV false (0),.int .i64 3]) (by simp [results,Tryz.results170,go_sem,p0,p1]) rfl ⟨rfl,?_⟩
    exact (Below.setCell (Below.setCell b2.out (p:=⟨w.heap.size,0,none⟩) (Nat.le_refl _) _) (p:=⟨w.heap.size,1,none⟩) (Nat.le_refl _) _)
set_option maxRecDepth 8000 in
set_option maxHeartbeats 2000000 in
theorem TakeAngle_side (s d:ByteArray) (lat:Bool) (n:Int) (w:World) (h0:0 < s.size) (HP:∀ W',Hid (Calls Tryz.prog 191 #[.string s,.int .i64 (wide2 lat:Int),.int .i64 (wide2 lat:Int),.int .i64 5] W' fun e w'=>e=.returned (.tuple #[.int .i64 n,.bool true])∧Below W'.heap.size W' w')) (k1:(d.toList==((sidesB lat).extract 0 1).toList)=false) (k2:(d.toList==((sidesB lat).extract 1 2).toList)=false) (hn0:0≤n) (hn:n≤2000000000000000000) :
    Calls Tryz.prog 170 #[.string s,.string d,.bool lat] w fun e w'=>e=.returned (.tuple #[numV false (0),.int .i64 3])∧Below w.heap.size w w':=by
  obtain⟨hne1,hne2⟩:=nonempty_forms h0
  have hS:(sidesB lat).size=2:=by cases lat <;> rfl
  have HK:=fun W'=>Lib.hid (kind_any lat W')
  generalize sidesB lat=S at *
  cases lat
  all_goals
    go_enter Tryz.func170,Tryz.ntmps170
    have q0:(w.alloc (.cells #[.bool false,.int .i64 0] 30)).cell? ⟨w.heap.size,0,none⟩=some (.bool false):=by simp [World.cell?_alloc_at]
    have q1:(w.alloc (.cells #[.bool false,.int .i64 0] 30)).cell? ⟨w.heap.size,1,none⟩=some (.int .i64 0):=by simp [World.cell?_alloc_at]
    go_wp2_with fail
    refine ((HK _).out).mono ?_
    rintro e w' ⟨rfl,rfl⟩
    go_wp2_with fail
    refine ((HP _).out).mono ?_
    rintro e w2 ⟨rfl,hb2⟩
    obtain⟨c2,f2⟩:=bcell hb2
    have hz:=hb2.size
    simp at hz
    have hz1:w.heap.size < w2.heap.size:=by omega
    have b2:=Lib.hid (bthen (below_new w _) hb2)
    replace q0:=(c2 w.heap.size 0 (by simp)).trans q0
    replace q1:=(c2 w.heap.size 1 (by simp)).trans q1
    go_wp2_with fail
    obtain⟨p0,p1⟩:=two_cells w2 w.heap.size (.bool false) (.int .i64 (0)) _ _ q0 q1
    refine bodyPost_ret (v:=.tuple #[numV false (0),.int .i64 3]) (by simp [results,Tryz.results170,go_sem,p0,p1]) rfl ⟨rfl,?_⟩
    exact (Below.setCell (Below.setCell b2.out (p:=⟨w.heap.size,0,none⟩) (Nat.le_refl _) _) (p:=⟨w.heap.size,1,none⟩) (Nat.le_refl _) _)
set_option maxRecDepth 8000 in
set_option maxHeartbeats 2000000 in
theorem TakeAngle_m_N (s d:ByteArray) (lat:Bool) (n:Int) (w:World) (h0:0 < s.size) (HP:∀ W',Hid (Calls Tryz.prog 191 #[.string s,.int .i64 (wide2 lat:Int),.int .i64 (wide2 lat:Int),.int .i64 5] W' fun e w'=>e=.returned (.tuple #[.int .i64 n,.bool true])∧Below W'.heap.size W' w')) (k1:(d.toList==((sidesB lat).extract 0 1).toList)=true) (k2:(d.toList==((sidesB lat).extract 1 2).toList)=false) (hn0:0≤n) (hn:n≤2000000000000000000) (g:6000000≤n % 10000000) :
    Calls Tryz.prog 170 #[.string s,.string d,.bool lat] w fun e w'=>e=.returned (.tuple #[numV false (0),.int .i64 5])∧Below w.heap.size w w':=by
  obtain⟨hne1,hne2⟩:=nonempty_forms h0
  have hS:(sidesB lat).size=2:=by cases lat <;> rfl
  have HK:=fun W'=>Lib.hid (kind_any lat W')
  generalize sidesB lat=S at *
  cases lat
  all_goals
    go_enter Tryz.func170,Tryz.ntmps170
    have q0:(w.alloc (.cells #[.bool false,.int .i64 0] 30)).cell? ⟨w.heap.size,0,none⟩=some (.bool false):=by simp [World.cell?_alloc_at]
    have q1:(w.alloc (.cells #[.bool false,.int .i64 0] 30)).cell? ⟨w.heap.size,1,none⟩=some (.int .i64 0):=by simp [World.cell?_alloc_at]
    go_wp2_with fail
    refine ((HK _).out).mono ?_
    rintro e w' ⟨rfl,rfl⟩
    go_wp2_with fail
    refine ((HP _).out).mono ?_
    rintro e w2 ⟨rfl,hb2⟩
    obtain⟨c2,f2⟩:=bcell hb2
    have hz:=hb2.size
    simp at hz
    have hz1:w.heap.size < w2.heap.size:=by omega
    have b2:=Lib.hid (bthen (below_new w _) hb2)
    replace q0:=(c2 w.heap.size 0 (by simp)).trans q0
    replace q1:=(c2 w.heap.size 1 (by simp)).trans q1
    go_wp2_with fail
    obtain⟨p0,p1⟩:=two_cells w2 w.heap.size (.bool false) (.int .i64 (0)) _ _ q0 q1
    refine bodyPost_ret (v:=.tuple #[numV false (0),.int .i64 5]) (by simp [results,Tryz.results170,go_sem,p0,p1]) rfl ⟨rfl,?_⟩
    exact (Below.setCell (Below.setCell b2.out (p:=⟨w.heap.size,0,none⟩) (Nat.le_refl _) _) (p:=⟨w.heap.size,1,none⟩) (Nat.le_refl _) _)
set_option maxRecDepth 8000 in
set_option maxHeartbeats 2000000 in
theorem TakeAngle_m_S (s d:ByteArray) (lat:Bool) (n:Int) (w:World) (h0:0 < s.size) (HP:∀ W',Hid (Calls Tryz.prog 191 #[.string s,.int .i64 (wide2 lat:Int),.int .i64 (wide2 lat:Int),.int .i64 5] W' fun e w'=>e=.returned (.tuple #[.int .i64 n,.bool true])∧Below W'.heap.size W' w')) (k1:(d.toList==((sidesB lat).extract 0 1).toList)=false) (k2:(d.toList==((sidesB lat).extract 1 2).toList)=true) (hn0:0≤n) (hn:n≤2000000000000000000) (g:6000000≤n % 10000000) :
    Calls Tryz.prog 170 #[.string s,.string d,.bool lat] w fun e w'=>e=.returned (.tuple #[numV false (0),.int .i64 5])∧Below w.heap.size w w':=by
  obtain⟨hne1,hne2⟩:=nonempty_forms h0
  have hS:(sidesB lat).size=2:=by cases lat <;> rfl
  have HK:=fun W'=>Lib.hid (kind_any lat W')
  generalize sidesB lat=S at *
  cases lat
  all_goals
    go_enter Tryz.func170,Tryz.ntmps170
    have q0:(w.alloc (.cells #[.bool false,.int .i64 0] 30)).cell? ⟨w.heap.size,0,none⟩=some (.bool false):=by simp [World.cell?_alloc_at]
    have q1:(w.alloc (.cells #[.bool false,.int .i64 0] 30)).cell? ⟨w.heap.size,1,none⟩=some (.int .i64 0):=by simp [World.cell?_alloc_at]
    go_wp2_with fail
    refine ((HK _).out).mono ?_
    rintro e w' ⟨rfl,rfl⟩
    go_wp2_with fail
    refine ((HP _).out).mono ?_
    rintro e w2 ⟨rfl,hb2⟩
    obtain⟨c2,f2⟩:=bcell hb2
    have hz:=hb2.size
    simp at hz
    have hz1:w.heap.size < w2.heap.size:=by omega
    have b2:=Lib.hid (bthen (below_new w _) hb2)
    replace q0:=(c2 w.heap.size 0 (by simp)).trans q0
    replace q1:=(c2 w.heap.size 1 (by simp)).trans q1
    go_wp2_with fail
    obtain⟨p0,p1⟩:=two_cells w2 w.heap.size (.bool false) (.int .i64 (0)) _ _ q0 q1
    refine bodyPost_ret (v:=.tuple #[numV false (0),.int .i64 5]) (by simp [results,Tryz.results170,go_sem,p0,p1]) rfl ⟨rfl,?_⟩
    exact (Below.setCell (Below.setCell b2.out (p:=⟨w.heap.size,0,none⟩) (Nat.le_refl _) _) (p:=⟨w.heap.size,1,none⟩) (Nat.le_refl _) _)
set_option maxRecDepth 8000 in
set_option maxHeartbeats 2000000 in
theorem TakeAngle_x_N (s d:ByteArray) (lat:Bool) (n:Int) (w:World) (h0:0 < s.size) (HP:∀ W',Hid (Calls Tryz.prog 191 #[.string s,.int .i64 (wide2 lat:Int),.int .i64 (wide2 lat:Int),.int .i64 5] W' fun e w'=>e=.returned (.tuple #[.int .i64 n,.bool true])∧Below W'.heap.size W' w')) (k1:(d.toList==((sidesB lat).extract 0 1).toList)=true) (k2:(d.toList==((sidesB lat).extract 1 2).toList)=false) (hn0:0≤n) (hn:n≤2000000000000000000) (g:n % 10000000 < 6000000) (g2:farI lat < n / 10000000 * 6000000+n % 10000000) :
    Calls Tryz.prog 170 #[.string s,.string d,.bool lat] w fun e w'=>e=.returned (.tuple #[numV false (0),.int .i64 5])∧Below w.heap.size w w':=by
  obtain⟨hne1,hne2⟩:=nonempty_forms h0
  have hS:(sidesB lat).size=2:=by cases lat <;> rfl
  have HK:=fun W'=>Lib.hid (kind_any lat W')
  generalize sidesB lat=S at *
  cases lat
  all_goals
    have g2':=g2
    unfold farI at g2'
    simp at g2'
    clear g2
    go_enter Tryz.func170,Tryz.ntmps170
    have q0:(w.alloc (.cells #[.bool false,.int .i64 0] 30)).cell? ⟨w.heap.size,0,none⟩=some (.bool false):=by simp [World.cell?_alloc_at]
    have q1:(w.alloc (.cells #[.bool false,.int .i64 0] 30)).cell? ⟨w.heap.size,1,none⟩=some (.int .i64 0):=by simp [World.cell?_alloc_at]
    go_wp2_with fail
    refine ((HK _).out).mono ?_
    rintro e w' ⟨rfl,rfl⟩
    go_wp2_with fail
    refine ((HP _).out).mono ?_
    rintro e w2 ⟨rfl,hb2⟩
    obtain⟨c2,f2⟩:=bcell hb2
    have hz:=hb2.size
    simp at hz
    have hz1:w.heap.size < w2.heap.size:=by omega
    have b2:=Lib.hid (bthen (below_new w _) hb2)
    replace q0:=(c2 w.heap.size 0 (by simp)).trans q0
    replace q1:=(c2 w.heap.size 1 (by simp)).trans q1
    go_wp2_with fail
    obtain⟨p0,p1⟩:=two_cells w2 w.heap.size (.bool false) (.int .i64 (0)) _ _ q0 q1
    refine bodyPost_ret (v:=.tuple #[numV false (0),.int .i64 5]) (by simp [results,Tryz.results170,go_sem,p0,p1]) rfl ⟨rfl,?_⟩
    exact (Below.setCell (Below.setCell b2.out (p:=⟨w.heap.size,0,none⟩) (Nat.le_refl _) _) (p:=⟨w.heap.size,1,none⟩) (Nat.le_refl _) _)
set_option maxRecDepth 8000 in
set_option maxHeartbeats 2000000 in
theorem TakeAngle_x_S (s d:ByteArray) (lat:Bool) (n:Int) (w:World) (h0:0 < s.size) (HP:∀ W',Hid (Calls Tryz.prog 191 #[.string s,.int .i64 (wide2 lat:Int),.int .i64 (wide2 lat:Int),.int .i64 5] W' fun e w'=>e=.returned (.tuple #[.int .i64 n,.bool true])∧Below W'.heap.size W' w')) (k1:(d.toList==((sidesB lat).extract 0 1).toList)=false) (k2:(d.toList==((sidesB lat).extract 1 2).toList)=true) (hn0:0≤n) (hn:n≤2000000000000000000) (g:n % 10000000 < 6000000) (g2:farI lat < n / 10000000 * 6000000+n % 10000000) :
    Calls Tryz.prog 170 #[.string s,.string d,.bool lat] w fun e w'=>e=.returned (.tuple #[numV false (0),.int .i64 5])∧Below w.heap.size w w':=by
  obtain⟨hne1,hne2⟩:=nonempty_forms h0
  have hS:(sidesB lat).size=2:=by cases lat <;> rfl
  have HK:=fun W'=>Lib.hid (kind_any lat W')
  generalize sidesB lat=S at *
  cases lat
  all_goals
    have g2':=g2
    unfold farI at g2'
    simp at g2'
    clear g2
    go_enter Tryz.func170,Tryz.ntmps170
    have q0:(w.alloc (.cells #[.bool false,.int .i64 0] 30)).cell? ⟨w.heap.size,0,none⟩=some (.bool false):=by simp [World.cell?_alloc_at]
    have q1:(w.alloc (.cells #[.bool false,.int .i64 0] 30)).cell? ⟨w.heap.size,1,none⟩=some (.int .i64 0):=by simp [World.cell?_alloc_at]
    go_wp2_with fail
    refine ((HK _).out).mono ?_
    rintro e w' ⟨rfl,rfl⟩
    go_wp2_with fail
    refine ((HP _).out).mono ?_
    rintro e w2 ⟨rfl,hb2⟩
    obtain⟨c2,f2⟩:=bcell hb2
    have hz:=hb2.size
    simp at hz
    have hz1:w.heap.size < w2.heap.size:=by omega
    have b2:=Lib.hid (bthen (below_new w _) hb2)
    replace q0:=(c2 w.heap.size 0 (by simp)).trans q0
    replace q1:=(c2 w.heap.size 1 (by simp)).trans q1
    go_wp2_with fail
    obtain⟨p0,p1⟩:=two_cells w2 w.heap.size (.bool false) (.int .i64 (0)) _ _ q0 q1
    refine bodyPost_ret (v:=.tuple #[numV false (0),.int .i64 5]) (by simp [results,Tryz.results170,go_sem,p0,p1]) rfl ⟨rfl,?_⟩
    exact (Below.setCell (Below.setCell b2.out (p:=⟨w.heap.size,0,none⟩) (Nat.le_refl _) _) (p:=⟨w.heap.size,1,none⟩) (Nat.le_refl _) _)
set_option maxRecDepth 8000 in
set_option maxHeartbeats 2000000 in
theorem TakeAngle_ok_N (s d:ByteArray) (lat:Bool) (n:Int) (w:World) (h0:0 < s.size) (HP:∀ W',Hid (Calls Tryz.prog 191 #[.string s,.int .i64 (wide2 lat:Int),.int .i64 (wide2 lat:Int),.int .i64 5] W' fun e w'=>e=.returned (.tuple #[.int .i64 n,.bool true])∧Below W'.heap.size W' w')) (k1:(d.toList==((sidesB lat).extract 0 1).toList)=true) (k2:(d.toList==((sidesB lat).extract 1 2).toList)=false) (hn0:0≤n) (hn:n≤2000000000000000000) (g:n % 10000000 < 6000000) (g2:n / 10000000 * 6000000+n % 10000000≤farI lat) :
    Calls Tryz.prog 170 #[.string s,.string d,.bool lat] w fun e w'=>e=.returned (.tuple #[numV true (n / 10000000 * 6000000+n % 10000000),.int .i64 0])∧Below w.heap.size w w':=by
  obtain⟨hne1,hne2⟩:=nonempty_forms h0
  have hS:(sidesB lat).size=2:=by cases lat <;> rfl
  have HK:=fun W'=>Lib.hid (kind_any lat W')
  generalize sidesB lat=S at *
  cases lat
  all_goals
    have g2':=g2
    unfold farI at g2'
    simp at g2'
    clear g2
    go_enter Tryz.func170,Tryz.ntmps170
    have q0:(w.alloc (.cells #[.bool false,.int .i64 0] 30)).cell? ⟨w.heap.size,0,none⟩=some (.bool false):=by simp [World.cell?_alloc_at]
    have q1:(w.alloc (.cells #[.bool false,.int .i64 0] 30)).cell? ⟨w.heap.size,1,none⟩=some (.int .i64 0):=by simp [World.cell?_alloc_at]
    go_wp2_with fail
    refine ((HK _).out).mono ?_
    rintro e w' ⟨rfl,rfl⟩
    go_wp2_with fail
    refine ((HP _).out).mono ?_
    rintro e w2 ⟨rfl,hb2⟩
    obtain⟨c2,f2⟩:=bcell hb2
    have hz:=hb2.size
    simp at hz
    have hz1:w.heap.size < w2.heap.size:=by omega
    have b2:=Lib.hid (bthen (below_new w _) hb2)
    replace q0:=(c2 w.heap.size 0 (by simp)).trans q0
    replace q1:=(c2 w.heap.size 1 (by simp)).trans q1
    go_wp2_with fail
    obtain⟨p0,p1⟩:=two_cells w2 w.heap.size (.bool true) (.int .i64 (n / 10000000 * 6000000+n % 10000000)) _ _ q0 q1
    refine bodyPost_ret (v:=.tuple #[numV true (n / 10000000 * 6000000+n % 10000000),.int .i64 0]) (by simp [results,Tryz.results170,go_sem,p0,p1]) rfl ⟨rfl,?_⟩
    exact (Below.setCell (Below.setCell b2.out (p:=⟨w.heap.size,0,none⟩) (Nat.le_refl _) _) (p:=⟨w.heap.size,1,none⟩) (Nat.le_refl _) _)
set_option maxRecDepth 8000 in
set_option maxHeartbeats 2000000 in
theorem TakeAngle_ok_S (s d:ByteArray) (lat:Bool) (n:Int) (w:World) (h0:0 < s.size) (HP:∀ W',Hid (Calls Tryz.prog 191 #[.string s,.int .i64 (wide2 lat:Int),.int .i64 (wide2 lat:Int),.int .i64 5] W' fun e w'=>e=.returned (.tuple #[.int .i64 n,.bool true])∧Below W'.heap.size W' w')) (k1:(d.toList==((sidesB lat).extract 0 1).toList)=false) (k2:(d.toList==((sidesB lat).extract 1 2).toList)=true) (hn0:0≤n) (hn:n≤2000000000000000000) (g:n % 10000000 < 6000000) (g2:n / 10000000 * 6000000+n % 10000000≤farI lat) :
    Calls Tryz.prog 170 #[.string s,.string d,.bool lat] w fun e w'=>e=.returned (.tuple #[numV true (-(n / 10000000 * 6000000+n % 10000000)),.int .i64 0])∧Below w.heap.size w w':=by
  obtain⟨hne1,hne2⟩:=nonempty_forms h0
  have hS:(sidesB lat).size=2:=by cases lat <;> rfl
  have HK:=fun W'=>Lib.hid (kind_any lat W')
  generalize sidesB lat=S at *
  cases lat
  all_goals
    have g2':=g2
    unfold farI at g2'
    simp at g2'
    clear g2
    go_enter Tryz.func170,Tryz.ntmps170
    have q0:(w.alloc (.cells #[.bool false,.int .i64 0] 30)).cell? ⟨w.heap.size,0,none⟩=some (.bool false):=by simp [World.cell?_alloc_at]
    have q1:(w.alloc (.cells #[.bool false,.int .i64 0] 30)).cell? ⟨w.heap.size,1,none⟩=some (.int .i64 0):=by simp [World.cell?_alloc_at]
    go_wp2_with fail
    refine ((HK _).out).mono ?_
    rintro e w' ⟨rfl,rfl⟩
    go_wp2_with fail
    refine ((HP _).out).mono ?_
    rintro e w2 ⟨rfl,hb2⟩
    obtain⟨c2,f2⟩:=bcell hb2
    have hz:=hb2.size
    simp at hz
    have hz1:w.heap.size < w2.heap.size:=by omega
    have b2:=Lib.hid (bthen (below_new w _) hb2)
    replace q0:=(c2 w.heap.size 0 (by simp)).trans q0
    replace q1:=(c2 w.heap.size 1 (by simp)).trans q1
    go_wp2_with fail
    obtain⟨p0,p1⟩:=two_cells w2 w.heap.size (.bool true) (.int .i64 (-(n / 10000000 * 6000000+n % 10000000))) _ _ q0 q1
    refine bodyPost_ret (v:=.tuple #[numV true (-(n / 10000000 * 6000000+n % 10000000)),.int .i64 0]) (by simp [results,Tryz.results170,go_sem,p0,p1]) rfl ⟨rfl,?_⟩
    exact (Below.setCell (Below.setCell b2.out (p:=⟨w.heap.size,0,none⟩) (Nat.le_refl _) _) (p:=⟨w.heap.size,1,none⟩) (Nat.le_refl _) _)
theorem beq_textD (f g:ByteArray):(f.toList==g.toList)=decide (f=g):=by
  rw [ByteArray.toList_eq,ByteArray.toList_eq]
  by_cases h:f=g
  · subst h;simp
  · rw [decide_eq_false h,beq_eq_false_iff_ne]
    intro k
    exact h (ByteArray.ext (by simpa using k))
def takeAng (l:List UInt8) (d:ByteArray) (lat:Bool):Bool×Int×Int:=
  if l=[]∧d.data.toList=[] then (false,0,0)
  else match parseN l (wide2 lat) (wide2 lat) 5 with
  | none=>(false,0,3)
  | some n=>if d≠sideB lat false∧d≠sideB lat true then (false,0,3)
    else if 6000000≤n % 10000000∨farI lat < ((n / 10000000 * 6000000+n % 10000000:Nat):Int) then (false,0,5)
    else (true,(if d=sideB lat true then -((n / 10000000 * 6000000+n % 10000000:Nat):Int) else ((n / 10000000 * 6000000+n % 10000000:Nat):Int)),0)
theorem sideB_ne (lat:Bool):sideB lat false≠sideB lat true:=by cases lat <;> decide
theorem parseN_nil (k m f:Nat) (hk:1≤k):parseN [] k m f=none:=by
  unfold parseN
  rw [if_pos (.inl (by show 0 < k;omega))]
theorem TakeAngle23_any (s d:ByteArray) (lat:Bool) (w:World) (hs:s.size≤1000000) :
    Calls Tryz.prog 170 #[.string s,.string d,.bool lat] w fun e w'=>e=.returned (.tuple #[numV (takeAng s.data.toList d lat).1 (takeAng s.data.toList d lat).2.1,.int .i64 (takeAng s.data.toList d lat).2.2])∧Below w.heap.size w w':=by
  unfold takeAng
  have hw:1≤wide2 lat∧wide2 lat≤5:=by unfold wide2;split <;> omega
  by_cases h0:s.data.toList=[]∧d.data.toList=[]
  · rw [if_pos h0]
    exact TakeAngle_empty s d lat w (size_nil h0.1) (size_nil h0.2)
  rw [if_neg h0]
  have HP:=fun W'=>Lib.hid (parse_any s (wide2 lat) (wide2 lat) 5 W' hs (by omega) (by omega))
  by_cases hn:s.data.toList=[]
  · have hd:d.data.toList≠[]:=fun k=>h0 ⟨hn,k⟩
    rw [hn,parseN_nil _ _ _ hw.1] at HP
    rw [hn,parseN_nil _ _ _ hw.1]
    exact TakeAngle_forme s d lat 0 w (size_nil hn) (size_pos hd) HP
  have hp:=size_pos hn
  cases hq:parseN s.data.toList (wide2 lat) (wide2 lat) 5 with
  | none=>
    simp only [hq] at HP
    exact TakeAngle_form s d lat 0 w hp HP
  | some n=>
    simp only [hq] at HP
    have hle:=parseN_le hq (by omega)
    have k1:=beq_textD d ((sidesB lat).extract 0 1)
    have k2:=beq_textD d ((sidesB lat).extract 1 2)
    rw [sideB_false] at k1
    rw [sideB_true] at k2
    rw [← sideB_false] at k1
    rw [← sideB_true] at k2
    have hx:((n / 10000000 * 6000000+n % 10000000:Nat):Int)=(n:Int) / 10000000 * 6000000+(n:Int) % 10000000:=by omega
    have hm:((n % 10000000:Nat):Int)=(n:Int) % 10000000:=by omega
    dsimp only
    by_cases hN:d=sideB lat false
    · have hS:d≠sideB lat true:=fun k=>sideB_ne lat (hN.symm.trans k)
      rw [if_neg (fun k=>k.1 hN)]
      rw [decide_eq_true (by rw [sideB_false];exact hN)] at k1
      rw [decide_eq_false (by rw [sideB_true];exact hS)] at k2
      by_cases g:6000000≤n % 10000000
      · rw [if_pos (.inl g)]
        exact TakeAngle_m_N s d lat n w hp HP k1 k2 (by omega) (by omega) (by omega)
      by_cases g2:farI lat < ((n / 10000000 * 6000000+n % 10000000:Nat):Int)
      · rw [if_pos (.inr g2)]
        exact TakeAngle_x_N s d lat n w hp HP k1 k2 (by omega) (by omega) (by omega) (by omega)
      rw [if_neg (by omega),if_neg hS,hx]
      exact TakeAngle_ok_N s d lat n w hp HP k1 k2 (by omega) (by omega) (by omega) (by omega)
    rw [decide_eq_false (by rw [sideB_false];exact hN)] at k1
    by_cases hS:d=sideB lat true
    · rw [if_neg (fun k=>k.2 hS)]
      rw [decide_eq_true (by rw [sideB_true];exact hS)] at k2
      by_cases g:6000000≤n % 10000000
      · rw [if_pos (.inl g)]
        exact TakeAngle_m_S s d lat n w hp HP k1 k2 (by omega) (by omega) (by omega)
      by_cases g2:farI lat < ((n / 10000000 * 6000000+n % 10000000:Nat):Int)
      · rw [if_pos (.inr g2)]
        exact TakeAngle_x_S s d lat n w hp HP k1 k2 (by omega) (by omega) (by omega) (by omega)
      rw [if_neg (by omega),if_pos hS,hx]
      exact TakeAngle_ok_S s d lat n w hp HP k1 k2 (by omega) (by omega) (by omega) (by omega)
    · rw [if_pos ⟨hN,hS⟩]
      rw [decide_eq_false (by rw [sideB_true];exact hS)] at k2
      exact TakeAngle_side s d lat n w hp HP k1 k2 (by omega) (by omega)
theorem below_draws {w:World} (k:Nat):Below w.heap.size w (w.drewN k):=bdrewN (Below.refl _ _) k
end Go.Proofs.YtoabkoniegmkaaaGreat
