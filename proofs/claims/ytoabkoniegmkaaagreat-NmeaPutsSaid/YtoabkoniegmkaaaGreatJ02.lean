/- Layer 23: the program's Take, case by case. -/
import Derived.Test.YtoabkoniegmkaaaGreatJ01
import Derived.Deep.RegionHeld3
namespace Go.Proofs.YtoabkoniegmkaaaGreat
set_option linter.unusedVariables false
open Go.RowKit
theorem undrewN {w w':World} {n:Nat} (h:Below (w.drewN n).heap.size (w.drewN n) w'):Below w.heap.size w w':=⟨h.os,h.tape,h.output,h.size,h.block⟩
theorem two_cells (w:World) (g:Nat) (v0 v1 o0 o1:Value) (h0:w.cell? ⟨g,0,none⟩=some o0) (h1:w.cell? ⟨g,1,none⟩=some o1) :
    ((w.setCell ⟨g,0,none⟩ v0).setCell ⟨g,1,none⟩ v1).cell? ⟨g,0,none⟩=some v0∧((w.setCell ⟨g,0,none⟩ v0).setCell ⟨g,1,none⟩ v1).cell? ⟨g,1,none⟩=some v1:=by
  have n01:(⟨g,1,none⟩:Addr)≠⟨g,0,none⟩:=by simp
  refine⟨?_,?_⟩
  · rw [World.cell?_setCell_other _ _ _ _ n01]
    exact World.cell?_setCell_same _ _ _ h0
  · exact World.cell?_setCell_same _ _ _ ((World.cell?_setCell_other _ _ _ _ (fun e=>n01 e.symm)).trans h1)
set_option maxRecDepth 8000 in
set_option maxHeartbeats 2000000 in
theorem Take_arg (s:ByteArray) (W M F L H:Int) (w:World) (hs:s.size≤1000000) (HR:∀ W',Hid (Calls Tryz.prog 190 #[colV W M F L H] W' fun e w'=>e=.returned (.bool false)∧Below W'.heap.size W' w')) :
    Calls Tryz.prog 169 #[.string s,colV W M F L H] w fun e w'=>e=.returned (.tuple #[numV false 0,.int .i64 1])∧Below w.heap.size w w':=by
  go_enter Tryz.func169,Tryz.ntmps169
  go_wp2_with fail
  refine ((HR _).out).mono ?_
  rintro e w1 ⟨rfl,hb1⟩
  obtain⟨c1,f1⟩:=bcell hb1
  have hz:=hb1.size
  simp at hz
  have hz1:w.heap.size < w1.heap.size:=by omega
  have hz4:w.heap.size+1 < w1.heap.size:=by omega
  have b1:=Lib.hid (bthen (bthen (below_new w _) (below_new _ _)) hb1)
  have q0:w1.cell? ⟨w.heap.size+1,0,none⟩=some (.bool false):=(c1 (w.heap.size+1) 0 (by simp)).trans (by simp [World.cell?_alloc_at])
  have q1:w1.cell? ⟨w.heap.size+1,1,none⟩=some (.int .i64 0):=(c1 (w.heap.size+1) 1 (by simp)).trans (by simp [World.cell?_alloc_at])
  go_wp2_with fail
  obtain⟨p0,p1⟩:=two_cells w1 (w.heap.size+1) (.bool false) (.int .i64 0) _ _ q0 q1
  refine bodyPost_ret (v:=.tuple #[numV false 0,.int .i64 1]) (by simp [results,Tryz.results169,go_sem,p0,p1]) rfl ⟨rfl,?_⟩
  exact (Below.setCell (Below.setCell b1.out (p:=⟨w.heap.size+1,0,none⟩) (by show w.heap.size≤w.heap.size+1;omega) _) (p:=⟨w.heap.size+1,1,none⟩) (by show w.heap.size≤w.heap.size+1;omega) _)
set_option maxRecDepth 8000 in
set_option maxHeartbeats 2000000 in
theorem Take_empty (s:ByteArray) (W M F L H:Int) (w:World) (hs:s.size≤1000000) (HR:∀ W',Hid (Calls Tryz.prog 190 #[colV W M F L H] W' fun e w'=>e=.returned (.bool true)∧Below W'.heap.size W' w')) (h0:s.size=0) :
    Calls Tryz.prog 169 #[.string s,colV W M F L H] w fun e w'=>e=.returned (.tuple #[numV false 0,.int .i64 0])∧Below w.heap.size w w':=by
  obtain rfl:s=⟨#[]⟩:=ByteArray.ext (Array.eq_empty_of_size_eq_zero h0)
  go_enter Tryz.func169,Tryz.ntmps169
  go_wp2_with fail
  refine ((HR _).out).mono ?_
  rintro e w1 ⟨rfl,hb1⟩
  obtain⟨c1,f1⟩:=bcell hb1
  have hz:=hb1.size
  simp at hz
  have hz1:w.heap.size < w1.heap.size:=by omega
  have hz4:w.heap.size+1 < w1.heap.size:=by omega
  have b1:=Lib.hid (bthen (bthen (below_new w _) (below_new _ _)) hb1)
  have q0:w1.cell? ⟨w.heap.size+1,0,none⟩=some (.bool false):=(c1 (w.heap.size+1) 0 (by simp)).trans (by simp [World.cell?_alloc_at])
  have q1:w1.cell? ⟨w.heap.size+1,1,none⟩=some (.int .i64 0):=(c1 (w.heap.size+1) 1 (by simp)).trans (by simp [World.cell?_alloc_at])
  go_wp2_with fail
  obtain⟨p0,p1⟩:=two_cells w1 (w.heap.size+1) (.bool false) (.int .i64 0) _ _ q0 q1
  refine bodyPost_ret (v:=.tuple #[numV false 0,.int .i64 0]) (by simp [results,Tryz.results169,go_sem,p0,p1]) rfl ⟨rfl,?_⟩
  exact (Below.setCell (Below.setCell b1.out (p:=⟨w.heap.size+1,0,none⟩) (by show w.heap.size≤w.heap.size+1;omega) _) (p:=⟨w.heap.size+1,1,none⟩) (by show w.heap.size≤w.heap.size+1;omega) _)
set_option maxRecDepth 8000 in
set_option maxHeartbeats 2000000 in
theorem Take_form_pos (s:ByteArray) (W M F L H:Int) (n:Int) (w:World) (hs:s.size≤1000000) (h0:0 < s.size) (hc:(((s[0]'h0).toNat:Int)==45)=false) (HR:∀ W',Hid (Calls Tryz.prog 190 #[colV W M F L H] W' fun e w'=>e=.returned (.bool true)∧Below W'.heap.size W' w')) (HP:∀ W',Hid (Calls Tryz.prog 191 #[.string s,.int .i64 1,.int .i64 M,.int .i64 F] W' fun e w'=>e=.returned (.tuple #[.int .i64 n,.bool false])∧Below W'.heap.size W' w')) :
    Calls Tryz.prog 169 #[.string s,colV W M F L H] w fun e w'=>e=.returned (.tuple #[numV false 0,.int .i64 3])∧Below w.heap.size w w':=by
  have i1:(0:Int) < (s.size:Int):=by omega
  have i2:(1:Int)≤(s.size:Int):=by omega
  obtain⟨hne1,hne2⟩:=nonempty_forms h0
  go_enter Tryz.func169,Tryz.ntmps169
  go_wp2_with fail
  refine ((HR _).out).mono ?_
  rintro e w1 ⟨rfl,hb1⟩
  obtain⟨c1,f1⟩:=bcell hb1
  have hz:=hb1.size
  simp at hz
  have hz1:w.heap.size < w1.heap.size:=by omega
  have hz4:w.heap.size+1 < w1.heap.size:=by omega
  have b1:=Lib.hid (bthen (bthen (below_new w _) (below_new _ _)) hb1)
  have q0:w1.cell? ⟨w.heap.size+1,0,none⟩=some (.bool false):=(c1 (w.heap.size+1) 0 (by simp)).trans (by simp [World.cell?_alloc_at])
  have q1:w1.cell? ⟨w.heap.size+1,1,none⟩=some (.int .i64 0):=(c1 (w.heap.size+1) 1 (by simp)).trans (by simp [World.cell?_alloc_at])
  go_wp2_with fail
  refine ((HP _).out).mono ?_
  rintro e w2 ⟨rfl,hb2⟩
  obtain⟨c2,f2⟩:=bcell hb2
  have hz5:=hb2.size
  have hz6:w.heap.size < w2.heap.size:=by omega
  have hz7:w.heap.size+1 < w2.heap.size:=by omega
  have b2:=Lib.hid (bthen b1.out hb2)
  replace q0:=(c2 _ 0 hz4).trans q0
  replace q1:=(c2 _ 1 hz4).trans q1
  go_wp2_with fail
  obtain⟨p0,p1⟩:=two_cells w2 (w.heap.size+1) (.bool false) (.int .i64 0) _ _ q0 q1
  refine bodyPost_ret (v:=.tuple #[numV false 0,.int .i64 3]) (by simp [results,Tryz.results169,go_sem,p0,p1]) rfl ⟨rfl,?_⟩
  exact (Below.setCell (Below.setCell b2.out (p:=⟨w.heap.size+1,0,none⟩) (by show w.heap.size≤w.heap.size+1;omega) _) (p:=⟨w.heap.size+1,1,none⟩) (by show w.heap.size≤w.heap.size+1;omega) _)
set_option maxRecDepth 8000 in
set_option maxHeartbeats 2000000 in
theorem Take_range_pos (s:ByteArray) (W M F L H:Int) (n:Int) (w:World) (hs:s.size≤1000000) (h0:0 < s.size) (hc:(((s[0]'h0).toNat:Int)==45)=false) (HR:∀ W',Hid (Calls Tryz.prog 190 #[colV W M F L H] W' fun e w'=>e=.returned (.bool true)∧Below W'.heap.size W' w')) (HP:∀ W',Hid (Calls Tryz.prog 191 #[.string s,.int .i64 1,.int .i64 M,.int .i64 F] W' fun e w'=>e=.returned (.tuple #[.int .i64 n,.bool true])∧Below W'.heap.size W' w')) (hn0:0≤n) (hn:n≤2000000000000000000) (HF:∀ W',Hid (Calls Tryz.prog 192 #[numV true n,.int .i64 L,.int .i64 H] W' fun e w'=>e=.returned (.bool false)∧Below W'.heap.size W' w')) :
    Calls Tryz.prog 169 #[.string s,colV W M F L H] w fun e w'=>e=.returned (.tuple #[numV false 0,.int .i64 5])∧Below w.heap.size w w':=by
  have i1:(0:Int) < (s.size:Int):=by omega
  have i2:(1:Int)≤(s.size:Int):=by omega
  obtain⟨hne1,hne2⟩:=nonempty_forms h0
  have e1:(1:Int) * n=n:=Int.one_mul n
  have e2:(-1:Int) * n=-n:=by rw [Int.neg_mul,Int.one_mul]
  go_enter Tryz.func169,Tryz.ntmps169
  go_wp2_with fail
  refine ((HR _).out).mono ?_
  rintro e w1 ⟨rfl,hb1⟩
  obtain⟨c1,f1⟩:=bcell hb1
  have hz:=hb1.size
  simp at hz
  have hz1:w.heap.size < w1.heap.size:=by omega
  have hz4:w.heap.size+1 < w1.heap.size:=by omega
  have b1:=Lib.hid (bthen (bthen (below_new w _) (below_new _ _)) hb1)
  have q0:w1.cell? ⟨w.heap.size+1,0,none⟩=some (.bool false):=(c1 (w.heap.size+1) 0 (by simp)).trans (by simp [World.cell?_alloc_at])
  have q1:w1.cell? ⟨w.heap.size+1,1,none⟩=some (.int .i64 0):=(c1 (w.heap.size+1) 1 (by simp)).trans (by simp [World.cell?_alloc_at])
  go_wp2_with fail
  refine ((HP _).out).mono ?_
  rintro e w2 ⟨rfl,hb2⟩
  obtain⟨c2,f2⟩:=bcell hb2
  have hz5:=hb2.size
  have hz6:w.heap.size < w2.heap.size:=by omega
  have hz7:w.heap.size+1 < w2.heap.size:=by omega
  have b2:=Lib.hid (bthen b1.out hb2)
  replace q0:=(c2 _ 0 hz4).trans q0
  replace q1:=(c2 _ 1 hz4).trans q1
  go_wp2_with fail
  refine ((HF _).out).mono ?_
  rintro e w3 ⟨rfl,hb3⟩
  obtain⟨c3,f3⟩:=bcell hb3
  have hz8:=hb3.size
  simp at hz8
  have hz9:w2.heap.size < w3.heap.size:=by omega
  have hz10:w.heap.size+1 < w3.heap.size:=by omega
  have b3:=Lib.hid (bthen (bthen b2.out (below_new _ _)) hb3)
  replace q0:=(c3 (w.heap.size+1) 0 (by simp;omega)).trans ((World.cell?_alloc_past _ _ _ (by omega)).trans q0)
  replace q1:=(c3 (w.heap.size+1) 1 (by simp;omega)).trans ((World.cell?_alloc_past _ _ _ (by omega)).trans q1)
  go_wp2_with fail
  obtain⟨p0,p1⟩:=two_cells w3 (w.heap.size+1) (.bool false) (.int .i64 0) _ _ q0 q1
  refine bodyPost_ret (v:=.tuple #[numV false 0,.int .i64 5]) (by simp [results,Tryz.results169,go_sem,p0,p1]) rfl ⟨rfl,?_⟩
  exact (Below.setCell (Below.setCell b3.out (p:=⟨w.heap.size+1,0,none⟩) (by show w.heap.size≤w.heap.size+1;omega) _) (p:=⟨w.heap.size+1,1,none⟩) (by show w.heap.size≤w.heap.size+1;omega) _)
set_option maxRecDepth 8000 in
set_option maxHeartbeats 2000000 in
theorem Take_ok_pos (s:ByteArray) (W M F L H:Int) (n:Int) (w:World) (hs:s.size≤1000000) (h0:0 < s.size) (hc:(((s[0]'h0).toNat:Int)==45)=false) (HR:∀ W',Hid (Calls Tryz.prog 190 #[colV W M F L H] W' fun e w'=>e=.returned (.bool true)∧Below W'.heap.size W' w')) (HP:∀ W',Hid (Calls Tryz.prog 191 #[.string s,.int .i64 1,.int .i64 M,.int .i64 F] W' fun e w'=>e=.returned (.tuple #[.int .i64 n,.bool true])∧Below W'.heap.size W' w')) (hn0:0≤n) (hn:n≤2000000000000000000) (HF:∀ W',Hid (Calls Tryz.prog 192 #[numV true n,.int .i64 L,.int .i64 H] W' fun e w'=>e=.returned (.bool true)∧Below W'.heap.size W' w')) :
    Calls Tryz.prog 169 #[.string s,colV W M F L H] w fun e w'=>e=.returned (.tuple #[numV true n,.int .i64 0])∧Below w.heap.size w w':=by
  have i1:(0:Int) < (s.size:Int):=by omega
  have i2:(1:Int)≤(s.size:Int):=by omega
  obtain⟨hne1,hne2⟩:=nonempty_forms h0
  have e1:(1:Int) * n=n:=Int.one_mul n
  have e2:(-1:Int) * n=-n:=by rw [Int.neg_mul,Int.one_mul]
  go_enter Tryz.func169,Tryz.ntmps169
  go_wp2_with fail
  refine ((HR _).out).mono ?_
  rintro e w1 ⟨rfl,hb1⟩
  obtain⟨c1,f1⟩:=bcell hb1
  have hz:=hb1.size
  simp at hz
  have hz1:w.heap.size < w1.heap.size:=by omega
  have hz4:w.heap.size+1 < w1.heap.size:=by omega
  have b1:=Lib.hid (bthen (bthen (below_new w _) (below_new _ _)) hb1)
  have q0:w1.cell? ⟨w.heap.size+1,0,none⟩=some (.bool false):=(c1 (w.heap.size+1) 0 (by simp)).trans (by simp [World.cell?_alloc_at])
  have q1:w1.cell? ⟨w.heap.size+1,1,none⟩=some (.int .i64 0):=(c1 (w.heap.size+1) 1 (by simp)).trans (by simp [World.cell?_alloc_at])
  go_wp2_with fail
  refine ((HP _).out).mono ?_
  rintro e w2 ⟨rfl,hb2⟩
  obtain⟨c2,f2⟩:=bcell hb2
  have hz5:=hb2.size
  have hz6:w.heap.size < w2.heap.size:=by omega
  have hz7:w.heap.size+1 < w2.heap.size:=by omega
  have b2:=Lib.hid (bthen b1.out hb2)
  replace q0:=(c2 _ 0 hz4).trans q0
  replace q1:=(c2 _ 1 hz4).trans q1
  go_wp2_with fail
  refine ((HF _).out).mono ?_
  rintro e w3 ⟨rfl,hb3⟩
  obtain⟨c3,f3⟩:=bcell hb3
  have hz8:=hb3.size
  simp at hz8
  have hz9:w2.heap.size < w3.heap.size:=by omega
  have hz10:w.heap.size+1 < w3.heap.size:=by omega
  have b3:=Lib.hid (bthen (bthen b2.out (below_new _ _)) hb3)
  replace q0:=(c3 (w.heap.size+1) 0 (by simp;omega)).trans ((World.cell?_alloc_past _ _ _ (by omega)).trans q0)
  replace q1:=(c3 (w.heap.size+1) 1 (by simp;omega)).trans ((World.cell?_alloc_past _ _ _ (by omega)).trans q1)
  go_wp2_with fail
  obtain⟨p0,p1⟩:=two_cells w3 (w.heap.size+1) (.bool true) (.int .i64 n) _ _ q0 q1
  refine bodyPost_ret (v:=.tuple #[numV true n,.int .i64 0]) (by simp [results,Tryz.results169,go_sem,p0,p1]) rfl ⟨rfl,?_⟩
  exact (Below.setCell (Below.setCell b3.out (p:=⟨w.heap.size+1,0,none⟩) (by show w.heap.size≤w.heap.size+1;omega) _) (p:=⟨w.heap.size+1,1,none⟩) (by show w.heap.size≤w.heap.size+1;omega) _)
set_option maxRecDepth 8000 in
set_option maxHeartbeats 2000000 in
theorem Take_form_neg (s:ByteArray) (W M F L H:Int) (n:Int) (w:World) (hs:s.size≤1000000) (h0:0 < s.size) (hc:(((s[0]'h0).toNat:Int)==45)=true) (HR:∀ W',Hid (Calls Tryz.prog 190 #[colV W M F L H] W' fun e w'=>e=.returned (.bool true)∧Below W'.heap.size W' w')) (HP:∀ W',Hid (Calls Tryz.prog 191 #[.string (s.extract 1 s.size),.int .i64 1,.int .i64 M,.int .i64 F] W' fun e w'=>e=.returned (.tuple #[.int .i64 n,.bool false])∧Below W'.heap.size W' w')) :
    Calls Tryz.prog 169 #[.string s,colV W M F L H] w fun e w'=>e=.returned (.tuple #[numV false 0,.int .i64 3])∧Below w.heap.size w w':=by
  have i1:(0:Int) < (s.size:Int):=by omega
  have i2:(1:Int)≤(s.size:Int):=by omega
  obtain⟨hne1,hne2⟩:=nonempty_forms h0
  go_enter Tryz.func169,Tryz.ntmps169
  go_wp2_with fail
  refine ((HR _).out).mono ?_
  rintro e w1 ⟨rfl,hb1⟩
  obtain⟨c1,f1⟩:=bcell hb1
  have hz:=hb1.size
  simp at hz
  have hz1:w.heap.size < w1.heap.size:=by omega
  have hz4:w.heap.size+1 < w1.heap.size:=by omega
  have b1:=Lib.hid (bthen (bthen (below_new w _) (below_new _ _)) hb1)
  have q0:w1.cell? ⟨w.heap.size+1,0,none⟩=some (.bool false):=(c1 (w.heap.size+1) 0 (by simp)).trans (by simp [World.cell?_alloc_at])
  have q1:w1.cell? ⟨w.heap.size+1,1,none⟩=some (.int .i64 0):=(c1 (w.heap.size+1) 1 (by simp)).trans (by simp [World.cell?_alloc_at])
  go_wp2_with fail
  go_quiet (fail)
  go_wp2_with fail
  refine (HP _).out.mono ?_
  rintro e w2 ⟨rfl,hb2⟩
  replace hb2:=undrewN hb2
  obtain⟨c2,f2⟩:=bcell hb2
  have hz5:=hb2.size
  have hz6:w.heap.size < w2.heap.size:=by omega
  have hz7:w.heap.size+1 < w2.heap.size:=by omega
  have b2:=Lib.hid (bthen b1.out hb2)
  replace q0:=(c2 _ 0 hz4).trans q0
  replace q1:=(c2 _ 1 hz4).trans q1
  go_wp2_with fail
  obtain⟨p0,p1⟩:=two_cells w2 (w.heap.size+1) (.bool false) (.int .i64 0) _ _ q0 q1
  refine bodyPost_ret (v:=.tuple #[numV false 0,.int .i64 3]) (by simp [results,Tryz.results169,go_sem,p0,p1]) rfl ⟨rfl,?_⟩
  exact (Below.setCell (Below.setCell b2.out (p:=⟨w.heap.size+1,0,none⟩) (by show w.heap.size≤w.heap.size+1;omega) _) (p:=⟨w.heap.size+1,1,none⟩) (by show w.heap.size≤w.heap.size+1;omega) _)
set_option maxRecDepth 8000 in
set_option maxHeartbeats 2000000 in
theorem Take_range_neg (s:ByteArray) (W M F L H:Int) (n:Int) (w:World) (hs:s.size≤1000000) (h0:0 < s.size) (hc:(((s[0]'h0).toNat:Int)==45)=true) (HR:∀ W',Hid (Calls Tryz.prog 190 #[colV W M F L H] W' fun e w'=>e=.returned (.bool true)∧Below W'.heap.size W' w')) (HP:∀ W',Hid (Calls Tryz.prog 191 #[.string (s.extract 1 s.size),.int .i64 1,.int .i64 M,.int .i64 F] W' fun e w'=>e=.returned (.tuple #[.int .i64 n,.bool true])∧Below W'.heap.size W' w')) (hn0:0≤n) (hn:n≤2000000000000000000) (HF:∀ W',Hid (Calls Tryz.prog 192 #[numV true (-n),.int .i64 L,.int .i64 H] W' fun e w'=>e=.returned (.bool false)∧Below W'.heap.size W' w')) :
    Calls Tryz.prog 169 #[.string s,colV W M F L H] w fun e w'=>e=.returned (.tuple #[numV false 0,.int .i64 5])∧Below w.heap.size w w':=by
  have i1:(0:Int) < (s.size:Int):=by omega
  have i2:(1:Int)≤(s.size:Int):=by omega
  obtain⟨hne1,hne2⟩:=nonempty_forms h0
  have e1:(1:Int) * n=n:=Int.one_mul n
  have e2:(-1:Int) * n=-n:=by rw [Int.neg_mul,Int.one_mul]
  go_enter Tryz.func169,Tryz.ntmps169
  go_wp2_with fail
  refine ((HR _).out).mono ?_
  rintro e w1 ⟨rfl,hb1⟩
  obtain⟨c1,f1⟩:=bcell hb1
  have hz:=hb1.size
  simp at hz
  have hz1:w.heap.size < w1.heap.size:=by omega
  have hz4:w.heap.size+1 < w1.heap.size:=by omega
  have b1:=Lib.hid (bthen (bthen (below_new w _) (below_new _ _)) hb1)
  have q0:w1.cell? ⟨w.heap.size+1,0,none⟩=some (.bool false):=(c1 (w.heap.size+1) 0 (by simp)).trans (by simp [World.cell?_alloc_at])
  have q1:w1.cell? ⟨w.heap.size+1,1,none⟩=some (.int .i64 0):=(c1 (w.heap.size+1) 1 (by simp)).trans (by simp [World.cell?_alloc_at])
  go_wp2_with fail
  go_quiet (fail)
  go_wp2_with fail
  refine (HP _).out.mono ?_
  rintro e w2 ⟨rfl,hb2⟩
  replace hb2:=undrewN hb2
  obtain⟨c2,f2⟩:=bcell hb2
  have hz5:=hb2.size
  have hz6:w.heap.size < w2.heap.size:=by omega
  have hz7:w.heap.size+1 < w2.heap.size:=by omega
  have b2:=Lib.hid (bthen b1.out hb2)
  replace q0:=(c2 _ 0 hz4).trans q0
  replace q1:=(c2 _ 1 hz4).trans q1
  go_wp2_with fail
  refine ((HF _).out).mono ?_
  rintro e w3 ⟨rfl,hb3⟩
  obtain⟨c3,f3⟩:=bcell hb3
  have hz8:=hb3.size
  simp at hz8
  have hz9:w2.heap.size < w3.heap.size:=by omega
  have hz10:w.heap.size+1 < w3.heap.size:=by omega
  have b3:=Lib.hid (bthen (bthen b2.out (below_new _ _)) hb3)
  replace q0:=(c3 (w.heap.size+1) 0 (by simp;omega)).trans ((World.cell?_alloc_past _ _ _ (by omega)).trans q0)
  replace q1:=(c3 (w.heap.size+1) 1 (by simp;omega)).trans ((World.cell?_alloc_past _ _ _ (by omega)).trans q1)
  go_wp2_with fail
  obtain⟨p0,p1⟩:=two_cells w3 (w.heap.size+1) (.bool false) (.int .i64 0) _ _ q0 q1
  refine bodyPost_ret (v:=.tuple #[numV false 0,.int .i64 5]) (by simp [results,Tryz.results169,go_sem,p0,p1]) rfl ⟨rfl,?_⟩
  exact (Below.setCell (Below.setCell b3.out (p:=⟨w.heap.size+1,0,none⟩) (by show w.heap.size≤w.heap.size+1;omega) _) (p:=⟨w.heap.size+1,1,none⟩) (by show w.heap.size≤w.heap.size+1;omega) _)
set_option maxRecDepth 8000 in
set_option maxHeartbeats 2000000 in
theorem Take_ok_neg (s:ByteArray) (W M F L H:Int) (n:Int) (w:World) (hs:s.size≤1000000) (h0:0 < s.size) (hc:(((s[0]'h0).toNat:Int)==45)=true) (HR:∀ W',Hid (Calls Tryz.prog 190 #[colV W M F L H] W' fun e w'=>e=.returned (.bool true)∧Below W'.heap.size W' w')) (HP:∀ W',Hid (Calls Tryz.prog 191 #[.string (s.extract 1 s.size),.int .i64 1,.int .i64 M,.int .i64 F] W' fun e w'=>e=.returned (.tuple #[.int .i64 n,.bool true])∧Below W'.heap.size W' w')) (hn0:0≤n) (hn:n≤2000000000000000000) (HF:∀ W',Hid (Calls Tryz.prog 192 #[numV true (-n),.int .i64 L,.int .i64 H] W' fun e w'=>e=.returned (.bool true)∧Below W'.heap.size W' w')) :
    Calls Tryz.prog 169 #[.string s,colV W M F L H] w fun e w'=>e=.returned (.tuple #[numV true (-n),.int .i64 0])∧Below w.heap.size w w':=by
  have i1:(0:Int) < (s.size:Int):=by omega
  have i2:(1:Int)≤(s.size:Int):=by omega
  obtain⟨hne1,hne2⟩:=nonempty_forms h0
  have e1:(1:Int) * n=n:=Int.one_mul n
  have e2:(-1:Int) * n=-n:=by rw [Int.neg_mul,Int.one_mul]
  go_enter Tryz.func169,Tryz.ntmps169
  go_wp2_with fail
  refine ((HR _).out).mono ?_
  rintro e w1 ⟨rfl,hb1⟩
  obtain⟨c1,f1⟩:=bcell hb1
  have hz:=hb1.size
  simp at hz
  have hz1:w.heap.size < w1.heap.size:=by omega
  have hz4:w.heap.size+1 < w1.heap.size:=by omega
  have b1:=Lib.hid (bthen (bthen (below_new w _) (below_new _ _)) hb1)
  have q0:w1.cell? ⟨w.heap.size+1,0,none⟩=some (.bool false):=(c1 (w.heap.size+1) 0 (by simp)).trans (by simp [World.cell?_alloc_at])
  have q1:w1.cell? ⟨w.heap.size+1,1,none⟩=some (.int .i64 0):=(c1 (w.heap.size+1) 1 (by simp)).trans (by simp [World.cell?_alloc_at])
  go_wp2_with fail
  go_quiet (fail)
  go_wp2_with fail
  refine (HP _).out.mono ?_
  rintro e w2 ⟨rfl,hb2⟩
  replace hb2:=undrewN hb2
  obtain⟨c2,f2⟩:=bcell hb2
  have hz5:=hb2.size
  have hz6:w.heap.size < w2.heap.size:=by omega
  have hz7:w.heap.size+1 < w2.heap.size:=by omega
  have b2:=Lib.hid (bthen b1.out hb2)
  replace q0:=(c2 _ 0 hz4).trans q0
  replace q1:=(c2 _ 1 hz4).trans q1
  go_wp2_with fail
  refine ((HF _).out).mono ?_
  rintro e w3 ⟨rfl,hb3⟩
  obtain⟨c3,f3⟩:=bcell hb3
  have hz8:=hb3.size
  simp at hz8
  have hz9:w2.heap.size < w3.heap.size:=by omega
  have hz10:w.heap.size+1 < w3.heap.size:=by omega
  have b3:=Lib.hid (bthen (bthen b2.out (below_new _ _)) hb3)
  replace q0:=(c3 (w.heap.size+1) 0 (by simp;omega)).trans ((World.cell?_alloc_past _ _ _ (by omega)).trans q0)
  replace q1:=(c3 (w.heap.size+1) 1 (by simp;omega)).trans ((World.cell?_alloc_past _ _ _ (by omega)).trans q1)
  go_wp2_with fail
  obtain⟨p0,p1⟩:=two_cells w3 (w.heap.size+1) (.bool true) (.int .i64 (-n)) _ _ q0 q1
  refine bodyPost_ret (v:=.tuple #[numV true (-n),.int .i64 0]) (by simp [results,Tryz.results169,go_sem,p0,p1]) rfl ⟨rfl,?_⟩
  exact (Below.setCell (Below.setCell b3.out (p:=⟨w.heap.size+1,0,none⟩) (by show w.heap.size≤w.heap.size+1;omega) _) (p:=⟨w.heap.size+1,1,none⟩) (by show w.heap.size≤w.heap.size+1;omega) _)
def negL (l:List UInt8):Bool:=l.head?==some 45
def bodyL (l:List UInt8):List UInt8:=if negL l then l.drop 1 else l
def takeN (l:List UInt8) (W M F L H:Int):Bool×Int×Int:=
  if rightB W M F L H=false then (false,0,1)
  else if l=[] then (false,0,0)
  else match parseN (bodyL l) 1 M.toNat F.toNat with
  | none=>(false,0,3)
  | some n=>if fitsB true (if negL l then -(n:Int) else (n:Int)) L H then (true,(if negL l then -(n:Int) else (n:Int)),0) else (false,0,5)
theorem parseN_le {l:List UInt8} {a m f n:Nat} (h:parseN l a m f=some n) (hm:m+f≤18):n≤2000000000000000000:=by
  unfold parseN at h
  have hA:=cntD_take l
  split at h
  · cases h
  rename_i g1
  split at h
  · rename_i g2
    injection h with h
    rw [g2,List.take_length] at hA
    have v:=val_le hA (n:=f) (by omega)
    rw [tenI_cast,← Int.natCast_mul] at v
    omega
  split at h
  · cases h
  rename_i g3
  injection h with h
  have hB:=cntD_take (l.drop (cntD l+1))
  have e1:cntD (l.drop (cntD l+1))=(l.drop (cntD l+1)).length:=by rw [List.length_drop];omega
  rw [e1,List.take_length] at hB
  have v1:=val_le hA (n:=f) (by rw [List.length_take];omega)
  have v2:=val_le hB (n:=f - cntD (l.drop (cntD l+1))) (by omega)
  rw [tenI_cast,← Int.natCast_mul] at v1 v2
  omega
theorem size_pos {s:ByteArray} (h:s.data.toList≠[]):0 < s.size:=by
  rcases Nat.eq_zero_or_pos s.size with h0 | h0
  · exact absurd (List.eq_nil_of_length_eq_zero (by simpa using h0)) h
  · exact h0
theorem size_nil {s:ByteArray} (h:s.data.toList=[]):s.size=0:=by
  have:s.data.toList.length=0:=by rw [h];rfl
  simpa using this
theorem negL_true {s:ByteArray} (h0:0 < s.size) (h:negL s.data.toList=true):(((s[0]'h0).toNat:Int)==45)=true:=by
  unfold negL at h
  have e:s.data.toList.head?=some s[0]:=by rw [List.head?_eq_getElem?,List.getElem?_eq_getElem (by simpa using h0)];rfl
  rw [e] at h
  have h2:s[0]=45:=by simpa using h
  rw [h2]
  rfl
theorem negL_false {s:ByteArray} (h0:0 < s.size) (h:negL s.data.toList=false):(((s[0]'h0).toNat:Int)==45)=false:=by
  unfold negL at h
  have e:s.data.toList.head?=some s[0]:=by rw [List.head?_eq_getElem?,List.getElem?_eq_getElem (by simpa using h0)];rfl
  rw [e] at h
  have h2:s[0]≠45:=by simpa using h
  rw [beq_eq_false_iff_ne]
  intro k
  exact h2 (UInt8.toNat_inj.1 (by have e:(45:UInt8).toNat=45:=rfl;omega))
theorem Take23_any (s:ByteArray) (W M F L H:Int) (w:World) (hs:s.size≤1000000) :
    Calls Tryz.prog 169 #[.string s,colV W M F L H] w fun e w'=>e=.returned (.tuple #[numV (takeN s.data.toList W M F L H).1 (takeN s.data.toList W M F L H).2.1,.int .i64 (takeN s.data.toList W M F L H).2.2])∧Below w.heap.size w w':=by
  unfold takeN
  have HR:=fun W'=>Lib.hid (Right_any W M F L H W')
  by_cases hr:rightB W M F L H=false
  · rw [if_pos hr]
    rw [hr] at HR
    exact Take_arg s W M F L H w hs HR
  rw [if_neg hr]
  have hr':rightB W M F L H=true:=by simpa using hr
  rw [hr'] at HR
  have hb:=of_decide_eq_true hr'
  by_cases h0:s.data.toList=[]
  · rw [if_pos h0]
    exact Take_empty s W M F L H w hs HR (size_nil h0)
  rw [if_neg h0]
  have hp:=size_pos h0
  obtain⟨m,rfl⟩:=Int.eq_ofNat_of_zero_le (show 0≤M by omega)
  obtain⟨f,rfl⟩:=Int.eq_ofNat_of_zero_le (show 0≤F by omega)
  rw [Int.toNat_natCast,Int.toNat_natCast]
  cases hn:negL s.data.toList with
  | false=>
    have hc:=negL_false hp hn
    have hbody:bodyL s.data.toList=s.data.toList:=by unfold bodyL;rw [hn];rfl
    have HP:=fun W'=>Lib.hid (parse_any s 1 m f W' hs (by omega) (by omega))
    rw [hbody]
    cases hq:parseN s.data.toList 1 m f with
    | none=>
      simp only [hq] at HP
      exact Take_form_pos s W m f L H 0 w hs hp hc HR HP
    | some n=>
      simp only [hq] at HP
      have hle:=parseN_le hq (by omega)
      have HF:=fun W'=>Lib.hid (fits_any true (n:Int) L H W')
      cases hf:fitsB true (n:Int) L H with
      | false=>rw [hf] at HF;simp only [Bool.false_eq_true,if_false,hf];exact Take_range_pos s W m f L H n w hs hp hc HR HP (by omega) (by omega) HF
      | true=>rw [hf] at HF;simp only [Bool.false_eq_true,if_false,hf,if_true];exact Take_ok_pos s W m f L H n w hs hp hc HR HP (by omega) (by omega) HF
  | true=>
    have hc:=negL_true hp hn
    have hbody:bodyL s.data.toList=(s.extract 1 s.size).data.toList:=by unfold bodyL;rw [hn,if_pos rfl,Lib.extract_from]
    have HP:=fun W'=>Lib.hid (parse_any (s.extract 1 s.size) 1 m f W' (by rw [ByteArray.size_extract];omega) (by omega) (by omega))
    rw [hbody]
    cases hq:parseN (s.extract 1 s.size).data.toList 1 m f with
    | none=>
      simp only [hq] at HP
      exact Take_form_neg s W m f L H 0 w hs hp hc HR HP
    | some n=>
      simp only [hq] at HP
      have hle:=parseN_le hq (by omega)
      have HF:=fun W'=>Lib.hid (fits_any true (-(n:Int)) L H W')
      cases hf:fitsB true (-(n:Int)) L H with
      | false=>rw [hf] at HF;simp only [Bool.false_eq_true,if_false,hf,if_true];exact Take_range_neg s W m f L H n w hs hp hc HR HP (by omega) (by omega) HF
      | true=>rw [hf] at HF;simp only [hf,if_true];exact Take_ok_neg s W m f L H n w hs hp hc HR HP (by omega) (by omega) HF
theorem fitsB_false {v L H:Int} (h:fitsB true v L H=false):v < L∨L≤v∧H < v:=by
  unfold fitsB at h
  rw [if_pos rfl] at h
  have:=of_decide_eq_false h
  omega
theorem fitsB_true {v L H:Int} (h:fitsB true v L H=true):L≤v∧v≤H:=by
  unfold fitsB at h
  rw [if_pos rfl] at h
  exact of_decide_eq_true h
theorem colS_below {w0 W w':World} {g:Nat} {x y:Value} (hb:Below W.heap.size W w') (h:W.cell? ⟨g,0,none⟩=some x∧W.cell? ⟨g,2,none⟩=some y∧Hid (Below w0.heap.size w0 W)∧Hid (g < W.heap.size)) :
    w'.cell? ⟨g,0,none⟩=some x∧w'.cell? ⟨g,2,none⟩=some y∧Hid (Below w0.heap.size w0 w')∧Hid (g < w'.heap.size):=by
  obtain⟨h1,h2,h3,h4⟩:=h
  obtain⟨c,-⟩:=bcell hb
  exact⟨(c g 0 h4.out).trans h1,(c g 2 h4.out).trans h2,Lib.hid (bthen h3.out hb),Lib.hid (Nat.lt_of_lt_of_le h4.out hb.size)⟩
set_option maxRecDepth 8000 in
set_option maxHeartbeats 4000000 in
theorem r23Put_pos (n W F:Nat) (M L H:Int) (w:World) (hn:n≤1000000000000000000) (hW:W≤12) (hF:F≤6) (hl:L≤(n:Int)) (hh:(n:Int)≤H)
    (HR:∀ W',Hid (Calls Tryz.prog 181 #[colV W M F L H] W' fun e w'=>e=.returned (.bool true)∧Below W'.heap.size W' w')) :
    Calls Tryz.prog 165 #[numV true n,colV W M F L H] w fun e w'=>e=.returned (.tuple #[.string (toB (pointL n W F)),.int .i64 0])∧Below w.heap.size w w':=by
  have hT:=fun W=>Lib.hid (r23Ten_any F W (by omega))
  have t1:=tenI_pos F
  have t2:=tenI_le hF
  rw [show tenI 6=1000000 from by decide] at t2
  have hq:(n:Int) / tenI F=((n / 10 ^ F:Nat):Int):=by unfold tenI;rw [Int.natCast_ediv]
  have hr:(n:Int) % tenI F=((n % 10 ^ F:Nat):Int):=by unfold tenI;rw [Int.natCast_emod]
  have hq1:n / 10 ^ F≤1000000000000000000:=Nat.le_trans (Nat.div_le_self _ _) hn
  have hr1:n % 10 ^ F≤1000000000000000000:=Nat.le_trans (Nat.mod_le _ _) hn
  have hr2:n % 10 ^ F < 10 ^ F:=Nat.mod_lt _ (Nat.pow_pos (by decide))
  have HP:Hid (toB (pointL n W F)=⟨#[]⟩++toB (digL (n / 10 ^ F) W)++toB (tailB (n % 10 ^ F) F)):=by
    show _=toB []++_++_
    rw [toB_append,toB_append]
    rfl
  have HB:=fun W'=>Lib.hid (r23behind_any (n % 10 ^ F) F W' hr1 (by omega) hr2)
  clear hr2
  have HD:=fun W'=>Lib.hid (r23Digits_any (n / 10 ^ F) W W' hq1 (by omega))
  have hA:(toB (digL (n / 10 ^ F) W)).size≤20:=by rw [size_B];exact digF_len 20 _ W
  have hBs:(toB (tailB (n % 10 ^ F) F)).size≤41:=by
    rw [size_B]
    have h2:=pointL_len (n % 10 ^ F) 0 F
    unfold pointL at h2
    rw [Nat.mod_mod,List.length_append] at h2
    omega
  generalize n / 10 ^ F=q at *
  generalize n % 10 ^ F=r at *
  generalize tenI F=T at *
  generalize toB (digL q W)=A at *
  generalize toB (tailB r F)=B at *
  generalize toB (pointL n W F)=R at *
  have T0:(T==0)=false:=by rw [beq_eq_false_iff_ne];omega
  have hn0:(0:Int)≤(n:Int):=by omega
  have d1:(n:Int).tdiv T=(q:Int):=by rw [Int.tdiv_eq_ediv_of_nonneg hn0];exact hq
  have d2:(n:Int).tmod T=(r:Int):=by rw [Int.tmod_eq_emod_of_nonneg hn0];exact hr
  have d3:IntKind.i64.wrap ((n:Int).tdiv T)=(q:Int):=by rw [d1];exact IntWalk.i64_in _ (by omega)
  have d4:IntKind.i64.wrap (q:Int)=(q:Int):=IntWalk.i64_in _ (by omega)
  have g0:¬ T=0:=by omega
  have g1:¬ 9223372036854775807 < A.size:=by omega
  have g2:¬ 9223372036854775807 < A.size+B.size:=by omega
  have g3:¬ 9223372036854775807 < 1+A.size:=by omega
  have g4:¬ 9223372036854775807 < 1+A.size+B.size:=by omega
  go_enter Tryz.func165,Tryz.ntmps165
  go_wp2_with fail
  refine ((HR _).out).mono ?_
  rintro e w1 ⟨rfl,hb1⟩
  obtain⟨c1,f1⟩:=bcell hb1
  have hz:=hb1.size
  simp at hz
  have hz1:w.heap.size < w1.heap.size:=by omega
  have hz4:w.heap.size+1 < w1.heap.size:=by omega
  have b1:=Lib.hid (bthen (bthen (below_new w _) (below_new _ _)) hb1)
  have q0:w1.cell? ⟨w.heap.size+1,0,none⟩=some (.int .i64 (W:Int)):=(c1 (w.heap.size+1) 0 (by simp)).trans (by simp [World.cell?_alloc_at])
  have q2:w1.cell? ⟨w.heap.size+1,2,none⟩=some (.int .i64 (F:Int)):=(c1 (w.heap.size+1) 2 (by simp)).trans (by simp [World.cell?_alloc_at])
  go_wp2_with fail
  have HS0:Hid (w1.drew.cell? ⟨w.heap.size+1,0,none⟩=some (.int .i64 (W:Int))∧w1.drew.cell? ⟨w.heap.size+1,2,none⟩=some (.int .i64 (F:Int))∧Hid (Below w.heap.size w w1.drew)∧Hid (w.heap.size+1 < w1.drew.heap.size)):=⟨q0,q2,bdrew b1.out,hz4⟩
  clear q0 q2 b1 hz4 hz1 hz c1 f1 hb1 HR
  go_region_held3 (fun w'=>w'.cell? ⟨w.heap.size+1,0,none⟩=some (.int .i64 (W:Int))∧w'.cell? ⟨w.heap.size+1,2,none⟩=some (.int .i64 (F:Int))∧Hid (Below w.heap.size w w')∧Hid (w.heap.size+1 < w'.heap.size)) (first | exact HS0.out | assumption | (refine colS_below (by assumption) ?_;assumption) | (go_split_ands;refine⟨?_,?_,?_,?_⟩ <;> assumption) | (go_split_ands;refine colS_below (by assumption) ⟨?_,?_,?_,?_⟩ <;> assumption)) (first | (go_at_call 189;refine (hT _).out.mono ?_;rintro e w' ⟨rfl,rfl⟩) | (go_at_call 164;refine (HD _).out.mono ?_;rintro e w9 ⟨rfl,hb9⟩) | (go_at_call 188;refine (HB _).out.mono ?_;rintro e w9 ⟨rfl,hb9⟩))
  all_goals
    go_wp2_with fail
    go_ret2
    go_split_ands
    exact⟨by rw [HP.out];rfl,Hid.out (by assumption)⟩
set_option maxRecDepth 8000 in
set_option maxHeartbeats 4000000 in
theorem r23Put_neg (n W F:Nat) (M L H:Int) (w:World) (hn:n≤1000000000000000000) (hW:W≤12) (hF:F≤6) (hp:0 < n) (hl:L≤-(n:Int)) (hh:-(n:Int)≤H)
    (HR:∀ W',Hid (Calls Tryz.prog 181 #[colV W M F L H] W' fun e w'=>e=.returned (.bool true)∧Below W'.heap.size W' w')) :
    Calls Tryz.prog 165 #[numV true (-(n:Int)),colV W M F L H] w fun e w'=>e=.returned (.tuple #[.string (toB (45 :: pointL n W F)),.int .i64 0])∧Below w.heap.size w w':=by
  have hT:=fun W=>Lib.hid (r23Ten_any F W (by omega))
  have t1:=tenI_pos F
  have t2:=tenI_le hF
  rw [show tenI 6=1000000 from by decide] at t2
  have hq:(n:Int) / tenI F=((n / 10 ^ F:Nat):Int):=by unfold tenI;rw [Int.natCast_ediv]
  have hr:(n:Int) % tenI F=((n % 10 ^ F:Nat):Int):=by unfold tenI;rw [Int.natCast_emod]
  have hq1:n / 10 ^ F≤1000000000000000000:=Nat.le_trans (Nat.div_le_self _ _) hn
  have hr1:n % 10 ^ F≤1000000000000000000:=Nat.le_trans (Nat.mod_le _ _) hn
  have hr2:n % 10 ^ F < 10 ^ F:=Nat.mod_lt _ (Nat.pow_pos (by decide))
  have HP:Hid (toB (45 :: pointL n W F)=⟨#[45]⟩++toB (digL (n / 10 ^ F) W)++toB (tailB (n % 10 ^ F) F)):=by
    show _=toB [45]++_++_
    rw [toB_append,toB_append]
    rfl
  have HB:=fun W'=>Lib.hid (r23behind_any (n % 10 ^ F) F W' hr1 (by omega) hr2)
  clear hr2
  have HD:=fun W'=>Lib.hid (r23Digits_any (n / 10 ^ F) W W' hq1 (by omega))
  have hA:(toB (digL (n / 10 ^ F) W)).size≤20:=by rw [size_B];exact digF_len 20 _ W
  have hBs:(toB (tailB (n % 10 ^ F) F)).size≤41:=by
    rw [size_B]
    have h2:=pointL_len (n % 10 ^ F) 0 F
    unfold pointL at h2
    rw [Nat.mod_mod,List.length_append] at h2
    omega
  generalize n / 10 ^ F=q at *
  generalize n % 10 ^ F=r at *
  generalize tenI F=T at *
  generalize toB (digL q W)=A at *
  generalize toB (tailB r F)=B at *
  generalize toB (45 :: pointL n W F)=R at *
  have T0:(T==0)=false:=by rw [beq_eq_false_iff_ne];omega
  have hn0:(0:Int)≤(n:Int):=by omega
  have d1:(n:Int).tdiv T=(q:Int):=by rw [Int.tdiv_eq_ediv_of_nonneg hn0];exact hq
  have d2:(n:Int).tmod T=(r:Int):=by rw [Int.tmod_eq_emod_of_nonneg hn0];exact hr
  have d3:IntKind.i64.wrap ((n:Int).tdiv T)=(q:Int):=by rw [d1];exact IntWalk.i64_in _ (by omega)
  have d4:IntKind.i64.wrap (q:Int)=(q:Int):=IntWalk.i64_in _ (by omega)
  have g0:¬ T=0:=by omega
  have g1:¬ 9223372036854775807 < A.size:=by omega
  have g2:¬ 9223372036854775807 < A.size+B.size:=by omega
  have g3:¬ 9223372036854775807 < 1+A.size:=by omega
  have g4:¬ 9223372036854775807 < 1+A.size+B.size:=by omega
  go_enter Tryz.func165,Tryz.ntmps165
  go_wp2_with fail
  refine ((HR _).out).mono ?_
  rintro e w1 ⟨rfl,hb1⟩
  obtain⟨c1,f1⟩:=bcell hb1
  have hz:=hb1.size
  simp at hz
  have hz1:w.heap.size < w1.heap.size:=by omega
  have hz4:w.heap.size+1 < w1.heap.size:=by omega
  have b1:=Lib.hid (bthen (bthen (below_new w _) (below_new _ _)) hb1)
  have q0:w1.cell? ⟨w.heap.size+1,0,none⟩=some (.int .i64 (W:Int)):=(c1 (w.heap.size+1) 0 (by simp)).trans (by simp [World.cell?_alloc_at])
  have q2:w1.cell? ⟨w.heap.size+1,2,none⟩=some (.int .i64 (F:Int)):=(c1 (w.heap.size+1) 2 (by simp)).trans (by simp [World.cell?_alloc_at])
  go_wp2_with fail
  have HS0:Hid (w1.drew.cell? ⟨w.heap.size+1,0,none⟩=some (.int .i64 (W:Int))∧w1.drew.cell? ⟨w.heap.size+1,2,none⟩=some (.int .i64 (F:Int))∧Hid (Below w.heap.size w w1.drew)∧Hid (w.heap.size+1 < w1.drew.heap.size)):=⟨q0,q2,bdrew b1.out,hz4⟩
  clear q0 q2 b1 hz4 hz1 hz c1 f1 hb1 HR
  go_region_held3 (fun w'=>w'.cell? ⟨w.heap.size+1,0,none⟩=some (.int .i64 (W:Int))∧w'.cell? ⟨w.heap.size+1,2,none⟩=some (.int .i64 (F:Int))∧Hid (Below w.heap.size w w')∧Hid (w.heap.size+1 < w'.heap.size)) (first | exact HS0.out | assumption | (refine colS_below (by assumption) ?_;assumption) | (go_split_ands;refine⟨?_,?_,?_,?_⟩ <;> assumption) | (go_split_ands;refine colS_below (by assumption) ⟨?_,?_,?_,?_⟩ <;> assumption)) (first | (go_at_call 189;refine (hT _).out.mono ?_;rintro e w' ⟨rfl,rfl⟩) | (go_at_call 164;refine (HD _).out.mono ?_;rintro e w9 ⟨rfl,hb9⟩) | (go_at_call 188;refine (HB _).out.mono ?_;rintro e w9 ⟨rfl,hb9⟩))
  all_goals
    go_wp2_with fail
    go_ret2
    go_split_ands
    exact⟨by rw [HP.out];rfl,Hid.out (by assumption)⟩
set_option maxHeartbeats 2000000 in
theorem r23Put_arg (b:Bool) (n W M F L H:Int) (w:World)
    (HR:∀ W',Hid (Calls Tryz.prog 181 #[colV W M F L H] W' fun e w'=>e=.returned (.bool false)∧Below W'.heap.size W' w')) :
    Calls Tryz.prog 165 #[numV b n,colV W M F L H] w fun e w'=>e=.returned (.tuple #[.string ByteArray.empty,.int .i64 1])∧Below w.heap.size w w':=by
  go_enter Tryz.func165,Tryz.ntmps165
  go_wp2_with fail
  refine ((HR _).out).mono ?_
  rintro e w1 ⟨rfl,hb1⟩
  have b1:=Lib.hid (bthen (bthen (below_new w _) (below_new _ _)) hb1)
  go_wp2_with fail
  go_ret2
  exact⟨rfl,b1.out⟩
set_option maxRecDepth 8000 in
set_option maxHeartbeats 2000000 in
theorem r23Put_range (b:Bool) (n W M F L H:Int) (w:World) (h:b=false∧(n != 0)=true∨b=true∧n < L∨b=true∧L≤n∧H < n)
    (HR:∀ W',Hid (Calls Tryz.prog 181 #[colV W M F L H] W' fun e w'=>e=.returned (.bool true)∧Below W'.heap.size W' w')) :
    Calls Tryz.prog 165 #[numV b n,colV W M F L H] w fun e w'=>e=.returned (.tuple #[.string ByteArray.empty,.int .i64 5])∧Below w.heap.size w w':=by
  rcases h with ⟨rfl,h⟩ | ⟨rfl,h⟩ | ⟨rfl,h,h'⟩
  all_goals
    go_enter Tryz.func165,Tryz.ntmps165
    go_wp2_with fail
    refine ((HR _).out).mono ?_
    rintro e w1 ⟨rfl,hb1⟩
    obtain⟨c1,f1⟩:=bcell hb1
    have hz:=hb1.size
    simp at hz
    have hz1:w.heap.size < w1.heap.size:=by omega
    have hz4:w.heap.size+1 < w1.heap.size:=by omega
    have b1:=Lib.hid (bthen (bthen (below_new w _) (below_new _ _)) hb1)
    go_wp2_with fail
    go_ret2
    exact⟨rfl,b1.out⟩
set_option maxRecDepth 8000 in
set_option maxHeartbeats 2000000 in
theorem r23Put_none (W M F L H:Int) (w:World)
    (HR:∀ W',Hid (Calls Tryz.prog 181 #[colV W M F L H] W' fun e w'=>e=.returned (.bool true)∧Below W'.heap.size W' w')) :
    Calls Tryz.prog 165 #[numV false 0,colV W M F L H] w fun e w'=>e=.returned (.tuple #[.string ByteArray.empty,.int .i64 0])∧Below w.heap.size w w':=by
  go_enter Tryz.func165,Tryz.ntmps165
  go_wp2_with fail
  refine ((HR _).out).mono ?_
  rintro e w1 ⟨rfl,hb1⟩
  obtain⟨c1,f1⟩:=bcell hb1
  have hz:=hb1.size
  simp at hz
  have hz1:w.heap.size < w1.heap.size:=by omega
  have hz4:w.heap.size+1 < w1.heap.size:=by omega
  have b1:=Lib.hid (bthen (bthen (below_new w _) (below_new _ _)) hb1)
  go_wp2_with fail
  go_ret2
  exact⟨rfl,b1.out⟩
theorem r23Put_any (b:Bool) (n W M F L H:Int) (w:World) :
    Calls Tryz.prog 165 #[numV b n,colV W M F L H] w fun e w'=>e=.returned (.tuple #[.string (putN b n W M F L H).1,.int .i64 (putN b n W M F L H).2])∧Below w.heap.size w w':=by
  unfold putN
  have HR:=fun W'=>Lib.hid (r23Right_any W M F L H W')
  cases h:rightB W M F L H with
  | false=>rw [if_pos rfl];rw [h] at HR;exact r23Put_arg b n W M F L H w HR
  | true=>
    rw [if_neg (by decide)]
    rw [h] at HR
    cases h2:fitsB b n L H with
    | false=>
      rw [if_pos rfl]
      refine r23Put_range b n W M F L H w ?_ HR
      cases b with
      | false=>
        unfold fitsB at h2
        rw [if_neg (by decide)] at h2
        exact .inl ⟨rfl,by rw [bne_iff_ne];exact of_decide_eq_false h2⟩
      | true=>
        rcases fitsB_false h2 with h3 | h3
        · exact .inr (.inl ⟨rfl,h3⟩)
        · exact .inr (.inr ⟨rfl,h3⟩)
    | true=>
      rw [if_neg (by decide)]
      cases b with
      | false=>
        rw [if_pos rfl]
        have:n=0:=by unfold fitsB at h2;rw [if_neg (by decide)] at h2;exact of_decide_eq_true h2
        subst this
        exact r23Put_none W M F L H w HR
      | true=>
        rw [if_neg (by decide)]
        obtain⟨b1,b2,b3,b4,b5,b6⟩:=right_bounds h
        have hr:=fitsB_true h2
        obtain⟨W',rfl⟩:=Int.eq_ofNat_of_zero_le (show 0≤W by omega)
        obtain⟨F',rfl⟩:=Int.eq_ofNat_of_zero_le b3
        by_cases hn:n < 0
        · rw [if_pos hn]
          obtain⟨k,hk⟩:=Int.eq_ofNat_of_zero_le (show 0≤-n by omega)
          obtain rfl:n=-(k:Int):=by omega
          rw [show (-(-(k:Int))).toNat=k from by omega]
          exact r23Put_neg k W' F' M L H w (by omega) (by omega) (by omega) (by omega) hr.1 hr.2 HR
        · rw [if_neg hn]
          obtain⟨k,rfl⟩:=Int.eq_ofNat_of_zero_le (show 0≤n by omega)
          exact r23Put_pos k W' F' M L H w (by omega) (by omega) (by omega) hr.1 hr.2 HR
def farI (lat:Bool):Int:=if lat then 540000000 else 1080000000
def sidesB (lat:Bool):ByteArray:=if lat then ⟨#[78,83]⟩ else ⟨#[69,87]⟩
def sideB (lat neg:Bool):ByteArray:=if lat then (if neg then ⟨#[83]⟩ else ⟨#[78]⟩) else (if neg then ⟨#[87]⟩ else ⟨#[69]⟩)
def wideN (lat:Bool):Nat:=if lat then 2 else 3
def angL (x:Nat) (lat:Bool):List UInt8:=digL (x / 6000000) (wideN lat)++pointL (x % 6000000) 2 5
def angN (b:Bool) (n:Int) (lat:Bool):ByteArray×ByteArray×Int:=
  if fitsB b n (-farI lat) (farI lat)=false then (ByteArray.empty,ByteArray.empty,5)
  else if b=false then (ByteArray.empty,ByteArray.empty,0)
  else if n < 0 then (toB (angL (-n).toNat lat),sideB lat true,0) else (toB (angL n.toNat lat),sideB lat false,0)
theorem sideB_false (lat:Bool):(sidesB lat).extract 0 1=sideB lat false:=by cases lat <;> rfl
theorem sideB_true (lat:Bool):(sidesB lat).extract 1 2=sideB lat true:=by cases lat <;> rfl
theorem results3 {fn:Func} {t u v:Tmp} (h:fn.results=#[.tmp t,.tmp u,.tmp v]) (tmps:Array Value) (P:Program) (w:World) :
    (results fn tmps).run P w=.ok (.tuple #[tmps.getD t undef,tmps.getD u undef,tmps.getD v undef]) w:=by
  simp [results,h]
theorem kind_any (lat:Bool) (w:World):Calls Tryz.prog 193 #[.bool lat] w fun e w'=>e=.returned (.tuple #[.int .i64 (if lat then 90 else 180),.int .i64 (if lat then 2 else 3),.string (sidesB lat)])∧w=w':=by
  cases lat
  all_goals
    go_enter Tryz.func193,Tryz.ntmps193
    go_wp2
    try simp only [Exit.inBlock,Exit.then]
    refine bodyPost_ret (results3 rfl _ _ _) rfl ?_
    exact⟨rfl,rfl⟩
theorem r23Far_any (lat:Bool) (w:World):Calls Tryz.prog 180 #[.bool lat] w fun e w'=>e=.returned (.int .i64 (farI lat))∧w=w':=by
  cases lat
  all_goals
    go_enter Tryz.func180,Tryz.ntmps180
    go_wp2
    go_ret
    exact⟨rfl,rfl⟩
theorem r23sides_any (lat:Bool) (w:World):Calls Tryz.prog 179 #[.bool lat] w fun e w'=>e=.returned (.string (sidesB lat))∧w=w':=by
  cases lat
  all_goals
    go_enter Tryz.func179,Tryz.ntmps179
    go_wp2
    go_ret
    exact⟨rfl,rfl⟩
set_option maxHeartbeats 2000000 in
theorem Angle_range (b:Bool) (n:Int) (lat:Bool) (w:World) (h:fitsB b n (-farI lat) (farI lat)=false) :
    Calls Tryz.prog 237 #[numV b n,.bool lat] w fun e w'=>e=.returned (.tuple #[.string ByteArray.empty,.string ByteArray.empty,.int .i64 5])∧Below w.heap.size w w':=by
  have HF:=fun W'=>Lib.hid (fits_any b n (-farI lat) (farI lat) W')
  rw [h] at HF
  have HK:=fun W'=>Lib.hid (kind_any lat W')
  clear h
  cases lat
  all_goals
    go_enter Tryz.func237,Tryz.ntmps237
    go_wp2_with fail
    refine ((HK _).out).mono ?_
    rintro e w0 ⟨rfl,rfl⟩
    go_wp2_with fail
    refine ((HF _).out).mono ?_
    rintro e w1 ⟨rfl,hb1⟩
    go_wp2_with fail
    try simp only [Exit.inBlock,Exit.then]
    refine bodyPost_ret (results3 rfl _ _ _) rfl ?_
    exact⟨rfl,bthen (below_new w _) hb1⟩
set_option maxHeartbeats 2000000 in
theorem Angle_none (n:Int) (lat:Bool) (w:World) (h:fitsB false n (-farI lat) (farI lat)=true) :
    Calls Tryz.prog 237 #[numV false n,.bool lat] w fun e w'=>e=.returned (.tuple #[.string ByteArray.empty,.string ByteArray.empty,.int .i64 0])∧Below w.heap.size w w':=by
  have HF:=fun W'=>Lib.hid (fits_any false n (-farI lat) (farI lat) W')
  rw [h] at HF
  have HK:=fun W'=>Lib.hid (kind_any lat W')
  clear h
  cases lat
  all_goals
    go_enter Tryz.func237,Tryz.ntmps237
    go_wp2_with fail
    refine ((HK _).out).mono ?_
    rintro e w0 ⟨rfl,rfl⟩
    go_wp2_with fail
    refine ((HF _).out).mono ?_
    rintro e w1 ⟨rfl,hb1⟩
    obtain⟨c1,f1⟩:=bcell hb1
    have hz:=hb1.size
    simp at hz
    have hz1:w.heap.size < w1.heap.size:=by omega
    go_wp2_with fail
    try simp only [Exit.inBlock,Exit.then]
    refine bodyPost_ret (results3 rfl _ _ _) rfl ?_
    exact⟨rfl,bthen (below_new w _) hb1⟩
set_option maxHeartbeats 2000000 in
theorem Angle_pos (x:Nat) (lat:Bool) (w:World) (h:fitsB true x (-farI lat) (farI lat)=true) :
    Calls Tryz.prog 237 #[numV true x,.bool lat] w fun e w'=>e=.returned (.tuple #[.string (toB (angL x lat)),.string (sideB lat false),.int .i64 0])∧Below w.heap.size w w':=by
  have HF:=fun W'=>Lib.hid (fits_any true x (-farI lat) (farI lat) W')
  rw [h] at HF
  have hx:=(fitsB_true h).2
  have hx2:(x:Int)≤1080000000:=by unfold farI at hx;split at hx <;> omega
  have HK:=fun W'=>Lib.hid (kind_any lat W')
  have HD:=fun W'=>Lib.hid (digits_any (x / 6000000) (wideN lat) W' (by omega) (by unfold wideN;split <;> omega))
  have HP:=fun W'=>Lib.hid (pointed_any (x % 6000000) 2 5 W' (by omega) (by omega) (by omega))
  have e1:((x / 6000000:Nat):Int)=(x:Int) / 6000000:=by omega
  have e2:((x % 6000000:Nat):Int)=(x:Int) % 6000000:=by omega
  rw [e1] at HD
  rw [e2] at HP
  have HR:Hid (toB (angL x lat)=toB (digL (x / 6000000) (wideN lat))++toB (pointL (x % 6000000) 2 5)):=by show _=_;rw [toB_append];rfl
  have hA:(toB (digL (x / 6000000) (wideN lat))).size≤20:=by rw [size_B];exact digF_len 20 _ _
  have hB:(toB (pointL (x % 6000000) 2 5)).size≤41:=by rw [size_B];exact pointL_len _ _ _
  change ∀ W,Hid (Calls Tryz.prog 241 #[.int .i64 ((x:Int) / 6000000),.int .i64 (wideN lat:Int)] W fun e w'=>e=.returned (.string (toB (digL (x / 6000000) (wideN lat))))∧Below W.heap.size W w') at HD
  clear h hx e1 e2
  generalize toB (digL (x / 6000000) (wideN lat))=A at *
  generalize toB (pointL (x % 6000000) 2 5)=B at *
  generalize toB (angL x lat)=R at *
  have hS:(sidesB lat).size=2:=by cases lat <;> rfl
  have HS:=Lib.hid (sideB_false lat)
  generalize sidesB lat=S at *
  generalize sideB lat false=Y at *
  cases lat
  all_goals
    go_enter Tryz.func237,Tryz.ntmps237
    go_wp2_with fail
    refine ((HK _).out).mono ?_
    rintro e w0 ⟨rfl,rfl⟩
    go_wp2_with fail
    refine ((HF _).out).mono ?_
    rintro e w1 ⟨rfl,hb1⟩
    obtain⟨c1,f1⟩:=bcell hb1
    have hz:=hb1.size
    simp at hz
    have hz1:w.heap.size < w1.heap.size:=by omega
    have b1:=Lib.hid (bthen (below_new w _) hb1)
    go_wp2_with fail
    go_quiet (fail)
    go_wp2_with fail
    refine (HD _).out.mono ?_
    rintro e w2 ⟨rfl,hb2⟩
    replace hb2:=undrewN hb2
    go_wp2_with fail
    refine ((HP _).out).mono ?_
    rintro e w3 ⟨rfl,hb3⟩
    go_wp2_with fail
    try simp only [Exit.inBlock,Exit.then]
    refine bodyPost_ret (results3 rfl _ _ _) rfl ?_
    exact⟨by rw [HR.out,← HS.out];rfl,bthen (bthen b1.out hb2) hb3⟩
set_option maxHeartbeats 2000000 in
theorem Angle_neg (x:Nat) (hp:0 < x) (lat:Bool) (w:World) (h:fitsB true (-(x:Int)) (-farI lat) (farI lat)=true) :
    Calls Tryz.prog 237 #[numV true (-(x:Int)),.bool lat] w fun e w'=>e=.returned (.tuple #[.string (toB (angL x lat)),.string (sideB lat true),.int .i64 0])∧Below w.heap.size w w':=by
  have HF:=fun W'=>Lib.hid (fits_any true (-(x:Int)) (-farI lat) (farI lat) W')
  rw [h] at HF
  have hx:=(fitsB_true h).1
  have hx2:(x:Int)≤1080000000:=by unfold farI at hx;split at hx <;> omega
  have HK:=fun W'=>Lib.hid (kind_any lat W')
  have HD:=fun W'=>Lib.hid (digits_any (x / 6000000) (wideN lat) W' (by omega) (by unfold wideN;split <;> omega))
  have HP:=fun W'=>Lib.hid (pointed_any (x % 6000000) 2 5 W' (by omega) (by omega) (by omega))
  have e1:((x / 6000000:Nat):Int)=(x:Int) / 6000000:=by omega
  have e2:((x % 6000000:Nat):Int)=(x:Int) % 6000000:=by omega
  rw [e1] at HD
  rw [e2] at HP
  have HR:Hid (toB (angL x lat)=toB (digL (x / 6000000) (wideN lat))++toB (pointL (x % 6000000) 2 5)):=by show _=_;rw [toB_append];rfl
  have hA:(toB (digL (x / 6000000) (wideN lat))).size≤20:=by rw [size_B];exact digF_len 20 _ _
  have hB:(toB (pointL (x % 6000000) 2 5)).size≤41:=by rw [size_B];exact pointL_len _ _ _
  change ∀ W,Hid (Calls Tryz.prog 241 #[.int .i64 ((x:Int) / 6000000),.int .i64 (wideN lat:Int)] W fun e w'=>e=.returned (.string (toB (digL (x / 6000000) (wideN lat))))∧Below W.heap.size W w') at HD
  clear h hx e1 e2
  generalize toB (digL (x / 6000000) (wideN lat))=A at *
  generalize toB (pointL (x % 6000000) 2 5)=B at *
  generalize toB (angL x lat)=R at *
  have hS:(sidesB lat).size=2:=by cases lat <;> rfl
  have HS:=Lib.hid (sideB_true lat)
  generalize sidesB lat=S at *
  generalize sideB lat true=Y at *
  cases lat
  all_goals
    go_enter Tryz.func237,Tryz.ntmps237
    go_wp2_with fail
    refine ((HK _).out).mono ?_
    rintro e w0 ⟨rfl,rfl⟩
    go_wp2_with fail
    refine ((HF _).out).mono ?_
    rintro e w1 ⟨rfl,hb1⟩
    obtain⟨c1,f1⟩:=bcell hb1
    have hz:=hb1.size
    simp at hz
    have hz1:w.heap.size < w1.heap.size:=by omega
    have b1:=Lib.hid (bthen (below_new w _) hb1)
    go_wp2_with fail
    go_quiet (fail)
    go_wp2_with fail
    go_quiet (fail)
    go_wp2_with fail
    refine (HD _).out.mono ?_
    rintro e w2 ⟨rfl,hb2⟩
    replace hb2:=undrewN hb2
    go_wp2_with fail
    refine ((HP _).out).mono ?_
    rintro e w3 ⟨rfl,hb3⟩
    go_wp2_with fail
    try simp only [Exit.inBlock,Exit.then]
    refine bodyPost_ret (results3 rfl _ _ _) rfl ?_
    exact⟨by rw [HR.out,← HS.out];rfl,bthen (bthen b1.out hb2) hb3⟩
theorem Angle23_any (b:Bool) (n:Int) (lat:Bool) (w:World) :
    Calls Tryz.prog 237 #[numV b n,.bool lat] w fun e w'=>e=.returned (.tuple #[.string (angN b n lat).1,.string (angN b n lat).2.1,.int .i64 (angN b n lat).2.2])∧Below w.heap.size w w':=by
  unfold angN
  cases h:fitsB b n (-farI lat) (farI lat) with
  | false=>rw [if_pos rfl];exact Angle_range b n lat w h
  | true=>
    rw [if_neg (by decide)]
    cases b with
    | false=>rw [if_pos rfl];exact Angle_none n lat w h
    | true=>
      rw [if_neg (by decide)]
      by_cases hn:n < 0
      · rw [if_pos hn]
        obtain⟨k,hk⟩:=Int.eq_ofNat_of_zero_le (show 0≤-n by omega)
        obtain rfl:n=-(k:Int):=by omega
        rw [show (-(-(k:Int))).toNat=k from by omega]
        exact Angle_neg k (by omega) lat w h
      · rw [if_neg hn]
        obtain⟨k,rfl⟩:=Int.eq_ofNat_of_zero_le (show 0≤n by omega)
        exact Angle_pos k lat w h
end Go.Proofs.YtoabkoniegmkaaaGreat
