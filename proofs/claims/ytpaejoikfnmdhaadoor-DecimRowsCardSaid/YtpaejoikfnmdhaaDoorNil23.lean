/- Layer 23: pens and eyes that there are not, or that no call made. -/
import Derived.Test.YtpaejoikfnmdhaaDoorLaw23c
import Derived.Deep.RegionHeld3
namespace Go.Proofs.YtpaejoikfnmdhaaDoor
set_option linter.unusedVariables false
open Go.RowKit

def DeadP (v : Value) (w : World) : Prop :=
  v = .pointer none ∨ ∃ g, v = .pointer (some ⟨g, 0, none⟩) ∧ g < w.heap.size ∧ w.cell? ⟨g, 0, none⟩ = some (.bool false) ∧ w.cell? ⟨g, 2, none⟩ = some (.slice none 0 0)
theorem DeadP.keep {v : Value} {w w' : World} (h : DeadP v w) (hb : Below w.heap.size w w') : DeadP v w' := by
  rcases h with h | ⟨g, h1, h2, h3, h4⟩
  · exact .inl h
  · exact .inr ⟨g, h1, Nat.lt_of_lt_of_le h2 hb.size, ((bcell hb).1 g 0 h2).trans h3, ((bcell hb).1 g 2 h2).trans h4⟩
theorem DeadP.draws {v : Value} {w : World} (h : DeadP v w) (n : Nat) : DeadP v (w.drewN n) := h.keep (below_draws n)

theorem Penput_dead (p : Value) (e : Int) (x : Value) (w : World) (h : DeadP p w) : Calls Tryd.prog 57 #[p, .int .i64 e, x] w fun e w' => e = .returned (.tuple #[]) ∧ w = w' := by
  rcases h with rfl | ⟨g, rfl, h2, h3, h4⟩
  all_goals
    go_enter Tryd.func57, Tryd.ntmps57
    go_wp2
    go_end0
    exact ⟨rfl, rfl⟩
theorem EyeFail_dead (p : Value) (e : Int) (w : World) (h : DeadP p w) : Calls Tryd.prog 25 #[p, .int .i64 e] w fun e w' => e = .returned (.tuple #[]) ∧ w = w' := by
  rcases h with rfl | ⟨g, rfl, h2, h3, h4⟩
  all_goals
    go_enter Tryd.func25, Tryd.ntmps25
    go_wp2
    go_end0
    exact ⟨rfl, rfl⟩
theorem EyeText_dead (p : Value) (w : World) (h : DeadP p w) : Calls Tryd.prog 29 #[p] w fun e w' => e = .returned (.string ByteArray.empty) ∧ w = w' := by
  rcases h with rfl | ⟨g, rfl, h2, h3, h4⟩
  all_goals
    go_enter Tryd.func29, Tryd.ntmps29
    go_wp2
    go_ret
    exact ⟨rfl, rfl⟩
theorem EyeLeft_dead (p : Value) (w : World) (h : DeadP p w) : Calls Tryd.prog 30 #[p] w fun e w' => e = .returned (.int .i64 0) ∧ w = w' := by
  rcases h with rfl | ⟨g, rfl, h2, h3, h4⟩
  all_goals
    go_enter Tryd.func30, Tryd.ntmps30
    go_wp2
    go_ret
    exact ⟨rfl, rfl⟩
theorem EyeErr_dead (p : Value) (w : World) (h : DeadP p w) : Calls Tryd.prog 31 #[p] w fun e w' => e = .returned (.int .i64 1) ∧ w = w' := by
  rcases h with rfl | ⟨g, rfl, h2, h3, h4⟩
  all_goals
    go_enter Tryd.func31, Tryd.ntmps31
    go_wp2
    go_ret
    exact ⟨rfl, rfl⟩
theorem PenDone_dead (p : Value) (w : World) (h : DeadP p w) : Calls Tryd.prog 26 #[p] w fun e w' => e = .returned (.tuple #[.slice none 0 0, .int .i64 1]) ∧ w = w' := by
  rcases h with rfl | ⟨g, rfl, h2, h3, h4⟩
  all_goals
    go_enter Tryd.func26, Tryd.ntmps26
    go_wp2
    go_ret2
    exact ⟨rfl, rfl⟩

set_option maxHeartbeats 1000000 in
theorem PenText_dead (p : Value) (s : ByteArray) (e : Int) (w : World) (h : DeadP p w) : Calls Tryd.prog 24 #[p, .string s, .int .i64 e] w fun e w' => e = .returned (.tuple #[]) ∧ Below w.heap.size w w' := by
  have HD := fun W' hb => Lib.hid (fun x => Penput_dead p e x W' (h.keep hb))
  clear h
  go_enter Tryd.func24, Tryd.ntmps24
  go_wp2_with fail
  refine (((HD _ (below_new w _)).out _)).mono ?_
  rintro e w' ⟨rfl, rfl⟩
  go_wp2_with fail
  go_end0
  exact ⟨rfl, below_new w _⟩
set_option maxHeartbeats 1000000 in
theorem PenNum_dead (p : Value) (b : Bool) (n W M F L H : Int) (w : World) (h : DeadP p w) : Calls Tryd.prog 22 #[p, numV b n, colV W M F L H] w fun e w' => e = .returned (.tuple #[]) ∧ Below w.heap.size w w' := by
  have HD := fun W' hb => Lib.hid (fun e x => Penput_dead p e x W' (h.keep hb))
  have HP := fun W' => Lib.hid (Put23_any b n W M F L H W')
  clear h
  go_enter Tryd.func22, Tryd.ntmps22
  go_wp2_with fail
  refine ((HP _).out).mono ?_
  rintro e w1 ⟨rfl, hb1⟩
  have b1 := bthen (bthen (below_new w _) (below_new _ _)) hb1
  go_wp2_with fail
  refine (((HD _ (bthen b1 (below_new w1 _))).out _ _)).mono ?_
  rintro e w' ⟨rfl, rfl⟩
  go_wp2_with fail
  go_end0
  exact ⟨rfl, bthen b1 (below_new w1 _)⟩
set_option maxHeartbeats 1000000 in
theorem PenAngle_dead (p : Value) (b : Bool) (n : Int) (lat : Bool) (w : World) (h : DeadP p w) : Calls Tryd.prog 23 #[p, numV b n, .bool lat] w fun e w' => e = .returned (.tuple #[]) ∧ Below w.heap.size w w' := by
  have HD := fun W' hb => Lib.hid (fun e x => Penput_dead p e x W' (h.keep hb))
  have HP := fun W' => Lib.hid (Angle23_any b n lat W')
  clear h
  go_enter Tryd.func23, Tryd.ntmps23
  go_wp2_with fail
  refine ((HP _).out).mono ?_
  rintro e w1 ⟨rfl, hb1⟩
  have b1 := bthen (below_new w _) hb1
  go_wp2_with fail
  refine (((HD _ (bthen b1 (below_new w1 _))).out _ _)).mono ?_
  rintro e w' ⟨rfl, rfl⟩
  go_wp2_with fail
  go_end0
  exact ⟨rfl, bthen b1 (below_new w1 _)⟩

theorem takeN_none (W M F L H : Int) : ∃ e, takeN [] W M F L H = (false, 0, e) := by
  unfold takeN
  split
  · exact ⟨_, rfl⟩
  · exact ⟨_, if_pos rfl⟩
set_option maxHeartbeats 2000000 in
theorem EyeAngle_dead (p : Value) (lat : Bool) (w : World) (h : DeadP p w) : Calls Tryd.prog 28 #[p, .bool lat] w fun e w' => e = .returned (numV false 0) ∧ Below w.heap.size w w' := by
  have HT := fun W' hb => Lib.hid (EyeText_dead p W' (h.keep hb))
  have HF := fun W' hb => Lib.hid (fun e => EyeFail_dead p e W' (h.keep hb))
  have HA := fun W' => Lib.hid (TakeAngle23_any ByteArray.empty ByteArray.empty lat W' (by decide))
  rw [show takeAng ByteArray.empty.data.toList ByteArray.empty lat = (false, 0, 0) from if_pos ⟨rfl, rfl⟩] at HA
  clear h
  go_enter Tryd.func28, Tryd.ntmps28
  go_wp2_with fail
  refine ((HT _ (below_new w _)).out).mono ?_
  rintro e w' ⟨rfl, rfl⟩
  go_wp2_with fail
  refine ((HT _ (below_new w _)).out).mono ?_
  rintro e w' ⟨rfl, rfl⟩
  go_wp2_with fail
  refine ((HA _).out).mono ?_
  rintro e w1 ⟨rfl, hb1⟩
  obtain ⟨c1, f1⟩ := bcell hb1
  have b1 := bthen (below_new w _) hb1
  have hz := hb1.size
  simp at hz
  have z1 : w.heap.size < w1.heap.size := by omega
  have q0 : w1.cell? ⟨w.heap.size, 0, none⟩ = some (.bool false) := (c1 w.heap.size 0 (by simp)).trans (by simp [World.cell?_alloc_at])
  have q1 : w1.cell? ⟨w.heap.size, 1, none⟩ = some (.int .i64 0) := (c1 w.heap.size 1 (by simp)).trans (by simp [World.cell?_alloc_at])
  go_wp2_with fail
  refine (((HF _ (bthen b1 (below_new w1 _))).out _)).mono ?_
  rintro e w' ⟨rfl, rfl⟩
  go_wp2_with fail
  obtain ⟨p0, p1⟩ := two_cells w1 w.heap.size (.bool false) (.int .i64 0) _ _ q0 q1
  have b2 := Below.setCell (Below.setCell b1 (p := ⟨w.heap.size, 0, none⟩) (Nat.le_refl _) (.bool false)) (p := ⟨w.heap.size, 1, none⟩) (Nat.le_refl _) (.int .i64 0)
  have p0' := (World.cell?_alloc_past (w := (w1.setCell ⟨w.heap.size, 0, none⟩ (.bool false)).setCell ⟨w.heap.size, 1, none⟩ (.int .i64 0)) (.cells #[.bool false, .int .i64 0] 23) w.heap.size 0 (by simpa using z1)).trans p0
  have p1' := (World.cell?_alloc_past (w := (w1.setCell ⟨w.heap.size, 0, none⟩ (.bool false)).setCell ⟨w.heap.size, 1, none⟩ (.int .i64 0)) (.cells #[.bool false, .int .i64 0] 23) w.heap.size 1 (by simpa using z1)).trans p1
  refine bodyPost_ret (v := numV false 0) (by simp [results, Tryd.results28, go_sem, p0', p1']) rfl ⟨rfl, ?_⟩
  exact bthen b2 (below_new _ _)

end Go.Proofs.YtpaejoikfnmdhaaDoor
