/- Layer 23: pens and eyes that there are not, or that no call made. -/
import Derived.Test.YtfgopmfaeooadaaGreatDoorMd
import Derived.Deep.RegionHeld3
import Derived.Deep.RegionWith
import Derived.Deep.DeepCutAuto
import Derived.Test.YtfgopmfaeooadaaGreatDoorMe
import Derived.Deep.QuietTactic
namespace Go.Proofs.YtfgopmfaeooadaaGreatDoor
set_option linter.unusedVariables false
open Go.RowKit

def DeadP (v : Value) (w : World) : Prop :=
  v = .pointer none ∨ ∃ g, v = .pointer (some ⟨g, 0, none⟩) ∧ g < w.heap.size ∧ w.cell? ⟨g, 0, none⟩ = some (.bool false) ∧ w.cell? ⟨g, 2, none⟩ = some (.slice none 0 0)
theorem DeadP.keep {v : Value} {w w' : World} (h : DeadP v w) (hb : Below w.heap.size w w') : DeadP v w' := by
  rcases h with h | ⟨g, h1, h2, h3, h4⟩
  · exact .inl h
  · exact .inr ⟨g, h1, Nat.lt_of_lt_of_le h2 hb.size, ((bcell hb).1 g 0 h2).trans h3, ((bcell hb).1 g 2 h2).trans h4⟩
theorem DeadP.draws {v : Value} {w : World} (h : DeadP v w) (n : Nat) : DeadP v (w.drewN n) := h.keep (below_draws n)

theorem Penput_dead (p : Value) (e : Int) (x : Value) (w : World) (h : DeadP p w) : Calls Tryz.prog 87 #[p, .int .i64 e, x] w fun e w' => e = .returned (.tuple #[]) ∧ w = w' := by
  rcases h with rfl | ⟨g, rfl, h2, h3, h4⟩
  all_goals
    go_enter Tryz.func87, Tryz.ntmps87
    go_wp2
    go_end0
    exact ⟨rfl, rfl⟩
theorem EyeFail_dead (p : Value) (e : Int) (w : World) (h : DeadP p w) : Calls Tryz.prog 17 #[p, .int .i64 e] w fun e w' => e = .returned (.tuple #[]) ∧ w = w' := by
  rcases h with rfl | ⟨g, rfl, h2, h3, h4⟩
  all_goals
    go_enter Tryz.func17, Tryz.ntmps17
    go_wp2
    go_end0
    exact ⟨rfl, rfl⟩
theorem EyeText_dead (p : Value) (w : World) (h : DeadP p w) : Calls Tryz.prog 20 #[p] w fun e w' => e = .returned (.string ByteArray.empty) ∧ w = w' := by
  rcases h with rfl | ⟨g, rfl, h2, h3, h4⟩
  all_goals
    go_enter Tryz.func20, Tryz.ntmps20
    go_wp2
    go_ret
    exact ⟨rfl, rfl⟩
theorem EyeLeft_dead (p : Value) (w : World) (h : DeadP p w) : Calls Tryz.prog 80 #[p] w fun e w' => e = .returned (.int .i64 0) ∧ w = w' := by
  rcases h with rfl | ⟨g, rfl, h2, h3, h4⟩
  all_goals
    go_enter Tryz.func80, Tryz.ntmps80
    go_wp2
    go_ret
    exact ⟨rfl, rfl⟩
theorem EyeErr_dead (p : Value) (w : World) (h : DeadP p w) : Calls Tryz.prog 37 #[p] w fun e w' => e = .returned (.int .i64 1) ∧ w = w' := by
  rcases h with rfl | ⟨g, rfl, h2, h3, h4⟩
  all_goals
    go_enter Tryz.func37, Tryz.ntmps37
    go_wp2
    go_ret
    exact ⟨rfl, rfl⟩
theorem PenDone_dead (p : Value) (w : World) (h : DeadP p w) : Calls Tryz.prog 63 #[p] w fun e w' => e = .returned (.tuple #[.slice none 0 0, .int .i64 1]) ∧ w = w' := by
  rcases h with rfl | ⟨g, rfl, h2, h3, h4⟩
  all_goals
    go_enter Tryz.func63, Tryz.ntmps63
    go_wp2
    go_ret2
    exact ⟨rfl, rfl⟩

set_option maxHeartbeats 1000000 in
theorem PenText_dead (p : Value) (s : ByteArray) (e : Int) (w : World) (h : DeadP p w) : Calls Tryz.prog 49 #[p, .string s, .int .i64 e] w fun e w' => e = .returned (.tuple #[]) ∧ Below w.heap.size w w' := by
  have HD := fun W' hb => Lib.hid (fun x => Penput_dead p e x W' (h.keep hb))
  clear h
  go_enter Tryz.func49, Tryz.ntmps49
  go_wp2_with fail
  refine (((HD _ (below_new w _)).out _)).mono ?_
  rintro e w' ⟨rfl, rfl⟩
  go_wp2_with fail
  go_end0
  exact ⟨rfl, below_new w _⟩
set_option maxHeartbeats 1000000 in
theorem PenNum_dead (p : Value) (b : Bool) (n W M F L H : Int) (w : World) (h : DeadP p w) : Calls Tryz.prog 56 #[p, numV b n, colV W M F L H] w fun e w' => e = .returned (.tuple #[]) ∧ Below w.heap.size w w' := by
  have HD := fun W' hb => Lib.hid (fun e x => Penput_dead p e x W' (h.keep hb))
  have HP := fun W' => Lib.hid (Put23_any b n W M F L H W')
  clear h
  go_enter Tryz.func56, Tryz.ntmps56
  go_wp2_with fail
  refine ((HP _).out).mono ?_
  rintro e w1 ⟨rfl, hb1⟩
  have b1 := bthen (bthen (below_new w _) (below_new _ _)) hb1
  go_wp2_with fail
  refine (((HD _ (bthen b1 (below_new w1 _))).out _ _)).mono ?_
  rintro e w' ⟨rfl, rfl⟩
  go_wp2_with fail
  go_end0
  exact ⟨rfl, bthen b1 (below_new w1 _)⟩
set_option maxHeartbeats 1000000 in
theorem PenAngle_dead (p : Value) (b : Bool) (n : Int) (lat : Bool) (w : World) (h : DeadP p w) : Calls Tryz.prog 53 #[p, numV b n, .bool lat] w fun e w' => e = .returned (.tuple #[]) ∧ Below w.heap.size w w' := by
  have HD := fun W' hb => Lib.hid (fun e x => Penput_dead p e x W' (h.keep hb))
  have HP := fun W' => Lib.hid (Angle23_any b n lat W')
  clear h
  go_enter Tryz.func53, Tryz.ntmps53
  go_wp2_with fail
  refine ((HP _).out).mono ?_
  rintro e w1 ⟨rfl, hb1⟩
  have b1 := bthen (below_new w _) hb1
  go_wp2_with fail
  refine (((HD _ (bthen b1 (below_new w1 _))).out _ _)).mono ?_
  rintro e w' ⟨rfl, rfl⟩
  go_wp2_with fail
  go_end0
  exact ⟨rfl, bthen b1 (below_new w1 _)⟩

theorem takeN_none (W M F L H : Int) : ∃ e, takeN [] W M F L H = (false, 0, e) := by
  unfold takeN
  split
  · exact ⟨_, rfl⟩
  · exact ⟨_, if_pos rfl⟩
set_option maxHeartbeats 2000000 in
theorem EyeAngle_dead (p : Value) (lat : Bool) (w : World) (h : DeadP p w) : Calls Tryz.prog 24 #[p, .bool lat] w fun e w' => e = .returned (numV false 0) ∧ Below w.heap.size w w' := by
  have HT := fun W' hb => Lib.hid (EyeText_dead p W' (h.keep hb))
  have HF := fun W' hb => Lib.hid (fun e => EyeFail_dead p e W' (h.keep hb))
  have HA := fun W' => Lib.hid (TakeAngle23_any ByteArray.empty ByteArray.empty lat W' (by decide))
  rw [show takeAng ByteArray.empty.data.toList ByteArray.empty lat = (false, 0, 0) from if_pos ⟨rfl, rfl⟩] at HA
  clear h
  go_enter Tryz.func24, Tryz.ntmps24
  go_wp2_with fail
  refine ((HT _ (below_new w _)).out).mono ?_
  rintro e w' ⟨rfl, rfl⟩
  go_wp2_with fail
  refine ((HT _ (below_new w _)).out).mono ?_
  rintro e w' ⟨rfl, rfl⟩
  go_wp2_with fail
  refine ((HA _).out).mono ?_
  rintro e w1 ⟨rfl, hb1⟩
  obtain ⟨c1, f1⟩ := bcell hb1
  have b1 := bthen (below_new w _) hb1
  have hz := hb1.size
  simp at hz
  have z1 : w.heap.size < w1.heap.size := by omega
  have q0 : w1.cell? ⟨w.heap.size, 0, none⟩ = some (.bool false) := (c1 w.heap.size 0 (by simp)).trans (by simp [World.cell?_alloc_at])
  have q1 : w1.cell? ⟨w.heap.size, 1, none⟩ = some (.int .i64 0) := (c1 w.heap.size 1 (by simp)).trans (by simp [World.cell?_alloc_at])
  go_wp2_with fail
  refine (((HF _ (bthen b1 (below_new w1 _))).out _)).mono ?_
  rintro e w' ⟨rfl, rfl⟩
  go_wp2_with fail
  obtain ⟨p0, p1⟩ := two_cells w1 w.heap.size (.bool false) (.int .i64 0) _ _ q0 q1
  have b2 := Below.setCell (Below.setCell b1 (p := ⟨w.heap.size, 0, none⟩) (Nat.le_refl _) (.bool false)) (p := ⟨w.heap.size, 1, none⟩) (Nat.le_refl _) (.int .i64 0)
  have p0' := (World.cell?_alloc_past (w := (w1.setCell ⟨w.heap.size, 0, none⟩ (.bool false)).setCell ⟨w.heap.size, 1, none⟩ (.int .i64 0)) (.cells #[.bool false, .int .i64 0] 28) w.heap.size 0 (by simpa using z1)).trans p0
  have p1' := (World.cell?_alloc_past (w := (w1.setCell ⟨w.heap.size, 0, none⟩ (.bool false)).setCell ⟨w.heap.size, 1, none⟩ (.int .i64 0)) (.cells #[.bool false, .int .i64 0] 28) w.heap.size 1 (by simpa using z1)).trans p1
  refine bodyPost_ret (v := numV false 0) (by simp [results, Tryz.results24, go_sem, p0', p1']) rfl ⟨rfl, ?_⟩
  exact bthen b2 (below_new _ _)

end Go.Proofs.YtfgopmfaeooadaaGreatDoor

/- Layer 23: Num of an eye that there is not, or that no call made. -/
namespace Go.Proofs.YtfgopmfaeooadaaGreatDoor
set_option linter.unusedVariables false
open Go.RowKit

theorem drew_size (w : World) : w.drew.heap.size = w.heap.size := rfl

/-- What the eye's Num has behind its statement that draws its order. -/
def NumAt (w : World) (b : Bool) (n E : Int) (s5 s6 : Value) (wx : World) : Prop :=
  ∃ G, s5 = .pointer (some ⟨G, 0, none⟩) ∧ s6 = .int .i64 E ∧ wx.cell? ⟨G, 0, none⟩ = some (.bool b) ∧ wx.cell? ⟨G, 1, none⟩ = some (.int .i64 n) ∧ wx.cell? ⟨w.heap.size + 1, 0, none⟩ = some (.bool false) ∧ wx.cell? ⟨w.heap.size + 1, 1, none⟩ = some (.int .i64 0) ∧ Hid (Below w.heap.size w wx) ∧ G < wx.heap.size ∧ w.heap.size + 1 < G ∧ ∀ o, wx.frozen? ⟨w.heap.size + 1, o, none⟩ = false
theorem numAt_late {w W0 w1 : World} {b : Bool} {n E : Int} (hb : Below W0.heap.size W0 w1) (h0 : W0.cell? ⟨w.heap.size + 1, 0, none⟩ = some (.bool false)) (h1 : W0.cell? ⟨w.heap.size + 1, 1, none⟩ = some (.int .i64 0)) (hz : w.heap.size + 1 < W0.heap.size) (hfz : ∀ o, W0.frozen? ⟨w.heap.size + 1, o, none⟩ = false) (hb0 : Below w.heap.size w W0) :
    NumAt w b n E (.pointer (some ⟨w1.heap.size, 0, none⟩)) (.int .i64 E) (w1.alloc (.cells #[.bool b, .int .i64 n] 28)) := by
  have hz1 := hb.size
  exact ⟨w1.heap.size, rfl, rfl, by simp [World.cell?_alloc_at], by simp [World.cell?_alloc_at], (World.cell?_alloc_past _ _ _ (by omega)).trans (((bcell hb).1 _ 0 hz).trans h0), (World.cell?_alloc_past _ _ _ (by omega)).trans (((bcell hb).1 _ 1 hz).trans h1), Lib.hid (bthen (bthen hb0 hb) (below_new _ _)), by simp, by omega, fun o => by rw [frozen?_alloc_cells, (bcell hb).2 _ o hz, hfz]⟩
theorem numAt_early {w W0 w1 : World} {b : Bool} {n E : Int} {G : Nat} (hb : Below W0.heap.size W0 w1) (g0 : W0.cell? ⟨G, 0, none⟩ = some (.bool false)) (g1 : W0.cell? ⟨G, 1, none⟩ = some (.int .i64 0)) (hG : w.heap.size + 1 < G) (hG2 : G < W0.heap.size) (hfz : ∀ o, W0.frozen? ⟨w.heap.size + 1, o, none⟩ = false) (h0 : W0.cell? ⟨w.heap.size + 1, 0, none⟩ = some (.bool false)) (h1 : W0.cell? ⟨w.heap.size + 1, 1, none⟩ = some (.int .i64 0)) (hb0 : Below w.heap.size w W0) :
    NumAt w b n E (.pointer (some ⟨G, 0, none⟩)) (.int .i64 E) ((w1.setCell ⟨G, 0, none⟩ (.bool b)).setCell ⟨G, 1, none⟩ (.int .i64 n)) := by
  have hz1 := hb.size
  obtain ⟨p0, p1⟩ := two_cells w1 G (.bool b) (.int .i64 n) _ _ (((bcell hb).1 G 0 hG2).trans g0) (((bcell hb).1 G 1 hG2).trans g1)
  have hne : ∀ o j, (⟨G, j, none⟩ : Addr) ≠ ⟨w.heap.size + 1, o, none⟩ := fun o j e => by injection e with e; omega
  have k : ∀ o, ((w1.setCell ⟨G, 0, none⟩ (.bool b)).setCell ⟨G, 1, none⟩ (.int .i64 n)).cell? ⟨w.heap.size + 1, o, none⟩ = w1.cell? ⟨w.heap.size + 1, o, none⟩ := fun o => by
    rw [World.cell?_setCell_other _ _ _ _ (hne o 1), World.cell?_setCell_other _ _ _ _ (hne o 0)]
  refine ⟨G, rfl, rfl, p0, p1, (k 0).trans (((bcell hb).1 _ 0 (by omega)).trans h0), (k 1).trans (((bcell hb).1 _ 1 (by omega)).trans h1), Lib.hid ?_, ?_, hG, fun o => ?_⟩
  · exact Below.setCell (Below.setCell (bthen hb0 hb) (p := ⟨G, 0, none⟩) (by show w.heap.size ≤ G; omega) _) (p := ⟨G, 1, none⟩) (by show w.heap.size ≤ G; omega) _
  · simp; omega
  · simp only [World.frozen?_setCell]
    rw [(bcell hb).2 _ o (by omega), hfz]

set_option maxRecDepth 8000 in
set_option maxHeartbeats 4000000 in
theorem EyeNum_dead (p : Value) (W M F L H : Int) (w : World) (h : DeadP p w) : Calls Tryz.prog 27 #[p, colV W M F L H] w fun e w' => e = .returned (numV false 0) ∧ Below w.heap.size w w' := by
  have HT := fun W' hb => Lib.hid (EyeText_dead p W' (h.keep hb))
  have HF := fun W' hb => Lib.hid (fun e => EyeFail_dead p e W' (h.keep hb))
  obtain ⟨E, hE⟩ := takeN_none W M F L H
  have HA := fun W' => Lib.hid (Take23_any ByteArray.empty W M F L H W' (by decide))
  rw [show takeN ByteArray.empty.data.toList W M F L H = (false, 0, E) from hE] at HA
  clear h hE
  have HS : Hid (∀ o, ((w.alloc (.cells #[.int .i64 W, .int .i64 M, .int .i64 F, .int .i64 L, .int .i64 H] 53)).alloc (.cells #[.bool false, .int .i64 0] 28)).cell? ⟨w.heap.size + 1, o, none⟩ = (#[Value.bool false, .int .i64 0] : Array Value)[o]?) := fun o => by rw [World.cell?_alloc_at _ _ _ _ (by simp)]
  have HBl : Hid (Below w.heap.size w ((w.alloc (.cells #[.int .i64 W, .int .i64 M, .int .i64 F, .int .i64 L, .int .i64 H] 53)).alloc (.cells #[.bool false, .int .i64 0] 28))) := bthen (below_new w _) (below_new _ _)
  go_enter Tryz.func27, Tryz.ntmps27
  go_upto_region 1 with fail
  go_cut [5, 6] (fun s5 s6 wx => Hid (NumAt w false 0 E s5 s6 wx))
  case first =>
    go_region_with (first | (go_at_call 20; refine (HT _ (by repeat (first | exact HBl.out | apply bdrew | refine bthen ?_ (below_new _ _)))).out.mono ?_; rintro e w' ⟨rfl, rfl⟩) | (go_at_call 78; refine (HA _).out.mono ?_; rintro e w1 ⟨rfl, hb1⟩; obtain ⟨c1, f1⟩ := bcell hb1; have hz := hb1.size; have hz2 : w.heap.size + 1 + 1 ≤ w1.heap.size := by refine Nat.le_trans ?_ hz; show _ ≤ (World.alloc _ _).heap.size; simp))
    all_goals go_wp2_with fail
    all_goals go_meet
    all_goals first
      | exact Lib.hid (numAt_late hb1 (HS.out 0) (HS.out 1) (by show _ < (World.alloc _ _).heap.size; simp) (fun o => by show (World.alloc _ _).frozen? _ = false; rw [frozen?_alloc_cells, frozen?_alloc_cells]; exact frozen_past _ _ _ (by omega)) (bdrew HBl.out))
      | exact Lib.hid (numAt_early hb1 (World.cell?_alloc_at _ _ _ _ (by simp)) (World.cell?_alloc_at _ _ _ _ (by simp)) (by omega) (by show _ < (World.alloc _ _).heap.size; simp) (fun o => by show (World.alloc _ _).frozen? _ = false; rw [frozen?_alloc_cells, frozen?_alloc_cells, frozen?_alloc_cells]; exact frozen_past _ _ _ (by omega))
          ((World.cell?_alloc_past _ _ _ (by simp)).trans (HS.out 0)) ((World.cell?_alloc_past _ _ _ (by simp)).trans (HS.out 1)) (bdrew (bthen HBl.out (below_new _ _))))
  case rest =>
    obtain ⟨G, rfl, rfl, g0, g1, q0, q1, hb, hG, hG2, hfz⟩ := hcut.out
    have z0 := hfz 0
    have z1 := hfz 1
    clear hfz HA HT HS HBl
    go_wp2_with fail
    refine (((HF _ hb.out).out _)).mono ?_
    rintro e w' ⟨rfl, rfl⟩
    go_wp2_with fail
    obtain ⟨p0, p1⟩ := two_cells _ (w.heap.size + 1) (.bool false) (.int .i64 0) _ _ q0 q1
    refine bodyPost_ret (v := numV false 0) (by simp [results, Tryz.results27, go_sem, p0, p1]) rfl ⟨rfl, ?_⟩
    exact (Below.setCell (Below.setCell hb.out (p := ⟨w.heap.size + 1, 0, none⟩) (by show w.heap.size ≤ w.heap.size + 1; omega) _) (p := ⟨w.heap.size + 1, 1, none⟩) (by show w.heap.size ≤ w.heap.size + 1; omega) _)

end Go.Proofs.YtfgopmfaeooadaaGreatDoor

/- Layer 23: eyes, and the reference's rows that are read: a text, an error. -/
namespace Go.Proofs.YtfgopmfaeooadaaGreatDoor
set_option linter.unusedVariables false
open Go.RowKit
variable {Q : Nat → Prop}

abbrev nilV : Value := .slice none 0 0
/-- The error behind a text. -/
def textE (e : Int) (R : List ByteArray) : Int := if R = [] then firstE e 3 else e

/-- A slice of texts in blocks of a kind. -/
def StrsQ (Q : Nat → Prop) (w : World) (A : Option Addr) (fs : List ByteArray) : Prop :=
  ∀ k (hk : k < fs.length), ∃ b off, A = some ⟨b, off, none⟩ ∧ Q b ∧ w.cell? ⟨b, off + k, none⟩ = some (.string (fs[k]'hk))
/-- An eye that a call made. -/
def EyeR (Q : Nat → Prop) (w : World) (g : Nat) (e : Int) (R : List ByteArray) : Prop :=
  ∃ A c, w.cell? ⟨g, 0, none⟩ = some (.bool true) ∧ w.cell? ⟨g, 1, none⟩ = some (.int .i64 e) ∧ w.cell? ⟨g, 2, none⟩ = some (.slice A R.length c) ∧ (∀ o, w.frozen? ⟨g, o, none⟩ = false) ∧ g < w.heap.size ∧ StrsQ Q w A R ∧ (∀ b, Q b → b < w.heap.size) ∧ (∀ b, Q b → b ≠ g) ∧ R.length ≤ 1000000 ∧ R.length ≤ c
/-- A row of the reference that is read. -/
def RowR (Q : Nat → Prop) (w : World) (g : Nat) (e : Int) (R : List ByteArray) : Prop :=
  ∃ A c fs at_, w.cell? ⟨g, 0, none⟩ = some (.slice A fs.length c) ∧ w.cell? ⟨g, 1, none⟩ = some (.int .i64 ((at_ : Nat) : Int)) ∧ w.cell? ⟨g, 2, none⟩ = some (.int .i64 e) ∧ (∀ o, w.frozen? ⟨g, o, none⟩ = false) ∧ g < w.heap.size ∧ StrsQ Q w A fs ∧ (∀ b, Q b → b < w.heap.size) ∧ (∀ b, Q b → b ≠ g) ∧ fs.length ≤ 1000000 ∧ at_ ≤ fs.length ∧ R = fs.drop at_

theorem strs_keep {w w' : World} {A : Option Addr} {R : List ByteArray} {g : Nat} (h : StrsQ Q w A R) (hB : ∀ b, Q b → b < w.heap.size) (hA : ∀ b, Q b → b ≠ g) (hf : Frm g nilV w w') : StrsQ Q w' A R := by
  intro k hk
  obtain ⟨b, off, h1, h2, h3⟩ := h k hk
  exact ⟨b, off, h1, h2, (hf.cell (hB b h2) (hA b h2) (by simp [Value.ownBlock])).trans h3⟩
theorem EyeR.keep {w w' : World} {g : Nat} {e : Int} {R : List ByteArray} (h : EyeR Q w g e R) (hb : Below w.heap.size w w') : EyeR Q w' g e R := by
  obtain ⟨A, c, h0, h1, h2, h3, h4, h5, hB, h6, h7, h8⟩ := h
  obtain ⟨cc, ff⟩ := bcell hb
  exact ⟨A, c, (cc g 0 h4).trans h0, (cc g 1 h4).trans h1, (cc g 2 h4).trans h2, fun o => (ff g o h4).trans (h3 o), Nat.lt_of_lt_of_le h4 hb.size, strs_keep h5 hB h6 (Frm.of_below hb), (fun b q => Nat.lt_of_lt_of_le (hB b q) hb.size), h6, h7, h8⟩
theorem RowR.keep {w w' : World} {g : Nat} {e : Int} {R : List ByteArray} (h : RowR Q w g e R) (hb : Below w.heap.size w w') : RowR Q w' g e R := by
  obtain ⟨A, c, fs, at_, h0, h1, h2, h3, h4, h5, hB, h6, h7, h8, h9⟩ := h
  obtain ⟨cc, ff⟩ := bcell hb
  exact ⟨A, c, fs, at_, (cc g 0 h4).trans h0, (cc g 1 h4).trans h1, (cc g 2 h4).trans h2, fun o => (ff g o h4).trans (h3 o), Nat.lt_of_lt_of_le h4 hb.size, strs_keep h5 hB h6 (Frm.of_below hb), (fun b q => Nat.lt_of_lt_of_le (hB b q) hb.size), h6, h7, h8, h9⟩
theorem frm_set (w : World) (g o : Nat) (u : Value) : Frm g nilV w (w.setCell ⟨g, o, none⟩ u) := (Frm.of_below (Below.refl _ _)).set _ _
theorem EyeR.err {w : World} {g : Nat} {e E : Int} {R : List ByteArray} (h : EyeR Q w g e R) : EyeR Q (w.setCell ⟨g, 1, none⟩ (.int .i64 E)) g E R := by
  obtain ⟨A, c, h0, h1, h2, h3, h4, h5, hB, h6, h7, h8⟩ := h
  refine ⟨A, c, ?_, World.cell?_setCell_same _ _ _ h1, ?_, fun o => by simpa using h3 o, by simpa using h4, strs_keep h5 hB h6 (frm_set _ _ _ _), by simpa using hB, h6, h7, h8⟩
  · rw [World.cell?_setCell_other _ _ _ _ (by simp)]; exact h0
  · rw [World.cell?_setCell_other _ _ _ _ (by simp)]; exact h2
theorem RowR.err {w : World} {g : Nat} {e E : Int} {R : List ByteArray} (h : RowR Q w g e R) : RowR Q (w.setCell ⟨g, 2, none⟩ (.int .i64 E)) g E R := by
  obtain ⟨A, c, fs, at_, h0, h1, h2, h3, h4, h5, hB, h6, h7, h8, h9⟩ := h
  refine ⟨A, c, fs, at_, ?_, ?_, World.cell?_setCell_same _ _ _ h2, fun o => by simpa using h3 o, by simpa using h4, strs_keep h5 hB h6 (frm_set _ _ _ _), by simpa using hB, h6, h7, h8, h9⟩
  · rw [World.cell?_setCell_other _ _ _ _ (by simp)]; exact h0
  · rw [World.cell?_setCell_other _ _ _ _ (by simp)]; exact h1

/-- What a step of an eye leaves. -/
def EyePost (Q : Nat → Prop) (g : Nat) (x : Value) (e : Int) (R : List ByteArray) (w : World) (r : Ending) (w' : World) : Prop := r = .returned x ∧ EyeR Q w' g e R ∧ Frm g nilV w w'
def RowRPost (Q : Nat → Prop) (g : Nat) (x : Value) (e : Int) (R : List ByteArray) (w : World) (r : Ending) (w' : World) : Prop := r = .returned x ∧ RowR Q w' g e R ∧ Frm g nilV w w'

theorem EyeR.noted {w : World} {g : Nat} {e E : Int} {R : List ByteArray} (h : EyeR Q w g e R) : EyeR Q (if e = 0 then w.setCell ⟨g, 1, none⟩ (.int .i64 E) else w) g (firstE e E) R := by
  unfold firstE
  by_cases he : e = 0
  · rw [if_pos he, if_pos he]; exact h.err
  · rw [if_neg he, if_neg he]; exact h
theorem RowR.noted {w : World} {g : Nat} {e E : Int} {R : List ByteArray} (h : RowR Q w g e R) : RowR Q (if e = 0 then w.setCell ⟨g, 2, none⟩ (.int .i64 E) else w) g (firstE e E) R := by
  unfold firstE
  by_cases he : e = 0
  · rw [if_pos he, if_pos he]; exact h.err
  · rw [if_neg he, if_neg he]; exact h
theorem frm_note (w : World) (g o : Nat) (e E : Int) : Frm g nilV w (if e = 0 then w.setCell ⟨g, o, none⟩ (.int .i64 E) else w) := by
  split
  · exact frm_set _ _ _ _
  · exact Frm.of_below (Below.refl _ _)

set_option maxHeartbeats 1000000 in
theorem EyeFail_any (g : Nat) (e E : Int) (R : List ByteArray) (w : World) (h : EyeR Q w g e R) :
    Calls Tryz.prog 17 #[.pointer (some ⟨g, 0, none⟩), .int .i64 E] w (EyePost Q g (.tuple #[]) (firstE e E) R w) := by
  have HN : Hid (EyePost Q g (.tuple #[]) (firstE e E) R w (.returned (.tuple #[])) (if e = 0 then w.setCell ⟨g, 1, none⟩ (.int .i64 E) else w)) := ⟨rfl, h.noted, frm_note _ _ _ _ _⟩
  obtain ⟨A, c, h0, h1, h2, h3, h4, h5, hB, h6, h7, h8⟩ := h
  have HC := Lib.hid (note_any g e E w h1 (h3 1))
  clear h1 h2 h3 h4 h5 h6
  generalize (if e = 0 then w.setCell ⟨g, 1, none⟩ (.int .i64 E) else w) = W at *
  go_enter Tryz.func17, Tryz.ntmps17
  go_wp2_with fail
  refine (HC.out).mono ?_
  rintro e w' ⟨rfl, rfl⟩
  go_wp2_with fail
  go_end0
  exact HN.out
theorem RowFirst_any (g : Nat) (e E : Int) (R : List ByteArray) (w : World) (h : RowR Q w g e R) :
    Calls Tryz.prog 45 #[.pointer (some ⟨g, 0, none⟩), .int .i64 E] w (RowRPost Q g (.tuple #[]) (firstE e E) R w) := by
  have HN : RowR Q (if e = 0 then w.setCell ⟨g, 2, none⟩ (.int .i64 E) else w) g (firstE e E) R := h.noted
  obtain ⟨A, c, fs, at_, h0, h1, h2, h3, h4, -⟩ := h
  refine (First_any g e E w h2 (h3 2)).mono ?_
  rintro r w' ⟨rfl, rfl⟩
  exact ⟨rfl, HN, frm_note _ _ _ _ _⟩

theorem EyeErr_any (g : Nat) (e : Int) (R : List ByteArray) (w : World) (h : EyeR Q w g e R) :
    Calls Tryz.prog 37 #[.pointer (some ⟨g, 0, none⟩)] w fun r w' => r = .returned (.int .i64 e) ∧ w = w' := by
  obtain ⟨A, c, h0, h1, h2, h3, h4, h5, hB, h6, h7, h8⟩ := h
  clear h5 h6 h3
  go_enter Tryz.func37, Tryz.ntmps37
  go_wp2
  go_ret
  exact ⟨rfl, rfl⟩
theorem EyeLeft_any (g : Nat) (e : Int) (R : List ByteArray) (w : World) (h : EyeR Q w g e R) :
    Calls Tryz.prog 80 #[.pointer (some ⟨g, 0, none⟩)] w fun r w' => r = .returned (.int .i64 (R.length : Int)) ∧ w = w' := by
  obtain ⟨A, c, h0, h1, h2, h3, h4, h5, hB, h6, h7, h8⟩ := h
  clear h5 h6 h3
  generalize R.length = n at *
  go_enter Tryz.func80, Tryz.ntmps80
  go_wp2
  go_ret
  exact ⟨rfl, rfl⟩
end Go.Proofs.YtfgopmfaeooadaaGreatDoor

/- Layer 23: the next text, of an eye, of a row. -/
namespace Go.Proofs.YtfgopmfaeooadaaGreatDoor
set_option linter.unusedVariables false
open Go.RowKit
variable {Q : Nat → Prop}

set_option maxRecDepth 8000 in
set_option maxHeartbeats 1000000 in
theorem EyeText_any (g : Nat) (e : Int) (R : List ByteArray) (w : World) (h : EyeR Q w g e R) :
    Calls Tryz.prog 20 #[.pointer (some ⟨g, 0, none⟩)] w (EyePost Q g (.string (R.headD ByteArray.empty)) (textE e R) R.tail w) := by
  cases R with
  | nil =>
    have HN : Hid (EyePost Q g (.string ByteArray.empty) (firstE e 3) [] w (.returned (.string ByteArray.empty)) (if e = 0 then w.setCell ⟨g, 1, none⟩ (.int .i64 3) else w)) := ⟨rfl, h.noted, frm_note _ _ _ _ _⟩
    obtain ⟨A, c, h0, h1, h2, h3, h4, h5, hB, h6, h7, h8⟩ := h
    have HC := Lib.hid (note_any g e 3 w h1 (h3 1))
    change Calls Tryz.prog 20 #[.pointer (some ⟨g, 0, none⟩)] w (EyePost Q g (.string ByteArray.empty) (firstE e 3) [] w)
    replace h2 : w.cell? ⟨g, 2, none⟩ = some (.slice A 0 c) := h2
    clear h1 h3 h4 h5 h6 h7 h8
    generalize (if e = 0 then w.setCell ⟨g, 1, none⟩ (.int .i64 3) else w) = W at *
    go_enter Tryz.func20, Tryz.ntmps20
    go_wp2_with fail
    refine (HC.out).mono ?_
    rintro e w' ⟨rfl, rfl⟩
    go_wp2_with fail
    go_ret
    exact HN.out
  | cons s t =>
    obtain ⟨A, c, h0, h1, h2, h3, h4, h5, hB, h6, h7, h8⟩ := h
    obtain ⟨b, off, rfl, hb, hc⟩ := h5 0 (by simp)
    have hbg := h6 b hb
    have H6 := Lib.hid h6
    replace hc : w.cell? ⟨b, off, none⟩ = some (.string s) := hc
    have hn : (s :: t).length = t.length + 1 := rfl
    rw [hn] at h2 h7 h8
    have z2 := h3 2
    have HN : Hid (EyePost Q g (.string s) e t w (.returned (.string s)) (w.setCell ⟨g, 2, none⟩ (.slice (some ⟨b, off + 1, none⟩) t.length (c - 1)))) := by
      refine ⟨rfl, ⟨some ⟨b, off + 1, none⟩, c - 1, ?_, ?_, World.cell?_setCell_same _ _ _ h2, fun o => by simpa using h3 o, by simpa using h4, ?_, by simpa using hB, ?_, by omega, by omega⟩, frm_set _ _ _ _⟩
      · rw [World.cell?_setCell_other _ _ _ _ (by simp)]; exact h0
      · rw [World.cell?_setCell_other _ _ _ _ (by simp)]; exact h1
      · intro k hk
        obtain ⟨b2, off2, e1, e2, e3⟩ := h5 (k + 1) (by simpa using hk)
        injection e1 with e1
        injection e1 with e1 e1'
        subst e1 e1'
        refine ⟨b, off + 1, rfl, hb, ?_⟩
        rw [World.cell?_setCell_other _ _ _ _ (fun q => by injection q with q; exact hbg q.symm), show off + 1 + k = off + (k + 1) from by omega, e3]
        rfl
      · exact H6.out
    change Calls Tryz.prog 20 #[.pointer (some ⟨g, 0, none⟩)] w (EyePost Q g (.string s) e t w)
    have HF := Lib.hid h3
    clear h3 h5 h6 hn
    have i1 : (1 : Int) ≤ ((t.length + 1 : Nat) : Int) := by omega
    have i2 : ((t.length + 1 : Nat) : Int) ≤ (c : Int) := by omega
    have i3 : (((t.length + 1 : Nat) : Int) == 0) = false := by rw [beq_eq_false_iff_ne]; omega
    have i4 : (0 : Int) < ((t.length + 1 : Nat) : Int) := by omega
    have i5 : t.length + 1 - 1 = t.length := by omega
    by_cases hc1 : c = 1
    · subst hc1
      have ht : t = [] := List.eq_nil_of_length_eq_zero (by omega)
      subst ht
      have HN2 : Hid (EyePost Q g (.string s) e [] w (.returned (.string s)) (w.setCell ⟨g, 2, none⟩ (.slice (some ⟨b, off, none⟩) 0 0))) := by
        refine ⟨rfl, ⟨some ⟨b, off, none⟩, 0, ?_, ?_, World.cell?_setCell_same _ _ _ h2, fun o => by simpa using HF.out o, by simpa using h4, fun k hk => absurd hk (by simp), by simpa using hB, H6.out, by simp, by simp⟩, frm_set _ _ _ _⟩
        · rw [World.cell?_setCell_other _ _ _ _ (by simp)]; exact h0
        · rw [World.cell?_setCell_other _ _ _ _ (by simp)]; exact h1
      replace h2 : w.cell? ⟨g, 2, none⟩ = some (.slice (some ⟨b, off, none⟩) 1 1) := h2
      clear HN i1 i2 i3 i4 i5 h7 h8 HF
      go_enter Tryz.func20, Tryz.ntmps20
      go_wp2_with fail
      go_ret
      exact HN2.out
    · clear HF
      generalize t.length + 1 = n at *
      generalize t.length = m at *
      go_enter Tryz.func20, Tryz.ntmps20
      go_wp2_with fail
      go_ret
      exact HN.out

set_option maxRecDepth 8000 in
set_option maxHeartbeats 1000000 in
theorem RowText1_any (g : Nat) (e : Int) (R : List ByteArray) (w : World) (h : RowR Q w g e R) :
    Calls Tryz.prog 44 #[.pointer (some ⟨g, 0, none⟩)] w (RowRPost Q g (.string (R.headD ByteArray.empty)) (textE e R) R.tail w) := by
  have HR0 := Lib.hid h
  obtain ⟨A, c, fs, at_, h0, h1, h2, h3, h4, h5, hB, h6, h7, h8, rfl⟩ := h
  by_cases hlt : at_ < fs.length
  · have hdrop : fs.drop at_ = fs[at_] :: fs.drop (at_ + 1) := List.drop_eq_getElem_cons hlt
    obtain ⟨b, off, rfl, hb, hc⟩ := h5 at_ hlt
    have hbg := h6 b hb
    have z1 := h3 1
    obtain ⟨s, hs⟩ : ∃ s, fs[at_] = s := ⟨_, rfl⟩
    rw [hs] at hc hdrop
    have k : RowR Q (w.setCell ⟨g, 1, none⟩ (.int .i64 ((at_ : Int) + 1))) g e (fs.drop (at_ + 1)) := by
      refine ⟨some ⟨b, off, none⟩, c, fs, at_ + 1, ?_, ?_, ?_, fun o => by simpa using h3 o, by simpa using h4, strs_keep h5 hB h6 (frm_set _ _ _ _), by simpa using hB, h6, h7, by omega, rfl⟩
      · rw [World.cell?_setCell_other _ _ _ _ (by simp)]; exact h0
      · rw [World.cell?_setCell_same _ _ _ h1]
        rw [show ((at_ + 1 : Nat) : Int) = (at_ : Int) + 1 from by omega]
      · rw [World.cell?_setCell_other _ _ _ _ (by simp)]; exact h2
    have hf := frm_set w g 1 (.int .i64 ((at_ : Int) + 1))
    have HN : Hid (∀ n m, RowRPost Q g (.string ((fs.drop at_).headD ByteArray.empty)) (textE e (fs.drop at_)) (fs.drop at_).tail w (.returned (.string s)) (((w.drewN n).setCell ⟨g, 1, none⟩ (.int .i64 ((at_ : Int) + 1))).drewN m)) := by
      intro n m
      rw [hdrop]
      exact ⟨rfl, k, ⟨hf.os, hf.tape, hf.output, hf.size, hf.block⟩⟩
    have i1 : (at_ : Int) < (fs.length : Int) := by omega
    have i2 : (fs.length : Int) ≤ 1000000 := by omega
    have i3 : (0 : Int) ≤ (at_ : Int) := by omega
    have hbg' : ¬ g = b := fun q => hbg q.symm
    have hbg'' : ¬ b = g := hbg
    clear h3 h5 h6 hdrop hs k hf HR0 h7 h8 hbg
    generalize fs.length = n at *
    go_enter Tryz.func44, Tryz.ntmps44
    go_wp2_with fail
    go_quiet (fail)
    go_wp2_with fail
    go_quiet (fail)
    go_wp2_with fail
    go_ret
    exact HN.out _ _
  · have hnil : fs.drop at_ = [] := List.drop_eq_nil_of_le (by omega)
    have z2 := h3 2
    have HC : ∀ n, Hid (Calls Tryz.prog 45 #[.pointer (some ⟨g, 0, none⟩), .int .i64 3] (w.drewN n) fun r w' => r = .returned (.tuple #[]) ∧ Hid (RowRPost Q g (.string ((fs.drop at_).headD ByteArray.empty)) (textE e (fs.drop at_)) (fs.drop at_).tail w (.returned (.string ByteArray.empty)) w')) := fun n => Lib.hid ((First_any g e 3 (w.drewN n) h2 z2).mono (by
      rintro r w' ⟨rfl, rfl⟩
      refine ⟨rfl, Lib.hid ?_⟩
      have k := (HR0.out.keep (below_draws n)).noted (E := 3)
      rw [hnil] at k ⊢
      refine ⟨rfl, k, ?_⟩
      have f := frm_note (w.drewN n) g 2 e 3
      exact ⟨f.os, f.tape, f.output, f.size, f.block⟩))
    have i1 : (fs.length : Int) ≤ (at_ : Int) := by omega
    clear h3 h5 h6 hnil HR0 h7 h8 hlt
    generalize fs.length = n at *
    go_enter Tryz.func44, Tryz.ntmps44
    go_wp2_with fail
    go_quiet (fail)
    go_wp2_with fail
    refine (HC _).out.mono ?_
    rintro r w' ⟨rfl, hpo⟩
    go_wp2_with fail
    go_ret
    exact hpo.out

end Go.Proofs.YtfgopmfaeooadaaGreatDoor
