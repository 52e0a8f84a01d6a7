/- Layer 23: the reference's Put. -/
import Derived.Test.YtpaejoikfnmdhaaDoorDec19
import Derived.Deep.RegionHeld3
namespace Go.Proofs.YtpaejoikfnmdhaaDoor
set_option linter.unusedVariables false
open Go.RowKit

theorem colS_below {w0 W w' : World} {g : Nat} {x y : Value} (hb : Below W.heap.size W w') (h : W.cell? ⟨g, 0, none⟩ = some x ∧ W.cell? ⟨g, 2, none⟩ = some y ∧ Hid (Below w0.heap.size w0 W) ∧ Hid (g < W.heap.size)) :
    w'.cell? ⟨g, 0, none⟩ = some x ∧ w'.cell? ⟨g, 2, none⟩ = some y ∧ Hid (Below w0.heap.size w0 w') ∧ Hid (g < w'.heap.size) := by
  obtain ⟨h1, h2, h3, h4⟩ := h
  obtain ⟨c, -⟩ := bcell hb
  exact ⟨(c g 0 h4.out).trans h1, (c g 2 h4.out).trans h2, Lib.hid (bthen h3.out hb), Lib.hid (Nat.lt_of_lt_of_le h4.out hb.size)⟩

set_option maxRecDepth 8000 in
set_option maxHeartbeats 4000000 in
theorem r23Put_pos (n W F : Nat) (M L H : Int) (w : World) (hn : n ≤ 1000000000000000000) (hW : W ≤ 12) (hF : F ≤ 6) (hl : L ≤ (n : Int)) (hh : (n : Int) ≤ H)
    (HR : ∀ W', Hid (Calls Tryd.prog 15 #[colV W M F L H] W' fun e w' => e = .returned (.bool true) ∧ Below W'.heap.size W' w')) :
    Calls Tryd.prog 10 #[numV true n, colV W M F L H] w fun e w' => e = .returned (.tuple #[.string (toB (pointL n W F)), .int .i64 0]) ∧ Below w.heap.size w w' := by
  have hT := fun W => Lib.hid (r23Ten_any F W (by omega))
  have t1 := tenI_pos F
  have t2 := tenI_le hF
  rw [show tenI 6 = 1000000 from by decide] at t2
  have hq : (n : Int) / tenI F = ((n / 10 ^ F : Nat) : Int) := by unfold tenI; rw [Int.natCast_ediv]
  have hr : (n : Int) % tenI F = ((n % 10 ^ F : Nat) : Int) := by unfold tenI; rw [Int.natCast_emod]
  have hq1 : n / 10 ^ F ≤ 1000000000000000000 := Nat.le_trans (Nat.div_le_self _ _) hn
  have hr1 : n % 10 ^ F ≤ 1000000000000000000 := Nat.le_trans (Nat.mod_le _ _) hn
  have hr2 : n % 10 ^ F < 10 ^ F := Nat.mod_lt _ (Nat.pow_pos (by decide))
  have HP : Hid (toB (pointL n W F) = ⟨#[]⟩ ++ toB (digL (n / 10 ^ F) W) ++ toB (tailB (n % 10 ^ F) F)) := by
    show _ = toB [] ++ _ ++ _
    rw [toB_append, toB_append]
    rfl
  have HB := fun W' => Lib.hid (r23behind_any (n % 10 ^ F) F W' hr1 (by omega) hr2)
  clear hr2
  have HD := fun W' => Lib.hid (r23Digits_any (n / 10 ^ F) W W' hq1 (by omega))
  have hA : (toB (digL (n / 10 ^ F) W)).size ≤ 20 := by rw [size_B]; exact digF_len 20 _ W
  have hBs : (toB (tailB (n % 10 ^ F) F)).size ≤ 41 := by
    rw [size_B]
    have h2 := pointL_len (n % 10 ^ F) 0 F
    unfold pointL at h2
    rw [Nat.mod_mod, List.length_append] at h2
    omega
  generalize n / 10 ^ F = q at *
  generalize n % 10 ^ F = r at *
  generalize tenI F = T at *
  generalize toB (digL q W) = A at *
  generalize toB (tailB r F) = B at *
  generalize toB (pointL n W F) = R at *
  have T0 : (T == 0) = false := by rw [beq_eq_false_iff_ne]; omega
  have hn0 : (0 : Int) ≤ (n : Int) := by omega
  have d1 : (n : Int).tdiv T = (q : Int) := by rw [Int.tdiv_eq_ediv_of_nonneg hn0]; exact hq
  have d2 : (n : Int).tmod T = (r : Int) := by rw [Int.tmod_eq_emod_of_nonneg hn0]; exact hr
  have d3 : IntKind.i64.wrap ((n : Int).tdiv T) = (q : Int) := by rw [d1]; exact IntWalk.i64_in _ (by omega)
  have d4 : IntKind.i64.wrap (q : Int) = (q : Int) := IntWalk.i64_in _ (by omega)
  have g0 : ¬ T = 0 := by omega
  have g1 : ¬ 9223372036854775807 < A.size := by omega
  have g2 : ¬ 9223372036854775807 < A.size + B.size := by omega
  have g3 : ¬ 9223372036854775807 < 1 + A.size := by omega
  have g4 : ¬ 9223372036854775807 < 1 + A.size + B.size := by omega
  go_enter Tryd.func10, Tryd.ntmps10
  go_wp2_with fail
  refine ((HR _).out).mono ?_
  rintro e w1 ⟨rfl, hb1⟩
  obtain ⟨c1, f1⟩ := bcell hb1
  have hz := hb1.size
  simp at hz
  have hz1 : w.heap.size < w1.heap.size := by omega
  have hz4 : w.heap.size + 1 < w1.heap.size := by omega
  have b1 := Lib.hid (bthen (bthen (below_new w _) (below_new _ _)) hb1)
  have q0 : w1.cell? ⟨w.heap.size + 1, 0, none⟩ = some (.int .i64 (W : Int)) := (c1 (w.heap.size + 1) 0 (by simp)).trans (by simp [World.cell?_alloc_at])
  have q2 : w1.cell? ⟨w.heap.size + 1, 2, none⟩ = some (.int .i64 (F : Int)) := (c1 (w.heap.size + 1) 2 (by simp)).trans (by simp [World.cell?_alloc_at])
  go_wp2_with fail
  have HS0 : Hid (w1.drew.cell? ⟨w.heap.size + 1, 0, none⟩ = some (.int .i64 (W : Int)) ∧ w1.drew.cell? ⟨w.heap.size + 1, 2, none⟩ = some (.int .i64 (F : Int)) ∧ Hid (Below w.heap.size w w1.drew) ∧ Hid (w.heap.size + 1 < w1.drew.heap.size)) := ⟨q0, q2, bdrew b1.out, hz4⟩
  clear q0 q2 b1 hz4 hz1 hz c1 f1 hb1 HR
  go_region_held3 (fun w' => w'.cell? ⟨w.heap.size + 1, 0, none⟩ = some (.int .i64 (W : Int)) ∧ w'.cell? ⟨w.heap.size + 1, 2, none⟩ = some (.int .i64 (F : Int)) ∧ Hid (Below w.heap.size w w') ∧ Hid (w.heap.size + 1 < w'.heap.size)) (first | exact HS0.out | assumption | (refine colS_below (by assumption) ?_; assumption) | (go_split_ands; refine ⟨?_, ?_, ?_, ?_⟩ <;> assumption) | (go_split_ands; refine colS_below (by assumption) ⟨?_, ?_, ?_, ?_⟩ <;> assumption)) (first | (go_at_call 46; refine (hT _).out.mono ?_; rintro e w' ⟨rfl, rfl⟩) | (go_at_call 45; refine (HD _).out.mono ?_; rintro e w9 ⟨rfl, hb9⟩) | (go_at_call 47; refine (HB _).out.mono ?_; rintro e w9 ⟨rfl, hb9⟩))
  all_goals
    go_wp2_with fail
    go_ret2
    go_split_ands
    exact ⟨by rw [HP.out]; rfl, Hid.out (by assumption)⟩


/- other cases -/
set_option maxRecDepth 8000 in
set_option maxHeartbeats 4000000 in
theorem r23Put_neg (n W F : Nat) (M L H : Int) (w : World) (hn : n ≤ 1000000000000000000) (hW : W ≤ 12) (hF : F ≤ 6) (hp : 0 < n) (hl : L ≤ -(n : Int)) (hh : -(n : Int) ≤ H)
    (HR : ∀ W', Hid (Calls Tryd.prog 15 #[colV W M F L H] W' fun e w' => e = .returned (.bool true) ∧ Below W'.heap.size W' w')) :
    Calls Tryd.prog 10 #[numV true (-(n : Int)), colV W M F L H] w fun e w' => e = .returned (.tuple #[.string (toB (45 :: pointL n W F)), .int .i64 0]) ∧ Below w.heap.size w w' := by
  have hT := fun W => Lib.hid (r23Ten_any F W (by omega))
  have t1 := tenI_pos F
  have t2 := tenI_le hF
  rw [show tenI 6 = 1000000 from by decide] at t2
  have hq : (n : Int) / tenI F = ((n / 10 ^ F : Nat) : Int) := by unfold tenI; rw [Int.natCast_ediv]
  have hr : (n : Int) % tenI F = ((n % 10 ^ F : Nat) : Int) := by unfold tenI; rw [Int.natCast_emod]
  have hq1 : n / 10 ^ F ≤ 1000000000000000000 := Nat.le_trans (Nat.div_le_self _ _) hn
  have hr1 : n % 10 ^ F ≤ 1000000000000000000 := Nat.le_trans (Nat.mod_le _ _) hn
  have hr2 : n % 10 ^ F < 10 ^ F := Nat.mod_lt _ (Nat.pow_pos (by decide))
  have HP : Hid (toB (45 :: pointL n W F) = ⟨#[45]⟩ ++ toB (digL (n / 10 ^ F) W) ++ toB (tailB (n % 10 ^ F) F)) := by
    show _ = toB [45] ++ _ ++ _
    rw [toB_append, toB_append]
    rfl
  have HB := fun W' => Lib.hid (r23behind_any (n % 10 ^ F) F W' hr1 (by omega) hr2)
  clear hr2
  have HD := fun W' => Lib.hid (r23Digits_any (n / 10 ^ F) W W' hq1 (by omega))
  have hA : (toB (digL (n / 10 ^ F) W)).size ≤ 20 := by rw [size_B]; exact digF_len 20 _ W
  have hBs : (toB (tailB (n % 10 ^ F) F)).size ≤ 41 := by
    rw [size_B]
    have h2 := pointL_len (n % 10 ^ F) 0 F
    unfold pointL at h2
    rw [Nat.mod_mod, List.length_append] at h2
    omega
  generalize n / 10 ^ F = q at *
  generalize n % 10 ^ F = r at *
  generalize tenI F = T at *
  generalize toB (digL q W) = A at *
  generalize toB (tailB r F) = B at *
  generalize toB (45 :: pointL n W F) = R at *
  have T0 : (T == 0) = false := by rw [beq_eq_false_iff_ne]; omega
  have hn0 : (0 : Int) ≤ (n : Int) := by omega
  have d1 : (n : Int).tdiv T = (q : Int) := by rw [Int.tdiv_eq_ediv_of_nonneg hn0]; exact hq
  have d2 : (n : Int).tmod T = (r : Int) := by rw [Int.tmod_eq_emod_of_nonneg hn0]; exact hr
  have d3 : IntKind.i64.wrap ((n : Int).tdiv T) = (q : Int) := by rw [d1]; exact IntWalk.i64_in _ (by omega)
  have d4 : IntKind.i64.wrap (q : Int) = (q : Int) := IntWalk.i64_in _ (by omega)
  have g0 : ¬ T = 0 := by omega
  have g1 : ¬ 9223372036854775807 < A.size := by omega
  have g2 : ¬ 9223372036854775807 < A.size + B.size := by omega
  have g3 : ¬ 9223372036854775807 < 1 + A.size := by omega
  have g4 : ¬ 9223372036854775807 < 1 + A.size + B.size := by omega
  go_enter Tryd.func10, Tryd.ntmps10
  go_wp2_with fail
  refine ((HR _).out).mono ?_
  rintro e w1 ⟨rfl, hb1⟩
  obtain ⟨c1, f1⟩ := bcell hb1
  have hz := hb1.size
  simp at hz
  have hz1 : w.heap.size < w1.heap.size := by omega
  have hz4 : w.heap.size + 1 < w1.heap.size := by omega
  have b1 := Lib.hid (bthen (bthen (below_new w _) (below_new _ _)) hb1)
  have q0 : w1.cell? ⟨w.heap.size + 1, 0, none⟩ = some (.int .i64 (W : Int)) := (c1 (w.heap.size + 1) 0 (by simp)).trans (by simp [World.cell?_alloc_at])
  have q2 : w1.cell? ⟨w.heap.size + 1, 2, none⟩ = some (.int .i64 (F : Int)) := (c1 (w.heap.size + 1) 2 (by simp)).trans (by simp [World.cell?_alloc_at])
  go_wp2_with fail
  have HS0 : Hid (w1.drew.cell? ⟨w.heap.size + 1, 0, none⟩ = some (.int .i64 (W : Int)) ∧ w1.drew.cell? ⟨w.heap.size + 1, 2, none⟩ = some (.int .i64 (F : Int)) ∧ Hid (Below w.heap.size w w1.drew) ∧ Hid (w.heap.size + 1 < w1.drew.heap.size)) := ⟨q0, q2, bdrew b1.out, hz4⟩
  clear q0 q2 b1 hz4 hz1 hz c1 f1 hb1 HR
  go_region_held3 (fun w' => w'.cell? ⟨w.heap.size + 1, 0, none⟩ = some (.int .i64 (W : Int)) ∧ w'.cell? ⟨w.heap.size + 1, 2, none⟩ = some (.int .i64 (F : Int)) ∧ Hid (Below w.heap.size w w') ∧ Hid (w.heap.size + 1 < w'.heap.size)) (first | exact HS0.out | assumption | (refine colS_below (by assumption) ?_; assumption) | (go_split_ands; refine ⟨?_, ?_, ?_, ?_⟩ <;> assumption) | (go_split_ands; refine colS_below (by assumption) ⟨?_, ?_, ?_, ?_⟩ <;> assumption)) (first | (go_at_call 46; refine (hT _).out.mono ?_; rintro e w' ⟨rfl, rfl⟩) | (go_at_call 45; refine (HD _).out.mono ?_; rintro e w9 ⟨rfl, hb9⟩) | (go_at_call 47; refine (HB _).out.mono ?_; rintro e w9 ⟨rfl, hb9⟩))
  all_goals
    go_wp2_with fail
    go_ret2
    go_split_ands
    exact ⟨by rw [HP.out]; rfl, Hid.out (by assumption)⟩



set_option maxHeartbeats 2000000 in
theorem r23Put_arg (b : Bool) (n W M F L H : Int) (w : World)
    (HR : ∀ W', Hid (Calls Tryd.prog 15 #[colV W M F L H] W' fun e w' => e = .returned (.bool false) ∧ Below W'.heap.size W' w')) :
    Calls Tryd.prog 10 #[numV b n, colV W M F L H] w fun e w' => e = .returned (.tuple #[.string ByteArray.empty, .int .i64 1]) ∧ Below w.heap.size w w' := by
  go_enter Tryd.func10, Tryd.ntmps10
  go_wp2_with fail
  refine ((HR _).out).mono ?_
  rintro e w1 ⟨rfl, hb1⟩
  have b1 := Lib.hid (bthen (bthen (below_new w _) (below_new _ _)) hb1)
  go_wp2_with fail
  go_ret2
  exact ⟨rfl, b1.out⟩

set_option maxRecDepth 8000 in
set_option maxHeartbeats 2000000 in
theorem r23Put_range (b : Bool) (n W M F L H : Int) (w : World) (h : b = false ∧ (n != 0) = true ∨ b = true ∧ n < L ∨ b = true ∧ L ≤ n ∧ H < n)
    (HR : ∀ W', Hid (Calls Tryd.prog 15 #[colV W M F L H] W' fun e w' => e = .returned (.bool true) ∧ Below W'.heap.size W' w')) :
    Calls Tryd.prog 10 #[numV b n, colV W M F L H] w fun e w' => e = .returned (.tuple #[.string ByteArray.empty, .int .i64 5]) ∧ Below w.heap.size w w' := by
  rcases h with ⟨rfl, h⟩ | ⟨rfl, h⟩ | ⟨rfl, h, h'⟩
  all_goals
    go_enter Tryd.func10, Tryd.ntmps10
    go_wp2_with fail
    refine ((HR _).out).mono ?_
    rintro e w1 ⟨rfl, hb1⟩
    obtain ⟨c1, f1⟩ := bcell hb1
    have hz := hb1.size
    simp at hz
    have hz1 : w.heap.size < w1.heap.size := by omega
    have hz4 : w.heap.size + 1 < w1.heap.size := by omega
    have b1 := Lib.hid (bthen (bthen (below_new w _) (below_new _ _)) hb1)
    go_wp2_with fail
    go_ret2
    exact ⟨rfl, b1.out⟩

set_option maxRecDepth 8000 in
set_option maxHeartbeats 2000000 in
theorem r23Put_none (W M F L H : Int) (w : World)
    (HR : ∀ W', Hid (Calls Tryd.prog 15 #[colV W M F L H] W' fun e w' => e = .returned (.bool true) ∧ Below W'.heap.size W' w')) :
    Calls Tryd.prog 10 #[numV false 0, colV W M F L H] w fun e w' => e = .returned (.tuple #[.string ByteArray.empty, .int .i64 0]) ∧ Below w.heap.size w w' := by
  go_enter Tryd.func10, Tryd.ntmps10
  go_wp2_with fail
  refine ((HR _).out).mono ?_
  rintro e w1 ⟨rfl, hb1⟩
  obtain ⟨c1, f1⟩ := bcell hb1
  have hz := hb1.size
  simp at hz
  have hz1 : w.heap.size < w1.heap.size := by omega
  have hz4 : w.heap.size + 1 < w1.heap.size := by omega
  have b1 := Lib.hid (bthen (bthen (below_new w _) (below_new _ _)) hb1)
  go_wp2_with fail
  go_ret2
  exact ⟨rfl, b1.out⟩

/-- Put of the reference. -/
theorem r23Put_any (b : Bool) (n W M F L H : Int) (w : World) :
    Calls Tryd.prog 10 #[numV b n, colV W M F L H] w fun e w' => e = .returned (.tuple #[.string (putN b n W M F L H).1, .int .i64 (putN b n W M F L H).2]) ∧ Below w.heap.size w w' := by
  unfold putN
  have HR := fun W' => Lib.hid (r23Right_any W M F L H W')
  cases h : rightB W M F L H with
  | false => rw [if_pos rfl]; rw [h] at HR; exact r23Put_arg b n W M F L H w HR
  | true =>
    rw [if_neg (by decide)]
    rw [h] at HR
    cases h2 : fitsB b n L H with
    | false =>
      rw [if_pos rfl]
      refine r23Put_range b n W M F L H w ?_ HR
      cases b with
      | false =>
        unfold fitsB at h2
        rw [if_neg (by decide)] at h2
        exact .inl ⟨rfl, by rw [bne_iff_ne]; exact of_decide_eq_false h2⟩
      | true =>
        rcases fitsB_false h2 with h3 | h3
        · exact .inr (.inl ⟨rfl, h3⟩)
        · exact .inr (.inr ⟨rfl, h3⟩)
    | true =>
      rw [if_neg (by decide)]
      cases b with
      | false =>
        rw [if_pos rfl]
        have : n = 0 := by unfold fitsB at h2; rw [if_neg (by decide)] at h2; exact of_decide_eq_true h2
        subst this
        exact r23Put_none W M F L H w HR
      | true =>
        rw [if_neg (by decide)]
        obtain ⟨b1, b2, b3, b4, b5, b6⟩ := right_bounds h
        have hr := fitsB_true h2
        obtain ⟨W', rfl⟩ := Int.eq_ofNat_of_zero_le (show 0 ≤ W by omega)
        obtain ⟨F', rfl⟩ := Int.eq_ofNat_of_zero_le b3
        by_cases hn : n < 0
        · rw [if_pos hn]
          obtain ⟨k, hk⟩ := Int.eq_ofNat_of_zero_le (show 0 ≤ -n by omega)
          obtain rfl : n = -(k : Int) := by omega
          rw [show (-(-(k : Int))).toNat = k from by omega]
          exact r23Put_neg k W' F' M L H w (by omega) (by omega) (by omega) (by omega) hr.1 hr.2 HR
        · rw [if_neg hn]
          obtain ⟨k, rfl⟩ := Int.eq_ofNat_of_zero_le (show 0 ≤ n by omega)
          exact r23Put_pos k W' F' M L H w (by omega) (by omega) (by omega) hr.1 hr.2 HR

end Go.Proofs.YtpaejoikfnmdhaaDoor
