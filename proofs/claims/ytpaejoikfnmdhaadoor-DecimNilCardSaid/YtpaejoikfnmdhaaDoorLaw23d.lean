/- The law DecimBack, walked. -/
import Derived.Test.YtpaejoikfnmdhaaDoorLaw23c
import Derived.Test.YtpaejoikfnmdhaaDoorPlain23b
import Derived.Deep.DeepCutAuto
import Derived.Deep.CutBlock
namespace Go.Proofs.YtpaejoikfnmdhaaDoor
set_option linter.unusedVariables false
open Go.RowKit

/-- What the law's parts keep: the two boxed arguments. -/
def BackS (w : World) (b : Bool) (n W M F L H : Int) (wx : World) : Prop :=
  wx.cell? ⟨w.heap.size, 0, none⟩ = some (.bool b) ∧ wx.cell? ⟨w.heap.size, 1, none⟩ = some (.int .i64 n) ∧
  wx.cell? ⟨w.heap.size + 1, 0, none⟩ = some (.int .i64 W) ∧ wx.cell? ⟨w.heap.size + 1, 1, none⟩ = some (.int .i64 M) ∧ wx.cell? ⟨w.heap.size + 1, 2, none⟩ = some (.int .i64 F) ∧ wx.cell? ⟨w.heap.size + 1, 3, none⟩ = some (.int .i64 L) ∧ wx.cell? ⟨w.heap.size + 1, 4, none⟩ = some (.int .i64 H) ∧
  Hid (Below w.heap.size w wx) ∧ w.heap.size + 1 < wx.heap.size
theorem BackS.step {w : World} {b : Bool} {n W M F L H : Int} {wx wy : World} (h : BackS w b n W M F L H wx) (hb : Below wx.heap.size wx wy) : BackS w b n W M F L H wy := by
  obtain ⟨h0, h1, h2, h3, h4, h5, h6, h7, h8⟩ := h
  obtain ⟨c, -⟩ := bcell hb
  have hz := hb.size
  exact ⟨(c _ 0 (by omega)).trans h0, (c _ 1 (by omega)).trans h1, (c _ 0 h8).trans h2, (c _ 1 h8).trans h3, (c _ 2 h8).trans h4, (c _ 3 h8).trans h5, (c _ 4 h8).trans h6, Lib.hid (bthen h7.out hb), by omega⟩
theorem BackS.start (w : World) (b : Bool) (n W M F L H : Int) : BackS w b n W M F L H ((w.alloc (.cells #[.bool b, .int .i64 n] 23)).alloc (.cells #[.int .i64 W, .int .i64 M, .int .i64 F, .int .i64 L, .int .i64 H] 25)) := by
  have n1 : (w.alloc (.cells #[.bool b, .int .i64 n] 23)).heap.size = w.heap.size + 1 := by simp
  have k0 : ∀ o, ((w.alloc (.cells #[.bool b, .int .i64 n] 23)).alloc (.cells #[.int .i64 W, .int .i64 M, .int .i64 F, .int .i64 L, .int .i64 H] 25)).cell? ⟨w.heap.size, o, none⟩ = (#[Value.bool b, .int .i64 n] : Array Value)[o]? := fun o => by
    rw [World.cell?_alloc_past _ _ _ (by omega), World.cell?_alloc_at _ _ _ _ rfl]
  have k1 : ∀ o, ((w.alloc (.cells #[.bool b, .int .i64 n] 23)).alloc (.cells #[.int .i64 W, .int .i64 M, .int .i64 F, .int .i64 L, .int .i64 H] 25)).cell? ⟨w.heap.size + 1, o, none⟩ = (#[Value.int .i64 W, .int .i64 M, .int .i64 F, .int .i64 L, .int .i64 H] : Array Value)[o]? := fun o => by
    rw [World.cell?_alloc_at _ _ _ _ n1.symm]
  exact ⟨k0 0, k0 1, k1 0, k1 1, k1 2, k1 3, k1 4, Lib.hid (bthen (below_new w _) (below_new _ _)), by simp⟩

theorem putN_size (b : Bool) (n W M F L H : Int) : (putN b n W M F L H).1.size ≤ 42 := by
  unfold putN
  split
  · exact Nat.zero_le _
  split
  · exact Nat.zero_le _
  split
  · exact Nat.zero_le _
  split
  · show (toB _).size ≤ 42
    have := pointL_len (-n).toNat W.toNat F.toNat
    rw [size_B, List.length_cons]
    omega
  · show (toB _).size ≤ 42
    have := pointL_len n.toNat W.toNat F.toNat
    rw [size_B]
    omega
theorem angN_size (b : Bool) (n : Int) (lat : Bool) : (angN b n lat).1.size ≤ 61 ∧ (angN b n lat).2.1.size ≤ 1 := by
  have k : ∀ x, (toB (angL x lat)).size ≤ 61 := fun x => by
    rw [size_B]
    unfold angL
    rw [List.length_append]
    have h1 := digL_len (x / 6000000) (wideN lat)
    have h2 := pointL_len (x % 6000000) 2 5
    omega
  unfold angN
  split
  · exact ⟨Nat.zero_le _, Nat.zero_le _⟩
  split
  · exact ⟨Nat.zero_le _, Nat.zero_le _⟩
  split
  · exact ⟨k _, Nat.le_of_eq (sideB_size _ _)⟩
  · exact ⟨k _, Nat.le_of_eq (sideB_size _ _)⟩

set_option maxRecDepth 8000 in
set_option maxHeartbeats 4000000 in
theorem decimBack_walk (b : Bool) (n : Int) (s d : ByteArray) (W M F L H : Int) (lat : Bool) (w : World) (hs : s.size ≤ 100) (hd : d.size ≤ 100)
    (A : ByteArray) (E : Int) (hA : A.size ≤ 100) (X1 : Bool) (X2 G : Int) (t2 : ByteArray) (ht2 : t2.size ≤ 100) (T1 P1 : ByteArray) (E2 : Int) (Y1 : Bool) (Y2 G2 : Int) (t4 p4 : ByteArray) (ht4 : t4.size ≤ 100) (hp4 : p4.size ≤ 100)
    (HP : ∀ W', Hid (Calls Tryd.prog 9 #[numV b n, colV W M F L H] W' fun e w' => e = .returned (.tuple #[.string A, .int .i64 E]) ∧ Below W'.heap.size W' w'))
    (HT1 : Hid (E = 0 → ∀ W', Calls Tryd.prog 11 #[.string A, colV W M F L H] W' fun e w' => e = .returned (.tuple #[numV b n, .int .i64 0]) ∧ Below W'.heap.size W' w'))
    (HT2 : ∀ W', Hid (Calls Tryd.prog 11 #[.string s, colV W M F L H] W' fun e w' => e = .returned (.tuple #[numV X1 X2, .int .i64 G]) ∧ Below W'.heap.size W' w'))
    (HP2 : Hid (G = 0 → (∀ W', Calls Tryd.prog 9 #[numV X1 X2, colV W M F L H] W' fun e w' => e = .returned (.tuple #[.string t2, .int .i64 0]) ∧ Below W'.heap.size W' w') ∧ (∀ W', Calls Tryd.prog 11 #[.string t2, colV W M F L H] W' fun e w' => e = .returned (.tuple #[numV X1 X2, .int .i64 0]) ∧ Below W'.heap.size W' w') ∧ (W = 1 → t2.size ≤ s.size)))
    (HA : ∀ W', Hid (Calls Tryd.prog 16 #[numV b n, .bool lat] W' fun e w' => e = .returned (.tuple #[.string T1, .string P1, .int .i64 E2]) ∧ Below W'.heap.size W' w'))
    (HA1 : Hid (E2 = 0 → ∀ W', Calls Tryd.prog 17 #[.string T1, .string P1, .bool lat] W' fun e w' => e = .returned (.tuple #[numV b n, .int .i64 0]) ∧ Below W'.heap.size W' w'))
    (HG : ∀ W', Hid (Calls Tryd.prog 17 #[.string s, .string d, .bool lat] W' fun e w' => e = .returned (.tuple #[numV Y1 Y2, .int .i64 G2]) ∧ Below W'.heap.size W' w'))
    (HG0 : Hid (G2 ≠ 0 → Y1 = false ∧ Y2 = 0))
    (HG1 : Hid (G2 = 0 → (∀ W', Calls Tryd.prog 16 #[numV Y1 Y2, .bool lat] W' fun e w' => e = .returned (.tuple #[.string t4, .string p4, .int .i64 0]) ∧ Below W'.heap.size W' w') ∧ (∀ W', Calls Tryd.prog 17 #[.string t4, .string p4, .bool lat] W' fun e w' => e = .returned (.tuple #[numV Y1 Y2, .int .i64 0]) ∧ Below W'.heap.size W' w') ∧ t4.size ≤ s.size ∧ p4.size ≤ d.size)) :
    Calls Tryd.prog 4 #[numV b n, .string s, .string d, colV W M F L H, .bool lat] w fun e w' => e = .returned (.bool true) ∧ Below w.heap.size w w' := by
  have hi : (s.size : Int) ≤ 100 := by omega
  have hi2 : (d.size : Int) ≤ 100 := by omega
  have HK := fun W => Lib.hid (knows23_any W)
  go_enter Tryd.func4, Tryd.ntmps4
  go_wp2_with fail
  refine ((HK _).out).mono ?_
  rintro e w1 ⟨rfl, hb1⟩
  have HS1 := Lib.hid ((BackS.start w b n W M F L H).step hb1)
  clear hb1 HK
  try dsimp only
  repeat (fail_if_success (show Code.wp _ (Code.seq (Code.region 3 _ _) _) _ _ _)
          first | go_values | go_skip | go_guarded | go_step | go_upon | go_back | (simp only [Int.not_lt, Int.not_le] at *; go_simp) | (go_ite <;> go_prune <;> (try go_simp)))
  go_cut [] (fun wx => Hid (BackS w b n W M F L H wx))
  case first =>
    obtain ⟨k0, k1, k2, k3, k4, k5, k6, -, -⟩ := HS1.out
    go_wp2_with fail
    refine ((HP _).out).mono ?_
    rintro e w2 ⟨rfl, hb2⟩
    have HS2 := Lib.hid (HS1.out.step hb2)
    clear hb2 k0 k1 k2 k3 k4 k5 k6 HS1
    go_wp2_with fail
    refine (num23_any _ _).mono ?_
    rintro e w' ⟨rfl, rfl⟩
    by_cases hE : E = 0
    · subst hE
      have HT := fun W' => Lib.hid (HT1.out rfl W')
      clear HT1 HP2 HA1 HG0 HG1 HA HG HT2
      obtain ⟨k0, k1, k2, k3, k4, k5, k6, -, -⟩ := HS2.out
      go_wp2_with fail
      refine ((HT _).out).mono ?_
      rintro e w3 ⟨rfl, hb3⟩
      have HS3 := Lib.hid (HS2.out.step hb3)
      clear hb3 k0 k1 k2 k3 k4 k5 k6 HS2
      obtain ⟨k0, k1, k2, k3, k4, k5, k6, -, z3⟩ := HS3.out
      have z3' : w.heap.size < w3.heap.size := by omega
      go_wp2_with fail
      refine (num23_any _ _).mono ?_
      rintro e w' ⟨rfl, rfl⟩
      go_wp2_with fail
      go_meet
      exact Lib.hid (HS3.out.step (below_new _ _))
    · have hne : (E == 0) = false := by rw [beq_eq_false_iff_ne]; exact hE
      go_wp2_with fail
      go_meet
      exact HS2
  case rest =>
    have HS1 := hcut
    clear HT1 HP
    try dsimp only
    repeat (fail_if_success (show Code.wp _ (Code.seq (Code.region 8 _ _) _) _ _ _)
            first | go_values | go_skip | go_guarded | go_step | go_upon | go_back | (simp only [Int.not_lt, Int.not_le] at *; go_simp) | (go_ite <;> go_prune <;> (try go_simp)))
    go_cut [] (fun wx => Hid (BackS w b n W M F L H wx))
    case first =>
      obtain ⟨k0, k1, k2, k3, k4, k5, k6, -, -⟩ := HS1.out
      go_wp2_with fail
      refine ((HT2 _).out).mono ?_
      rintro e w2 ⟨rfl, hb2⟩
      have HS2 := Lib.hid (HS1.out.step hb2)
      clear hb2 k0 k1 k2 k3 k4 k5 k6 HS1
      go_wp2_with fail
      refine (num23_any _ _).mono ?_
      rintro e w' ⟨rfl, rfl⟩
      by_cases hE : G = 0
      · subst hE
        have HQ1 := fun W' => Lib.hid ((HP2.out rfl).1 W')
        have HQ2 := fun W' => Lib.hid ((HP2.out rfl).2.1 W')
        have HQ3 : W = 1 → t2.size ≤ s.size := (HP2.out rfl).2.2
        clear HP2 HA1 HG0 HG1 HA HG HT2
        have HS3 := Lib.hid (HS2.out.step (below_new w2 (.cells #[.bool X1, .int .i64 X2] 23)))
        obtain ⟨k0, k1, k2, k3, k4, k5, k6, -, z2⟩ := HS2.out
        have z2' : w.heap.size < w2.heap.size := by omega
        go_wp2_with fail
        refine ((HQ1 _).out).mono ?_
        rintro e w3 ⟨rfl, hb3⟩
        have x3 : w2.heap.size < w3.heap.size := by have := hb3.size; simp at this; omega
        have xc : ∀ o, w3.cell? ⟨w2.heap.size, o, none⟩ = (#[Value.bool X1, .int .i64 X2] : Array Value)[o]? := by
          intro o
          rw [(bcell hb3).1 _ _ (by simp), World.cell?_alloc_at _ _ _ _ rfl]
        have HS4 := Lib.hid (HS3.out.step hb3)
        clear hb3 k0 k1 k2 k3 k4 k5 k6 HS2 HS3 z2 z2'
        obtain ⟨k0, k1, k2, k3, k4, k5, k6, -, z3⟩ := HS4.out
        have x0 := xc 0
        have x1 := xc 1
        go_wp2_with fail
        refine ((HQ2 _).out).mono ?_
        rintro e w4 ⟨rfl, hb4⟩
        have HS5 := Lib.hid (HS4.out.step hb4)
        have x4 : w2.heap.size < w4.heap.size := by have := hb4.size; omega
        have xd : ∀ o, w4.cell? ⟨w2.heap.size, o, none⟩ = (#[Value.bool X1, .int .i64 X2] : Array Value)[o]? := by
          intro o
          rw [(bcell hb4).1 _ _ x3, xc]
        clear hb4 k0 k1 k2 k3 k4 k5 k6 HS4 z3 x0 x1 xc
        obtain ⟨k0, k1, k2, k3, k4, k5, k6, -, z4⟩ := HS5.out
        have z4' : w.heap.size < w4.heap.size := by omega
        have x0 : w4.cell? ⟨w2.heap.size, 0, none⟩ = some (.bool X1) := xd 0
        have x1 : w4.cell? ⟨w2.heap.size, 1, none⟩ = some (.int .i64 X2) := xd 1
        clear xd
        go_wp2_with fail
        refine (num23_any _ _).mono ?_
        rintro e w' ⟨rfl, rfl⟩
        go_wp2_with fail
        refine (num23_any _ _).mono ?_
        rintro e w' ⟨rfl, rfl⟩
        by_cases hW : W = 1
        · have i5 : (t2.size : Int) ≤ (s.size : Int) := by have := HQ3 hW; omega
          have i6 : (W == 1) = true := by rw [beq_iff_eq]; exact hW
          clear HQ3 hW
          go_wp2_with fail
          go_meet
          exact Lib.hid (HS5.out.step (below_new _ _))
        · have i6 : (W == 1) = false := by rw [beq_eq_false_iff_ne]; exact hW
          clear HQ3 hW
          go_wp2_with fail
          go_meet
          exact Lib.hid (HS5.out.step (below_new _ _))
      · have hne : (G == 0) = false := by rw [beq_eq_false_iff_ne]; exact hE
        clear HP2 HA1 HG0 HG1 HA HG HT2
        go_wp2_with fail
        go_meet
        exact Lib.hid (HS2.out.step (below_new _ _))
    case rest =>
      have HS1 := hcut
      clear HP2 HT2
      try dsimp only
      repeat (fail_if_success (show Code.wp _ (Code.seq (Code.region 14 _ _) _) _ _ _)
              first | go_values | go_skip | go_guarded | go_step | go_upon | go_back | (simp only [Int.not_lt, Int.not_le] at *; go_simp) | (go_ite <;> go_prune <;> (try go_simp)))
      go_cut [] (fun wx => Hid (BackS w b n W M F L H wx))
      case first =>
        obtain ⟨k0, k1, k2, k3, k4, k5, k6, -, -⟩ := HS1.out
        go_wp2_with fail
        refine ((HA _).out).mono ?_
        rintro e w2 ⟨rfl, hb2⟩
        have HS2 := Lib.hid (HS1.out.step hb2)
        clear hb2 k0 k1 k2 k3 k4 k5 k6 HS1
        go_wp2_with fail
        refine (num23_any _ _).mono ?_
        rintro e w' ⟨rfl, rfl⟩
        by_cases hE : E2 = 0
        · subst hE
          have HT := fun W' => Lib.hid (HA1.out rfl W')
          clear HA1 HG0 HG1 HA HG
          go_wp2_with fail
          refine ((HT _).out).mono ?_
          rintro e w3 ⟨rfl, hb3⟩
          have HS3 := Lib.hid (HS2.out.step hb3)
          clear hb3 HS2
          obtain ⟨k0, k1, k2, k3, k4, k5, k6, -, z3⟩ := HS3.out
          have z3' : w.heap.size < w3.heap.size := by omega
          go_wp2_with fail
          refine (num23_any _ _).mono ?_
          rintro e w' ⟨rfl, rfl⟩
          go_wp2_with fail
          go_meet
          exact Lib.hid (HS3.out.step (below_new _ _))
        · have hne : (E2 == 0) = false := by rw [beq_eq_false_iff_ne]; exact hE
          go_wp2_with fail
          go_meet
          exact HS2
      case rest =>
        have HS1 := hcut
        clear HA HA1
        go_wp2_with fail
        refine ((HG _).out).mono ?_
        rintro e w2 ⟨rfl, hb2⟩
        have HS2 := Lib.hid (HS1.out.step hb2)
        clear hb2 HS1
        go_wp2_with fail
        refine (num23_any _ _).mono ?_
        rintro e w' ⟨rfl, rfl⟩
        by_cases hE : G2 = 0
        · subst hE
          have HQ1 := fun W' => Lib.hid ((HG1.out rfl).1 W')
          have HQ2 := fun W' => Lib.hid ((HG1.out rfl).2.1 W')
          have i5 : (t4.size : Int) ≤ (s.size : Int) := by have := (HG1.out rfl).2.2.1; omega
          have i6 : (p4.size : Int) ≤ (d.size : Int) := by have := (HG1.out rfl).2.2.2; omega
          clear HG0 HG1 HG
          go_wp2_with fail
          refine ((HQ1 _).out).mono ?_
          rintro e w3 ⟨rfl, hb3⟩
          have x3 : w2.heap.size < w3.heap.size := by have := hb3.size; simp at this; omega
          have xc : ∀ o, w3.cell? ⟨w2.heap.size, o, none⟩ = (#[Value.bool Y1, .int .i64 Y2] : Array Value)[o]? := by
            intro o
            rw [(bcell hb3).1 _ _ (by simp), World.cell?_alloc_at _ _ _ _ rfl]
          have HS4 := Lib.hid ((HS2.out.step (below_new _ _)).step hb3)
          clear hb3 HS2
          go_wp2_with fail
          refine ((HQ2 _).out).mono ?_
          rintro e w4 ⟨rfl, hb4⟩
          have HS5 := Lib.hid (HS4.out.step hb4)
          have x4 : w2.heap.size < w4.heap.size := by have := hb4.size; omega
          have x0 : w4.cell? ⟨w2.heap.size, 0, none⟩ = some (.bool Y1) := ((bcell hb4).1 _ _ x3).trans (xc 0)
          have x1 : w4.cell? ⟨w2.heap.size, 1, none⟩ = some (.int .i64 Y2) := ((bcell hb4).1 _ _ x3).trans (xc 1)
          clear hb4 HS4 xc
          go_wp2_with fail
          refine (num23_any _ _).mono ?_
          rintro e w' ⟨rfl, rfl⟩
          go_wp2_with fail
          refine (num23_any _ _).mono ?_
          rintro e w' ⟨rfl, rfl⟩
          go_wp2_with fail
          go_ret
          exact ⟨rfl, bthen HS5.out.2.2.2.2.2.2.2.1.out (below_new _ _)⟩
        · have hne : (G2 == 0) = false := by rw [beq_eq_false_iff_ne]; exact hE
          obtain ⟨rfl, rfl⟩ := HG0.out hE
          clear HG1 HG hE HG0
          go_wp2_with fail
          go_ret
          exact ⟨rfl, bthen HS2.out.2.2.2.2.2.2.2.1.out (below_new _ _)⟩

set_option maxRecDepth 8000 in
set_option maxHeartbeats 4000000 in
theorem decimBack_big (b : Bool) (n : Int) (s d : ByteArray) (W M F L H : Int) (lat : Bool) (w : World) (hs : s.size ≤ maxLen) (hd : d.size ≤ maxLen) (hbig : 100 < s.size ∨ s.size ≤ 100 ∧ 100 < d.size) :
    Calls Tryd.prog 4 #[numV b n, .string s, .string d, colV W M F L H, .bool lat] w fun e w' => e = .returned (.bool true) ∧ Below w.heap.size w w' := by
  unfold maxLen at hs hd
  have HK := fun W => Lib.hid (knows23_any W)
  rcases hbig with h | ⟨h, h'⟩
  · have hi : (100 : Int) < (s.size : Int) := by omega
    go_enter Tryd.func4, Tryd.ntmps4
    go_wp2_with fail
    refine ((HK _).out).mono ?_
    rintro e w1 ⟨rfl, hb1⟩
    go_wp2_with fail
    go_ret
    exact ⟨rfl, bthen (bthen (below_new w _) (below_new _ _)) hb1⟩
  · have hi : (s.size : Int) ≤ 100 := by omega
    have hi2 : (100 : Int) < (d.size : Int) := by omega
    go_enter Tryd.func4, Tryd.ntmps4
    go_wp2_with fail
    refine ((HK _).out).mono ?_
    rintro e w1 ⟨rfl, hb1⟩
    go_wp2_with fail
    go_ret
    exact ⟨rfl, bthen (bthen (below_new w _) (below_new _ _)) hb1⟩

theorem decimBack_any (b : Bool) (n : Int) (s d : ByteArray) (W M F L H : Int) (lat : Bool) (w : World) (hs : s.size ≤ maxLen) (hd : d.size ≤ maxLen) :
    Calls Tryd.prog 4 #[numV b n, .string s, .string d, colV W M F L H, .bool lat] w fun e w' => e = .returned (.bool true) ∧ Below w.heap.size w w' := by
  by_cases h : s.size ≤ 100
  · by_cases h2 : d.size ≤ 100
    · refine decimBack_walk b n s d W M F L H lat w h h2 _ _ (Nat.le_trans (putN_size b n W M F L H) (by omega)) _ _ _ (putN (takeN s.data.toList W M F L H).1 (takeN s.data.toList W M F L H).2.1 W M F L H).1 (Nat.le_trans (putN_size _ _ _ _ _ _ _) (by omega)) _ _ _ _ _ _
        (angN (takeAng s.data.toList d lat).1 (takeAng s.data.toList d lat).2.1 lat).1 (angN (takeAng s.data.toList d lat).1 (takeAng s.data.toList d lat).2.1 lat).2.1 (Nat.le_trans (angN_size _ _ _).1 (by omega)) (Nat.le_trans (angN_size _ _ _).2 (by omega))
        (fun W' => Lib.hid (Put23_any b n W M F L H W')) (Lib.hid fun hE W' => ?_) (fun W' => Lib.hid (Take23_any s W M F L H W' (by omega))) (Lib.hid fun hG => ?_)
        (fun W' => Lib.hid (Angle23_any b n lat W')) (Lib.hid fun hE W' => ?_) (fun W' => Lib.hid (TakeAngle23_any s d lat W' (by omega))) (Lib.hid fun hG => takeAng_no hG) (Lib.hid fun hG => ?_)
      · have k := Take23_any (putN b n W M F L H).1 W M F L H W' (Nat.le_trans (putN_size b n W M F L H) (by omega))
        rw [put_take hE] at k
        exact k
      · obtain ⟨t, e1, e2⟩ := take_put (l := s.data.toList) (W := W) (M := M) (F := F) (L := L) (H := H) (b := (takeN s.data.toList W M F L H).1) (n := (takeN s.data.toList W M F L H).2.1) (by rw [← hG])
        rw [e1]
        refine ⟨fun W' => ?_, fun W' => ?_, fun hW => ?_⟩
        · have k := Put23_any (takeN s.data.toList W M F L H).1 (takeN s.data.toList W M F L H).2.1 W M F L H W'
          rw [e1] at k
          exact k
        · have hsz := putN_size (takeN s.data.toList W M F L H).1 (takeN s.data.toList W M F L H).2.1 W M F L H
          rw [e1] at hsz
          have k := Take23_any t W M F L H W' (Nat.le_trans hsz (by omega))
          have q := put_take (b := (takeN s.data.toList W M F L H).1) (n := (takeN s.data.toList W M F L H).2.1) (W := W) (M := M) (F := F) (L := L) (H := H) (by rw [e1])
          rw [e1] at q
          rw [q] at k
          exact k
        · have := e2 hW
          simpa using this
      · have k := TakeAngle23_any (angN b n lat).1 (angN b n lat).2.1 lat W' (Nat.le_trans (angN_size b n lat).1 (by omega))
        rw [ang_take hE] at k
        exact k
      · obtain ⟨t, p, e1, e2, e3⟩ := takeAng_put (l := s.data.toList) (d := d) (lat := lat) (b := (takeAng s.data.toList d lat).1) (n := (takeAng s.data.toList d lat).2.1) (by rw [← hG])
        rw [e1]
        refine ⟨fun W' => ?_, fun W' => ?_, by simpa using e2, e3⟩
        · have k := Angle23_any (takeAng s.data.toList d lat).1 (takeAng s.data.toList d lat).2.1 lat W'
          rw [e1] at k
          exact k
        · have hsz := angN_size (takeAng s.data.toList d lat).1 (takeAng s.data.toList d lat).2.1 lat
          rw [e1] at hsz
          have k := TakeAngle23_any t p lat W' (Nat.le_trans hsz.1 (by omega))
          have q := ang_take (b := (takeAng s.data.toList d lat).1) (n := (takeAng s.data.toList d lat).2.1) (lat := lat) (by rw [e1])
          rw [e1] at q
          rw [q] at k
          exact k
    · exact decimBack_big b n s d W M F L H lat w hs hd (.inr ⟨h, by omega⟩)
  · exact decimBack_big b n s d W M F L H lat w hs hd (.inl (by omega))

end Go.Proofs.YtpaejoikfnmdhaaDoor
