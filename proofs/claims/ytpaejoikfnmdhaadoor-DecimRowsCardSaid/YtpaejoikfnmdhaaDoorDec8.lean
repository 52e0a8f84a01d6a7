/- Layer 23: the program's Put. -/
import Derived.Test.YtpaejoikfnmdhaaDoorDec7
namespace Go.Proofs.YtpaejoikfnmdhaaDoor
set_option linter.unusedVariables false
open Go.RowKit

/-- A number's text in a column, and the error's number. -/
def putN (b : Bool) (n W M F L H : Int) : ByteArray × Int :=
  if rightB W M F L H = false then (ByteArray.empty, 1)
  else if fitsB b n L H = false then (ByteArray.empty, 5)
  else if b = false then (ByteArray.empty, 0)
  else if n < 0 then (toB (45 :: pointL (-n).toNat W.toNat F.toNat), 0) else (toB (pointL n.toNat W.toNat F.toNat), 0)

theorem right_bounds {W M F L H : Int} (h : rightB W M F L H = true) : 1 ≤ W ∧ W ≤ 12 ∧ 0 ≤ F ∧ F ≤ 6 ∧ -1000000000000000000 < L ∧ H < 1000000000000000000 := by
  have h := of_decide_eq_true h
  have t := tenI_le (show (M + F).toNat ≤ 18 by omega)
  rw [tenI_18] at t
  omega
theorem digL_len (n l : Nat) : (digL n l).length ≤ 20 := digF_len 20 n l
theorem trimR_len (l : List UInt8) (c : UInt8) : (Lib.trimRightB l c).length ≤ l.length := by
  unfold Lib.trimRightB
  rw [List.length_reverse]
  have h2 := (List.dropWhile_suffix (fun x => x == c) (l := l.reverse)).length_le
  rw [List.length_reverse] at h2
  exact h2
theorem pointL_len (n w f : Nat) : (pointL n w f).length ≤ 41 := by
  unfold pointL tailB
  rw [List.length_append]
  have h1 := digL_len (n / 10 ^ f) w
  split
  · simp; omega
  · have h2 := trimR_len (46 :: digL (n % 10 ^ f) f) 48
    have h3 := digL_len (n % 10 ^ f) f
    rw [List.length_cons] at h2
    omega

set_option maxHeartbeats 2000000 in
theorem Put23_arg (b : Bool) (n W M F L H : Int) (w : World) (h : rightB W M F L H = false) :
    Calls Tryd.prog 9 #[numV b n, colV W M F L H] w fun e w' => e = .returned (.tuple #[.string ByteArray.empty, .int .i64 1]) ∧ Below w.heap.size w w' := by
  have HR := fun W' => Lib.hid (Right_any W M F L H W')
  rw [h] at HR
  clear h
  go_enter Tryd.func9, Tryd.ntmps9
  go_wp2_with fail
  refine (HR _).out.mono ?_
  rintro e w1 ⟨rfl, hb1⟩
  go_wp2_with fail
  go_ret2
  exact ⟨rfl, bthen (bthen (below_new _ _) (below_new _ _)) hb1⟩

set_option maxHeartbeats 2000000 in
theorem Put23_range (b : Bool) (n W M F L H : Int) (w : World) (h : rightB W M F L H = true) (h2 : fitsB b n L H = false) :
    Calls Tryd.prog 9 #[numV b n, colV W M F L H] w fun e w' => e = .returned (.tuple #[.string ByteArray.empty, .int .i64 5]) ∧ Below w.heap.size w w' := by
  have HR := fun W' => Lib.hid (Right_any W M F L H W')
  have HF := fun W' => Lib.hid (fits_any b n L H W')
  rw [h] at HR
  rw [h2] at HF
  clear h h2
  go_enter Tryd.func9, Tryd.ntmps9
  go_wp2_with fail
  refine (HR _).out.mono ?_
  rintro e w1 ⟨rfl, hb1⟩
  obtain ⟨c1, f1⟩ := bcell hb1
  have hz := hb1.size
  simp at hz
  have hz1 : w.heap.size < w1.heap.size := by omega
  have hz4 : w.heap.size + 1 < w1.heap.size := by omega
  go_wp2_with fail
  refine (HF _).out.mono ?_
  rintro e w2 ⟨rfl, hb2⟩
  go_wp2_with fail
  go_ret2
  exact ⟨rfl, bthen (bthen (bthen (below_new _ _) (below_new _ _)) hb1) hb2⟩

set_option maxHeartbeats 2000000 in
theorem Put23_none (n W M F L H : Int) (w : World) (h : rightB W M F L H = true) (h2 : fitsB false n L H = true) :
    Calls Tryd.prog 9 #[numV false n, colV W M F L H] w fun e w' => e = .returned (.tuple #[.string ByteArray.empty, .int .i64 0]) ∧ Below w.heap.size w w' := by
  have HR := fun W' => Lib.hid (Right_any W M F L H W')
  have HF := fun W' => Lib.hid (fits_any false n L H W')
  rw [h] at HR
  rw [h2] at HF
  clear h h2
  go_enter Tryd.func9, Tryd.ntmps9
  go_wp2_with fail
  refine (HR _).out.mono ?_
  rintro e w1 ⟨rfl, hb1⟩
  obtain ⟨c1, f1⟩ := bcell hb1
  have hz := hb1.size
  simp at hz
  have hz1 : w.heap.size < w1.heap.size := by omega
  have hz4 : w.heap.size + 1 < w1.heap.size := by omega
  go_wp2_with fail
  refine (HF _).out.mono ?_
  rintro e w2 ⟨rfl, hb2⟩
  obtain ⟨c2, f2⟩ := bcell hb2
  have hz2 := hb2.size
  have hz3 : w.heap.size < w2.heap.size := by omega
  go_wp2_with fail
  go_ret2
  exact ⟨rfl, bthen (bthen (bthen (below_new _ _) (below_new _ _)) hb1) hb2⟩

set_option maxHeartbeats 2000000 in
theorem Put23_pos (n : Nat) (W F : Nat) (M L H : Int) (w : World) (h : rightB W M F L H = true) (h2 : fitsB true n L H = true) (hn : n ≤ 1000000000000000000) (hW : W ≤ 12) (hF : F ≤ 6) :
    Calls Tryd.prog 9 #[numV true n, colV W M F L H] w fun e w' => e = .returned (.tuple #[.string (toB (pointL n W F)), .int .i64 0]) ∧ Below w.heap.size w w' := by
  have HR := fun W' => Lib.hid (Right_any W M F L H W')
  have HF := fun W' => Lib.hid (fits_any true n L H W')
  have HP := fun W' => Lib.hid (pointed_any n W F W' hn (by omega) (by omega))
  rw [h] at HR
  rw [h2] at HF
  generalize toB (pointL n W F) = S at *
  clear h h2
  go_enter Tryd.func9, Tryd.ntmps9
  go_wp2_with fail
  refine (HR _).out.mono ?_
  rintro e w1 ⟨rfl, hb1⟩
  obtain ⟨c1, f1⟩ := bcell hb1
  have hz := hb1.size
  simp at hz
  have hz1 : w.heap.size < w1.heap.size := by omega
  have hz4 : w.heap.size + 1 < w1.heap.size := by omega
  go_wp2_with fail
  refine (HF _).out.mono ?_
  rintro e w2 ⟨rfl, hb2⟩
  obtain ⟨c2, f2⟩ := bcell hb2
  have hz2 := hb2.size
  have hz3 : w.heap.size < w2.heap.size := by omega
  go_wp2_with fail
  refine (HP _).out.mono ?_
  rintro e w3 ⟨rfl, hb3⟩
  go_wp2_with fail
  go_ret2
  exact ⟨rfl, bthen (bthen (bthen (bthen (below_new _ _) (below_new _ _)) hb1) hb2) hb3⟩

set_option maxHeartbeats 2000000 in
theorem Put23_neg (n : Nat) (W F : Nat) (M L H : Int) (w : World) (h : rightB W M F L H = true) (h2 : fitsB true (-(n : Int)) L H = true) (hn0 : 0 < n) (hn : n ≤ 1000000000000000000) (hW : W ≤ 12) (hF : F ≤ 6) :
    Calls Tryd.prog 9 #[numV true (-(n : Int)), colV W M F L H] w fun e w' => e = .returned (.tuple #[.string (toB (45 :: pointL n W F)), .int .i64 0]) ∧ Below w.heap.size w w' := by
  have HR := fun W' => Lib.hid (Right_any W M F L H W')
  have HF := fun W' => Lib.hid (fits_any true (-(n : Int)) L H W')
  have HP := fun W' => Lib.hid (pointed_any n W F W' hn (by omega) (by omega))
  rw [h] at HR
  rw [h2] at HF
  have hS : (toB (pointL n W F)).size ≤ 41 := by rw [size_B]; exact pointL_len n W F
  have hT : Hid (toB (45 :: pointL n W F) = ⟨#[45]⟩ ++ toB (pointL n W F)) := (toB_append [45] (pointL n W F)).symm
  generalize toB (45 :: pointL n W F) = T at *
  generalize toB (pointL n W F) = S at *
  clear h h2
  go_enter Tryd.func9, Tryd.ntmps9
  go_wp2_with fail
  refine (HR _).out.mono ?_
  rintro e w1 ⟨rfl, hb1⟩
  obtain ⟨c1, f1⟩ := bcell hb1
  have hz := hb1.size
  simp at hz
  have hz1 : w.heap.size < w1.heap.size := by omega
  have hz4 : w.heap.size + 1 < w1.heap.size := by omega
  go_wp2_with fail
  refine (HF _).out.mono ?_
  rintro e w2 ⟨rfl, hb2⟩
  obtain ⟨c2, f2⟩ := bcell hb2
  have hz2 := hb2.size
  have hz3 : w.heap.size < w2.heap.size := by omega
  go_wp2_with fail
  refine (HP _).out.mono ?_
  rintro e w3 ⟨rfl, hb3⟩
  go_wp2_with fail
  go_ret2
  exact ⟨by rw [hT.out]; rfl, bthen (bthen (bthen (bthen (below_new _ _) (below_new _ _)) hb1) hb2) hb3⟩

theorem Put23_any (b : Bool) (n W M F L H : Int) (w : World) :
    Calls Tryd.prog 9 #[numV b n, colV W M F L H] w fun e w' => e = .returned (.tuple #[.string (putN b n W M F L H).1, .int .i64 (putN b n W M F L H).2]) ∧ Below w.heap.size w w' := by
  unfold putN
  cases h : rightB W M F L H with
  | false => rw [if_pos rfl]; exact Put23_arg b n W M F L H w h
  | true =>
    rw [if_neg (by decide)]
    cases h2 : fitsB b n L H with
    | false => rw [if_pos rfl]; exact Put23_range b n W M F L H w h h2
    | true =>
      rw [if_neg (by decide)]
      cases b with
      | false => rw [if_pos rfl]; exact Put23_none n W M F L H w h h2
      | true =>
        rw [if_neg (by decide)]
        obtain ⟨b1, b2, b3, b4, b5, b6⟩ := right_bounds h
        have hr : L ≤ n ∧ n ≤ H := by have := h2; unfold fitsB at this; rw [if_pos rfl] at this; exact of_decide_eq_true this
        obtain ⟨W', rfl⟩ := Int.eq_ofNat_of_zero_le (show 0 ≤ W by omega)
        obtain ⟨F', rfl⟩ := Int.eq_ofNat_of_zero_le b3
        by_cases hn : n < 0
        · rw [if_pos hn]
          obtain ⟨k, hk⟩ := Int.eq_ofNat_of_zero_le (show 0 ≤ -n by omega)
          obtain rfl : n = -(k : Int) := by omega
          rw [show (-(-(k : Int))).toNat = k from by omega]
          exact Put23_neg k W' F' M L H w h h2 (by omega) (by omega) (by omega) (by omega)
        · rw [if_neg hn]
          obtain ⟨k, rfl⟩ := Int.eq_ofNat_of_zero_le (show 0 ≤ n by omega)
          exact Put23_pos k W' F' M L H w h h2 (by omega) (by omega) (by omega)

end Go.Proofs.YtpaejoikfnmdhaaDoor
