/- Layer 29: Wait, Views, the reference's Add. -/
import Derived.Test.YteofmahbimkggaaDoorMgl
import Derived.Deep.RegionLaw
namespace Go.Proofs.YteofmahbimkggaaDoor
set_option linter.unusedVariables false
open Go.RowKit

set_option maxRecDepth 8000 in
theorem gsvWait_any {S : Nat → Prop} {g : Nat} {k : Bk} {w : World} (h : BkP S g k w) : Calls Tryd.prog 9 #[.pointer (some ⟨g, 0, none⟩)] w fun e w' => e = .returned (.tuple #[.int .i64 k.T, .int .i64 k.N]) ∧ ∃ m, w' = w.drewN m := by
  obtain ⟨T, N, L⟩ := k
  obtain ⟨v, a⟩ := h
  obtain ⟨c0, c1, c2, -, -, -, -, -⟩ := a
  simp only at c1 c2
  go_enter Tryd.func9, Tryd.ntmps9
  go_wp2_with fail
  go_quiet (fail)
  go_wp2_with fail
  go_ret2
  exact ⟨rfl, _, rfl⟩
theorem FlatQ.vws {Q : Nat → Prop} {w : World} {A : Option Addr} {L : List V4} (h : FlatQ Q w A (vsC L)) : Vws w w.heap.size A L := fun k hk => by
  have hu : ∀ (j : Nat) u, (viewC L[k])[j]? = some u → (vsC L)[8 * k + j]? = some u := fun j u hu => by
    have hj : j < 8 := by
      rcases Nat.lt_or_ge j 8 with q | q
      · exact q
      · rw [List.getElem?_eq_none (by show 8 ≤ j; exact q)] at hu; cases hu
    rw [vsC_get L k j hk hj]
    exact hu
  obtain ⟨b, off, h1, -, h3⟩ := h _ _ (hu 0 _ rfl)
  refine ⟨b, off, h1, World.block_lt_of_cell? w _ h3, fun j u hj => ?_⟩
  obtain ⟨b', off', h1', -, h3'⟩ := h _ _ (hu j u hj)
  rw [h1] at h1'
  injection h1' with h1'
  injection h1' with e1 e2
  subst e1 e2
  rw [Nat.add_assoc]
  exact h3'
theorem Vws.flatq {w : World} {B : Nat} {A : Option Addr} {L : List V4} (h : Vws w B A L) : FlatQ (fun b => b < B) w A (vsC L) := fun j u hu => by
  have hj : j < (vsC L).length := by
    rcases Nat.lt_or_ge j (vsC L).length with q | q
    · exact q
    · rw [List.getElem?_eq_none q] at hu; cases hu
  rw [vsC_len] at hj
  have hk : j / 8 < L.length := by omega
  obtain ⟨b, off, h1, h2, h3⟩ := h (j / 8) hk
  refine ⟨b, off, h1, h2, ?_⟩
  have e : 8 * (j / 8) + j % 8 = j := by omega
  have := h3 (j % 8) u (by rw [← vsC_get L (j / 8) (j % 8) hk (by omega), e]; exact hu)
  rw [Nat.add_assoc, e] at this
  exact this

set_option maxRecDepth 8000 in
set_option maxHeartbeats 4000000 in
theorem r29Views_equal (A B : Option Addr) (n c d : Nat) (L : List V4) (w : World) (hn : Hid (L.length = n)) (hA : Hid (Vws w w.heap.size A L)) (hB : Hid (Vws w w.heap.size B L)) (h0 : n ≤ 1000000) :
    Calls Tryd.prog 10 #[.slice A n c, .slice B n d] w fun e w' => e = .returned (.bool true) ∧ ∃ m, w' = w.drewN m := by
  have hb : ((n : Int) != (n : Int)) = false := by rw [bne_eq_false_iff_eq]
  go_enter Tryd.func10, Tryd.ntmps10
  go_wp2
  go_loopw [5] (fun i wr => ∃ k nq : Nat, k ≤ n ∧ i = .int .i64 k ∧ wr = w.drewN nq) (fun i _ => n - (intOf i).toNat)
  case atStart => exact ⟨0, 0, Nat.zero_le _, rfl, rfl⟩
  case round =>
    obtain ⟨k, nq, hk, rfl, rfl⟩ := hrel
    by_cases hlt : k < n
    · have hkl : k < L.length := by rw [hn.out]; exact hlt
      obtain ⟨b1, o1, hA1, hb1, hc1⟩ := hA.out k hkl
      obtain ⟨b2, o2, hA2, hb2, hc2⟩ := hB.out k hkl
      subst hA1 hA2
      generalize L[k] = v at *
      obtain ⟨⟨vb0, vn0⟩, ⟨vb1, vn1⟩, ⟨vb2, vn2⟩, ⟨vb3, vn3⟩⟩ := v
      have e1 : ∀ (j : Nat) u, (viewC ((vb0, vn0), (vb1, vn1), (vb2, vn2), (vb3, vn3)))[j]? = some u → w.cell? ⟨b1, o1 + k * 8 + j, none⟩ = some u := fun j u hu => by
        rw [show o1 + k * 8 + j = o1 + 8 * k + j from by omega]; exact hc1 j u hu
      have e2 : ∀ (j : Nat) u, (viewC ((vb0, vn0), (vb1, vn1), (vb2, vn2), (vb3, vn3)))[j]? = some u → w.cell? ⟨b2, o2 + k * 8 + j, none⟩ = some u := fun j u hu => by
        rw [show o2 + k * 8 + j = o2 + 8 * k + j from by omega]; exact hc2 j u hu
      have x0 : w.cell? ⟨b1, o1 + k * 8, none⟩ = some (.bool vb0) := e1 0 _ rfl
      have x1 := e1 1 _ rfl
      have x2 := e1 2 _ rfl
      have x3 := e1 3 _ rfl
      have x4 := e1 4 _ rfl
      have x5 := e1 5 _ rfl
      have x6 := e1 6 _ rfl
      have x7 := e1 7 _ rfl
      have y0 : w.cell? ⟨b2, o2 + k * 8, none⟩ = some (.bool vb0) := e2 0 _ rfl
      have y1 := e2 1 _ rfl
      have y2 := e2 2 _ rfl
      have y3 := e2 3 _ rfl
      have y4 := e2 4 _ rfl
      have y5 := e2 5 _ rfl
      have y6 := e2 6 _ rfl
      have y7 := e2 7 _ rfl
      have i1 : (0 : Int) ≤ (k : Int) := Int.natCast_nonneg _
      have i2 : (k : Int) < (n : Int) := by omega
      clear hc1 hc2 e1 e2 hkl
      go_wp2_with fail
      go_quiet (fail)
      go_wp2_with fail
      go_roundw
      case rel => exact ⟨k + 1, _, by omega, by go_num, rfl⟩
      case measure => simp [intOf]; omega
    · go_wp2_with fail
      go_ret
      exact ⟨by rfl, _, rfl⟩
theorem views_equal {Q R : Nat → Prop} {A B : Option Addr} {c d : Nat} {L : List V4} {w : World} (hA : FlatQ Q w A (vsC L)) (hB : FlatQ R w B (vsC L)) (h0 : L.length ≤ 1000000) : Calls Tryd.prog 10 #[.slice A L.length c, .slice B L.length d] w fun e w' => e = .returned (.bool true) ∧ ∃ m, w' = w.drewN m :=
  r29Views_equal A B _ c d L w rfl hA.vws hB.vws h0

abbrev rbkC (T N : Int) (A : Option Addr) (n c : Nat) : Array Value := #[.int .i64 T, .int .i64 N, .slice A n c]
def RAddPost (k : Bk) (m : GsvD) (w : World) (e : Ending) (w' : World) : Prop :=
  ∃ B d C c, e = .returned (.tuple #[.agg (rbkC (addK k m).T (addK k m).N B (addK k m).L.length d), .slice C (addO k m).length c, .bool (addF k m)]) ∧ FlatQ (fun b => w.heap.size ≤ b ∧ b < w'.heap.size) w' B (vsC (addK k m).L) ∧ FlatQ (fun b => w.heap.size ≤ b ∧ b < w'.heap.size) w' C (vsC (addO k m)) ∧ Below w.heap.size w w'
theorem radd_no {k : Bk} {m : GsvD} (hf : fitB k m = false) (w w' : World) (hb : Below w.heap.size w w') : RAddPost k m w (.returned (.tuple #[.agg #[.int .i64 0, .int .i64 0, .slice none 0 0], .slice none 0 0, .bool false])) w' := by
  unfold RAddPost addK addO addF
  rw [hf]
  exact ⟨none, 0, none, 0, rfl, FlatQ.nil _ _ _, FlatQ.nil _ _ _, hb⟩
set_option maxRecDepth 8000 in
set_option maxHeartbeats 4000000 in
theorem r29Add_no {k : Bk} {w : World} (A' : Option Addr) (n' c' : Nat) (T N S' : Int) (A : Option Addr) (n c : Nat) (L : List V4) (hn : Hid (L.length = n)) (hm : n ≤ maxLen) (hf : fitB k ⟨T, N, S', L⟩ = false) :
    Calls Tryd.prog 8 #[.agg (rbkC k.T k.N A' n' c'), gsvV T N S' A n c] w (RAddPost k ⟨T, N, S', L⟩ w) := by
  unfold maxLen at hm
  have HPO : Hid (∀ w', Below w.heap.size w w' → RAddPost k ⟨T, N, S', L⟩ w (.returned (.tuple #[.agg #[.int .i64 0, .int .i64 0, .slice none 0 0], .slice none 0 0, .bool false])) w') := fun w' => radd_no hf w w'
  obtain ⟨kT, kN, kL⟩ := k
  have HBL : ∀ o1 o2 o3, Hid (Below w.heap.size w (((w.alloc o1).alloc o2).alloc o3)) := fun o1 o2 o3 => bthen (bthen (below_new _ _) (below_new _ _)) (below_new _ _)
  have hcase : (T < 1 ∨ 9 < T ∨ N < 1 ∨ T < N ∨ (4 : Int) < (n : Int)) ∨ (1 ≤ T ∧ T ≤ 9 ∧ 1 ≤ N ∧ N ≤ T ∧ (n : Int) ≤ 4 ∧ ¬ N = 1 ∧ ¬ N = kN) ∨ (1 ≤ T ∧ T ≤ 9 ∧ 1 ≤ N ∧ N ≤ T ∧ (n : Int) ≤ 4 ∧ ¬ N = 1 ∧ N = kN ∧ ¬ T = kT) := by
    have := hn.out
    by_cases hb : badM ⟨T, N, S', L⟩
    · left
      have hb' : T < 1 ∨ 9 < T ∨ N < 1 ∨ T < N ∨ 4 < L.length := hb
      omega
    · right
      have hb' : ¬ (T < 1 ∨ 9 < T ∨ N < 1 ∨ T < N ∨ 4 < L.length) := hb
      unfold fitB fitK at hf
      rw [decide_eq_false hb, if_neg hb] at hf
      simp only at hf
      by_cases h1 : N = 1
      · rw [if_pos h1] at hf
        simp [h1] at hf
      · rw [if_neg h1] at hf
        simp only [Bool.not_false, Bool.true_and, Bool.and_eq_false_iff, decide_eq_false_iff_not] at hf
        by_cases h2 : N = kN
        · right
          exact ⟨by omega, by omega, by omega, by omega, by omega, h1, h2, hf.resolve_left (fun q => q h2)⟩
        · left
          exact ⟨by omega, by omega, by omega, by omega, by omega, h1, h2⟩
  clear hf hn
  simp only
  rcases hcase with (h | h | h | h | h) | ⟨i1, i2, i3, i4, i5, i6, i7⟩ | ⟨i1, i2, i3, i4, i5, i6, i7, i8⟩
  · go_enter Tryd.func8, Tryd.ntmps8
    go_wp2
    exact bodyPost_ret (v := .tuple #[.agg #[.int .i64 0, .int .i64 0, .slice none 0 0], .slice none 0 0, .bool false]) (by simp [results, Tryd.results8, go_sem]) rfl (HPO.out _ (by simpa using (HBL _ _ _).out))
  · have i1 : 1 ≤ T := by omega
    go_enter Tryd.func8, Tryd.ntmps8
    go_wp2
    exact bodyPost_ret (v := .tuple #[.agg #[.int .i64 0, .int .i64 0, .slice none 0 0], .slice none 0 0, .bool false]) (by simp [results, Tryd.results8, go_sem]) rfl (HPO.out _ (by simpa using (HBL _ _ _).out))
  · go_enter Tryd.func8, Tryd.ntmps8
    go_wp2
    all_goals exact bodyPost_ret (v := .tuple #[.agg #[.int .i64 0, .int .i64 0, .slice none 0 0], .slice none 0 0, .bool false]) (by simp [results, Tryd.results8, go_sem]) rfl (HPO.out _ (by simpa using (HBL _ _ _).out))
  · go_enter Tryd.func8, Tryd.ntmps8
    go_wp2
    all_goals exact bodyPost_ret (v := .tuple #[.agg #[.int .i64 0, .int .i64 0, .slice none 0 0], .slice none 0 0, .bool false]) (by simp [results, Tryd.results8, go_sem]) rfl (HPO.out _ (by simpa using (HBL _ _ _).out))
  · go_enter Tryd.func8, Tryd.ntmps8
    go_wp2
    all_goals exact bodyPost_ret (v := .tuple #[.agg #[.int .i64 0, .int .i64 0, .slice none 0 0], .slice none 0 0, .bool false]) (by simp [results, Tryd.results8, go_sem]) rfl (HPO.out _ (by simpa using (HBL _ _ _).out))
  · have b1 : (N == 1) = false := by simpa using i6
    have b2 : (N != kN) = true := by simpa using i7
    clear i6 i7
    go_enter Tryd.func8, Tryd.ntmps8
    go_wp2
    all_goals exact bodyPost_ret (v := .tuple #[.agg #[.int .i64 0, .int .i64 0, .slice none 0 0], .slice none 0 0, .bool false]) (by simp [results, Tryd.results8, go_sem]) rfl (HPO.out _ (by simpa using (HBL _ _ _).out))
  · subst i7
    have b1 : (N == 1) = false := by simpa using i6
    have b2 : (T != kT) = true := by simpa using i8
    clear i6 i8
    go_enter Tryd.func8, Tryd.ntmps8
    go_wp2
    all_goals exact bodyPost_ret (v := .tuple #[.agg #[.int .i64 0, .int .i64 0, .slice none 0 0], .slice none 0 0, .bool false]) (by simp [results, Tryd.results8, go_sem]) rfl (HPO.out _ (by simpa using (HBL _ _ _).out))
end Go.Proofs.YteofmahbimkggaaDoor
