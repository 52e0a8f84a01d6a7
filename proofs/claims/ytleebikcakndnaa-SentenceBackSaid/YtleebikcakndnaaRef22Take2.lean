/- The contract of the reference's Take of layer 22: where there is a sentence. -/
import Derived.Test.YtleebikcakndnaaRef22Take
import Derived.Deep.RegionWith
namespace Go.Proofs.Ytleebikcakndnaa
set_option linter.unusedVariables false
open Go.RowKit

theorem three_cells2 (w : World) (g : Nat) (v0 v1 v2 o0 o1 o2 : Value) (h0 : w.cell? ⟨g, 0, none⟩ = some o0) (h1 : w.cell? ⟨g, 1, none⟩ = some o1) (h2 : w.cell? ⟨g, 2, none⟩ = some o2) :
    (((w.setCell ⟨g, 0, none⟩ v0).setCell ⟨g, 1, none⟩ v1).setCell ⟨g, 2, none⟩ v2).cell? ⟨g, 0, none⟩ = some v0 ∧
    (((w.setCell ⟨g, 0, none⟩ v0).setCell ⟨g, 1, none⟩ v1).setCell ⟨g, 2, none⟩ v2).cell? ⟨g, 1, none⟩ = some v1 ∧
    (((w.setCell ⟨g, 0, none⟩ v0).setCell ⟨g, 1, none⟩ v1).setCell ⟨g, 2, none⟩ v2).cell? ⟨g, 2, none⟩ = some v2 := by
  have n01 : (⟨g, 1, none⟩ : Addr) ≠ ⟨g, 0, none⟩ := by simp
  have n02 : (⟨g, 2, none⟩ : Addr) ≠ ⟨g, 0, none⟩ := by simp
  have n12 : (⟨g, 2, none⟩ : Addr) ≠ ⟨g, 1, none⟩ := by simp
  have n10 : (⟨g, 0, none⟩ : Addr) ≠ ⟨g, 1, none⟩ := by simp
  refine ⟨?_, ?_, ?_⟩
  · rw [World.cell?_setCell_other _ _ _ _ n02, World.cell?_setCell_other _ _ _ _ n01]
    exact World.cell?_setCell_same _ _ _ h0
  · rw [World.cell?_setCell_other _ _ _ _ n12]
    exact World.cell?_setCell_same _ _ _ ((World.cell?_setCell_other _ _ _ _ n10).trans h1)
  · exact World.cell?_setCell_same _ _ _ ((World.cell?_setCell_other _ _ _ _ (fun e => n12 e.symm)).trans ((World.cell?_setCell_other _ _ _ _ (fun e => n02 e.symm)).trans h2))

set_option maxHeartbeats 2000000 in
theorem r22Take_yes (t L : ByteArray) (i n : Nat) (w : World) (hm : t.size ≤ 1000000) (hz : 0 < t.size) (h1 : t.toList.isEmpty = false) (h2 : (t.toList == []) = false) (hc : (((t[0]'hz).toNat : Int) != 36) = false) (he : Hid (endE t = (i, 0))) (hL : Hid (t.extract 1 i = L)) (hi : 1 ≤ i) (hl0 : L.size + 1 ≤ i) (hl1 : i ≤ L.size + 1) (hi80 : i ≤ 80) (hs : i + 2 ≤ t.size) (ht : (((t[i + 1]'(by omega)).toNat : Int) != 10) = false)(hn0 : n + 3 ≤ L.size) (hn1 : L.size ≤ n + 3) (e1 : (L.size : Int) - 3 = (n : Int)) (h5 : 5 ≤ n)(hst : (((L[n]'(by omega)).toNat : Int) != 42) = false) (hs1 : Hid (starsN L.data.toList = 1)) (hsg : Hid (signsP (L.extract 0 5) 5 = true)) (hcm : n ≤ 5 ∨ 5 < n ∧ (((L[5]'(by omega)).toNat : Int) != 44) = false) (v : Int) (hu : Hid (unhexL (L.extract (n + 1) L.size).data.toList = some v)) (hv : (v != sumI (L.extract 0 n)) = false) (hn1000 : n ≤ 1000) :
    Calls Try.prog 13 #[.string t] w (SenPost ((L.extract 0 2, L.extract 2 5, fieldsB (L.extract 0 n)), i + 2, 0) w) := by
  have eL : t.extract 1 i = L := hL.out
  have i1 : (2 : Int) ≤ (L.size : Int) := by omega
  have i2 : (5 : Int) ≤ (L.size : Int) := by omega
  have i3 : (0 : Int) ≤ (n : Int) := by omega
  have i4 : (n : Int) ≤ (L.size : Int) := by omega
  have i5 : IntKind.i64.wrap ((i : Int) + 2) = (i : Int) + 2 := IntWalk.i64_in _ (by omega)
  rcases hcm with hcm | ⟨hcm, hcc⟩
  all_goals
    go_enter Try.func13, Try.ntmps13
    go_wp2_with fail
    refine (r22end_any t _ hm).mono ?_
    rintro e w' ⟨rfl, rfl⟩
    rw [he.out]
    go_wp2_with fail
    refine (r22stars_any L _ (by omega)).mono ?_
    rintro e w' ⟨rfl, rfl⟩
    rw [hs1.out]
    go_wp2_with fail
    refine (r22Signs_any (L.extract 0 5) 5 _ (by rw [ByteArray.size_extract]; omega)).mono ?_
    rintro e w' ⟨rfl, rfl⟩
    rw [hsg.out]
    go_wp2_with fail
    refine (r07Unhex_some _ v _ hu.out).mono ?_
    rintro e w' ⟨rfl, rfl⟩
    go_wp2_with fail
    refine (r07Of_any _ _ (by rw [ByteArray.size_extract]; omega)).mono ?_
    rintro e w' ⟨rfl, rfl⟩
    go_wp2_with fail
    go_region_with (go_at_call 32; refine (r22fields_any (L.extract 0 n) _ (by rw [ByteArray.size_extract]; omega)).mono ?_; rintro e w3 ⟨A, c, rfl, hst, hfr, hb3⟩; obtain ⟨c3, f3⟩ := bcell hb3; have hz3 := hb3.size; simp at hz3; have hz4 : w.heap.size < w3.heap.size := by omega)
    go_wp2_with fail
    have k2 : ∀ o, w3.cell? ⟨w.heap.size, o, none⟩ = (w.alloc (.cells #[.string ⟨#[]⟩, .string ⟨#[]⟩, .slice none 0 0] 24)).cell? ⟨w.heap.size, o, none⟩ := fun o => c3 w.heap.size o (by simp)
    obtain ⟨q0, q1, q2⟩ := three_cells2 w3 w.heap.size (.string (L.extract 0 2)) (.string (L.extract 2 5)) (.slice A (fieldsB (L.extract 0 n)).length c) (.string ⟨#[]⟩) (.string ⟨#[]⟩) (.slice none 0 0) ((k2 0).trans (by rw [World.cell?_alloc_new]; rfl)) ((k2 1).trans (by rw [World.cell?_alloc_new]; rfl)) ((k2 2).trans (by rw [World.cell?_alloc_new]; rfl))
    have hfr2 : FreshA (w.heap.size + 1) A := by simpa using hfr
    have hst2 : Strs _ w3.heap.size A (fieldsB (L.extract 0 n)) := ((hst.setCell hfr2 (p := ⟨w.heap.size, 0, none⟩) (Nat.lt_succ_self _) (.string (L.extract 0 2))).setCell hfr2 (p := ⟨w.heap.size, 1, none⟩) (Nat.lt_succ_self _) (.string (L.extract 2 5))).setCell hfr2 (p := ⟨w.heap.size, 2, none⟩) (Nat.lt_succ_self _) (.slice A (fieldsB (L.extract 0 n)).length c)
    have hb0 : Below w.heap.size w w3 := (bdrew (below_new w _)).trans (hb3.mono (by simp))
    refine bodyPost_ret (v := .tuple #[.agg #[.string (L.extract 0 2), .string (L.extract 2 5), .slice A (fieldsB (L.extract 0 n)).length c], .int .i64 ((i : Int) + 2), .int .i64 0]) (by simp [results, Try.results13, go_sem, q0, q1, q2]) rfl ⟨A, c, ?_, by simpa using hst2, hfr2.less (by omega), ((hb0.setCell (p := ⟨w.heap.size, 0, none⟩) (Nat.le_refl _) _).setCell (p := ⟨w.heap.size, 1, none⟩) (Nat.le_refl _) _).setCell (p := ⟨w.heap.size, 2, none⟩) (Nat.le_refl _) _⟩
    rw [show ((i : Int) + 2) = ((i + 2 : Nat) : Int) from by omega]


end Go.Proofs.Ytleebikcakndnaa
