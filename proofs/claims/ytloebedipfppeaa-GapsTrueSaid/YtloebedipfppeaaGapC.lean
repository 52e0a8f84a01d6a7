/- Layer 33: Lines; Sums. -/
import Derived.Test.YtloebedipfppeaaGapA
import Derived.Test.YtloebedipfppeaaGapB
import Derived.Deep.RegionHeld3
import Derived.Deep.LoopGhost
namespace Go.Proofs.Ytloebedipfppeaa
set_option linter.unusedVariables false
open Go.RowKit

abbrev lnO2 (a b c d e : Int) : Obj := .cells #[.int .i64 a, .int .i64 b, .int .i64 c, .int .i64 d, .int .i64 e] 41
/-- What the loop of Lines keeps. -/
def LinesI (w : World) (L : List Ln) (k : Nat) (v : Value) (wr : World) : Prop := wr.ownsRow w.heap.size 41 5 v k (lnsC (L.take k)) ∧ Below w.heap.size w wr
/-- What Lines tells. -/
def LinesPost (w : World) (L : List Ln) (e : Ending) (w' : World) : Prop := ∃ B cap, e = .returned (.slice B L.length cap) ∧ Lns w' w'.heap.size B L ∧ Below w.heap.size w w'
set_option maxRecDepth 8000 in
set_option maxHeartbeats 4000000 in
theorem lines_any (A : Option Addr) (n c : Nat) (L : List Ln) (w : World) (hn : Hid (L.length = n)) (hA : Hid (Lns w w.heap.size A L)) (h16 : n ≤ 16) :
    Calls Try.prog 12 #[.slice A n c] w (LinesPost w L) := by
  have HI0 : Hid (LinesI w L 0 (.slice none 0 0) w) := ⟨by rw [List.take_zero]; exact World.ownsRow_nil _ _ _ _, Below.refl _ _⟩
  go_enter Try.func12, Try.ntmps12
  go_wp2_with fail
  go_loopw [3, 4] (fun v i wr => ∃ k : Nat, k ≤ n ∧ i = .int .i64 k ∧ Hid (LinesI w L k v wr)) (fun _ i _ => n - (intOf i).toNat)
  case atStart => exact ⟨0, Nat.zero_le _, rfl, HI0⟩
  case round =>
    clear HI0
    obtain ⟨k, hk, rfl, HI⟩ := hrel
    have HOW := Lib.hid HI.out.1
    have HB := Lib.hid HI.out.2
    by_cases hlt : k < n
    · have hkl : k < L.length := by rw [hn.out]; exact hlt
      have HSN : Hid (lnsC (L.take (k + 1)) = lnsC (L.take k) ++ lnL L[k]) := by
        show _ = _
        rw [List.take_succ_eq_append_getElem hkl, lnsC_snoc]
      obtain ⟨b1, o1, hA1, hb1, hc1⟩ := hA.out k hkl
      subst hA1
      generalize L[k] = v at *
      obtain ⟨v0, v1, v2, v3, v4⟩ := v
      have hcb := (bcell HB.out).1
      have e1 : ∀ (j : Nat) u, (lnL (v0, v1, v2, v3, v4))[j]? = some u → wr.cell? ⟨b1, o1 + k * 5 + j, none⟩ = some u := fun j u hu => by
        rw [show o1 + k * 5 + j = o1 + 5 * k + j from by omega]; exact (hcb _ _ hb1).trans (hc1 j u hu)
      have x0 : wr.cell? ⟨b1, o1 + k * 5, none⟩ = some (.int .i64 v0) := e1 0 _ rfl
      have x1 : wr.cell? ⟨b1, o1 + k * 5 + 1, none⟩ = some (.int .i64 v1) := e1 1 _ rfl
      have x2 : wr.cell? ⟨b1, o1 + k * 5 + 2, none⟩ = some (.int .i64 v2) := e1 2 _ rfl
      have x3 : wr.cell? ⟨b1, o1 + k * 5 + 3, none⟩ = some (.int .i64 v3) := e1 3 _ rfl
      have x4 : wr.cell? ⟨b1, o1 + k * 5 + 4, none⟩ = some (.int .i64 v4) := e1 4 _ rfl
      have i1 : (0 : Int) ≤ (k : Int) := Int.natCast_nonneg _
      have i2 : (k : Int) < (n : Int) := by omega
      have hg : wr.grownBy (wr.drew.alloc (lnO2 v0 v1 v2 v3 v4)) none := (⟨rfl, rfl, rfl, Nat.le_refl _, fun _ _ _ => rfl⟩ : wr.grownBy wr.drew none).andThen (World.grownBy_alloc _ _ none) (fun j hj => by cases hj)
      have HO4 := Lib.hid (HOW.out.kept hg (by
        rcases HOW.out.2 with ⟨e, -⟩ | ⟨g', cap', cur', e, hge, -⟩
        · left; rw [e]; rfl
        · right; rw [e]; intro q; cases q))
      have HNW : Hid (∀ j u, (lnL (v0, v1, v2, v3, v4))[j]? = some u → (wr.drew.alloc (lnO2 v0 v1 v2 v3 v4)).cell? ((⟨wr.heap.size, 0, none⟩ : Addr).add j) = some u) := fun j u hu => by
        rw [addr_add, Nat.zero_add]
        refine (World.cell?_alloc_at (w := wr.drew) _ _ _ _ rfl).trans ?_
        simpa [lnL] using hu
      have HWV : Hid (w.heap.size ≤ (wr.drew.alloc (lnO2 v0 v1 v2 v3 v4)).heap.size) := by show _ ≤ _; have := HB.out.size; have := hg.size; omega
      have HG := Lib.hid hg
      have HVO : Hid (∀ k, u3.ownBlock = some k → w.heap.size ≤ k) := fun k hk => by
        rcases HOW.out.2 with ⟨e, -⟩ | ⟨g', cap', cur', e, hge, -⟩
        · rw [e] at hk; cases hk
        · rw [e] at hk; injection hk with hk; rw [← hk]; exact hge
      obtain ⟨i0, hi, hz0', hz1', hz2'⟩ := info_partsP ref_info
      have hml : k + 1 ≤ maxLen := by unfold maxLen; omega
      have hby : (k + 1) * 40 ≤ 140737488355328 := by omega
      have HFAR : Hid (b1 < (wr.drew.alloc (lnO2 v0 v1 v2 v3 v4)).heap.size) := by show _ < _; have := HB.out.size; have := hg.size; omega
      have HNE : Hid (some b1 ≠ u3.ownBlock) := fun q => by have := HVO.out b1 q.symm; omega
      clear hc1 hcb e1 hkl hg
      go_upto_region 5 with fail
      go_region_held3 (fun w' => w'.cell? ⟨b1, o1 + k * 5, none⟩ = some (.int .i64 v0) ∧ w'.cell? ⟨b1, o1 + k * 5 + 1, none⟩ = some (.int .i64 v1) ∧ w'.cell? ⟨b1, o1 + k * 5 + 2, none⟩ = some (.int .i64 v2) ∧ w'.cell? ⟨b1, o1 + k * 5 + 3, none⟩ = some (.int .i64 v3) ∧ w'.cell? ⟨b1, o1 + k * 5 + 4, none⟩ = some (.int .i64 v4))
        (first | go_keep | (go_split_ands
                            refine ⟨?_, ?_, ?_, ?_, ?_⟩
                            all_goals (rw [hgrow.cell_far _ HFAR.out HNE.out]; assumption)))
        ((refine step_append_lies _ (by rfl) _ _ _ (by rfl) w.heap.size 41 i0 _ 5 40 Try.underlying36 hi hz0' hz1' hz2' rfl (by omega) u3 k (lnsC (L.take k)) (by rfl) HO4.out ⟨wr.heap.size, 0, none⟩ 1 1 (lnL (v0, v1, v2, v3, v4)) (by rfl) (by rfl) HNW.out (lnL_one _) (by omega) hml hby HWV.out (wr.heap.size + 1) (by simp) ?_; intro g2 cap w6 hown' hgrow hlies hg2))
      have HNEXT : Hid (LinesI w L (k + 1) (.slice (some ⟨g2, 0, none⟩) (k + 1) cap) w6) := by
        refine ⟨by rw [HSN.out]; exact hown', HB.out.grown ((HG.out.but u3.ownBlock).andThen hgrow (fun j hj => .inr hj)) HB.out.size (fun k hk => HVO.out k hk)⟩
      clear hown' hgrow hlies hg2 hi hz0' hz1' hz2' x0 x1 x2 x3 x4
      try clear hx
      go_wp2_with fail
      go_roundw
      case rel => exact ⟨k + 1, by omega, by go_num, HNEXT⟩
      case measure => simp [intOf]; omega
    · obtain rfl : k = n := by omega
      have HP : Hid (∃ B cap, u3 = .slice B k cap ∧ Lns wr wr.heap.size B L) := by
        obtain ⟨B, cap, h1, -, h2, -⟩ := flat_own HOW.out
        refine ⟨B, cap, h1, FlatS.lns ?_⟩
        rw [List.take_of_length_le (by rw [hn.out]; exact Nat.le_refl _)] at h2
        exact h2
      go_wp2_with fail
      go_ret
      obtain ⟨B, cap, h1, h2⟩ := HP.out
      exact ⟨B, cap, by rw [h1, hn.out]; rfl, h2, HB.out⟩
theorem all_of {S : Nat → Prop} {g : Nat} {l : List Ln} {w : World} (h : BookOf S g l w) :
    Calls Try.prog 9 #[.pointer (some ⟨g, 0, none⟩)] w fun e w' => ∃ A c, e = .returned (.slice A l.length c) ∧ Lns w' w'.heap.size A l ∧ Below w.heap.size w w' := by
  obtain ⟨hs, hn, L, hB, hp⟩ := h
  have hlen : L.length = l.length := by simpa using hp.length_eq
  refine (gapsAll_any hB (by rw [hlen]; exact hn)).mono ?_
  rintro e w' ⟨A, c, l', rfl, h1, h2, h3, -, h5⟩
  have e1 : l' = l := sortedL_unique (h1.symm.trans hp) h2 hs
  subst e1
  exact ⟨A, c, by rw [hlen], h3, h5⟩
/-- What Sums tells. -/
def SumsPost (w : World) (l : List Ln) (e : Ending) (w' : World) : Prop := e = .returned (.tuple #[.int .i64 (sumH l), .int .i64 (sumLo l)]) ∧ Below w.heap.size w w'
set_option maxRecDepth 8000 in
set_option maxHeartbeats 4000000 in
theorem sums_any {S : Nat → Prop} {g : Nat} {l : List Ln} {w : World} (h : BookOf S g l w) : Calls Try.prog 13 #[.pointer (some ⟨g, 0, none⟩)] w (SumsPost w l) := by
  have HA := Lib.hid (all_of h)
  obtain ⟨n, hn⟩ : ∃ n, l.length = n := ⟨_, rfl⟩
  have h16 : n ≤ 16 := hn ▸ h.2.1
  rw [hn] at HA
  have HN := Lib.hid hn
  clear hn h
  go_enter Try.func13, Try.ntmps13
  go_wp2_with fail
  refine HA.out.mono ?_
  rintro e w1 ⟨A, c, rfl, hl, hb⟩
  have HL := Lib.hid hl
  have HB := Lib.hid hb
  clear hl hb HA
  go_wp2_with fail
  go_loopw [2, 3, 9] (fun a b i wr => ∃ k : Nat, k ≤ n ∧ i = .int .i64 k ∧ a = .int .i64 (sumH (l.take k)) ∧ b = .int .i64 (sumLo (l.take k)) ∧ Hid (Below w1.heap.size w1 wr)) (fun _ _ i _ => n - (intOf i).toNat)
  case atStart => exact ⟨0, Nat.zero_le _, rfl, rfl, rfl, Below.refl _ _⟩
  case round =>
    obtain ⟨k, hk, rfl, rfl, rfl, HI⟩ := hrel
    by_cases hlt : k < n
    · have hkl : k < l.length := by rw [HN.out]; exact hlt
      have HS1 := Lib.hid (sumH_snoc l k hkl)
      have HS2 := Lib.hid (sumLo_snoc l k hkl)
      obtain ⟨b1, o1, hA1, hb1, hc1⟩ := HL.out k hkl
      subst hA1
      generalize l[k] = v at *
      obtain ⟨v0, v1, v2, v3, v4⟩ := v
      have hcb := (bcell HI.out).1
      have e1 : ∀ (j : Nat) u, (lnL (v0, v1, v2, v3, v4))[j]? = some u → wr.cell? ⟨b1, o1 + k * 5 + j, none⟩ = some u := fun j u hu => by
        rw [show o1 + k * 5 + j = o1 + 5 * k + j from by omega]; exact (hcb _ _ hb1).trans (hc1 j u hu)
      have x0 : wr.cell? ⟨b1, o1 + k * 5, none⟩ = some (.int .i64 v0) := e1 0 _ rfl
      have x1 : wr.cell? ⟨b1, o1 + k * 5 + 1, none⟩ = some (.int .i64 v1) := e1 1 _ rfl
      have x2 : wr.cell? ⟨b1, o1 + k * 5 + 2, none⟩ = some (.int .i64 v2) := e1 2 _ rfl
      have x3 : wr.cell? ⟨b1, o1 + k * 5 + 3, none⟩ = some (.int .i64 v3) := e1 3 _ rfl
      have x4 : wr.cell? ⟨b1, o1 + k * 5 + 4, none⟩ = some (.int .i64 v4) := e1 4 _ rfl
      have i1 : (0 : Int) ≤ (k : Int) := Int.natCast_nonneg _
      have i2 : (k : Int) < (n : Int) := by omega
      have HG1 := Lib.hid HI.out.size
      clear hc1 hcb e1 hkl
      generalize sumH (List.take k l) = sh at *
      generalize sumLo (List.take k l) = sl at *
      go_wp2_with fail
      go_roundw
      case rel => exact ⟨k + 1, by omega, by go_num, by rw [HS1.out], by rw [HS2.out], (HI.out.trans ((below_new wr _).mono HG1.out))⟩
      case measure => simp [intOf]; omega
    · obtain rfl : k = n := by omega
      go_wp2_with fail
      go_ret2
      refine ⟨?_, HB.out.trans (HI.out.mono HB.out.size)⟩
      rw [List.take_of_length_le (by rw [HN.out]; exact Nat.le_refl _)]
      rfl
end Go.Proofs.Ytloebedipfppeaa
