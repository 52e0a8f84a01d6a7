/- Layer 43: Swap. -/
import Derived.Test.YtcageojgfnihpaaDue1
namespace Go.Proofs.Ytcageojgfnihpaa
set_option linter.unusedVariables false
open Go.RowKit

theorem RowI.swapped {S : Nat → Prop} {q B c n i j : Nat} {f : Nat → Tm} {w w' : World} (h : RowI S q B c n f w) (hi : i < n) (hj : j < n) (hij : i ≠ j)
    (hk : ∀ k o, (k ≠ B ∨ (o ≠ i ∧ o ≠ j)) → (k ≠ (f i).b ∨ o ≠ 3) → (k ≠ (f j).b ∨ o ≠ 3) → w'.cell? ⟨k, o, none⟩ = w.cell? ⟨k, o, none⟩)
    (hf : ∀ k o, w'.frozen? ⟨k, o, none⟩ = w.frozen? ⟨k, o, none⟩)
    (h1 : w'.cell? ⟨B, i, none⟩ = some (.pointer (some ⟨(f j).b, 0, none⟩))) (h2 : w'.cell? ⟨B, j, none⟩ = some (.pointer (some ⟨(f i).b, 0, none⟩)))
    (h3 : w'.cell? ⟨(f j).b, 3, none⟩ = some (.int .i64 (i : Int))) (h4 : w'.cell? ⟨(f i).b, 3, none⟩ = some (.int .i64 (j : Int))) (hblk : BlkS w' B c) : RowI S q B c n (swapF f i j) w' := by
  have ti := h.tim i hi
  have tj := h.tim j hj
  refine ⟨(hk q 0 (.inl (fun e => h.neq e.symm)) (.inl (fun e => ti.neq e.symm)) (.inl (fun e => tj.neq e.symm))).trans h.sl, fun k hkn => ?_, h.inj.swap hi hj, h.neq, h.out, h.le, hblk⟩
  by_cases e1 : k = i
  · subst e1
    rw [swapF_l]
    exact ⟨h1, (hf _ _).trans ti.rowf, (hk _ _ (.inl tj.neB) (.inr (by decide)) (.inr (by decide))).trans tj.id, (hk _ _ (.inl tj.neB) (.inr (by decide)) (.inr (by decide))).trans tj.t, (hk _ _ (.inl tj.neB) (.inr (by decide)) (.inr (by decide))).trans tj.ev, h3, fun o => (hf _ _).trans (tj.fro o), tj.neB, tj.neq, tj.out⟩
  by_cases e2 : k = j
  · subst e2
    rw [swapF_r]
    exact ⟨h2, (hf _ _).trans tj.rowf, (hk _ _ (.inl ti.neB) (.inr (by decide)) (.inr (by decide))).trans ti.id, (hk _ _ (.inl ti.neB) (.inr (by decide)) (.inr (by decide))).trans ti.t, (hk _ _ (.inl ti.neB) (.inr (by decide)) (.inr (by decide))).trans ti.ev, h4, fun o => (hf _ _).trans (ti.fro o), ti.neB, ti.neq, ti.out⟩
  · rw [swapF_o f i j e1 e2]
    have tk := h.tim k hkn
    have ni : (f k).b ≠ (f i).b := fun e => e1 (h.inj k i hkn hi e)
    have nj : (f k).b ≠ (f j).b := fun e => e2 (h.inj k j hkn hj e)
    exact ⟨(hk _ _ (.inr ⟨e1, e2⟩) (.inl ti.neB.symm) (.inl tj.neB.symm)).trans tk.row, (hf _ _).trans tk.rowf, (hk _ _ (.inl tk.neB) (.inl ni) (.inl nj)).trans tk.id, (hk _ _ (.inl tk.neB) (.inl ni) (.inl nj)).trans tk.t, (hk _ _ (.inl tk.neB) (.inl ni) (.inl nj)).trans tk.ev, (hk _ _ (.inl tk.neB) (.inl ni) (.inl nj)).trans tk.place, fun o => (hf _ _).trans (tk.fro o), tk.neB, tk.neq, tk.out⟩
theorem sets2 (w : World) {B1 B2 o1 o2 : Nat} (v1 v2 : Value) {u1 u2 : Value} (hne : B1 ≠ B2 ∨ o1 ≠ o2) (h1 : w.cell? ⟨B1, o1, none⟩ = some u1) (h2 : w.cell? ⟨B2, o2, none⟩ = some u2) :
    ((w.setCell ⟨B1, o1, none⟩ v1).setCell ⟨B2, o2, none⟩ v2).cell? ⟨B1, o1, none⟩ = some v1 ∧ ((w.setCell ⟨B1, o1, none⟩ v1).setCell ⟨B2, o2, none⟩ v2).cell? ⟨B2, o2, none⟩ = some v2 ∧
    (∀ k o, (k ≠ B1 ∨ o ≠ o1) → (k ≠ B2 ∨ o ≠ o2) → ((w.setCell ⟨B1, o1, none⟩ v1).setCell ⟨B2, o2, none⟩ v2).cell? ⟨k, o, none⟩ = w.cell? ⟨k, o, none⟩) ∧
    (∀ k o, ((w.setCell ⟨B1, o1, none⟩ v1).setCell ⟨B2, o2, none⟩ v2).frozen? ⟨k, o, none⟩ = w.frozen? ⟨k, o, none⟩) := by
  have n12 : (⟨B1, o1, none⟩ : Addr) ≠ ⟨B2, o2, none⟩ := fun e => by injection e with e1 e2; omega
  refine ⟨?_, ?_, fun k o q1 q2 => ?_, fun k o => ?_⟩
  · rw [World.cell?_setCell_other _ _ _ _ n12.symm, World.cell?_setCell_same' _ _ _ (by rw [h1]; rfl)]
  · rw [World.cell?_setCell_same' _ _ _ (by rw [World.cell?_setCell_other _ _ _ _ n12, h2]; rfl)]
  · rw [World.cell?_setCell_other _ _ _ _ (fun e => by injection e with e1 e2; omega), World.cell?_setCell_other _ _ _ _ (fun e => by injection e with e1 e2; omega)]
  · rw [World.frozen?_setCell, World.frozen?_setCell]
set_option maxHeartbeats 1000000 in
theorem swap_any {S : Nat → Prop} {q B c n i j : Nat} {f : Nat → Tm} {w : World} (h : RowI S q B c n f w) (hi : i < n) (hj : j < n) (hij : i ≠ j) (hn : n ≤ 1000000) :
    Calls Try.prog 66 #[.slice (some ⟨B, 0, none⟩) n c, .int .i64 (i : Int), .int .i64 (j : Int)] w fun e w' => e = .returned (.tuple #[]) ∧ RowI S q B c n (swapF f i j) w' ∧ KeptS S w w' := by
  have ti := h.tim i hi
  have tj := h.tim j hj
  have HH := Lib.hid h
  have c1 := ti.row
  have c2 := tj.row
  have f1 := ti.rowf
  have f2 := tj.rowf
  clear ti tj h
  go_enter Try.func66, Try.ntmps66
  go_wp2_with fail
  go_region
  go_wp2_with fail
  have ti := HH.out.tim i hi
  have tj := HH.out.tim j hj
  obtain ⟨g1, g2, g3, g4⟩ := sets2 w (.pointer (some ⟨(f j).b, 0, none⟩)) (.pointer (some ⟨(f i).b, 0, none⟩)) (.inr hij) c1 c2
  have hB1 : KeptS S w ((w.setCell ⟨B, i, none⟩ (.pointer (some ⟨(f j).b, 0, none⟩))).setCell ⟨B, j, none⟩ (.pointer (some ⟨(f i).b, 0, none⟩))).drew := (((KeptS.refl S w).set HH.out.out _ _).set HH.out.out _ _).drewN 1
  replace g1 : ((w.setCell ⟨B, i, none⟩ (.pointer (some ⟨(f j).b, 0, none⟩))).setCell ⟨B, j, none⟩ (.pointer (some ⟨(f i).b, 0, none⟩))).drew.cell? ⟨B, i, none⟩ = _ := g1
  replace g2 : ((w.setCell ⟨B, i, none⟩ (.pointer (some ⟨(f j).b, 0, none⟩))).setCell ⟨B, j, none⟩ (.pointer (some ⟨(f i).b, 0, none⟩))).drew.cell? ⟨B, j, none⟩ = _ := g2
  replace g3 : ∀ k o, _ → _ → ((w.setCell ⟨B, i, none⟩ (.pointer (some ⟨(f j).b, 0, none⟩))).setCell ⟨B, j, none⟩ (.pointer (some ⟨(f i).b, 0, none⟩))).drew.cell? ⟨k, o, none⟩ = _ := g3
  replace g4 : ∀ k o, ((w.setCell ⟨B, i, none⟩ (.pointer (some ⟨(f j).b, 0, none⟩))).setCell ⟨B, j, none⟩ (.pointer (some ⟨(f i).b, 0, none⟩))).drew.frozen? ⟨k, o, none⟩ = _ := g4
  have HBK : Hid (BlkS ((w.setCell ⟨B, i, none⟩ (.pointer (some ⟨(f j).b, 0, none⟩))).setCell ⟨B, j, none⟩ (.pointer (some ⟨(f i).b, 0, none⟩))).drew B c) := ((HH.out.blk.set _ _ _).set _ _ _)
  generalize ((w.setCell ⟨B, i, none⟩ (.pointer (some ⟨(f j).b, 0, none⟩))).setCell ⟨B, j, none⟩ (.pointer (some ⟨(f i).b, 0, none⟩))).drew = W1 at *
  have p1 : W1.cell? ⟨(f j).b, 3, none⟩ = some (.int .i64 (j : Int)) := (g3 _ _ (.inl tj.neB) (.inl tj.neB)).trans tj.place
  have p2 : W1.cell? ⟨(f i).b, 3, none⟩ = some (.int .i64 (i : Int)) := (g3 _ _ (.inl ti.neB) (.inl ti.neB)).trans ti.place
  have p3 : W1.frozen? ⟨(f j).b, 3, none⟩ = false := (g4 _ _).trans (tj.fro 3)
  have p4 : W1.frozen? ⟨(f i).b, 3, none⟩ = false := (g4 _ _).trans (ti.fro 3)
  have nb : (f j).b ≠ (f i).b := fun e => hij (HH.out.inj j i hj hi e).symm
  have G3 := Lib.hid g3
  have G4 := Lib.hid g4
  have HNB := Lib.hid nb
  have HP1 := Lib.hid p1
  have HP2 := Lib.hid p2
  have HG1 := Lib.hid g1
  have HG2 := Lib.hid g2
  have HT := Lib.hid ti
  have HU := Lib.hid tj
  have HK := Lib.hid hB1
  clear g3 g4 c1 c2 f1 f2 ti tj hB1
  go_region
  go_wp2_with fail
  refine bodyPost_end (v := .tuple #[]) (by simp [results, Try.results66, go_sem]) rfl ⟨rfl, ?_, ?_⟩
  · obtain ⟨e1, e2, e3, e4⟩ := sets2 W1 (.int .i64 (i : Int)) (.int .i64 (j : Int)) (.inl HNB.out) HP1.out HP2.out
    have ti := HT.out
    have tj := HU.out
    refine HH.out.swapped hi hj hij (fun k o h1 h2 h3 => ?_) (fun k o => ?_) ?_ ?_ ?_ ?_ ((HBK.out.set _ _ _).set _ _ _)
    · exact (e3 k o h3 h2).trans (G3.out k o (by omega) (by omega))
    · exact (e4 k o).trans (G4.out k o)
    · exact (e3 B i (.inl tj.neB.symm) (.inl ti.neB.symm)).trans HG1.out
    · exact (e3 B j (.inl tj.neB.symm) (.inl ti.neB.symm)).trans HG2.out
    · exact e1
    · exact e2
  · exact ((HK.out.set HU.out.out _ _).set HT.out.out _ _).drewN 1
end Go.Proofs.Ytcageojgfnihpaa
