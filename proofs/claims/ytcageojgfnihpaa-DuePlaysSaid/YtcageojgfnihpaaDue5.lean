/- Layer 43: row.Push, row.Pop; heap.Push. -/
import Derived.Test.YtcageojgfnihpaaDue4
import Derived.Deep.AppendLies
namespace Go.Proofs.Ytcageojgfnihpaa
set_option linter.unusedVariables false
open Go.RowKit

theorem tim_info : (Try.prog.info? 56).map (fun i => (i.zero, i.size, i.bytes)) = some (some (.pointer none), 1, 8) := by kernel_rfl
theorem info_partsP {P : Program} {t : TypeId} {z : Value} {s b : Nat} (h : (P.info? t).map (fun i => (i.zero, i.size, i.bytes)) = some (some z, s, b)) : ∃ i, P.info? t = some i ∧ i.zero = some z ∧ i.size = s ∧ i.bytes = b := by
  cases hi : P.info? t with
  | none => rw [hi] at h; cases h
  | some i =>
    rw [hi] at h
    injection h with h
    injection h with h1 h
    injection h with h2 h3
    exact ⟨i, rfl, h1, h2, h3⟩
/-- The pointers of a row. -/
def pv (f : Nat → Tm) (n : Nat) : List Value := (List.range n).map fun i => Value.pointer (some ⟨(f i).b, 0, none⟩)
theorem pv_len (f : Nat → Tm) (n : Nat) : (pv f n).length = n := by simp [pv]
theorem pv_at (f : Nat → Tm) {n i : Nat} (h : i < n) : (pv f n)[i]? = some (.pointer (some ⟨(f i).b, 0, none⟩)) := by simp [pv, h]
/-- A row, or none yet. -/
def RowV (S : Nat → Prop) (q n : Nat) (f : Nat → Tm) (v : Value) (w : World) : Prop :=
  (n = 0 ∧ v = .slice none 0 0 ∧ w.cell? ⟨q, 0, none⟩ = some (.slice none 0 0)) ∨ ∃ B c, v = .slice (some ⟨B, 0, none⟩) n c ∧ RowI S q B c n f w
theorem RowV.cell {S : Nat → Prop} {q n : Nat} {f : Nat → Tm} {v : Value} {w : World} (h : RowV S q n f v w) : w.cell? ⟨q, 0, none⟩ = some v := by
  rcases h with ⟨-, rfl, h⟩ | ⟨B, c, rfl, h⟩
  · exact h
  · exact h.sl
theorem RowI.owns {S : Nat → Prop} {q B c n : Nat} {f : Nat → Tm} {w : World} (h : RowI S q B c n f w) : w.ownsRow 0 56 1 (.slice (some ⟨B, 0, none⟩) n c) n (pv f n) := by
  obtain ⟨cur, h1, h2, h3⟩ := h.blk
  refine ⟨by rw [pv_len]; omega, .inr ⟨B, c, cur, rfl, Nat.zero_le _, h1, h.le, h3, by omega, ?_⟩⟩
  rw [Nat.mul_one]
  refine List.ext_getElem? fun i => ?_
  by_cases hi : i < n
  · rw [pv_at f hi, List.getElem?_take_of_lt hi]
    have := (h.tim i hi).row
    rw [cell_of_row w B i cur _ _ h1] at this
    simpa using this
  · rw [List.getElem?_eq_none (by simp; omega), List.getElem?_eq_none (by rw [pv_len]; omega)]
theorem RowV.owns {S : Nat → Prop} {q n : Nat} {f : Nat → Tm} {v : Value} {w : World} (h : RowV S q n f v w) : w.ownsRow 0 56 1 v n (pv f n) := by
  rcases h with ⟨rfl, rfl, h⟩ | ⟨B, c, rfl, h⟩
  · exact ⟨rfl, .inl ⟨rfl, rfl⟩⟩
  · exact h.owns
theorem own_cells {w : World} {base g n cap : Nat} {xs : List Value} (h : w.ownsRow base 56 1 (.slice (some ⟨g, 0, none⟩) n cap) n xs) :
    (∀ i, i < n → w.cell? ⟨g, i, none⟩ = xs[i]?) ∧ (∀ o, w.frozen? ⟨g, o, none⟩ = false) ∧ BlkS w g cap ∧ n ≤ cap := by
  rcases h.2 with ⟨h0, _⟩ | ⟨g', cap', cur, hv, hb, hg, hn, hcap, hsz, htake⟩
  · cases h0
  · cases hv
    refine ⟨fun i hi => ?_, fun o => ?_, ⟨cur, hg, by omega, hcap⟩, hn⟩
    · rw [cell_of_row w g i cur _ _ hg, ← htake, Nat.mul_one, List.getElem?_take_of_lt hi]
      simp
    · simp [World.frozen?, hg]
def pushF (f : Nat → Tm) (n : Nat) (x : Tm) : Nat → Tm := fun k => if k = n then x else f k
theorem pushF_at (f : Nat → Tm) (n : Nat) (x : Tm) : pushF f n x n = x := if_pos rfl
theorem pushF_lt (f : Nat → Tm) {n k : Nat} (x : Tm) (h : k < n) : pushF f n x k = f k := if_neg (by omega)
/-- A timer that lies apart from a row. -/
structure NewT (S : Nat → Prop) (q n : Nat) (f : Nat → Tm) (v : Value) (x : Tm) (w : World) : Prop where
  id : w.cell? ⟨x.b, 0, none⟩ = some (.int .i64 x.id)
  t : w.cell? ⟨x.b, 1, none⟩ = some (.int .i64 x.t)
  ev : w.cell? ⟨x.b, 2, none⟩ = some (.int .i64 x.ev)
  place : ∃ p, w.cell? ⟨x.b, 3, none⟩ = some p
  fro : ∀ o, w.frozen? ⟨x.b, o, none⟩ = false
  neq : x.b ≠ q
  out : ¬ S x.b
  apart : ∀ i, i < n → x.b ≠ (f i).b
  neB : v.ownBlock ≠ some x.b
/-- A queue's block is kept, but its first cell. -/
def QKeep (q : Nat) (w w' : World) : Prop := (∀ o, o ≠ 0 → w'.cell? ⟨q, o, none⟩ = w.cell? ⟨q, o, none⟩) ∧ (∀ o, w'.frozen? ⟨q, o, none⟩ = w.frozen? ⟨q, o, none⟩)
theorem QKeep.trans {q : Nat} {w w1 w2 : World} (h : QKeep q w w1) (k : QKeep q w1 w2) : QKeep q w w2 := ⟨fun o ho => (k.1 o ho).trans (h.1 o ho), fun o => (k.2 o).trans (h.2 o)⟩
theorem QKeep.of {T : Nat → Prop} {q : Nat} {w w' : World} (h : KeptS T w w') (hq : T q) : QKeep q w w' := ⟨fun _ _ => h.cell hq, fun _ => h.frozen hq⟩
theorem QKeep.set0 (q : Nat) (w : World) (v : Value) : QKeep q w (w.setCell ⟨q, 0, none⟩ v) := ⟨fun o ho => World.cell?_setCell_other _ _ _ _ (fun e => by injection e with _ e; exact ho e.symm), fun o => by rw [World.frozen?_setCell]⟩
theorem RowV.pushed {S : Nat → Prop} {q n g cap H : Nat} {f : Nat → Tm} {v : Value} {x : Tm} {w w1 : World} (h : RowV S q n f v w) (hx : NewT S q n f v x w) (hp : w.cell? ⟨x.b, 3, none⟩ = some (.int .i64 (n : Int)))
    (hH : H = w.heap.size) (hS : ∀ k, S k → k < H) (hSq : ¬ S q) (hq : q < w.heap.size)
    (hown : w1.ownsRow 0 56 1 (.slice (some ⟨g, 0, none⟩) (n + 1) cap) (n + 1) (pv f n ++ [.pointer (some ⟨x.b, 0, none⟩)])) (hgrow : w.grownBy w1 v.ownBlock) (hlies : v.ownBlock = some g ∨ g = H) :
    RowI S q g cap (n + 1) (pushF f n x) (w1.setCell ⟨q, 0, none⟩ (.slice (some ⟨g, 0, none⟩) (n + 1) cap)) ∧ KeptS S w (w1.setCell ⟨q, 0, none⟩ (.slice (some ⟨g, 0, none⟩) (n + 1) cap)) ∧ QKeep q w (w1.setCell ⟨q, 0, none⟩ (.slice (some ⟨g, 0, none⟩) (n + 1) cap)) := by
  obtain ⟨o1, o2, o3, o4⟩ := own_cells hown
  have hvq : v.ownBlock ≠ some q := by
    rcases h with ⟨-, rfl, -⟩ | ⟨B, c, rfl, hI⟩
    · exact fun e => by cases e
    · exact fun e => by injection e with e; exact hI.neq e
  have hvS : ∀ k, S k → v.ownBlock ≠ some k := by
    rcases h with ⟨-, rfl, -⟩ | ⟨B, c, rfl, hI⟩
    · exact fun k _ e => by cases e
    · exact fun k hk e => by injection e with e; exact hI.out (by have e' : B = k := e; rw [e']; exact hk)
  have hgq : g ≠ q := by
    rcases hlies with e | e
    · exact fun e2 => hvq (by rw [e, e2])
    · omega
  have hgS : ¬ S g := by
    rcases hlies with e | e
    · exact fun hk => hvS g hk e
    · exact fun hk => by have := hS g hk; omega
  have hgx : x.b ≠ g := by
    rcases hlies with e | e
    · exact fun e2 => hx.neB (by rw [e, e2])
    · have := lt_of_cell hx.id
      omega
  have hgf : ∀ i, i < n → (f i).b ≠ g ∧ v.ownBlock ≠ some (f i).b ∧ (f i).b < w.heap.size := fun i hi => by
    rcases h with ⟨e0, -⟩ | ⟨B, c, rfl, hI⟩
    · omega
    · have ti := hI.tim i hi
      have hl := lt_of_cell ti.id
      refine ⟨?_, fun e => by injection e with e; exact ti.neB e.symm, hl⟩
      rcases hlies with e | e
      · injection e with e
        exact fun e2 => ti.neB (e2.trans e.symm)
      · omega
  have hfar : ∀ k o, k ≠ q → k < w.heap.size → v.ownBlock ≠ some k → (w1.setCell ⟨q, 0, none⟩ (.slice (some ⟨g, 0, none⟩) (n + 1) cap)).cell? ⟨k, o, none⟩ = w.cell? ⟨k, o, none⟩ ∧ (w1.setCell ⟨q, 0, none⟩ (.slice (some ⟨g, 0, none⟩) (n + 1) cap)).frozen? ⟨k, o, none⟩ = w.frozen? ⟨k, o, none⟩ := fun k o h1 h2 h3 => by
    refine ⟨?_, ?_⟩
    · rw [World.cell?_setCell_other _ _ _ _ (fun e => by injection e with e _; exact h1 e.symm)]
      exact hgrow.cell_far ⟨k, o, none⟩ h2 (fun e => h3 e.symm)
    · rw [World.frozen?_setCell]
      exact hgrow.frozen_far ⟨k, o, none⟩ h2 (fun e => h3 e.symm)
  have hB : ∀ o, (w1.setCell ⟨q, 0, none⟩ (.slice (some ⟨g, 0, none⟩) (n + 1) cap)).cell? ⟨g, o, none⟩ = w1.cell? ⟨g, o, none⟩ := fun o => World.cell?_setCell_other _ _ _ _ (fun e => by injection e with e _; exact hgq e.symm)
  have hq1 : w1.cell? ⟨q, 0, none⟩ = some v := (hgrow.cell_far ⟨q, 0, none⟩ hq (fun e => hvq e.symm)).trans h.cell
  refine ⟨⟨World.cell?_setCell_same _ _ _ hq1, fun i hi => ?_, fun i j hi hj e => ?_, hgq, hgS, o4, o3.set _ _ _⟩, ?_, ?_⟩
  · by_cases e : i = n
    · subst e
      rw [pushF_at]
      have hl := lt_of_cell hx.id
      have hv := hx.neB
      have hc := fun o => (hfar x.b o hx.neq hl hv).1
      exact ⟨(hB _).trans ((o1 i (by omega)).trans (by rw [List.getElem?_append_right (by rw [pv_len]; omega), pv_len]; simp)), by rw [World.frozen?_setCell]; exact o2 _, (hc 0).trans hx.id, (hc 1).trans hx.t, (hc 2).trans hx.ev, (hc 3).trans hp, fun o => (hfar x.b o hx.neq hl hv).2.trans (hx.fro o), hgx, hx.neq, hx.out⟩
    · have hi' : i < n := by omega
      rw [pushF_lt f x hi']
      obtain ⟨g1, g2, g3⟩ := hgf i hi'
      rcases h with ⟨e0, -⟩ | ⟨B, c, rfl, hI⟩
      · omega
      · have ti := hI.tim i hi'
        have hc := fun o => (hfar (f i).b o ti.neq g3 g2).1
        exact ⟨(hB _).trans ((o1 i (by omega)).trans (by rw [List.getElem?_append_left (by rw [pv_len]; omega), pv_at f hi'])), by rw [World.frozen?_setCell]; exact o2 _, (hc 0).trans ti.id, (hc 1).trans ti.t, (hc 2).trans ti.ev, (hc 3).trans ti.place, fun o => (hfar (f i).b o ti.neq g3 g2).2.trans (ti.fro o), g1, ti.neq, ti.out⟩
  · by_cases ei : i = n
    · by_cases ej : j = n
      · omega
      · rw [ei, pushF_at, pushF_lt f x (by omega)] at e
        exact absurd e (hx.apart j (by omega))
    · by_cases ej : j = n
      · rw [ej, pushF_at, pushF_lt f x (by omega)] at e
        exact absurd e.symm (hx.apart i (by omega))
      · rw [pushF_lt f x (by omega), pushF_lt f x (by omega)] at e
        rcases h with ⟨e0, -⟩ | ⟨B, c, rfl, hI⟩
        · omega
        · exact hI.inj i j (by omega) (by omega) e
  · refine KeptS.set ⟨hgrow.os, hgrow.tape, hgrow.output, hgrow.size, fun k hk => hgrow.block k (by have := hS k hk; omega) (fun e => hvS k hk e.symm)⟩ hSq _ _
  · exact QKeep.trans ⟨fun o _ => hgrow.cell_far ⟨q, o, none⟩ hq (fun e => hvq e.symm), fun o => hgrow.frozen_far ⟨q, o, none⟩ hq (fun e => hvq e.symm)⟩ (QKeep.set0 q w1 _)
end Go.Proofs.Ytcageojgfnihpaa
