/- Arguments opened: slices of messages of views, slices of slices of views. -/
import Derived.Test.YteofmahbimkggaaDoorMge
import Derived.Test.YteofmahbimkggaaDoorMgo
namespace Go.Proofs.YteofmahbimkggaaDoor
set_option linter.unusedVariables false
open Go.ChangeShapes Go.WideShapes Go.ChangeAt Go.RowKit Go.Joins Go.Deep

/-- Slices of views that came in. -/
def Rows (Q : Nat → Prop) (w : World) (A : Option Addr) (n : Nat) : Prop :=
  ∀ i, i < n → ∃ (b off : Nat) (Ai : Option Addr) (ci : Nat) (L : List V4), A = some ⟨b, off, none⟩ ∧ Q b ∧ L.length ≤ maxLen ∧ w.cell? ⟨b, off + i, none⟩ = some (.slice Ai L.length ci) ∧ FlatQ Q w Ai (vsC L)
theorem Rows.keep {Q : Nat → Prop} {w w' : World} {A : Option Addr} {n : Nat} (h : Rows Q w A n) (hk : ∀ b, Q b → w'.heap[b]? = w.heap[b]?) : Rows Q w' A n := fun i hi => by
  obtain ⟨b, off, Ai, ci, L, h1, h2, h3, h4, h5⟩ := h i hi
  exact ⟨b, off, Ai, ci, L, h1, h2, h3, (World.cell?_of_block (a := ⟨b, off + i, none⟩) (hk b h2)).trans h4, h5.keep hk⟩
section
variable {H : Type} {enc : TypeId × Value → H} {P : Program} {w : World} {base : Nat} {spare : Nat → Bool} {held : Bool}

theorem open_gsvs {t eg te tn : TypeId} {g0 g1 g2 g3 f0 f1 f2 f3 n0 n1 : Field} {fuel : Nat} {v : Value} {x : DataW H × List MemPlace} (ht : P.underlying t = some (.slice eg)) (hg : P.underlying eg = some (.struct #[g0, g1, g2, g3])) (hgk : [P.cellsOf eg, g0.offset, g1.offset, g2.offset, g3.offset, P.cellsOf g0.type, P.cellsOf g1.type, P.cellsOf g2.type, P.cellsOf g3.type] = [4, 0, 1, 2, 3, 1, 1, 1, 1])
    (v0 : P.underlying g0.type = some (.int .i64)) (v1 : P.underlying g1.type = some (.int .i64)) (v2 : P.underlying g2.type = some (.int .i64)) (v3 : P.underlying g3.type = some (.slice te))
    (hs : P.underlying te = some (.struct #[f0, f1, f2, f3])) (hn : P.underlying tn = some (.struct #[n0, n1]))
    (hk : [P.cellsOf te, f0.offset, f1.offset, f2.offset, f3.offset, P.cellsOf tn, n0.offset, n1.offset, P.cellsOf n0.type, P.cellsOf n1.type] = [8, 0, 2, 4, 6, 2, 0, 1, 1, 1]) (hf : [f0.type, f1.type, f2.type, f3.type] = [tn, tn, tn, tn])
    (u0 : P.underlying n0.type = some .bool) (u1 : P.underlying n1.type = some (.int .i64)) (h : DataW.trod enc P w base spare held fuel t [v] = some x) :
    ∃ (A : Option Addr) (c n : Nat), v = .slice A n c ∧ n ≤ maxLen ∧ Msgs (fun b => b < w.heap.size) w A n := by
  simp only [List.cons.injEq, and_true] at hgk
  obtain ⟨k1, k2, k3, k4, k5, k6, k7, k8, k9⟩ := hgk
  rcases open_slice ht h with ⟨hcs, _⟩ | ⟨a, len, cap, m, n, D, Pl, hcs, _, hl, hm, hmm, _, hx⟩
  · simp at hcs
    subst hcs
    exact ⟨none, 0, 0, rfl, Nat.zero_le _, fun i hi => absurd hi (Nat.not_lt_zero _)⟩
  · simp at hcs
    subst hcs
    have hlm : len ≤ m := by rw [hmm]; split <;> omega
    refine ⟨some a, cap, len, rfl, by omega, fun i hi => ?_⟩
    obtain ⟨cs', h1, h2⟩ := hx i (by omega)
    rw [k1] at h1
    obtain ⟨_, hlen, hcell⟩ := World.cells?_some h1
    match cs', hlen with
    | [c0, c1, c2, c3], _ =>
      obtain ⟨y0, y1, y2, y3, n', e0, e1, e2, e3⟩ := trod_struct4 hg h2
      simp [k2, k3, k4, k5, k6, k7, k8, k9] at e0 e1 e2 e3
      obtain ⟨m0, j0, _⟩ := DataW.trod_int v0 e0
      obtain ⟨m1, j1, _⟩ := DataW.trod_int v1 e1
      obtain ⟨m2, j2, _⟩ := DataW.trod_int v2 e2
      simp at j0 j1 j2
      subst j0 j1 j2
      obtain ⟨A, c, L, rfl, hl2, hw⟩ := open_views v3 hs hn hk hf u0 u1 e3
      obtain ⟨b, off, spot⟩ := a
      have hspot : spot = none := by
        obtain ⟨cz, y1, _⟩ := hx 0 (by omega)
        rw [k1] at y1
        obtain ⟨_, hl0, hc0⟩ := World.cells?_some y1
        have h0 := hc0 0 (by omega)
        rw [List.getElem?_eq_getElem (by omega)] at h0
        have h3 : w.cell? ⟨b, off, spot⟩ = some cz[0] := by simpa [Addr.add] using h0
        exact World.cell?_spot h3
      subst hspot
      have e4 : ∀ j, (⟨b, off, none⟩ : Addr).add j = ⟨b, off + j, none⟩ := fun j => by unfold Addr.add; split <;> simp_all
      have hadd : ∀ j, j < 4 → w.cell? ⟨b, off + i * 4 + j, none⟩ = ([Value.int .i64 m0, .int .i64 m1, .int .i64 m2, .slice A L.length c] : List Value)[j]? := fun j hj => by
        have h3 := hcell j hj
        rw [add_add, e4] at h3
        rw [show off + i * 4 + j = off + (i * 4 + j) from by omega]
        exact h3
      refine ⟨b, off, m0, m1, m2, A, c, L, rfl, World.block_lt_of_cell? w _ (hadd 0 (by omega)), hl2, fun j u hu => ?_, hw.flatq⟩
      have hj : j < 4 := by
        rcases Nat.lt_or_ge j 4 with q | q
        · exact q
        · rw [Array.getElem?_eq_none (by simpa using q)] at hu; cases hu
      rw [hadd j hj, ← hu]
      rcases (by omega : j = 0 ∨ j = 1 ∨ j = 2 ∨ j = 3) with rfl | rfl | rfl | rfl <;> rfl
theorem open_rows {t ts te tn : TypeId} {f0 f1 f2 f3 n0 n1 : Field} {fuel : Nat} {v : Value} {x : DataW H × List MemPlace} (ht : P.underlying t = some (.slice ts)) (hts : P.underlying ts = some (.slice te)) (hc : P.cellsOf ts = 1)
    (hs : P.underlying te = some (.struct #[f0, f1, f2, f3])) (hn : P.underlying tn = some (.struct #[n0, n1]))
    (hk : [P.cellsOf te, f0.offset, f1.offset, f2.offset, f3.offset, P.cellsOf tn, n0.offset, n1.offset, P.cellsOf n0.type, P.cellsOf n1.type] = [8, 0, 2, 4, 6, 2, 0, 1, 1, 1]) (hf : [f0.type, f1.type, f2.type, f3.type] = [tn, tn, tn, tn])
    (u0 : P.underlying n0.type = some .bool) (u1 : P.underlying n1.type = some (.int .i64)) (h : DataW.trod enc P w base spare held fuel t [v] = some x) :
    ∃ (A : Option Addr) (c n : Nat), v = .slice A n c ∧ n ≤ maxLen ∧ Rows (fun b => b < w.heap.size) w A n := by
  rcases open_slice ht h with ⟨hcs, _⟩ | ⟨a, len, cap, m, n, D, Pl, hcs, _, hl, hm, hmm, _, hx⟩
  · simp at hcs
    subst hcs
    exact ⟨none, 0, 0, rfl, Nat.zero_le _, fun i hi => absurd hi (Nat.not_lt_zero _)⟩
  · simp at hcs
    subst hcs
    have hlm : len ≤ m := by rw [hmm]; split <;> omega
    refine ⟨some a, cap, len, rfl, by omega, fun i hi => ?_⟩
    obtain ⟨cs', h1, h2⟩ := hx i (by omega)
    rw [hc] at h1
    obtain ⟨_, hlen, hcell⟩ := World.cells?_some h1
    match cs', hlen with
    | [c0], _ =>
      obtain ⟨A, c, L, rfl, hl2, hw⟩ := open_views hts hs hn hk hf u0 u1 h2
      obtain ⟨b, off, spot⟩ := a
      have hspot : spot = none := by
        obtain ⟨cz, y1, _⟩ := hx 0 (by omega)
        rw [hc] at y1
        obtain ⟨_, hl0, hc0⟩ := World.cells?_some y1
        have h0 := hc0 0 (by omega)
        rw [List.getElem?_eq_getElem (by omega)] at h0
        have h3 : w.cell? ⟨b, off, spot⟩ = some cz[0] := by simpa [Addr.add] using h0
        exact World.cell?_spot h3
      subst hspot
      have e4 : ∀ j, (⟨b, off, none⟩ : Addr).add j = ⟨b, off + j, none⟩ := fun j => by unfold Addr.add; split <;> simp_all
      have h3 := hcell 0 (by omega)
      rw [add_add, e4] at h3
      have h4 : w.cell? ⟨b, off + i, none⟩ = some (.slice A L.length c) := by simpa using h3
      exact ⟨b, off, A, c, L, rfl, World.block_lt_of_cell? w _ h4, hl2, h4, hw.flatq⟩
end
end Go.Proofs.YteofmahbimkggaaDoor
