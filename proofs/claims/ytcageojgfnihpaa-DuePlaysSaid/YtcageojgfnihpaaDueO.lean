/- Arguments opened: calls of a queue (four ints each). -/
import Derived.Test.YtcageojgfnihpaaBas
import Derived.ShutString
import Derived.OpenShut
import Derived.ChangeSame
import Derived.ChangeSlices
import Derived.Lib.SmallJoins
import Derived.Deep.Slices
import Derived.Deep.Strs
namespace Go.Proofs.Ytcageojgfnihpaa
set_option linter.unusedVariables false
open Go.ChangeShapes Go.WideShapes Go.ChangeAt Go.RowKit Go.Joins Go.Deep

abbrev Op4 := Int × Int × Int × Int
def op4C (x : Op4) : List Value := [.int .i64 x.1, .int .i64 x.2.1, .int .i64 x.2.2.1, .int .i64 x.2.2.2]
def wf4 (x : Op4) : Prop := (Lit.int .i64 x.1).wf = true ∧ (Lit.int .i64 x.2.1).wf = true ∧ (Lit.int .i64 x.2.2.1).wf = true ∧ (Lit.int .i64 x.2.2.2).wf = true
/-- Calls that came in. -/
def Op4s (w : World) (B : Nat) (A : Option Addr) (l : List Op4) : Prop :=
  ∀ k (hk : k < l.length), ∃ b off, A = some ⟨b, off, none⟩ ∧ b < B ∧ wf4 l[k] ∧ ∀ (j : Nat) u, (op4C l[k])[j]? = some u → w.cell? ⟨b, off + 4 * k + j, none⟩ = some u
theorem list_ofC {α : Type} {p : Nat → α → Prop} : ∀ n : Nat, (∀ i, i < n → ∃ x, p i x) → ∃ l : List α, l.length = n ∧ ∀ (i : Nat) (h : i < l.length), p i l[i]
  | 0, _ => ⟨[], rfl, fun i h => absurd h (Nat.not_lt_zero _)⟩
  | n + 1, h => by
    obtain ⟨l, h1, h2⟩ := list_ofC n (fun i hi => h i (by omega))
    obtain ⟨x, hx⟩ := h n (by omega)
    refine ⟨l ++ [x], by simp [h1], fun i hi => ?_⟩
    rcases Nat.lt_or_ge i l.length with q | q
    · rw [List.getElem_append_left q]; exact h2 i q
    · have e : i = n := by simp at hi; omega
      subst e
      rw [List.getElem_append_right q]
      simpa using hx

section
variable {H : Type} {enc : TypeId × Value → H} {P : Program} {w : World} {base : Nat} {spare : Nat → Bool} {held : Bool}

theorem open_op4s {t e : TypeId} {f0 f1 f2 f3 : Field} {fuel : Nat} {v : Value} {x : DataW H × List MemPlace} (ht : P.underlying t = some (.slice e)) (hs : P.underlying e = some (.struct #[f0, f1, f2, f3]))
    (hk : [P.cellsOf e, f0.offset, f1.offset, f2.offset, f3.offset, P.cellsOf f0.type, P.cellsOf f1.type, P.cellsOf f2.type, P.cellsOf f3.type] = [4, 0, 1, 2, 3, 1, 1, 1, 1])
    (u0 : P.underlying f0.type = some (.int .i64)) (u1 : P.underlying f1.type = some (.int .i64)) (u2 : P.underlying f2.type = some (.int .i64)) (u3 : P.underlying f3.type = some (.int .i64)) (h : DataW.trod enc P w base spare held fuel t [v] = some x) :
    ∃ (A : Option Addr) (c : Nat) (L : List Op4), v = .slice A L.length c ∧ L.length ≤ maxLen ∧ Op4s w w.heap.size A L := by
  simp only [List.cons.injEq, and_true] at hk
  obtain ⟨k1, k2, k3, k4, k5, k6, k7, k8, k9⟩ := hk
  rcases open_slice ht h with ⟨hcs, _⟩ | ⟨a, len, cap, m, n, D, Pl, hcs, _, hl, hm, hmm, _, hx⟩
  · simp at hcs
    subst hcs
    exact ⟨none, 0, [], rfl, Nat.zero_le _, fun k hk => absurd hk (Nat.not_lt_zero _)⟩
  · simp at hcs
    subst hcs
    have hlm : len ≤ m := by rw [hmm]; split <;> omega
    obtain ⟨b, off, spot⟩ := a
    have e1 : ∀ j, (⟨b, off, none⟩ : Addr).add j = ⟨b, off + j, none⟩ := fun j => by unfold Addr.add; split <;> simp_all
    obtain ⟨L, hL, hLL⟩ := list_ofC (p := fun i (v : Op4) => spot = none ∧ b < w.heap.size ∧ wf4 v ∧ ∀ (j : Nat) u, (op4C v)[j]? = some u → w.cell? ⟨b, off + 4 * i + j, none⟩ = some u) len (fun i hi => by
      obtain ⟨cs', h1, h2⟩ := hx i (by omega)
      rw [k1] at h1
      obtain ⟨_, hlen, hcell⟩ := World.cells?_some h1
      match cs', hlen with
      | [c0, c1, c2, c3], _ =>
        obtain ⟨y0, y1, y2, y3, n, _, _, g0, g1, g2, g3⟩ := trod_struct4 hs h2
        simp [k2, k3, k4, k5, k6, k7, k8, k9] at g0 g1 g2 g3
        obtain ⟨z0, q0, _, wf0⟩ := DataW.trod_int u0 g0
        obtain ⟨z1, q1, _, wf1⟩ := DataW.trod_int u1 g1
        obtain ⟨z2, q2, _, wf2⟩ := DataW.trod_int u2 g2
        obtain ⟨z3, q3, _, wf3⟩ := DataW.trod_int u3 g3
        simp at q0 q1 q2 q3
        subst q0 q1 q2 q3
        have hspot : spot = none := by
          obtain ⟨cz, y1, _⟩ := hx 0 (by omega)
          rw [k1] at y1
          obtain ⟨_, hl0, hc0⟩ := World.cells?_some y1
          have h0 := hc0 0 (by omega)
          rw [List.getElem?_eq_getElem (by omega)] at h0
          have h3 : w.cell? ⟨b, off, spot⟩ = some cz[0] := by simpa [Addr.add] using h0
          exact World.cell?_spot h3
        subst hspot
        have hadd : ∀ j, j < 4 → w.cell? ⟨b, off + 4 * i + j, none⟩ = (op4C (z0, z1, z2, z3))[j]? := fun j hj => by
          have h3 := hcell j hj
          rw [add_add, e1] at h3
          rw [show off + 4 * i + j = off + (i * 4 + j) from by omega]
          exact h3
        refine ⟨(z0, z1, z2, z3), rfl, ?_, ⟨wf0, wf1, wf2, wf3⟩, fun j u hu => ?_⟩
        · exact World.block_lt_of_cell? w _ (hadd 0 (by omega))
        · have hj : j < 4 := by
            rcases Nat.lt_or_ge j 4 with q | q
            · exact q
            · rw [List.getElem?_eq_none (by show 4 ≤ j; exact q)] at hu; cases hu
          exact (hadd j hj).trans hu)
    refine ⟨some ⟨b, off, spot⟩, cap, L, by rw [hL], by omega, fun k hk => ?_⟩
    obtain ⟨rfl, g2, g3⟩ := hLL k hk
    exact ⟨b, off, rfl, g2, g3⟩
theorem open_op4 {r : Reach} {b0 : Nat} {t : TypeId} {f0 f1 f2 f3 : Field} {v : Value} {d : DataW H} {p : List MemPlace} (hs : P.underlying t = some (.struct #[f0, f1, f2, f3])) (hone : oneCellFields P #[f0, f1, f2, f3] = true) (hC : P.cellsOf t = 4)
    (u0 : P.underlying f0.type = some (.int .i64)) (u1 : P.underlying f1.type = some (.int .i64)) (u2 : P.underlying f2.type = some (.int .i64)) (u3 : P.underlying f3.type = some (.int .i64)) (hv : Value.okWide P w r b0 t v) (h : DataW.Trod enc P w base spare held t v d p) :
    ∃ x y z u : Int, v = .agg #[.int .i64 x, .int .i64 y, .int .i64 z, .int .i64 u] := by
  obtain ⟨v0, v1, v2, v3, y0, y1, y2, y3, n, rfl, -, -, g0, g1, g2, g3⟩ := open_agg4 hs hone hC hv h
  obtain ⟨z0, q0, _⟩ := DataW.trod_int u0 g0
  obtain ⟨z1, q1, _⟩ := DataW.trod_int u1 g1
  obtain ⟨z2, q2, _⟩ := DataW.trod_int u2 g2
  obtain ⟨z3, q3, _⟩ := DataW.trod_int u3 g3
  simp at q0 q1 q2 q3
  subst q0 q1 q2 q3
  exact ⟨z0, z1, z2, z3, rfl⟩
end
end Go.Proofs.Ytcageojgfnihpaa
