/- Arguments opened: calls (three ints each), bytes. -/
import Derived.Test.YtloebedipfppeaaBas
import Derived.ShutString
import Derived.OpenShut
import Derived.ChangeSame
import Derived.ChangeSlices
import Derived.Lib.SmallJoins
import Derived.Deep.Slices
import Derived.Deep.Strs
namespace Go.Proofs.Ytloebedipfppeaa
set_option linter.unusedVariables false
open Go.ChangeShapes Go.WideShapes Go.ChangeAt Go.RowKit Go.Joins Go.Deep

abbrev Cl := Int × Int × Int
def clC (x : Cl) : List Value := [.int .i64 x.1, .int .i64 x.2.1, .int .i64 x.2.2]
/-- Calls that came in. -/
def Cls (w : World) (B : Nat) (A : Option Addr) (l : List Cl) : Prop :=
  ∀ k (hk : k < l.length), ∃ b off, A = some ⟨b, off, none⟩ ∧ b < B ∧ ∀ (j : Nat) u, (clC l[k])[j]? = some u → w.cell? ⟨b, off + 3 * k + j, none⟩ = some u
theorem Cls.keep {w w' : World} {B : Nat} {A : Option Addr} {l : List Cl} (h : Cls w B A l) (hb : ∀ b o, b < B → w'.cell? ⟨b, o, none⟩ = w.cell? ⟨b, o, none⟩) : Cls w' B A l := by
  intro k hk
  obtain ⟨b, off, h1, h2, h3⟩ := h k hk
  exact ⟨b, off, h1, h2, fun j u hu => (hb _ _ h2).trans (h3 j u hu)⟩
/-- Bytes that came in. -/
def Oct (w : World) (B : Nat) (A : Option Addr) (l : List Int) : Prop :=
  ∀ k (hk : k < l.length), ∃ b off, A = some ⟨b, off, none⟩ ∧ b < B ∧ w.cell? ⟨b, off + k, none⟩ = some (.int .u8 l[k]) ∧ 0 ≤ l[k] ∧ l[k] ≤ 255
theorem Oct.keep {w w' : World} {B : Nat} {A : Option Addr} {l : List Int} (h : Oct w B A l) (hb : ∀ b o, b < B → w'.cell? ⟨b, o, none⟩ = w.cell? ⟨b, o, none⟩) : Oct w' B A l := by
  intro k hk
  obtain ⟨b, off, h1, h2, h3, h4⟩ := h k hk
  exact ⟨b, off, h1, h2, (hb _ _ h2).trans h3, h4⟩
theorem list_ofC {α : Type} {p : Nat → α → Prop} : ∀ n : Nat, (∀ i, i < n → ∃ x, p i x) → ∃ l : List α, l.length = n ∧ ∀ (i : Nat) (h : i < l.length), p i l[i]
  | 0, _ => ⟨[], rfl, fun i h => absurd h (Nat.not_lt_zero _)⟩
  | n + 1, h => by
    obtain ⟨l, h1, h2⟩ := list_ofC n (fun i hi => h i (by omega))
    obtain ⟨x, hx⟩ := h n (by omega)
    refine ⟨l ++ [x], by simp [h1], fun i hi => ?_⟩
    rcases Nat.lt_or_ge i l.length with q | q
    · rw [List.getElem_append_left q]; exact h2 i q
    · have e : i = n := by simp at hi; omega
      subst e
      rw [List.getElem_append_right q]
      simpa using hx

section
variable {H : Type} {enc : TypeId × Value → H} {P : Program} {w : World} {base : Nat} {spare : Nat → Bool} {held : Bool}

theorem open_calls {t e : TypeId} {f0 f1 f2 : Field} {fuel : Nat} {v : Value} {x : DataW H × List MemPlace} (ht : P.underlying t = some (.slice e)) (hs : P.underlying e = some (.struct #[f0, f1, f2]))
    (hk : [P.cellsOf e, f0.offset, f1.offset, f2.offset, P.cellsOf f0.type, P.cellsOf f1.type, P.cellsOf f2.type] = [3, 0, 1, 2, 1, 1, 1])
    (u0 : P.underlying f0.type = some (.int .i64)) (u1 : P.underlying f1.type = some (.int .i64)) (u2 : P.underlying f2.type = some (.int .i64)) (h : DataW.trod enc P w base spare held fuel t [v] = some x) :
    ∃ (A : Option Addr) (c : Nat) (L : List Cl), v = .slice A L.length c ∧ L.length ≤ maxLen ∧ Cls w w.heap.size A L := by
  simp only [List.cons.injEq, and_true] at hk
  obtain ⟨k1, k2, k3, k4, k5, k6, k7⟩ := hk
  rcases open_slice ht h with ⟨hcs, _⟩ | ⟨a, len, cap, m, n, D, Pl, hcs, _, hl, hm, hmm, _, hx⟩
  · simp at hcs
    subst hcs
    exact ⟨none, 0, [], rfl, Nat.zero_le _, fun k hk => absurd hk (Nat.not_lt_zero _)⟩
  · simp at hcs
    subst hcs
    have hlm : len ≤ m := by rw [hmm]; split <;> omega
    obtain ⟨b, off, spot⟩ := a
    have e1 : ∀ j, (⟨b, off, none⟩ : Addr).add j = ⟨b, off + j, none⟩ := fun j => by unfold Addr.add; split <;> simp_all
    obtain ⟨L, hL, hLL⟩ := list_ofC (p := fun i (v : Cl) => spot = none ∧ b < w.heap.size ∧ ∀ (j : Nat) u, (clC v)[j]? = some u → w.cell? ⟨b, off + 3 * i + j, none⟩ = some u) len (fun i hi => by
      obtain ⟨cs', h1, h2⟩ := hx i (by omega)
      rw [k1] at h1
      obtain ⟨_, hlen, hcell⟩ := World.cells?_some h1
      match cs', hlen with
      | [c0, c1, c2], _ =>
        obtain ⟨y0, y1, y2, n, _, _, g0, g1, g2⟩ := trod_struct3 hs h2
        simp [k2, k3, k4, k5, k6, k7] at g0 g1 g2
        obtain ⟨z0, q0, _⟩ := DataW.trod_int u0 g0
        obtain ⟨z1, q1, _⟩ := DataW.trod_int u1 g1
        obtain ⟨z2, q2, _⟩ := DataW.trod_int u2 g2
        simp at q0 q1 q2
        subst q0 q1 q2
        have hspot : spot = none := by
          obtain ⟨cz, y1, _⟩ := hx 0 (by omega)
          rw [k1] at y1
          obtain ⟨_, hl0, hc0⟩ := World.cells?_some y1
          have h0 := hc0 0 (by omega)
          rw [List.getElem?_eq_getElem (by omega)] at h0
          have h3 : w.cell? ⟨b, off, spot⟩ = some cz[0] := by simpa [Addr.add] using h0
          exact World.cell?_spot h3
        subst hspot
        have hadd : ∀ j, j < 3 → w.cell? ⟨b, off + 3 * i + j, none⟩ = (clC (z0, z1, z2))[j]? := fun j hj => by
          have h3 := hcell j hj
          rw [add_add, e1] at h3
          rw [show off + 3 * i + j = off + (i * 3 + j) from by omega]
          exact h3
        refine ⟨(z0, z1, z2), rfl, ?_, fun j u hu => ?_⟩
        · exact World.block_lt_of_cell? w _ (hadd 0 (by omega))
        · have hj : j < 3 := by
            rcases Nat.lt_or_ge j 3 with q | q
            · exact q
            · rw [List.getElem?_eq_none (by show 3 ≤ j; exact q)] at hu; cases hu
          exact (hadd j hj).trans hu)
    refine ⟨some ⟨b, off, spot⟩, cap, L, by rw [hL], by omega, fun k hk => ?_⟩
    obtain ⟨rfl, g2, g3⟩ := hLL k hk
    exact ⟨b, off, rfl, g2, g3⟩
theorem open_octets {t e : TypeId} {fuel : Nat} {v : Value} {x : DataW H × List MemPlace} (ht : P.underlying t = some (.slice e)) (he : P.underlying e = some (.int .u8)) (hc : P.cellsOf e = 1) (h : DataW.trod enc P w base spare held fuel t [v] = some x) :
    ∃ (A : Option Addr) (c : Nat) (L : List Int), v = .slice A L.length c ∧ L.length ≤ maxLen ∧ Oct w w.heap.size A L := by
  rcases open_ints ht he hc h with ⟨hcs, _⟩ | ⟨a, len, cap, zs, hcs, _, hl, hm, hmm, _, hcell, hwf⟩
  · simp at hcs
    subst hcs
    exact ⟨none, 0, [], rfl, Nat.zero_le _, fun k hk => absurd hk (Nat.not_lt_zero _)⟩
  · simp at hcs
    subst hcs
    have hlm : len ≤ zs.length := by rw [hmm]; split <;> omega
    obtain ⟨b, off, spot⟩ := a
    have e1 : ∀ j, (⟨b, off, none⟩ : Addr).add j = ⟨b, off + j, none⟩ := fun j => by unfold Addr.add; split <;> simp_all
    refine ⟨some ⟨b, off, spot⟩, cap, zs.take len, by rw [List.length_take, Nat.min_eq_left hlm], by rw [List.length_take]; omega, fun k hk => ?_⟩
    have hk' : k < zs.length := by rw [List.length_take] at hk; omega
    have hspot : spot = none := by
      have h0 := hcell 0 (by omega)
      have h3 : w.cell? ⟨b, off, spot⟩ = some (.int .u8 (zs.getD 0 0)) := by simpa [Addr.add] using h0
      exact World.cell?_spot h3
    subst hspot
    have h1 := hcell k hk'
    rw [e1] at h1
    have e2 : zs.getD k 0 = (zs.take len)[k] := by simp [List.getD, List.getElem?_eq_getElem hk']
    rw [e2] at h1
    have hw := hwf (zs.take len)[k] (List.mem_of_mem_take (List.getElem_mem hk))
    have hmin : IntKind.u8.min = 0 := rfl
    have hmax : IntKind.u8.max = 255 := rfl
    simp only [Lit.wf, Bool.and_eq_true, decide_eq_true_eq] at hw
    exact ⟨b, off, rfl, World.block_lt_of_cell? w _ h1, h1, by omega, by omega⟩
theorem open_call {r : Reach} {b0 : Nat} {t : TypeId} {f0 f1 f2 : Field} {v : Value} {d : DataW H} {p : List MemPlace} (hs : P.underlying t = some (.struct #[f0, f1, f2])) (hone : oneCellFields P #[f0, f1, f2] = true) (hC : P.cellsOf t = 3)
    (u0 : P.underlying f0.type = some (.int .i64)) (u1 : P.underlying f1.type = some (.int .i64)) (u2 : P.underlying f2.type = some (.int .i64)) (hv : Value.okWide P w r b0 t v) (h : DataW.Trod enc P w base spare held t v d p) :
    ∃ x y z : Int, v = .agg #[.int .i64 x, .int .i64 y, .int .i64 z] := by
  obtain ⟨v0, v1, v2, y0, y1, y2, n, rfl, -, -, g0, g1, g2⟩ := open_agg3 hs hone hC hv h
  obtain ⟨z0, q0, _⟩ := DataW.trod_int u0 g0
  obtain ⟨z1, q1, _⟩ := DataW.trod_int u1 g1
  obtain ⟨z2, q2, _⟩ := DataW.trod_int u2 g2
  simp at q0 q1 q2
  subst q0 q1 q2
  exact ⟨z0, z1, z2, rfl⟩
end
end Go.Proofs.Ytloebedipfppeaa
