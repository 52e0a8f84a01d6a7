/- Layer 33: rows of lines. -/
import Derived.Test.YtloebedipfppeaaGap5
import Derived.Deep.AppendLies
namespace Go.Proofs.Ytloebedipfppeaa
set_option linter.unusedVariables false
open Go.RowKit Go.Shelf Go.Sort

def lnsC (D : List Ln) : List Value := D.flatMap lnL
theorem lnsC_len (D : List Ln) : (lnsC D).length = D.length * 5 := by
  induction D with
  | nil => rfl
  | cons x D ih =>
    show (lnL x ++ lnsC D).length = _
    rw [List.length_append, ih, List.length_cons]
    show 5 + _ = _
    omega
theorem lnsC_snoc (D : List Ln) (x : Ln) : lnsC (D ++ [x]) = lnsC D ++ lnL x := by
  unfold lnsC
  rw [List.flatMap_append]
  simp
theorem lnsC_get : ∀ (D : List Ln) (k j : Nat) (hk : k < D.length), j < 5 → (lnsC D)[5 * k + j]? = (lnL D[k])[j]?
  | x :: D, 0, j, _, hj => by
    show (lnL x ++ lnsC D)[5 * 0 + j]? = _
    rw [List.getElem?_append_left (by show 5 * 0 + j < 5; omega)]
    simp
  | x :: D, k + 1, j, hk, hj => by
    show (lnL x ++ lnsC D)[5 * (k + 1) + j]? = _
    rw [List.getElem?_append_right (by show 5 ≤ _; omega)]
    have e : 5 * (k + 1) + j - (lnL x).length = 5 * k + j := by show 5 * (k + 1) + j - 5 = _; omega
    rw [e, lnsC_get D k j (by simpa using hk) hj]
    rfl
/-- A slice of lines, read as a list. -/
def Lns (w : World) (B : Nat) (A : Option Addr) (l : List Ln) : Prop :=
  ∀ k (hk : k < l.length), ∃ b off, A = some ⟨b, off, none⟩ ∧ b < B ∧ ∀ (j : Nat) u, (lnL l[k])[j]? = some u → w.cell? ⟨b, off + 5 * k + j, none⟩ = some u
theorem Lns.below {w w' : World} {B B' : Nat} {A : Option Addr} {l : List Ln} (h : Lns w B A l) (hb : Below B' w w') (hB : B ≤ B') : Lns w' B A l := by
  intro k hk
  obtain ⟨b, off, h1, h2, h3⟩ := h k hk
  exact ⟨b, off, h1, h2, fun j u hu => (hb.cell (p := ⟨b, off + 5 * k + j, none⟩) (by show b < B'; omega)).trans (h3 j u hu)⟩
theorem Lns.more {w : World} {B B' : Nat} {A : Option Addr} {l : List Ln} (h : Lns w B A l) (hB : B ≤ B') : Lns w B' A l := by
  intro k hk
  obtain ⟨b, off, h1, h2, h3⟩ := h k hk
  exact ⟨b, off, h1, by omega, h3⟩
theorem lns_of_own {w : World} {B : Nat} {e : TypeId} {v : Value} {D : List Ln} (h : w.ownsRow B e 5 v D.length (lnsC D)) : ∃ A c, v = .slice A D.length c ∧ Lns w w.heap.size A D ∧ FreshA B A ∧ (A = none → c = 0) := by
  rcases h.2 with ⟨hv, h0⟩ | ⟨g, cap, cur, hv, hb, hg, -⟩
  · exact ⟨none, 0, by rw [hv, h0], fun k hk => by omega, FreshA.none_, fun _ => rfl⟩
  · subst hv
    refine ⟨some ⟨g, 0, none⟩, cap, rfl, fun k hk => ⟨g, 0, rfl, (Array.getElem?_eq_some_iff.1 hg).1, fun j u hu => ?_⟩, fun a ha => by injection ha with ha; rw [← ha]; exact hb, fun q => by cases q⟩
    have hj : j < 5 := by
      rcases Nat.lt_or_ge j 5 with q | q
      · exact q
      · rw [List.getElem?_eq_none (by show 5 ≤ j; exact q)] at hu; cases hu
    have hc := h.cells (g := g) rfl (5 * k + j) u (by rw [lnsC_get D k j hk hj]; exact hu)
    have : (⟨g, 0, none⟩ : Addr).add (5 * k + j) = ⟨g, 0 + 5 * k + j, none⟩ := by unfold Addr.add; split <;> simp_all <;> omega
    rw [← this]
    exact hc
theorem holds_of_own {w : World} {B g n c : Nat} {e : TypeId} {D : List Ln} (h : w.ownsRow B e 5 (.slice (some ⟨g, 0, none⟩) n c) D.length (lnsC D)) : HoldsK lnL 5 w g 0 D.toArray ∧ g < w.heap.size ∧ B ≤ g := by
  rcases h.2 with ⟨hv, h0⟩ | ⟨g', cap, cur, hv, hb, hg, -⟩
  · cases hv
  · injection hv with hv
    injection hv with hv
    injection hv with hv
    subst hv
    refine ⟨fun t ht => ?_, (Array.getElem?_eq_some_iff.1 hg).1, hb⟩
    have ht : t < D.toArray.size * 5 := by simpa using ht
    rw [get_flatK lnL 5 D.toArray t ht]
    have hk : t / 5 < D.length := by simp at ht; omega
    have hj : t % 5 < 5 := Nat.mod_lt _ (by omega)
    have e1 : D.toArray[t / 5]! = D[t / 5] := by rw [getElem!_pos D.toArray (t / 5) (by simpa using hk)]; rfl
    have hl : t % 5 < (lnL D[t / 5]).length := hj
    constructor
    · have hc := h.cells (g := g) rfl t (lnL D[t / 5])[t % 5]! (by
        have := lnsC_get D (t / 5) (t % 5) hk hj
        rw [show 5 * (t / 5) + t % 5 = t from by omega] at this
        rw [this, List.getElem?_eq_getElem hl, getElem!_pos (lnL D[t / 5]) (t % 5) hl])
      have : (⟨g, 0, none⟩ : Addr).add t = ⟨g, 0 + t, none⟩ := by unfold Addr.add; split <;> simp_all
      rw [← this, e1]
      exact hc
    · simp [World.frozen?, hg]
theorem lns_of_holds {w : World} {g : Nat} {d : Array Ln} (h : HoldsK lnL 5 w g 0 d) (hg : g < w.heap.size) : Lns w w.heap.size (some ⟨g, 0, none⟩) d.toList := by
  intro k hk
  refine ⟨g, 0, rfl, hg, fun j u hu => ?_⟩
  have hj : j < 5 := by
    rcases Nat.lt_or_ge j 5 with q | q
    · exact q
    · rw [List.getElem?_eq_none (by show 5 ≤ j; exact q)] at hu; cases hu
  have h1 := (h.cell (i := k) (c := j) (by simpa using hk) hj).1
  have e1 : d[k]! = d.toList[k] := by rw [getElem!_pos d k (by simpa using hk)]; rfl
  have hl : j < (lnL d.toList[k]).length := hj
  rw [List.getElem?_eq_getElem hl] at hu
  injection hu with hu
  rw [e1, getElem!_pos (lnL d.toList[k]) j hl, hu] at h1
  rw [show 0 + 5 * k + j = 0 + k * 5 + j from by omega]
  exact h1
end Go.Proofs.Ytloebedipfppeaa
