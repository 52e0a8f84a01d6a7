/- Arguments opened: views, messages of views. -/
import Derived.Test.YteofmahbimkggaaDoorMo
import Derived.Test.YteofmahbimkggaaDoorMgb
namespace Go.Proofs.YteofmahbimkggaaDoor
set_option linter.unusedVariables false
open Go.ChangeShapes Go.WideShapes Go.ChangeAt Go.RowKit Go.Joins Go.Deep

theorem list_of {α : Type} {p : Nat → α → Prop} : ∀ n : Nat, (∀ i, i < n → ∃ x, p i x) → ∃ l : List α, l.length = n ∧ ∀ (i : Nat) (h : i < l.length), p i l[i]
  | 0, _ => ⟨[], rfl, fun i h => absurd h (Nat.not_lt_zero _)⟩
  | n + 1, h => by
    obtain ⟨l, h1, h2⟩ := list_of n (fun i hi => h i (by omega))
    obtain ⟨x, hx⟩ := h n (by omega)
    refine ⟨l ++ [x], by simp [h1], fun i hi => ?_⟩
    rcases Nat.lt_or_ge i l.length with q | q
    · rw [List.getElem_append_left q]; exact h2 i q
    · have e : i = n := by simp at hi; omega
      subst e
      rw [List.getElem_append_right q]
      simpa using hx

section
variable {H : Type} {enc : TypeId × Value → H} {P : Program} {w : World} {base : Nat} {spare : Nat → Bool} {held : Bool}

/-- The eight cells of a view. -/
theorem trod_view {t tn : TypeId} {f0 f1 f2 f3 n0 n1 : Field} {fuel : Nat} {cs : List Value} {x : DataW H × List MemPlace} (hs : P.underlying t = some (.struct #[f0, f1, f2, f3])) (hn : P.underlying tn = some (.struct #[n0, n1]))
    (hk : [P.cellsOf t, f0.offset, f1.offset, f2.offset, f3.offset, P.cellsOf tn, n0.offset, n1.offset, P.cellsOf n0.type, P.cellsOf n1.type] = [8, 0, 2, 4, 6, 2, 0, 1, 1, 1]) (ht : [f0.type, f1.type, f2.type, f3.type] = [tn, tn, tn, tn])
    (u0 : P.underlying n0.type = some .bool) (u1 : P.underlying n1.type = some (.int .i64)) (hl : cs.length = 8) (h : DataW.trod enc P w base spare held fuel t cs = some x) : ∃ v : V4, cs = viewC v := by
  simp only [List.cons.injEq, and_true] at hk ht
  obtain ⟨k1, k2, k3, k4, k5, k6, k7, k8, k9, k10⟩ := hk
  obtain ⟨t0, t1, t2, t3⟩ := ht
  match cs, hl with
  | [c0, c1, c2, c3, c4, c5, c6, c7], _ =>
    obtain ⟨y0, y1, y2, y3, n, e0, e1, e2, e3⟩ := trod_struct4 hs h
    rw [t0] at e0
    rw [t1] at e1
    rw [t2] at e2
    rw [t3] at e3
    simp [k2, k3, k4, k5, k6] at e0 e1 e2 e3
    obtain ⟨m0, x0, rfl, rfl⟩ := trod_num hn k7 k8 k9 k10 u0 u1 e0
    obtain ⟨m1, x1, rfl, rfl⟩ := trod_num hn k7 k8 k9 k10 u0 u1 e1
    obtain ⟨m2, x2, rfl, rfl⟩ := trod_num hn k7 k8 k9 k10 u0 u1 e2
    obtain ⟨m3, x3, rfl, rfl⟩ := trod_num hn k7 k8 k9 k10 u0 u1 e3
    exact ⟨((m0, x0), (m1, x1), (m2, x2), (m3, x3)), rfl⟩
theorem open_views {t e tn : TypeId} {f0 f1 f2 f3 n0 n1 : Field} {fuel : Nat} {v : Value} {x : DataW H × List MemPlace} (ht : P.underlying t = some (.slice e)) (hs : P.underlying e = some (.struct #[f0, f1, f2, f3])) (hn : P.underlying tn = some (.struct #[n0, n1]))
    (hk : [P.cellsOf e, f0.offset, f1.offset, f2.offset, f3.offset, P.cellsOf tn, n0.offset, n1.offset, P.cellsOf n0.type, P.cellsOf n1.type] = [8, 0, 2, 4, 6, 2, 0, 1, 1, 1]) (hf : [f0.type, f1.type, f2.type, f3.type] = [tn, tn, tn, tn])
    (u0 : P.underlying n0.type = some .bool) (u1 : P.underlying n1.type = some (.int .i64)) (h : DataW.trod enc P w base spare held fuel t [v] = some x) :
    ∃ (A : Option Addr) (c : Nat) (L : List V4), v = .slice A L.length c ∧ L.length ≤ maxLen ∧ Vws w w.heap.size A L := by
  have hk0 := hk
  simp only [List.cons.injEq, and_true] at hk
  obtain ⟨k1, -⟩ := hk
  rcases open_slice ht h with ⟨hcs, _⟩ | ⟨a, len, cap, m, n, D, Pl, hcs, _, hl, hm, hmm, _, hx⟩
  · simp at hcs
    subst hcs
    exact ⟨none, 0, [], rfl, Nat.zero_le _, fun k hk => absurd hk (Nat.not_lt_zero _)⟩
  · simp at hcs
    subst hcs
    have hlm : len ≤ m := by rw [hmm]; split <;> omega
    obtain ⟨b, off, spot⟩ := a
    have e1 : ∀ j, (⟨b, off, none⟩ : Addr).add j = ⟨b, off + j, none⟩ := fun j => by unfold Addr.add; split <;> simp_all
    obtain ⟨L, hL, hLL⟩ := list_of (p := fun i (v : V4) => spot = none ∧ b < w.heap.size ∧ ∀ (j : Nat) u, (viewC v)[j]? = some u → w.cell? ⟨b, off + 8 * i + j, none⟩ = some u) len (fun i hi => by
      obtain ⟨cs', h1, h2⟩ := hx i (by omega)
      rw [k1] at h1
      obtain ⟨_, hlen, hcell⟩ := World.cells?_some h1
      obtain ⟨v, hv⟩ := trod_view hs hn hk0 hf u0 u1 hlen h2
      have hspot : spot = none := by
        obtain ⟨cz, y1, _⟩ := hx 0 (by omega)
        rw [k1] at y1
        obtain ⟨_, hl0, hc0⟩ := World.cells?_some y1
        have h0 := hc0 0 (by omega)
        rw [List.getElem?_eq_getElem (by omega)] at h0
        have h3 : w.cell? ⟨b, off, spot⟩ = some cz[0] := by simpa [Addr.add] using h0
        exact World.cell?_spot h3
      subst hspot
      have hadd : ∀ j, j < 8 → w.cell? ⟨b, off + 8 * i + j, none⟩ = (viewC v)[j]? := fun j hj => by
        have h3 := hcell j hj
        rw [hv, add_add, e1] at h3
        rw [show off + 8 * i + j = off + (i * 8 + j) from by omega]
        exact h3
      refine ⟨v, rfl, ?_, fun j u hu => ?_⟩
      · exact World.block_lt_of_cell? w _ (hadd 0 (by omega))
      · have hj : j < 8 := by
          rcases Nat.lt_or_ge j 8 with q | q
          · exact q
          · rw [List.getElem?_eq_none (by show 8 ≤ j; exact q)] at hu; cases hu
        exact (hadd j hj).trans hu)
    refine ⟨some ⟨b, off, spot⟩, cap, L, by rw [hL], by omega, fun k hk => ?_⟩
    obtain ⟨rfl, g2, g3⟩ := hLL k hk
    exact ⟨b, off, rfl, g2, g3⟩
theorem open_gsv {r : Reach} {b0 : Nat} {t te tn : TypeId} {g0 g1 g2 g3 f0 f1 f2 f3 n0 n1 : Field} {v : Value} {d : DataW H} {p : List MemPlace} (hg : P.underlying t = some (.struct #[g0, g1, g2, g3])) (hgk : [P.cellsOf t, g0.offset, g1.offset, g2.offset, g3.offset, P.cellsOf g0.type, P.cellsOf g1.type, P.cellsOf g2.type, P.cellsOf g3.type] = [4, 0, 1, 2, 3, 1, 1, 1, 1])
    (v0 : P.underlying g0.type = some (.int .i64)) (v1 : P.underlying g1.type = some (.int .i64)) (v2 : P.underlying g2.type = some (.int .i64)) (v3 : P.underlying g3.type = some (.slice te))
    (hs : P.underlying te = some (.struct #[f0, f1, f2, f3])) (hn : P.underlying tn = some (.struct #[n0, n1]))
    (hk : [P.cellsOf te, f0.offset, f1.offset, f2.offset, f3.offset, P.cellsOf tn, n0.offset, n1.offset, P.cellsOf n0.type, P.cellsOf n1.type] = [8, 0, 2, 4, 6, 2, 0, 1, 1, 1]) (hf : [f0.type, f1.type, f2.type, f3.type] = [tn, tn, tn, tn])
    (u0 : P.underlying n0.type = some .bool) (u1 : P.underlying n1.type = some (.int .i64)) (hv : Value.okWide P w r b0 t v) (h : DataW.Trod enc P w base spare held t v d p) :
    ∃ (T N S : Int) (A : Option Addr) (c : Nat) (L : List V4), v = gsvV T N S A L.length c ∧ L.length ≤ maxLen ∧ Vws w w.heap.size A L := by
  simp only [List.cons.injEq, and_true] at hgk
  obtain ⟨k1, k2, k3, k4, k5, k6, k7, k8, k9⟩ := hgk
  obtain ⟨cs, rfl, hsz⟩ := okWide_struct hg hv
  have h4 : ∃ c0 c1 c2 c3, cs = #[c0, c1, c2, c3] := by
    obtain ⟨l⟩ := cs
    match l, (hsz.trans k1 : l.length = 4) with
    | [a, b, c, d], _ => exact ⟨a, b, c, d, rfl⟩
  obtain ⟨c0, c1, c2, c3, rfl⟩ := h4
  obtain ⟨fuel, hf2⟩ := h
  obtain ⟨y0, y1, y2, y3, n, e0, e1, e2, e3⟩ := trod_struct4 hg hf2
  simp [Value.cells, k2, k3, k4, k5, k6, k7, k8, k9] at e0 e1 e2 e3
  obtain ⟨m0, j0, _⟩ := DataW.trod_int v0 e0
  obtain ⟨m1, j1, _⟩ := DataW.trod_int v1 e1
  obtain ⟨m2, j2, _⟩ := DataW.trod_int v2 e2
  simp at j0 j1 j2
  subst j0 j1 j2
  obtain ⟨A, c, L, rfl, hl, hw⟩ := open_views v3 hs hn hk hf u0 u1 e3
  exact ⟨m0, m1, m2, A, c, L, rfl, hl, hw⟩
end
end Go.Proofs.YteofmahbimkggaaDoor
