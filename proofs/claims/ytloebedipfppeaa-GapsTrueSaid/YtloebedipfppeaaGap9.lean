/- Slices read as flat lists of cells; append to a slice without room. Over any program. -/
import Derived.Test.YtloebedipfppeaaGap8
import Derived.Deep.Upon
import Derived.ArgAppend
namespace Go.Proofs.Ytloebedipfppeaa
set_option linter.unusedVariables false
open Go.RowKit

/-- A slice's cells, as a list. -/
def FlatS (w : World) (B : Nat) (A : Option Addr) (xs : List Value) : Prop := ∀ (j : Nat) u, xs[j]? = some u → ∃ b off, A = some ⟨b, off, none⟩ ∧ b < B ∧ w.cell? ⟨b, off + j, none⟩ = some u
theorem FlatS.below {w w' : World} {B B' : Nat} {A : Option Addr} {xs : List Value} (h : FlatS w B A xs) (hb : Below B' w w') (hB : B ≤ B') : FlatS w' B A xs := fun j u hu => by
  obtain ⟨b, off, h1, h2, h3⟩ := h j u hu
  exact ⟨b, off, h1, h2, (hb.cell (p := ⟨b, off + j, none⟩) (by show b < B'; omega)).trans h3⟩
theorem FlatS.more {w : World} {B B' : Nat} {A : Option Addr} {xs : List Value} (h : FlatS w B A xs) (hB : B ≤ B') : FlatS w B' A xs := fun j u hu => by
  obtain ⟨b, off, h1, h2, h3⟩ := h j u hu
  exact ⟨b, off, h1, Nat.lt_of_lt_of_le h2 hB, h3⟩
theorem FlatS.nil (w : World) (B : Nat) (A : Option Addr) : FlatS w B A [] := fun j u hu => by simp at hu
theorem FlatS.lns {w : World} {B : Nat} {A : Option Addr} {l : List Ln} (h : FlatS w B A (lnsC l)) : Lns w B A l := fun k hk => by
  have hu : ∀ (j : Nat) u, (lnL l[k])[j]? = some u → (lnsC l)[5 * k + j]? = some u := fun j u hu => by
    have hj : j < 5 := by
      rcases Nat.lt_or_ge j 5 with q | q
      · exact q
      · rw [List.getElem?_eq_none (by show 5 ≤ j; exact q)] at hu; cases hu
    rw [lnsC_get l k j hk hj]
    exact hu
  obtain ⟨b, off, h1, h2, -⟩ := h _ _ (hu 0 _ rfl)
  refine ⟨b, off, h1, h2, fun j u hj => ?_⟩
  obtain ⟨b', off', h1', h2', h3'⟩ := h _ _ (hu j u hj)
  rw [h1] at h1'
  injection h1' with h1'
  injection h1' with e1 e2
  subst e1 e2
  rw [Nat.add_assoc]
  exact h3'
theorem Lns.flat {w : World} {B : Nat} {A : Option Addr} {l : List Ln} (h : Lns w B A l) : FlatS w B A (lnsC l) := fun j u hu => by
  have hj : j < (lnsC l).length := by
    rcases Nat.lt_or_ge j (lnsC l).length with q | q
    · exact q
    · rw [List.getElem?_eq_none q] at hu; cases hu
  rw [lnsC_len] at hj
  have hk : j / 5 < l.length := by omega
  obtain ⟨b, off, h1, h2, h3⟩ := h (j / 5) hk
  refine ⟨b, off, h1, h2, ?_⟩
  have e : 5 * (j / 5) + j % 5 = j := by omega
  have := h3 (j % 5) u (by rw [← lnsC_get l (j / 5) (j % 5) hk (by omega), e]; exact hu)
  rw [Nat.add_assoc, e] at this
  exact this
theorem addr_add (b off j : Nat) : (⟨b, off, none⟩ : Addr).add j = ⟨b, off + j, none⟩ := by unfold Addr.add; split <;> simp_all
theorem flat_own {w : World} {base : Nat} {e : TypeId} {size n : Nat} {v : Value} {xs : List Value} (h : w.ownsRow base e size v n xs) : ∃ A c, v = .slice A n c ∧ n ≤ c ∧ FlatS w w.heap.size A xs ∧ FreshA base A ∧ (A = none → n = 0 ∧ c = 0) := by
  rcases h.2 with ⟨hv, h0⟩ | ⟨g, cap, cur, hv, hb, hg, hcap, -⟩
  · have hx : xs = [] := List.eq_nil_of_length_eq_zero (by rw [h.1, h0]; simp)
    exact ⟨none, 0, by rw [hv, h0], by omega, by rw [hx]; exact FlatS.nil _ _ _, FreshA.none_, fun _ => ⟨h0, rfl⟩⟩
  · subst hv
    exact ⟨some ⟨g, 0, none⟩, cap, rfl, hcap, fun j u hu => ⟨g, 0, rfl, (Array.getElem?_eq_some_iff.1 hg).1, by have := h.cells (g := g) rfl j u hu; rw [addr_add] at this; exact this⟩, fun a ha => by injection ha with ha; rw [← ha]; exact hb, fun q => by cases q⟩
/-- 'append' to a slice that has no room for so much: what comes is a row of the call's own; where nothing is appended, the slice itself. -/
theorem wpList_append_full {P : Program} (w : World) {ops : Array Oper} {rest : List Oper} {o : Oper} {a : Act} {Q : Exit → Act → World → Prop}
    (hg : o.guard = none) (s x : Operand) (t : TypeId) (hop : o.op = Op.call { callee := Callee.builtin Builtin.append, args := #[s, x], argTypes := #[t, t] })
    (e : TypeId) (i : TypeInfo) (z : Value) (size bytes : Nat) (h1 : P.underlying t = some (.slice e)) (h2 : P.info? e = some i) (h3 : i.zero = some z) (h4 : i.size = size) (h5 : i.bytes = bytes) (h6 : z.cells.size = size) (h7 : 0 < size)
    (A : Option Addr) (n cap : Nat) (olds : List Value) (hs : a.eval s = .slice A n cap) (hnone : A = none → n = 0 ∧ cap = 0) (hcap : n ≤ cap) (hlo : olds.length = n * size) (holds : FlatS w w.heap.size A olds)
    (X : Option Addr) (m c : Nat) (news : List Value) (hx : a.eval x = .slice X m c) (hn : news.length = m * size) (hc : FlatS w w.heap.size X news) (h1c : ∀ u ∈ news, u.oneCell' = true)
    (hfull : m = 0 ∨ cap < n + m) (b1 : n + m ≤ maxLen) (b2 : (n + m) * bytes ≤ 140737488355328)
    (hK : ∀ B cap' w', n + m ≤ cap' → (B = none → n + m = 0 ∧ cap' = 0) → FlatS w' w'.heap.size B (olds ++ news) → (m = 0 ∧ B = A ∧ w' = w ∨ 0 < m ∧ w'.ownsRow w.heap.size e size (.slice B (n + m) cap') (n + m) (olds ++ news)) → w.grownBy w' none → wpList P ops Q rest (a.put o.dst (.slice B (n + m) cap')) w') :
    wpList P ops Q (o :: rest) a w := by
  by_cases hm : m = 0
  · subst hm
    obtain rfl : news = [] := List.eq_nil_of_length_eq_zero (by rw [hn]; simp)
    refine wpList_plain hg fun K hK' => ?_
    have hrun := run_append_nothing (P := P) w t t o.type e i h1 h2 A n cap hcap (.slice X 0 c) ⟨.inl ⟨e, h1⟩, fun w' => by simp [Builtin.lenOf], by cases X <;> simp [Builtin.firstCells, h4, loadCells, loadCellsFrom], by cases X <;> simp [Builtin.firstCells, h4, loadCells, loadCellsFrom], by simp, fun u hu => by cases hu⟩
    unfold Oper.wp
    simp [execOp, hop, resolve, invoke, builtin, hs, hx, hrun, Result.andThen]
    refine hK' _ _ (hK A cap w hcap hnone (by rw [List.append_nil]; exact holds) (.inl ⟨rfl, rfl, rfl⟩) ⟨rfl, rfl, rfl, Nat.le_refl _, fun _ _ _ => rfl⟩)
  · have hpos : 0 < news.length := by rw [hn]; exact Nat.mul_pos (by omega) h7
    obtain ⟨xb, xo, hX, -, -⟩ := hc 0 news[0] (List.getElem?_eq_getElem hpos)
    subst hX
    refine wpList_append_grows (P := P) w hg s x t hop e i z size bytes h1 h2 h3 h4 h5 h6 h7 A n cap olds hs hnone hlo (fun b hb j u hu => ?_) ⟨xb, xo, none⟩ m c news hx hn (fun j u hu => ?_) h1c (hfull.resolve_left hm) b1 b2 (fun v' w' hown hgrow => ?_)
    · obtain ⟨b', off, e1, -, e3⟩ := holds j u hu
      rw [e1] at hb
      injection hb with hb
      subst hb
      rw [addr_add]
      exact e3
    · obtain ⟨b', off, e1, -, e3⟩ := hc j u hu
      injection e1 with e1
      injection e1 with e1 e2
      subst e1 e2
      rw [addr_add]
      exact e3
    · obtain ⟨B, cap', rfl, hc1, hfl, -, hno⟩ := flat_own hown
      exact hK B cap' w' hc1 hno hfl (.inr ⟨by omega, hown⟩) hgrow
end Go.Proofs.Ytloebedipfppeaa
