/- Arguments opened: numbers and columns. -/
import Derived.Test.YtpaejoikfnmdhaaDoorBas
import Derived.Test.YtpaejoikfnmdhaaDoorProg
import Derived.ProofKit
import Derived.Lib.SmallJoins
namespace Go.Proofs.YtpaejoikfnmdhaaDoor
set_option linter.unusedVariables false
open Go.ChangeShapes Go.WideShapes Go.ChangeAt Go.RowKit Go.Joins Go.Deep

section
variable {H : Type} {enc : TypeId × Value → H} {P : Program} {w : World} {base : Nat} {spare : Nat → Bool} {held : Bool}

theorem trod_struct5 {t : TypeId} {f0 f1 f2 f3 f4 : Field} {fuel : Nat} {cs : List Value} {x : DataW H × List MemPlace} (ht : P.underlying t = some (.struct #[f0, f1, f2, f3, f4])) (h : DataW.trod enc P w base spare held fuel t cs = some x) :
    ∃ y0 y1 y2 y3 y4 n, DataW.trod enc P w base spare held n f0.type ((cs.drop f0.offset).take (P.cellsOf f0.type)) = some y0 ∧
      DataW.trod enc P w base spare held n f1.type ((cs.drop f1.offset).take (P.cellsOf f1.type)) = some y1 ∧ DataW.trod enc P w base spare held n f2.type ((cs.drop f2.offset).take (P.cellsOf f2.type)) = some y2 ∧
      DataW.trod enc P w base spare held n f3.type ((cs.drop f3.offset).take (P.cellsOf f3.type)) = some y3 ∧ DataW.trod enc P w base spare held n f4.type ((cs.drop f4.offset).take (P.cellsOf f4.type)) = some y4 := by
  obtain ⟨xs, n, _, rfl, hl, hlen, hf⟩ := DataW.trod_struct ht h
  match xs, hlen with
  | [y0, y1, y2, y3, y4], _ => exact ⟨y0, y1, y2, y3, y4, n, by simpa using hf 0 f0 rfl, by simpa using hf 1 f1 rfl, by simpa using hf 2 f2 rfl, by simpa using hf 3 f3 rfl, by simpa using hf 4 f4 rfl⟩
theorem array5 {α : Type} {cs : Array α} (h : cs.size = 5) : ∃ c0 c1 c2 c3 c4, cs = #[c0, c1, c2, c3, c4] := by
  obtain ⟨l⟩ := cs
  match l, h with
  | [a, b, c, d, e], _ => exact ⟨a, b, c, d, e, rfl⟩

/-- A number by value. -/
theorem open_num {r : Reach} {b0 : Nat} {t : TypeId} {n0 n1 : Field} {v : Value} {d : DataW H} {p : List MemPlace} (hs : P.underlying t = some (.struct #[n0, n1])) (hone : oneCellFields P #[n0, n1] = true) (hC : P.cellsOf t = 2)
    (h0 : P.underlying n0.type = some .bool) (h1 : P.underlying n1.type = some (.int .i64))
    (hv : Value.okWide P w r b0 t v) (h : DataW.Trod enc P w base spare held t v d p) :
    ∃ (b : Bool) (n : Int), v = .agg #[.bool b, .int .i64 n] ∧ -9223372036854775808 ≤ n ∧ n ≤ 9223372036854775807 := by
  obtain ⟨v0, v1, y0, y1, n, rfl, _, _, e0, e1⟩ := open_agg2 hs hone hC hv h
  obtain ⟨b, k0, _⟩ := DataW.trod_bool h0 e0
  obtain ⟨m, k1, _, hw⟩ := DataW.trod_int h1 e1
  simp at k0 k1
  subst k0 k1
  have hmin : IntKind.i64.min = -9223372036854775808 := rfl
  have hmax : IntKind.i64.max = 9223372036854775807 := rfl
  simp only [Lit.wf, Bool.and_eq_true, decide_eq_true_eq] at hw
  exact ⟨b, m, rfl, by omega, by omega⟩

/-- A column by value. -/
theorem open_col {r : Reach} {b0 : Nat} {t : TypeId} {n0 n1 n2 n3 n4 : Field} {v : Value} {d : DataW H} {p : List MemPlace} (hs : P.underlying t = some (.struct #[n0, n1, n2, n3, n4])) (hone : oneCellFields P #[n0, n1, n2, n3, n4] = true) (hC : P.cellsOf t = 5)
    (h0 : P.underlying n0.type = some (.int .i64)) (h1 : P.underlying n1.type = some (.int .i64)) (h2 : P.underlying n2.type = some (.int .i64)) (h3 : P.underlying n3.type = some (.int .i64)) (h4 : P.underlying n4.type = some (.int .i64))
    (hv : Value.okWide P w r b0 t v) (h : DataW.Trod enc P w base spare held t v d p) :
    ∃ (a b c d e : Int), v = .agg #[.int .i64 a, .int .i64 b, .int .i64 c, .int .i64 d, .int .i64 e] := by
  obtain ⟨cs, rfl, hsz⟩ := okWide_struct hs hv
  obtain ⟨c0, c1, c2, c3, c4, rfl⟩ := array5 (hsz.trans hC)
  obtain ⟨fuel, hf⟩ := h
  obtain ⟨y0, y1, y2, y3, y4, n, e0, e1, e2, e3, e4⟩ := trod_struct5 hs hf
  obtain ⟨o0, k0⟩ := hone_of hone 0 n0 rfl
  obtain ⟨o1, k1⟩ := hone_of hone 1 n1 rfl
  obtain ⟨o2, k2⟩ := hone_of hone 2 n2 rfl
  obtain ⟨o3, k3⟩ := hone_of hone 3 n3 rfl
  obtain ⟨o4, k4⟩ := hone_of hone 4 n4 rfl
  obtain ⟨m0, j0, _⟩ := DataW.trod_int h0 (cs := [c0]) (by simpa [Value.cells, o0, k0] using e0)
  obtain ⟨m1, j1, _⟩ := DataW.trod_int h1 (cs := [c1]) (by simpa [Value.cells, o1, k1] using e1)
  obtain ⟨m2, j2, _⟩ := DataW.trod_int h2 (cs := [c2]) (by simpa [Value.cells, o2, k2] using e2)
  obtain ⟨m3, j3, _⟩ := DataW.trod_int h3 (cs := [c3]) (by simpa [Value.cells, o3, k3] using e3)
  obtain ⟨m4, j4, _⟩ := DataW.trod_int h4 (cs := [c4]) (by simpa [Value.cells, o4, k4] using e4)
  simp at j0 j1 j2 j3 j4
  subst j0 j1 j2 j3 j4
  exact ⟨m0, m1, m2, m3, m4, rfl⟩
end
end Go.Proofs.YtpaejoikfnmdhaaDoor
