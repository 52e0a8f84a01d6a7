/- Arguments opened: numbers and columns. -/
import Derived.Test.YteofmahbimkggaaDoorMa
import Derived.Test.YteofmahbimkggaaDoorProg
import Derived.ProofKit
import Derived.Lib.SmallJoins
import Derived.Deep.Slices
import Derived.SliceStrings
namespace Go.Proofs.YteofmahbimkggaaDoor
set_option linter.unusedVariables false
open Go.ChangeShapes Go.WideShapes Go.ChangeAt Go.RowKit Go.Joins Go.Deep

section
variable {H : Type} {enc : TypeId × Value → H} {P : Program} {w : World} {base : Nat} {spare : Nat → Bool} {held : Bool}

theorem trod_struct5 {t : TypeId} {f0 f1 f2 f3 f4 : Field} {fuel : Nat} {cs : List Value} {x : DataW H × List MemPlace} (ht : P.underlying t = some (.struct #[f0, f1, f2, f3, f4])) (h : DataW.trod enc P w base spare held fuel t cs = some x) :
    ∃ y0 y1 y2 y3 y4 n, DataW.trod enc P w base spare held n f0.type ((cs.drop f0.offset).take (P.cellsOf f0.type)) = some y0 ∧
      DataW.trod enc P w base spare held n f1.type ((cs.drop f1.offset).take (P.cellsOf f1.type)) = some y1 ∧ DataW.trod enc P w base spare held n f2.type ((cs.drop f2.offset).take (P.cellsOf f2.type)) = some y2 ∧
      DataW.trod enc P w base spare held n f3.type ((cs.drop f3.offset).take (P.cellsOf f3.type)) = some y3 ∧ DataW.trod enc P w base spare held n f4.type ((cs.drop f4.offset).take (P.cellsOf f4.type)) = some y4 := by
  obtain ⟨xs, n, _, rfl, hl, hlen, hf⟩ := DataW.trod_struct ht h
  match xs, hlen with
  | [y0, y1, y2, y3, y4], _ => exact ⟨y0, y1, y2, y3, y4, n, by simpa using hf 0 f0 rfl, by simpa using hf 1 f1 rfl, by simpa using hf 2 f2 rfl, by simpa using hf 3 f3 rfl, by simpa using hf 4 f4 rfl⟩
theorem array5 {α : Type} {cs : Array α} (h : cs.size = 5) : ∃ c0 c1 c2 c3 c4, cs = #[c0, c1, c2, c3, c4] := by
  obtain ⟨l⟩ := cs
  match l, h with
  | [a, b, c, d, e], _ => exact ⟨a, b, c, d, e, rfl⟩

/-- A number by value. -/
theorem open_num {r : Reach} {b0 : Nat} {t : TypeId} {n0 n1 : Field} {v : Value} {d : DataW H} {p : List MemPlace} (hs : P.underlying t = some (.struct #[n0, n1])) (hone : oneCellFields P #[n0, n1] = true) (hC : P.cellsOf t = 2)
    (h0 : P.underlying n0.type = some .bool) (h1 : P.underlying n1.type = some (.int .i64))
    (hv : Value.okWide P w r b0 t v) (h : DataW.Trod enc P w base spare held t v d p) :
    ∃ (b : Bool) (n : Int), v = .agg #[.bool b, .int .i64 n] ∧ -9223372036854775808 ≤ n ∧ n ≤ 9223372036854775807 := by
  obtain ⟨v0, v1, y0, y1, n, rfl, _, _, e0, e1⟩ := open_agg2 hs hone hC hv h
  obtain ⟨b, k0, _⟩ := DataW.trod_bool h0 e0
  obtain ⟨m, k1, _, hw⟩ := DataW.trod_int h1 e1
  simp at k0 k1
  subst k0 k1
  have hmin : IntKind.i64.min = -9223372036854775808 := rfl
  have hmax : IntKind.i64.max = 9223372036854775807 := rfl
  simp only [Lit.wf, Bool.and_eq_true, decide_eq_true_eq] at hw
  exact ⟨b, m, rfl, by omega, by omega⟩

/-- A column by value. -/
theorem open_col {r : Reach} {b0 : Nat} {t : TypeId} {n0 n1 n2 n3 n4 : Field} {v : Value} {d : DataW H} {p : List MemPlace} (hs : P.underlying t = some (.struct #[n0, n1, n2, n3, n4])) (hone : oneCellFields P #[n0, n1, n2, n3, n4] = true) (hC : P.cellsOf t = 5)
    (h0 : P.underlying n0.type = some (.int .i64)) (h1 : P.underlying n1.type = some (.int .i64)) (h2 : P.underlying n2.type = some (.int .i64)) (h3 : P.underlying n3.type = some (.int .i64)) (h4 : P.underlying n4.type = some (.int .i64))
    (hv : Value.okWide P w r b0 t v) (h : DataW.Trod enc P w base spare held t v d p) :
    ∃ (a b c d e : Int), v = .agg #[.int .i64 a, .int .i64 b, .int .i64 c, .int .i64 d, .int .i64 e] := by
  obtain ⟨cs, rfl, hsz⟩ := okWide_struct hs hv
  obtain ⟨c0, c1, c2, c3, c4, rfl⟩ := array5 (hsz.trans hC)
  obtain ⟨fuel, hf⟩ := h
  obtain ⟨y0, y1, y2, y3, y4, n, e0, e1, e2, e3, e4⟩ := trod_struct5 hs hf
  obtain ⟨o0, k0⟩ := hone_of hone 0 n0 rfl
  obtain ⟨o1, k1⟩ := hone_of hone 1 n1 rfl
  obtain ⟨o2, k2⟩ := hone_of hone 2 n2 rfl
  obtain ⟨o3, k3⟩ := hone_of hone 3 n3 rfl
  obtain ⟨o4, k4⟩ := hone_of hone 4 n4 rfl
  obtain ⟨m0, j0, _⟩ := DataW.trod_int h0 (cs := [c0]) (by simpa [Value.cells, o0, k0] using e0)
  obtain ⟨m1, j1, _⟩ := DataW.trod_int h1 (cs := [c1]) (by simpa [Value.cells, o1, k1] using e1)
  obtain ⟨m2, j2, _⟩ := DataW.trod_int h2 (cs := [c2]) (by simpa [Value.cells, o2, k2] using e2)
  obtain ⟨m3, j3, _⟩ := DataW.trod_int h3 (cs := [c3]) (by simpa [Value.cells, o3, k3] using e3)
  obtain ⟨m4, j4, _⟩ := DataW.trod_int h4 (cs := [c4]) (by simpa [Value.cells, o4, k4] using e4)
  simp at j0 j1 j2 j3 j4
  subst j0 j1 j2 j3 j4
  exact ⟨m0, m1, m2, m3, m4, rfl⟩
end
end Go.Proofs.YteofmahbimkggaaDoor

/- Arguments opened: calls of pens and eyes. -/
namespace Go.Proofs.YteofmahbimkggaaDoor
set_option linter.unusedVariables false
open Go.ChangeShapes Go.WideShapes Go.ChangeAt Go.RowKit Go.Joins Go.Deep

/-- A call: what its eleven cells hold. -/
structure OpD where
  kind : Int
  b : Bool
  n : Int
  W : Int
  M : Int
  F : Int
  L : Int
  H : Int
  lat : Bool
  s : ByteArray
  e : Int
def OpD.vals (d : OpD) : List Value := [.int .i64 d.kind, .bool d.b, .int .i64 d.n, .int .i64 d.W, .int .i64 d.M, .int .i64 d.F, .int .i64 d.L, .int .i64 d.H, .bool d.lat, .string d.s, .int .i64 d.e]
/-- The calls that came in. -/
def Ops (w : World) (B : Nat) (A : Option Addr) (n : Nat) : Prop :=
  ∀ i, i < n → ∃ (b off : Nat) (d : OpD), A = some ⟨b, off, none⟩ ∧ b < B ∧ d.s.size ≤ maxLen ∧ ∀ j u, d.vals[j]? = some u → w.cell? ⟨b, off + 11 * i + j, none⟩ = some u
theorem Ops.below {w w' : World} {B B' : Nat} {A : Option Addr} {n : Nat} (h : Ops w B A n) (hb : Below B' w w') (hB : B ≤ B') : Ops w' B A n := by
  intro i hi
  obtain ⟨b, off, d, h1, h2, h3, h4⟩ := h i hi
  exact ⟨b, off, d, h1, h2, h3, fun j u hu => (hb.cell (p := ⟨b, off + 11 * i + j, none⟩) (by show b < B'; omega)).trans (h4 j u hu)⟩

section
variable {H : Type} {enc : TypeId × Value → H} {P : Program} {w : World} {base : Nat} {spare : Nat → Bool} {held : Bool}

theorem open_ops {t e : TypeId} {f0 f1 f2 f3 f4 f5 n0 n1 c0 c1 c2 c3 c4 : Field} {fuel : Nat} {v : Value} {x : DataW H × List MemPlace} (ht : P.underlying t = some (.slice e)) (he : P.underlying e = some (.struct #[f0, f1, f2, f3, f4, f5]))
    (hn : P.underlying f1.type = some (.struct #[n0, n1])) (hc : P.underlying f2.type = some (.struct #[c0, c1, c2, c3, c4]))
    (hk : [P.cellsOf e, f0.offset, f1.offset, f2.offset, f3.offset, f4.offset, f5.offset, P.cellsOf f0.type, P.cellsOf f1.type, P.cellsOf f2.type, P.cellsOf f3.type, P.cellsOf f4.type, P.cellsOf f5.type, n0.offset, n1.offset, P.cellsOf n0.type, P.cellsOf n1.type, c0.offset, c1.offset, c2.offset, c3.offset, c4.offset, P.cellsOf c0.type, P.cellsOf c1.type, P.cellsOf c2.type, P.cellsOf c3.type, P.cellsOf c4.type] = [11, 0, 1, 3, 8, 9, 10, 1, 2, 5, 1, 1, 1, 0, 1, 1, 1, 0, 1, 2, 3, 4, 1, 1, 1, 1, 1])
    (t0 : P.underlying f0.type = some (.int .i64)) (t3 : P.underlying f3.type = some .bool) (t4 : P.underlying f4.type = some .string) (t5 : P.underlying f5.type = some (.int .i64)) (u0 : P.underlying n0.type = some .bool) (u1 : P.underlying n1.type = some (.int .i64))
    (s0 : P.underlying c0.type = some (.int .i64)) (s1 : P.underlying c1.type = some (.int .i64)) (s2 : P.underlying c2.type = some (.int .i64)) (s3 : P.underlying c3.type = some (.int .i64)) (s4 : P.underlying c4.type = some (.int .i64))
    (h : DataW.trod enc P w base spare held fuel t [v] = some x) :
    ∃ (A : Option Addr) (c n : Nat), v = .slice A n c ∧ n ≤ maxLen ∧ Ops w w.heap.size A n := by
  simp only [List.cons.injEq, and_true] at hk
  obtain ⟨k1, k2, k3, k4, k5, k6, k7, k8, k9, k10, k11, k12, k13, k14, k15, k16, k17, k18, k19, k20, k21, k22, k23, k24, k25, k26, k27⟩ := hk
  rcases open_slice ht h with ⟨hcs, _⟩ | ⟨a, len, cap, m, n, D, Pl, hcs, _, hl, hm, hmm, _, hx⟩
  · simp at hcs
    subst hcs
    exact ⟨none, 0, 0, rfl, Nat.zero_le _, fun i hi => absurd hi (Nat.not_lt_zero _)⟩
  · simp at hcs
    subst hcs
    have hlm : len ≤ m := by rw [hmm]; split <;> omega
    refine ⟨some a, cap, len, rfl, by omega, fun i hi => ?_⟩
    obtain ⟨cs', h1, h2⟩ := hx i (by omega)
    rw [k1] at h1
    obtain ⟨_, hlen, hcell⟩ := World.cells?_some h1
    obtain ⟨xs, k, _, _, _, hxl, hf⟩ := DataW.trod_struct he h2
    match xs, hxl, cs', hlen with
    | [y0, y1, y2, y3, y4, y5], _, [v0, v1, v2, v3, v4, v5, v6, v7, v8, v9, v10], _ =>
      have g0 := hf 0 f0 rfl
      have g1 := hf 1 f1 rfl
      have g2 := hf 2 f2 rfl
      have g3 := hf 3 f3 rfl
      have g4 := hf 4 f4 rfl
      have g5 := hf 5 f5 rfl
      simp [k2, k3, k4, k5, k6, k7, k8, k9, k10, k11, k12, k13] at g0 g1 g2 g3 g4 g5
      obtain ⟨z0, q0, _⟩ := DataW.trod_int t0 g0
      obtain ⟨z3, q3, _⟩ := DataW.trod_bool t3 g3
      obtain ⟨z4, q4, _, hz4⟩ := DataW.trod_string t4 g4
      obtain ⟨z5, q5, _⟩ := DataW.trod_int t5 g5
      obtain ⟨_, _, _, _, _, a0, a1⟩ := trod_struct2 hn g1
      simp [k14, k15, k16, k17] at a0 a1
      obtain ⟨m0, p0, _⟩ := DataW.trod_bool u0 a0
      obtain ⟨m1, p1, _⟩ := DataW.trod_int u1 a1
      obtain ⟨_, _, _, _, _, _, d0, d1, d2, d3, d4⟩ := trod_struct5 hc g2
      simp [k18, k19, k20, k21, k22, k23, k24, k25, k26, k27] at d0 d1 d2 d3 d4
      obtain ⟨r0, w0, _⟩ := DataW.trod_int s0 d0
      obtain ⟨r1, w1, _⟩ := DataW.trod_int s1 d1
      obtain ⟨r2, w2, _⟩ := DataW.trod_int s2 d2
      obtain ⟨r3, w3, _⟩ := DataW.trod_int s3 d3
      obtain ⟨r4, w4, _⟩ := DataW.trod_int s4 d4
      simp at q0 q3 q4 q5 p0 p1 w0 w1 w2 w3 w4
      subst q0 q3 q4 q5 p0 p1 w0 w1 w2 w3 w4
      obtain ⟨b, off, spot⟩ := a
      have hadd : ∀ j, j < 11 → w.cell? ((⟨b, off, spot⟩ : Addr).add (i * 11 + j)) = ([Value.int .i64 z0, .bool m0, .int .i64 m1, .int .i64 r0, .int .i64 r1, .int .i64 r2, .int .i64 r3, .int .i64 r4, .bool z3, .string z4, .int .i64 z5] : List Value)[j]? := fun j hj => by
        have := hcell j hj
        rw [← add_add]
        exact this
      have hspot : spot = none := by
        obtain ⟨cz, y1, _⟩ := hx 0 (by omega)
        rw [k1] at y1
        obtain ⟨_, hl0, hc0⟩ := World.cells?_some y1
        have h0 := hc0 0 (by omega)
        rw [List.getElem?_eq_getElem (by omega)] at h0
        have h3 : w.cell? ⟨b, off, spot⟩ = some cz[0] := by simpa [Addr.add] using h0
        exact World.cell?_spot h3
      subst hspot
      have e1 : ∀ j, (⟨b, off, none⟩ : Addr).add j = ⟨b, off + j, none⟩ := fun j => by unfold Addr.add; split <;> simp_all
      refine ⟨b, off, ⟨z0, m0, m1, r0, r1, r2, r3, r4, z3, z4, z5⟩, rfl, ?_, hz4, fun j u hu => ?_⟩
      · have h0 := hadd 0 (by omega)
        rw [e1] at h0
        exact World.block_lt_of_cell? w _ h0
      · have hj : j < 11 := by
          rcases Nat.lt_or_ge j 11 with q | q
          · exact q
          · rw [List.getElem?_eq_none (by show 11 ≤ j; exact q)] at hu; cases hu
        have h0 := hadd j hj
        rw [e1] at h0
        rw [show off + 11 * i + j = off + (i * 11 + j) from by omega, h0]
        exact hu
end
end Go.Proofs.YteofmahbimkggaaDoor

/- Arguments opened: slices of texts, of which none has room. -/
namespace Go.Proofs.YteofmahbimkggaaDoor
set_option linter.unusedVariables false
open Go.ChangeShapes Go.WideShapes Go.ChangeAt Go.RowKit Go.Joins Go.Deep

section
variable {H : Type} {enc : TypeId × Value → H} {P : Program} {w : World} {base : Nat} {spare : Nat → Bool} {held : Bool}

/-- A slice of texts that came in: its list. -/
theorem open_strs2 {t e : TypeId} {fuel : Nat} {v : Value} {x : DataW H × List MemPlace} (ht : P.underlying t = some (.slice e)) (he : P.underlying e = some .string) (hc : P.cellsOf e = 1)
    (h : DataW.trod enc P w base spare held fuel t [v] = some x) :
    ∃ (A : Option Addr) (c : Nat) (fs : List ByteArray), v = .slice A fs.length c ∧ (A = none → c = 0) ∧ fs.length ≤ maxLen ∧ Strs w w.heap.size A fs ∧ ∀ f ∈ fs, f.size ≤ maxLen := by
  rcases open_strings ht he hc h with ⟨hcs, _⟩ | ⟨a, len, cap, ss, hcs, _, hl, hm, hz, _, hcell, hws⟩
  · simp at hcs
    subst hcs
    exact ⟨none, 0, [], rfl, fun _ => rfl, by simp, fun k hk => absurd hk (by simp), fun f hf => absurd hf (by simp)⟩
  · simp at hcs
    subst hcs
    have hlen : len ≤ ss.length := by split at hz <;> omega
    have hl2 : (ss.take len).length = len := by simp; omega
    refine ⟨some a, cap, ss.take len, by rw [hl2], fun q => (by cases q), by rw [hl2]; omega, ?_, fun f hf => hws f (List.mem_of_mem_take hf)⟩
    intro k hk
    rw [hl2] at hk
    have hck := hcell k (by omega)
    have hge : ss.getD k ByteArray.empty = (ss.take len)[k]'(by rw [hl2]; exact hk) := by
      rw [List.getElem_take, List.getD, List.getElem?_eq_getElem (by omega)]
      rfl
    rw [hge] at hck
    obtain ⟨b, off, spot⟩ := a
    have hspot : spot = none := by
      have h0 := hcell 0 (by omega)
      exact World.cell?_spot h0
    subst hspot
    have hadd : (⟨b, off, none⟩ : Addr).add k = ⟨b, off + k, none⟩ := by
      unfold Addr.add
      split <;> simp_all
    rw [hadd] at hck
    exact ⟨b, off, rfl, World.block_lt_of_cell? w _ hck, hck⟩

end
end Go.Proofs.YteofmahbimkggaaDoor

/- Arguments opened: messages of four numbers. -/
namespace Go.Proofs.YteofmahbimkggaaDoor
set_option linter.unusedVariables false
open Go.ChangeShapes Go.WideShapes Go.ChangeAt Go.RowKit Go.Joins Go.Deep

section
variable {H : Type} {enc : TypeId × Value → H} {P : Program} {w : World} {base : Nat} {spare : Nat → Bool} {held : Bool}

theorem trod_struct4 {t : TypeId} {f0 f1 f2 f3 : Field} {fuel : Nat} {cs : List Value} {x : DataW H × List MemPlace} (ht : P.underlying t = some (.struct #[f0, f1, f2, f3])) (h : DataW.trod enc P w base spare held fuel t cs = some x) :
    ∃ y0 y1 y2 y3 n, DataW.trod enc P w base spare held n f0.type ((cs.drop f0.offset).take (P.cellsOf f0.type)) = some y0 ∧
      DataW.trod enc P w base spare held n f1.type ((cs.drop f1.offset).take (P.cellsOf f1.type)) = some y1 ∧ DataW.trod enc P w base spare held n f2.type ((cs.drop f2.offset).take (P.cellsOf f2.type)) = some y2 ∧
      DataW.trod enc P w base spare held n f3.type ((cs.drop f3.offset).take (P.cellsOf f3.type)) = some y3 := by
  obtain ⟨xs, n, _, rfl, hl, hlen, hf⟩ := DataW.trod_struct ht h
  match xs, hlen with
  | [y0, y1, y2, y3], _ => exact ⟨y0, y1, y2, y3, n, by simpa using hf 0 f0 rfl, by simpa using hf 1 f1 rfl, by simpa using hf 2 f2 rfl, by simpa using hf 3 f3 rfl⟩
theorem array8 {α : Type} {cs : Array α} (h : cs.size = 8) : ∃ c0 c1 c2 c3 c4 c5 c6 c7, cs = #[c0, c1, c2, c3, c4, c5, c6, c7] := by
  obtain ⟨l⟩ := cs
  match l, h with
  | [a, b, c, d, e, f, g, i], _ => exact ⟨a, b, c, d, e, f, g, i, rfl⟩
/-- The two cells of a number. -/
theorem trod_num {t : TypeId} {n0 n1 : Field} {fuel : Nat} {c0 c1 : Value} {x : DataW H × List MemPlace} (hn : P.underlying t = some (.struct #[n0, n1])) (k0 : n0.offset = 0) (k1 : n1.offset = 1) (k2 : P.cellsOf n0.type = 1) (k3 : P.cellsOf n1.type = 1)
    (u0 : P.underlying n0.type = some .bool) (u1 : P.underlying n1.type = some (.int .i64)) (h : DataW.trod enc P w base spare held fuel t [c0, c1] = some x) : ∃ (b : Bool) (n : Int), c0 = .bool b ∧ c1 = .int .i64 n := by
  obtain ⟨_, _, _, _, _, a0, a1⟩ := trod_struct2 hn h
  simp [k0, k1, k2, k3] at a0 a1
  obtain ⟨m0, p0, _⟩ := DataW.trod_bool u0 a0
  obtain ⟨m1, p1, _⟩ := DataW.trod_int u1 a1
  simp at p0 p1
  exact ⟨m0, m1, p0, p1⟩

theorem open_vtg {r : Reach} {b0 : Nat} {t tn : TypeId} {f0 f1 f2 f3 n0 n1 : Field} {v : Value} {d : DataW H} {p : List MemPlace} (hs : P.underlying t = some (.struct #[f0, f1, f2, f3])) (hn : P.underlying tn = some (.struct #[n0, n1]))
    (hk : [P.cellsOf t, f0.offset, f1.offset, f2.offset, f3.offset, P.cellsOf tn, n0.offset, n1.offset, P.cellsOf n0.type, P.cellsOf n1.type] = [8, 0, 2, 4, 6, 2, 0, 1, 1, 1]) (ht : [f0.type, f1.type, f2.type, f3.type] = [tn, tn, tn, tn])
    (u0 : P.underlying n0.type = some .bool) (u1 : P.underlying n1.type = some (.int .i64)) (hv : Value.okWide P w r b0 t v) (h : DataW.Trod enc P w base spare held t v d p) :
    ∃ (b0 : Bool) (n0 : Int) (b1 : Bool) (n1 : Int) (b2 : Bool) (n2 : Int) (b3 : Bool) (n3 : Int), v = .agg #[.bool b0, .int .i64 n0, .bool b1, .int .i64 n1, .bool b2, .int .i64 n2, .bool b3, .int .i64 n3] := by
  simp only [List.cons.injEq, and_true] at hk ht
  obtain ⟨k1, k2, k3, k4, k5, k6, k7, k8, k9, k10⟩ := hk
  obtain ⟨t0, t1, t2, t3⟩ := ht
  obtain ⟨cs, rfl, hsz⟩ := okWide_struct hs hv
  obtain ⟨c0, c1, c2, c3, c4, c5, c6, c7, rfl⟩ := array8 (hsz.trans k1)
  obtain ⟨fuel, hf⟩ := h
  obtain ⟨y0, y1, y2, y3, n, e0, e1, e2, e3⟩ := trod_struct4 hs hf
  rw [t0] at e0
  rw [t1] at e1
  rw [t2] at e2
  rw [t3] at e3
  simp [Value.cells, k2, k3, k4, k5, k6] at e0 e1 e2 e3
  obtain ⟨m0, x0, rfl, rfl⟩ := trod_num hn k7 k8 k9 k10 u0 u1 e0
  obtain ⟨m1, x1, rfl, rfl⟩ := trod_num hn k7 k8 k9 k10 u0 u1 e1
  obtain ⟨m2, x2, rfl, rfl⟩ := trod_num hn k7 k8 k9 k10 u0 u1 e2
  obtain ⟨m3, x3, rfl, rfl⟩ := trod_num hn k7 k8 k9 k10 u0 u1 e3
  exact ⟨m0, x0, m1, x1, m2, x2, m3, x3, rfl⟩
end
end Go.Proofs.YteofmahbimkggaaDoor
