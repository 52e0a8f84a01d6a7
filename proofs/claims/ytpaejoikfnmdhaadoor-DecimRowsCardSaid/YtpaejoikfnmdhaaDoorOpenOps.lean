/- Arguments opened: calls of pens and eyes. -/
import Derived.Test.YtpaejoikfnmdhaaDoorOpenD
import Derived.Deep.Slices
import Derived.SliceStrings
namespace Go.Proofs.YtpaejoikfnmdhaaDoor
set_option linter.unusedVariables false
open Go.ChangeShapes Go.WideShapes Go.ChangeAt Go.RowKit Go.Joins Go.Deep

/-- A call: what its eleven cells hold. -/
structure OpD where
  kind : Int
  b : Bool
  n : Int
  W : Int
  M : Int
  F : Int
  L : Int
  H : Int
  lat : Bool
  s : ByteArray
  e : Int
def OpD.vals (d : OpD) : List Value := [.int .i64 d.kind, .bool d.b, .int .i64 d.n, .int .i64 d.W, .int .i64 d.M, .int .i64 d.F, .int .i64 d.L, .int .i64 d.H, .bool d.lat, .string d.s, .int .i64 d.e]
/-- The calls that came in. -/
def Ops (w : World) (B : Nat) (A : Option Addr) (n : Nat) : Prop :=
  ∀ i, i < n → ∃ (b off : Nat) (d : OpD), A = some ⟨b, off, none⟩ ∧ b < B ∧ d.s.size ≤ maxLen ∧ ∀ j u, d.vals[j]? = some u → w.cell? ⟨b, off + 11 * i + j, none⟩ = some u
theorem Ops.below {w w' : World} {B B' : Nat} {A : Option Addr} {n : Nat} (h : Ops w B A n) (hb : Below B' w w') (hB : B ≤ B') : Ops w' B A n := by
  intro i hi
  obtain ⟨b, off, d, h1, h2, h3, h4⟩ := h i hi
  exact ⟨b, off, d, h1, h2, h3, fun j u hu => (hb.cell (p := ⟨b, off + 11 * i + j, none⟩) (by show b < B'; omega)).trans (h4 j u hu)⟩

section
variable {H : Type} {enc : TypeId × Value → H} {P : Program} {w : World} {base : Nat} {spare : Nat → Bool} {held : Bool}

theorem open_ops {t e : TypeId} {f0 f1 f2 f3 f4 f5 n0 n1 c0 c1 c2 c3 c4 : Field} {fuel : Nat} {v : Value} {x : DataW H × List MemPlace} (ht : P.underlying t = some (.slice e)) (he : P.underlying e = some (.struct #[f0, f1, f2, f3, f4, f5]))
    (hn : P.underlying f1.type = some (.struct #[n0, n1])) (hc : P.underlying f2.type = some (.struct #[c0, c1, c2, c3, c4]))
    (hk : [P.cellsOf e, f0.offset, f1.offset, f2.offset, f3.offset, f4.offset, f5.offset, P.cellsOf f0.type, P.cellsOf f1.type, P.cellsOf f2.type, P.cellsOf f3.type, P.cellsOf f4.type, P.cellsOf f5.type, n0.offset, n1.offset, P.cellsOf n0.type, P.cellsOf n1.type, c0.offset, c1.offset, c2.offset, c3.offset, c4.offset, P.cellsOf c0.type, P.cellsOf c1.type, P.cellsOf c2.type, P.cellsOf c3.type, P.cellsOf c4.type] = [11, 0, 1, 3, 8, 9, 10, 1, 2, 5, 1, 1, 1, 0, 1, 1, 1, 0, 1, 2, 3, 4, 1, 1, 1, 1, 1])
    (t0 : P.underlying f0.type = some (.int .i64)) (t3 : P.underlying f3.type = some .bool) (t4 : P.underlying f4.type = some .string) (t5 : P.underlying f5.type = some (.int .i64)) (u0 : P.underlying n0.type = some .bool) (u1 : P.underlying n1.type = some (.int .i64))
    (s0 : P.underlying c0.type = some (.int .i64)) (s1 : P.underlying c1.type = some (.int .i64)) (s2 : P.underlying c2.type = some (.int .i64)) (s3 : P.underlying c3.type = some (.int .i64)) (s4 : P.underlying c4.type = some (.int .i64))
    (h : DataW.trod enc P w base spare held fuel t [v] = some x) :
    ∃ (A : Option Addr) (c n : Nat), v = .slice A n c ∧ n ≤ maxLen ∧ Ops w w.heap.size A n := by
  simp only [List.cons.injEq, and_true] at hk
  obtain ⟨k1, k2, k3, k4, k5, k6, k7, k8, k9, k10, k11, k12, k13, k14, k15, k16, k17, k18, k19, k20, k21, k22, k23, k24, k25, k26, k27⟩ := hk
  rcases open_slice ht h with ⟨hcs, _⟩ | ⟨a, len, cap, m, n, D, Pl, hcs, _, hl, hm, hmm, _, hx⟩
  · simp at hcs
    subst hcs
    exact ⟨none, 0, 0, rfl, Nat.zero_le _, fun i hi => absurd hi (Nat.not_lt_zero _)⟩
  · simp at hcs
    subst hcs
    have hlm : len ≤ m := by rw [hmm]; split <;> omega
    refine ⟨some a, cap, len, rfl, by omega, fun i hi => ?_⟩
    obtain ⟨cs', h1, h2⟩ := hx i (by omega)
    rw [k1] at h1
    obtain ⟨_, hlen, hcell⟩ := World.cells?_some h1
    obtain ⟨xs, k, _, _, _, hxl, hf⟩ := DataW.trod_struct he h2
    match xs, hxl, cs', hlen with
    | [y0, y1, y2, y3, y4, y5], _, [v0, v1, v2, v3, v4, v5, v6, v7, v8, v9, v10], _ =>
      have g0 := hf 0 f0 rfl
      have g1 := hf 1 f1 rfl
      have g2 := hf 2 f2 rfl
      have g3 := hf 3 f3 rfl
      have g4 := hf 4 f4 rfl
      have g5 := hf 5 f5 rfl
      simp [k2, k3, k4, k5, k6, k7, k8, k9, k10, k11, k12, k13] at g0 g1 g2 g3 g4 g5
      obtain ⟨z0, q0, _⟩ := DataW.trod_int t0 g0
      obtain ⟨z3, q3, _⟩ := DataW.trod_bool t3 g3
      obtain ⟨z4, q4, _, hz4⟩ := DataW.trod_string t4 g4
      obtain ⟨z5, q5, _⟩ := DataW.trod_int t5 g5
      obtain ⟨_, _, _, _, _, a0, a1⟩ := trod_struct2 hn g1
      simp [k14, k15, k16, k17] at a0 a1
      obtain ⟨m0, p0, _⟩ := DataW.trod_bool u0 a0
      obtain ⟨m1, p1, _⟩ := DataW.trod_int u1 a1
      obtain ⟨_, _, _, _, _, _, d0, d1, d2, d3, d4⟩ := trod_struct5 hc g2
      simp [k18, k19, k20, k21, k22, k23, k24, k25, k26, k27] at d0 d1 d2 d3 d4
      obtain ⟨r0, w0, _⟩ := DataW.trod_int s0 d0
      obtain ⟨r1, w1, _⟩ := DataW.trod_int s1 d1
      obtain ⟨r2, w2, _⟩ := DataW.trod_int s2 d2
      obtain ⟨r3, w3, _⟩ := DataW.trod_int s3 d3
      obtain ⟨r4, w4, _⟩ := DataW.trod_int s4 d4
      simp at q0 q3 q4 q5 p0 p1 w0 w1 w2 w3 w4
      subst q0 q3 q4 q5 p0 p1 w0 w1 w2 w3 w4
      obtain ⟨b, off, spot⟩ := a
      have hadd : ∀ j, j < 11 → w.cell? ((⟨b, off, spot⟩ : Addr).add (i * 11 + j)) = ([Value.int .i64 z0, .bool m0, .int .i64 m1, .int .i64 r0, .int .i64 r1, .int .i64 r2, .int .i64 r3, .int .i64 r4, .bool z3, .string z4, .int .i64 z5] : List Value)[j]? := fun j hj => by
        have := hcell j hj
        rw [← add_add]
        exact this
      have hspot : spot = none := by
        obtain ⟨cz, y1, _⟩ := hx 0 (by omega)
        rw [k1] at y1
        obtain ⟨_, hl0, hc0⟩ := World.cells?_some y1
        have h0 := hc0 0 (by omega)
        rw [List.getElem?_eq_getElem (by omega)] at h0
        have h3 : w.cell? ⟨b, off, spot⟩ = some cz[0] := by simpa [Addr.add] using h0
        exact World.cell?_spot h3
      subst hspot
      have e1 : ∀ j, (⟨b, off, none⟩ : Addr).add j = ⟨b, off + j, none⟩ := fun j => by unfold Addr.add; split <;> simp_all
      refine ⟨b, off, ⟨z0, m0, m1, r0, r1, r2, r3, r4, z3, z4, z5⟩, rfl, ?_, hz4, fun j u hu => ?_⟩
      · have h0 := hadd 0 (by omega)
        rw [e1] at h0
        exact World.block_lt_of_cell? w _ h0
      · have hj : j < 11 := by
          rcases Nat.lt_or_ge j 11 with q | q
          · exact q
          · rw [List.getElem?_eq_none (by show 11 ≤ j; exact q)] at hu; cases hu
        have h0 := hadd j hj
        rw [e1] at h0
        rw [show off + 11 * i + j = off + (i * 11 + j) from by omega, h0]
        exact hu
end
end Go.Proofs.YtpaejoikfnmdhaaDoor
