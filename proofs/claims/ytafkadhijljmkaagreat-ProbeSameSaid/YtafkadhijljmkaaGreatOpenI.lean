/- Arguments opened: an item. Printed by genopeni.py. -/
import Derived.Test.YtafkadhijljmkaaGreatItm
import Derived.ShutString
import Derived.OpenShut
import Derived.ChangeSame
import Derived.ChangeSlices
import Derived.Lib.SmallJoins
import Derived.Deep.Slices
import Derived.Deep.Strs
import Derived.MapViews
namespace Go.Proofs.YtafkadhijljmkaaGreat
set_option linter.unusedVariables false
open Go.ChangeShapes Go.WideShapes Go.ChangeAt Go.RowKit Go.Joins Go.Deep

section
variable {H : Type} {enc : TypeId × Value → H} {w : World} {base : Nat} {spare : Nat → Bool} {held : Bool}

theorem list_ofI {α : Type} {p : Nat → α → Prop} : ∀ (n : Nat), (∀ i, i < n → ∃ v, p i v) → ∃ L : List α, L.length = n ∧ ∀ k (h : k < L.length), p k L[k]
  | 0, _ => ⟨[], rfl, fun k h => absurd h (Nat.not_lt_zero _)⟩
  | n + 1, h => by
    obtain ⟨L, h1, h2⟩ := list_ofI n fun i hi => h i (Nat.lt_succ_of_lt hi)
    obtain ⟨v, hv⟩ := h n (Nat.lt_succ_self n)
    refine ⟨L ++ [v], by simp [h1], fun k hk => ?_⟩
    by_cases q : k < L.length
    · rw [List.getElem_append_left q]; exact h2 k q
    · have e : k = n := by simp [h1] at hk; omega
      subst e
      rw [List.getElem_append_right (by omega)]
      simpa [h1] using hv
theorem open_keys {t e : TypeId} {m size fuel : Nat} {v : Value} {x : DataW H × List MemPlace} (ht : Tryz.prog.underlying t = some (.slice e)) (hk : Tryz.prog.keyTypeAt m e = true) (hsz : Tryz.prog.cellsOf e = size) (h0 : 0 < size)
    (h : DataW.trod enc Tryz.prog w base spare held fuel t [v] = some x) : ∃ X, SliceV e size w v X := by
  rcases open_slice ht h with ⟨hcs, _⟩ | ⟨a, len, cap, m', n, D, Pl, hcs, _, hl, hm, hmm, _, hx⟩
  · simp at hcs
    subst hcs
    exact ⟨[], none, 0, rfl, fun k hk => absurd hk (Nat.not_lt_zero _), Nat.zero_le _⟩
  · simp at hcs
    subst hcs
    have hlm : len ≤ m' := by rw [hmm]; split <;> omega
    obtain ⟨b, off, spot⟩ := a
    have e1 : ∀ j, (⟨b, off, none⟩ : Addr).add j = ⟨b, off + j, none⟩ := fun j => by unfold Addr.add; split <;> simp_all
    obtain ⟨L, hL, hLL⟩ := list_ofI (p := fun i (l : List Lit) => spot = none ∧ b < w.heap.size ∧ ∃ Lc, w.rangeAt b (off + i * size) Lc ∧ KV e Lc l) len (fun i hi => by
      obtain ⟨cs', h1, h2⟩ := hx i (by omega)
      rw [hsz] at h1
      obtain ⟨_, hlen, hcell⟩ := World.cells?_some h1
      have hspot : spot = none := by
        obtain ⟨cz, y1, _⟩ := hx 0 (by omega)
        rw [hsz] at y1
        obtain ⟨_, hl0, hc0⟩ := World.cells?_some y1
        have g0 := hc0 0 (by omega)
        rw [List.getElem?_eq_getElem (by omega)] at g0
        have h3 : w.cell? ⟨b, off, spot⟩ = some cz[0] := by simpa [Addr.add] using g0
        exact World.cell?_spot h3
      subst hspot
      have hadd : ∀ j, j < size → w.cell? ⟨b, off + i * size + j, none⟩ = cs'[j]? := fun j hj => by
        have h3 := hcell j hj
        rw [add_add, e1] at h3
        rw [show off + i * size + j = off + (i * size + j) from by omega]
        exact h3
      have hk2 := keyLits_of_trod m e hk _ cs' _ h2
      refine ⟨_, rfl, ?_, cs', fun j u hu => ?_, ⟨m, hk2.1⟩⟩
      · have := hadd 0 h0
        rw [List.getElem?_eq_getElem (by omega)] at this
        exact World.block_lt_of_cell? w _ this
      · have hj : j < size := by
          rcases Nat.lt_or_ge j size with q | q
          · exact q
          · rw [List.getElem?_eq_none (by omega)] at hu; cases hu
        exact (hadd j hj).trans hu)
    refine ⟨L, some ⟨b, off, spot⟩, cap, by rw [hL], fun k hk => ?_, by omega⟩
    obtain ⟨rfl, g2, Lc, g3, g4⟩ := hLL k hk
    exact ⟨b, off, Lc, rfl, g2, g3, g4⟩
theorem fields_of {t : TypeId} {fs : Array Field} {fuel : Nat} {cs : List Value} {x : DataW H × List MemPlace} (hu : Tryz.prog.underlying t = some (.struct fs)) (h : DataW.trod enc Tryz.prog w base spare held fuel t cs = some x) :
    cs.length = Tryz.prog.cellsOf t ∧ ∃ n, ∀ (i T o s : Nat), (fs[i]?).map (fun f => (f.type, f.offset)) = some (T, o) → Tryz.prog.cellsOf T = s → ∃ y, DataW.trod enc Tryz.prog w base spare held n T ((cs.drop o).take s) = some y := by
  obtain ⟨xs, n, _, _, hcl, hxl, hf⟩ := DataW.trod_struct hu h
  refine ⟨hcl, n, fun i T o s h1 h2 => ?_⟩
  cases hq : fs[i]? with
  | none => rw [hq] at h1; cases h1
  | some f =>
    rw [hq] at h1
    simp only [Option.map_some, Option.some.injEq, Prod.mk.injEq] at h1
    obtain ⟨rfl, rfl⟩ := h1
    subst h2
    have hi : i < xs.length := by rw [hxl]; exact (Array.getElem?_eq_some_iff.1 hq).1
    exact ⟨xs[i], (hf i f hq).trans (List.getElem?_eq_getElem hi)⟩
theorem seg_split (cs : List Value) (a b : Nat) : cs.drop a = (cs.drop a).take b ++ cs.drop (a + b) := by rw [← List.drop_drop, List.take_append_drop]
theorem int_of {T fuel : Nat} {cs : List Value} {x : DataW H × List MemPlace} (hu : Tryz.prog.underlying T = some (.int .i64)) (h : DataW.trod enc Tryz.prog w base spare held fuel T cs = some x) : ∃ n, cs = [Value.int .i64 n] := by
  obtain ⟨n, e, -⟩ := DataW.trod_int hu h
  exact ⟨n, e⟩
theorem bool_of {T fuel : Nat} {cs : List Value} {x : DataW H × List MemPlace} (hu : Tryz.prog.underlying T = some .bool) (h : DataW.trod enc Tryz.prog w base spare held fuel T cs = some x) : ∃ n, cs = [Value.bool n] := by
  obtain ⟨n, e, -⟩ := DataW.trod_bool hu h
  exact ⟨n, e⟩
theorem str_of {T fuel : Nat} {cs : List Value} {x : DataW H × List MemPlace} (hu : Tryz.prog.underlying T = some .string) (h : DataW.trod enc Tryz.prog w base spare held fuel T cs = some x) : ∃ n, cs = [Value.string n] := by
  obtain ⟨n, e, -⟩ := DataW.trod_string hu h
  exact ⟨n, e⟩
theorem key_of {T m fuel : Nat} {cs : List Value} {x : DataW H × List MemPlace} (hk : Tryz.prog.keyTypeAt m T = true) (h : DataW.trod enc Tryz.prog w base spare held fuel T cs = some x) : ∃ l, KV T cs l :=
  ⟨_, m, (keyLits_of_trod m T hk _ cs _ h).1⟩
theorem sl_of {t e m size fuel : Nat} {cs : List Value} {x : DataW H × List MemPlace} (ht : Tryz.prog.underlying t = some (.slice e)) (hk : Tryz.prog.keyTypeAt m e = true) (hsz : Tryz.prog.cellsOf e = size) (h0 : 0 < size) (hl : cs.length = 1)
    (h : DataW.trod enc Tryz.prog w base spare held fuel t cs = some x) : ∃ v X, cs = [v] ∧ SliceV e size w v X := by
  obtain ⟨v, rfl⟩ := List.length_eq_one_iff.1 hl
  obtain ⟨X, hX⟩ := open_keys ht hk hsz h0 h
  exact ⟨v, X, rfl, hX⟩
theorem trod_Sats {fuel : Nat} {cs : List Value} {x : DataW H × List MemPlace} (h : DataW.trod enc Tryz.prog w base spare held fuel 26 cs = some x) : ∃ z : Int × Value × List (List Lit), cs = [Value.int .i64 z.1, z.2.1] ∧ SliceV 97 7 w z.2.1 z.2.2 := by
  obtain ⟨hl, n, hf⟩ := fields_of Tryz.underlying26 h
  have hl : cs.length = 2 := hl.trans (by kernel_rfl)
  obtain ⟨y0, q0⟩ := hf 0 2 0 1 (by kernel_rfl) (by kernel_rfl)
  obtain ⟨z0, e0⟩ := int_of Tryz.underlying2 q0
  obtain ⟨y1, q1⟩ := hf 1 24 1 1 (by kernel_rfl) (by kernel_rfl)
  obtain ⟨z1, X1, e1, g1⟩ := sl_of (m := 10) (size := 7) Tryz.underlying24 (by kernel_rfl) (by kernel_rfl) (by decide) (by rw [List.length_take, List.length_drop, hl]; rfl) q1
  have hc : cs = (cs.drop 0).take 1 ++ ((cs.drop 1).take 1) := by
    have e0 : cs = cs.drop 0 := rfl
    conv => lhs; rw [e0]
    rw [List.take_of_length_le (l := cs.drop 1) (i := 1) (by rw [List.length_drop, hl]; decide)]
    conv => lhs; rw [seg_split cs 0 1]
  rw [e0] at hc
  rw [e1] at hc
  exact ⟨(z0, z1, X1), hc, g1⟩
theorem trod_Valset {fuel : Nat} {cs : List Value} {x : DataW H × List MemPlace} (h : DataW.trod enc Tryz.prog w base spare held fuel 33 cs = some x) : ∃ z : Int × Value × List (List Lit), cs = [Value.int .i64 z.1, z.2.1] ∧ SliceV 100 2 w z.2.1 z.2.2 := by
  obtain ⟨hl, n, hf⟩ := fields_of Tryz.underlying33 h
  have hl : cs.length = 2 := hl.trans (by kernel_rfl)
  obtain ⟨y0, q0⟩ := hf 0 2 0 1 (by kernel_rfl) (by kernel_rfl)
  obtain ⟨z0, e0⟩ := int_of Tryz.underlying2 q0
  obtain ⟨y1, q1⟩ := hf 1 31 1 1 (by kernel_rfl) (by kernel_rfl)
  obtain ⟨z1, X1, e1, g1⟩ := sl_of (m := 10) (size := 2) Tryz.underlying31 (by kernel_rfl) (by kernel_rfl) (by decide) (by rw [List.length_take, List.length_drop, hl]; rfl) q1
  have hc : cs = (cs.drop 0).take 1 ++ ((cs.drop 1).take 1) := by
    have e0 : cs = cs.drop 0 := rfl
    conv => lhs; rw [e0]
    rw [List.take_of_length_le (l := cs.drop 1) (i := 1) (by rw [List.length_drop, hl]; decide)]
    conv => lhs; rw [seg_split cs 0 1]
  rw [e0] at hc
  rw [e1] at hc
  exact ⟨(z0, z1, X1), hc, g1⟩
theorem trod_Ubx {fuel : Nat} {cs : List Value} {x : DataW H × List MemPlace} (h : DataW.trod enc Tryz.prog w base spare held fuel 35 cs = some x) : ∃ u, UbxV w cs u := by
  obtain ⟨hl, n, hf⟩ := fields_of Tryz.underlying35 h
  have hl : cs.length = 48 := hl.trans (by kernel_rfl)
  obtain ⟨y0, q0⟩ := hf 0 3 0 1 (by kernel_rfl) (by kernel_rfl)
  obtain ⟨z0, e0⟩ := int_of Tryz.underlying3 q0
  obtain ⟨y1, q1⟩ := hf 1 23 1 32 (by kernel_rfl) (by kernel_rfl)
  obtain ⟨z1, g1⟩ := key_of (m := 10) (by kernel_rfl) q1
  obtain ⟨y2, q2⟩ := hf 2 26 33 2 (by kernel_rfl) (by kernel_rfl)
  obtain ⟨z2, g2⟩ := trod_Sats q2
  obtain ⟨y3, q3⟩ := hf 3 28 35 8 (by kernel_rfl) (by kernel_rfl)
  obtain ⟨z3, g3⟩ := key_of (m := 10) (by kernel_rfl) q3
  obtain ⟨y4, q4⟩ := hf 4 30 43 3 (by kernel_rfl) (by kernel_rfl)
  obtain ⟨z4, g4⟩ := key_of (m := 10) (by kernel_rfl) q4
  obtain ⟨y5, q5⟩ := hf 5 33 46 2 (by kernel_rfl) (by kernel_rfl)
  obtain ⟨z5, g5⟩ := trod_Valset q5
  have hc : cs = (cs.drop 0).take 1 ++ ((cs.drop 1).take 32 ++ ((cs.drop 33).take 2 ++ ((cs.drop 35).take 8 ++ ((cs.drop 43).take 3 ++ ((cs.drop 46).take 2))))) := by
    have e0 : cs = cs.drop 0 := rfl
    conv => lhs; rw [e0]
    rw [List.take_of_length_le (l := cs.drop 46) (i := 2) (by rw [List.length_drop, hl]; decide)]
    conv => lhs; rw [seg_split cs 0 1]
    conv => lhs; arg 2; rw [seg_split cs 1 32]
    conv => lhs; arg 2; arg 2; rw [seg_split cs 33 2]
    conv => lhs; arg 2; arg 2; arg 2; rw [seg_split cs 35 8]
    conv => lhs; arg 2; arg 2; arg 2; arg 2; rw [seg_split cs 43 3]
  rw [e0] at hc
  exact ⟨⟨z0, z1, z2.1, z2.2.2, z3, z4, z5.1, z5.2.2⟩, _, z2.2.1, _, _, z5.2.1, hc.trans (by rw [g2.1, g5.1]; rfl), g1, g2.2, g3, g4, g5.2⟩
theorem trod_Gsa {fuel : Nat} {cs : List Value} {x : DataW H × List MemPlace} (h : DataW.trod enc Tryz.prog w base spare held fuel 48 cs = some x) : ∃ a, GsaV w cs a := by
  obtain ⟨hl, n, hf⟩ := fields_of Tryz.underlying48 h
  have hl : cs.length = 9 := hl.trans (by kernel_rfl)
  obtain ⟨y0, q0⟩ := hf 0 4 0 1 (by kernel_rfl) (by kernel_rfl)
  obtain ⟨z0, e0⟩ := bool_of Tryz.underlying4 q0
  obtain ⟨y1, q1⟩ := hf 1 2 1 1 (by kernel_rfl) (by kernel_rfl)
  obtain ⟨z1, e1⟩ := int_of Tryz.underlying2 q1
  obtain ⟨y2, q2⟩ := hf 2 46 2 1 (by kernel_rfl) (by kernel_rfl)
  obtain ⟨z2, X2, e2, g2⟩ := sl_of (m := 10) (size := 1) Tryz.underlying46 (by kernel_rfl) (by kernel_rfl) (by decide) (by rw [List.length_take, List.length_drop, hl]; rfl) q2
  obtain ⟨y3, q3⟩ := hf 3 39 3 2 (by kernel_rfl) (by kernel_rfl)
  obtain ⟨z3, g3⟩ := key_of (m := 10) (by kernel_rfl) q3
  obtain ⟨y4, q4⟩ := hf 4 39 5 2 (by kernel_rfl) (by kernel_rfl)
  obtain ⟨z4, g4⟩ := key_of (m := 10) (by kernel_rfl) q4
  obtain ⟨y5, q5⟩ := hf 5 39 7 2 (by kernel_rfl) (by kernel_rfl)
  obtain ⟨z5, g5⟩ := key_of (m := 10) (by kernel_rfl) q5
  have hc : cs = (cs.drop 0).take 1 ++ ((cs.drop 1).take 1 ++ ((cs.drop 2).take 1 ++ ((cs.drop 3).take 2 ++ ((cs.drop 5).take 2 ++ ((cs.drop 7).take 2))))) := by
    have e0 : cs = cs.drop 0 := rfl
    conv => lhs; rw [e0]
    rw [List.take_of_length_le (l := cs.drop 7) (i := 2) (by rw [List.length_drop, hl]; decide)]
    conv => lhs; rw [seg_split cs 0 1]
    conv => lhs; arg 2; rw [seg_split cs 1 1]
    conv => lhs; arg 2; arg 2; rw [seg_split cs 2 1]
    conv => lhs; arg 2; arg 2; arg 2; rw [seg_split cs 3 2]
    conv => lhs; arg 2; arg 2; arg 2; arg 2; rw [seg_split cs 5 2]
  rw [e0] at hc
  rw [e1] at hc
  rw [e2] at hc
  exact ⟨⟨z0, z1, X2, z3, z4, z5⟩, z2, _, _, _, hc, g2, g3, g4, g5⟩
theorem trod_Gsv {fuel : Nat} {cs : List Value} {x : DataW H × List MemPlace} (h : DataW.trod enc Tryz.prog w base spare held fuel 53 cs = some x) : ∃ a, GsvV w cs a := by
  obtain ⟨hl, n, hf⟩ := fields_of Tryz.underlying53 h
  have hl : cs.length = 4 := hl.trans (by kernel_rfl)
  obtain ⟨y0, q0⟩ := hf 0 2 0 1 (by kernel_rfl) (by kernel_rfl)
  obtain ⟨z0, e0⟩ := int_of Tryz.underlying2 q0
  obtain ⟨y1, q1⟩ := hf 1 2 1 1 (by kernel_rfl) (by kernel_rfl)
  obtain ⟨z1, e1⟩ := int_of Tryz.underlying2 q1
  obtain ⟨y2, q2⟩ := hf 2 2 2 1 (by kernel_rfl) (by kernel_rfl)
  obtain ⟨z2, e2⟩ := int_of Tryz.underlying2 q2
  obtain ⟨y3, q3⟩ := hf 3 51 3 1 (by kernel_rfl) (by kernel_rfl)
  obtain ⟨z3, X3, e3, g3⟩ := sl_of (m := 10) (size := 8) Tryz.underlying51 (by kernel_rfl) (by kernel_rfl) (by decide) (by rw [List.length_take, List.length_drop, hl]; rfl) q3
  have hc : cs = (cs.drop 0).take 1 ++ ((cs.drop 1).take 1 ++ ((cs.drop 2).take 1 ++ ((cs.drop 3).take 1))) := by
    have e0 : cs = cs.drop 0 := rfl
    conv => lhs; rw [e0]
    rw [List.take_of_length_le (l := cs.drop 3) (i := 1) (by rw [List.length_drop, hl]; decide)]
    conv => lhs; rw [seg_split cs 0 1]
    conv => lhs; arg 2; rw [seg_split cs 1 1]
    conv => lhs; arg 2; arg 2; rw [seg_split cs 2 1]
  rw [e0] at hc
  rw [e1] at hc
  rw [e2] at hc
  rw [e3] at hc
  exact ⟨⟨z0, z1, z2, X3⟩, z3, hc, g3⟩
theorem trod_Nmea {fuel : Nat} {cs : List Value} {x : DataW H × List MemPlace} (h : DataW.trod enc Tryz.prog w base spare held fuel 55 cs = some x) : ∃ a, NmeV w cs a := by
  obtain ⟨hl, n, hf⟩ := fields_of Tryz.underlying55 h
  have hl : cs.length = 65 := hl.trans (by kernel_rfl)
  obtain ⟨y0, q0⟩ := hf 0 3 0 1 (by kernel_rfl) (by kernel_rfl)
  obtain ⟨z0, e0⟩ := int_of Tryz.underlying3 q0
  obtain ⟨y1, q1⟩ := hf 1 9 1 1 (by kernel_rfl) (by kernel_rfl)
  obtain ⟨z1, e1⟩ := str_of Tryz.underlying9 q1
  obtain ⟨y2, q2⟩ := hf 2 41 2 22 (by kernel_rfl) (by kernel_rfl)
  obtain ⟨z2, g2⟩ := key_of (m := 10) (by kernel_rfl) q2
  obtain ⟨y3, q3⟩ := hf 3 45 24 20 (by kernel_rfl) (by kernel_rfl)
  obtain ⟨z3, g3⟩ := key_of (m := 10) (by kernel_rfl) q3
  obtain ⟨y4, q4⟩ := hf 4 48 44 9 (by kernel_rfl) (by kernel_rfl)
  obtain ⟨z4, g4⟩ := trod_Gsa q4
  obtain ⟨y5, q5⟩ := hf 5 50 53 8 (by kernel_rfl) (by kernel_rfl)
  obtain ⟨z5, g5⟩ := key_of (m := 10) (by kernel_rfl) q5
  obtain ⟨y6, q6⟩ := hf 6 53 61 4 (by kernel_rfl) (by kernel_rfl)
  obtain ⟨z6, g6⟩ := trod_Gsv q6
  have hc : cs = (cs.drop 0).take 1 ++ ((cs.drop 1).take 1 ++ ((cs.drop 2).take 22 ++ ((cs.drop 24).take 20 ++ ((cs.drop 44).take 9 ++ ((cs.drop 53).take 8 ++ ((cs.drop 61).take 4)))))) := by
    have e0 : cs = cs.drop 0 := rfl
    conv => lhs; rw [e0]
    rw [List.take_of_length_le (l := cs.drop 61) (i := 4) (by rw [List.length_drop, hl]; decide)]
    conv => lhs; rw [seg_split cs 0 1]
    conv => lhs; arg 2; rw [seg_split cs 1 1]
    conv => lhs; arg 2; arg 2; rw [seg_split cs 2 22]
    conv => lhs; arg 2; arg 2; arg 2; rw [seg_split cs 24 20]
    conv => lhs; arg 2; arg 2; arg 2; arg 2; rw [seg_split cs 44 9]
    conv => lhs; arg 2; arg 2; arg 2; arg 2; arg 2; rw [seg_split cs 53 8]
  rw [e0] at hc
  rw [e1] at hc
  exact ⟨⟨z0, z1, z2, z3, z4, z5, z6⟩, _, _, _, _, _, hc, g2, g3, g4, g5, g6⟩
theorem trod_Msg {fuel : Nat} {cs : List Value} {x : DataW H × List MemPlace} (h : DataW.trod enc Tryz.prog w base spare held fuel 57 cs = some x) : ∃ z : Int × Value × List (List Lit), cs = [Value.int .i64 z.1, z.2.1] ∧ SliceV 2 1 w z.2.1 z.2.2 := by
  obtain ⟨hl, n, hf⟩ := fields_of Tryz.underlying57 h
  have hl : cs.length = 2 := hl.trans (by kernel_rfl)
  obtain ⟨y0, q0⟩ := hf 0 3 0 1 (by kernel_rfl) (by kernel_rfl)
  obtain ⟨z0, e0⟩ := int_of Tryz.underlying3 q0
  obtain ⟨y1, q1⟩ := hf 1 46 1 1 (by kernel_rfl) (by kernel_rfl)
  obtain ⟨z1, X1, e1, g1⟩ := sl_of (m := 10) (size := 1) Tryz.underlying46 (by kernel_rfl) (by kernel_rfl) (by decide) (by rw [List.length_take, List.length_drop, hl]; rfl) q1
  have hc : cs = (cs.drop 0).take 1 ++ ((cs.drop 1).take 1) := by
    have e0 : cs = cs.drop 0 := rfl
    conv => lhs; rw [e0]
    rw [List.take_of_length_le (l := cs.drop 1) (i := 1) (by rw [List.length_drop, hl]; decide)]
    conv => lhs; rw [seg_split cs 0 1]
  rw [e0] at hc
  rw [e1] at hc
  exact ⟨(z0, z1, X1), hc, g1⟩
theorem trod_Packet {fuel : Nat} {cs : List Value} {x : DataW H × List MemPlace} (h : DataW.trod enc Tryz.prog w base spare held fuel 59 cs = some x) : ∃ a, TlmV w cs a := by
  obtain ⟨hl, n, hf⟩ := fields_of Tryz.underlying59 h
  have hl : cs.length = 5 := hl.trans (by kernel_rfl)
  obtain ⟨y0, q0⟩ := hf 0 3 0 1 (by kernel_rfl) (by kernel_rfl)
  obtain ⟨z0, e0⟩ := int_of Tryz.underlying3 q0
  obtain ⟨y1, q1⟩ := hf 1 3 1 1 (by kernel_rfl) (by kernel_rfl)
  obtain ⟨z1, e1⟩ := int_of Tryz.underlying3 q1
  obtain ⟨y2, q2⟩ := hf 2 3 2 1 (by kernel_rfl) (by kernel_rfl)
  obtain ⟨z2, e2⟩ := int_of Tryz.underlying3 q2
  obtain ⟨y3, q3⟩ := hf 3 57 3 2 (by kernel_rfl) (by kernel_rfl)
  obtain ⟨z3, g3⟩ := trod_Msg q3
  have hc : cs = (cs.drop 0).take 1 ++ ((cs.drop 1).take 1 ++ ((cs.drop 2).take 1 ++ ((cs.drop 3).take 2))) := by
    have e0 : cs = cs.drop 0 := rfl
    conv => lhs; rw [e0]
    rw [List.take_of_length_le (l := cs.drop 3) (i := 2) (by rw [List.length_drop, hl]; decide)]
    conv => lhs; rw [seg_split cs 0 1]
    conv => lhs; arg 2; rw [seg_split cs 1 1]
    conv => lhs; arg 2; arg 2; rw [seg_split cs 2 1]
  rw [e0] at hc
  rw [e1] at hc
  rw [e2] at hc
  exact ⟨⟨z0, z1, z2, z3.1, z3.2.2⟩, z3.2.1, hc.trans (by rw [g3.1]; rfl), g3.2⟩
theorem trod_Item {fuel : Nat} {cs : List Value} {x : DataW H × List MemPlace} (h : DataW.trod enc Tryz.prog w base spare held fuel 61 cs = some x) : ∃ a, ItmV w cs a := by
  obtain ⟨hl, n, hf⟩ := fields_of Tryz.underlying61 h
  have hl : cs.length = 120 := hl.trans (by kernel_rfl)
  obtain ⟨y0, q0⟩ := hf 0 3 0 1 (by kernel_rfl) (by kernel_rfl)
  obtain ⟨z0, e0⟩ := int_of Tryz.underlying3 q0
  obtain ⟨y1, q1⟩ := hf 1 4 1 1 (by kernel_rfl) (by kernel_rfl)
  obtain ⟨z1, e1⟩ := bool_of Tryz.underlying4 q1
  obtain ⟨y2, q2⟩ := hf 2 35 2 48 (by kernel_rfl) (by kernel_rfl)
  obtain ⟨z2, g2⟩ := trod_Ubx q2
  obtain ⟨y3, q3⟩ := hf 3 55 50 65 (by kernel_rfl) (by kernel_rfl)
  obtain ⟨z3, g3⟩ := trod_Nmea q3
  obtain ⟨y4, q4⟩ := hf 4 59 115 5 (by kernel_rfl) (by kernel_rfl)
  obtain ⟨z4, g4⟩ := trod_Packet q4
  have hc : cs = (cs.drop 0).take 1 ++ ((cs.drop 1).take 1 ++ ((cs.drop 2).take 48 ++ ((cs.drop 50).take 65 ++ ((cs.drop 115).take 5)))) := by
    have e0 : cs = cs.drop 0 := rfl
    conv => lhs; rw [e0]
    rw [List.take_of_length_le (l := cs.drop 115) (i := 5) (by rw [List.length_drop, hl]; decide)]
    conv => lhs; rw [seg_split cs 0 1]
    conv => lhs; arg 2; rw [seg_split cs 1 1]
    conv => lhs; arg 2; arg 2; rw [seg_split cs 2 48]
    conv => lhs; arg 2; arg 2; arg 2; rw [seg_split cs 50 65]
  rw [e0] at hc
  rw [e1] at hc
  exact ⟨⟨z0, z1, z2, z3, z4⟩, _, _, _, hc, g2, g3, g4⟩
set_option maxRecDepth 100000 in
theorem open_item {r : Reach} {b0 : Nat} {v : Value} {d : DataW H} {p : List MemPlace} (hv : Value.okWide Tryz.prog w r b0 61 v) (h : DataW.Trod enc Tryz.prog w base spare held 61 v d p) : ∃ (L : List Value) (x : ItmK), v = .agg L.toArray ∧ ItmV w L x := by
  obtain ⟨cs, rfl, hsz⟩ := okWide_struct Tryz.underlying61 hv
  obtain ⟨fuel, hf⟩ := h
  obtain ⟨l⟩ := cs
  obtain ⟨x, hx⟩ := trod_Item hf
  exact ⟨l, x, rfl, hx⟩
end
end Go.Proofs.YtafkadhijljmkaaGreat
