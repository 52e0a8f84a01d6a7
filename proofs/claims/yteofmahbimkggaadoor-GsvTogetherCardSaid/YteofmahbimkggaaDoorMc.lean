/- Layer 23: the program's parse. -/
import Derived.Test.YteofmahbimkggaaDoorMb
import Derived.Deep.QuietTactic
import Derived.Deep.RegionHeld3
namespace Go.Proofs.YteofmahbimkggaaDoor
set_option linter.unusedVariables false
open Go.RowKit

theorem valD_any (l : List UInt8) : valD l + 29 ≤ 29 * 10 ^ l.length := by
  have key : ∀ r : List UInt8, valD r.reverse + 29 ≤ 29 * 10 ^ r.length := by
    intro r
    induction r with
    | nil => decide
    | cons c r ih =>
      have h2 := c.toNat_lt
      rw [List.reverse_cons, valD_snoc, List.length_cons, Nat.pow_succ]
      omega
  have := key l.reverse
  rw [List.reverse_reverse, List.length_reverse] at this
  exact this
theorem sumV_bound (s : ByteArray) (a : Nat) (nv : Int) (most n : Nat) (h0 : 0 ≤ nv) (h1 : nv < tenI n) (h2 : n + most ≤ 18) (h3 : most ≤ 12) : ∀ k, k ≤ most → 0 ≤ sumV s a nv k ∧ sumV s a nv k ≤ 9000000000000000000 := by
  intro k hk
  unfold sumV
  have e1 := tenI_pos k
  have e2 : nv * tenI k ≤ tenI n * tenI k := Int.mul_le_mul_of_nonneg_right (by omega) (by omega)
  have e3 : tenI n * tenI k ≤ 1000000000000000000 := by
    rw [tenI_cast, tenI_cast, ← Int.natCast_mul, ← Nat.pow_add]
    have : (10 : Nat) ^ (n + k) ≤ 10 ^ 18 := Nat.pow_le_pow_right (by decide) (by omega)
    have e : (10 : Nat) ^ 18 = 1000000000000000000 := by decide
    omega
  have e4 : 0 ≤ nv * tenI k := Int.mul_nonneg h0 (by omega)
  have e5 := valD_any ((s.data.toList.drop a).take k)
  have e6 : (10 : Nat) ^ ((s.data.toList.drop a).take k).length ≤ 10 ^ 12 := Nat.pow_le_pow_right (by decide) (by rw [List.length_take]; omega)
  have e : (10 : Nat) ^ 12 = 1000000000000 := by decide
  omega

theorem quiet_eq {P : Program} {f : FuncId} {args : Array Value} {w : World} {n : Nat} {v : Value}
    (h : Calls P f args (w.drewN n) fun e w' => e = .returned v ∧ w.drewN n = w') : Calls P f args (w.drewN n) fun e w'' => e = .returned v ∧ ∃ m, w'' = w.drewN m :=
  h.mono fun _ _ ⟨he, hm⟩ => ⟨he, n, hm.symm⟩
theorem frozen_past (w : World) (n o : Nat) (h : w.heap.size ≤ n) : w.frozen? ⟨n, o, none⟩ = false := by
  unfold World.frozen?
  rw [Array.getElem?_eq_none h]
theorem next_start (s : ByteArray) (w : World) : NextSt (((w.alloc (.cells #[.string s] 9)).alloc (.cells #[.int .i64 0] 2)).alloc (.cells #[.int .i64 0] 3)) w.heap.size (w.heap.size + 1) (w.heap.size + 1 + 1) s 0 0 := by
  have n1 : (w.alloc (.cells #[.string s] 9)).heap.size = w.heap.size + 1 := by simp
  have n2 : ((w.alloc (.cells #[.string s] 9)).alloc (.cells #[.int .i64 0] 2)).heap.size = w.heap.size + 1 + 1 := by simp
  refine ⟨?_, ?_, ?_, ?_, ?_⟩
  · rw [World.cell?_alloc_past _ _ _ (by omega), World.cell?_alloc_past _ _ _ (by omega), World.cell?_alloc_at _ _ _ _ rfl]; rfl
  · rw [World.cell?_alloc_past _ _ _ (by omega), World.cell?_alloc_at _ _ _ _ n1.symm]; rfl
  · rw [World.cell?_alloc_at _ _ _ _ n2.symm]; rfl
  · rw [frozen?_alloc_cells, frozen?_alloc_cells, frozen?_alloc_cells]; exact frozen_past _ _ _ (by omega)
  · rw [frozen?_alloc_cells, frozen?_alloc_cells, frozen?_alloc_cells]; exact frozen_past _ _ _ (by omega)

/-- The second call's start. -/
theorem next_again {s : ByteArray} {gs gn ga : Nat} {w1 : World} {nv : Int} {a : Nat} (h : NextSt w1 gs gn ga s nv a) (hd2 : gs ≠ ga) (hd3 : gn ≠ ga) : NextSt (w1.setCell ⟨ga, 0, none⟩ (.int .i64 ((a : Int) + 1))) gs gn ga s nv (a + 1) := by
  obtain ⟨c1, c2, c3, z1, z2⟩ := h
  refine ⟨?_, ?_, ?_, ?_, ?_⟩
  · rw [World.cell?_setCell_other _ _ _ _ (fun e => by injection e with e; exact hd2 e.symm)]; exact c1
  · rw [World.cell?_setCell_other _ _ _ _ (fun e => by injection e with e; exact hd3 e.symm)]; exact c2
  · rw [World.cell?_setCell_same _ _ _ c3]
    rw [show ((a + 1 : Nat) : Int) = (a : Int) + 1 from by omega]
  · simpa using z1
  · simpa using z2

end Go.Proofs.YteofmahbimkggaaDoor

/- Layer 23: the program's Take, case by case. -/
namespace Go.Proofs.YteofmahbimkggaaDoor
set_option linter.unusedVariables false
open Go.RowKit

theorem undrewN {w w' : World} {n : Nat} (h : Below (w.drewN n).heap.size (w.drewN n) w') : Below w.heap.size w w' := ⟨h.os, h.tape, h.output, h.size, h.block⟩
theorem two_cells (w : World) (g : Nat) (v0 v1 o0 o1 : Value) (h0 : w.cell? ⟨g, 0, none⟩ = some o0) (h1 : w.cell? ⟨g, 1, none⟩ = some o1) :
    ((w.setCell ⟨g, 0, none⟩ v0).setCell ⟨g, 1, none⟩ v1).cell? ⟨g, 0, none⟩ = some v0 ∧ ((w.setCell ⟨g, 0, none⟩ v0).setCell ⟨g, 1, none⟩ v1).cell? ⟨g, 1, none⟩ = some v1 := by
  have n01 : (⟨g, 1, none⟩ : Addr) ≠ ⟨g, 0, none⟩ := by simp
  refine ⟨?_, ?_⟩
  · rw [World.cell?_setCell_other _ _ _ _ n01]
    exact World.cell?_setCell_same _ _ _ h0
  · exact World.cell?_setCell_same _ _ _ ((World.cell?_setCell_other _ _ _ _ (fun e => n01 e.symm)).trans h1)

end Go.Proofs.YteofmahbimkggaaDoor

/- Layer 23: the reference's Take, case by case. -/
namespace Go.Proofs.YteofmahbimkggaaDoor
set_option linter.unusedVariables false
open Go.RowKit

end Go.Proofs.YteofmahbimkggaaDoor

/- Layer 23: Take, of the program and of the reference, over one plain law. -/
namespace Go.Proofs.YteofmahbimkggaaDoor
set_option linter.unusedVariables false
open Go.RowKit

def negL (l : List UInt8) : Bool := l.head? == some 45
def bodyL (l : List UInt8) : List UInt8 := if negL l then l.drop 1 else l
/-- The number of a text in a column. -/
def takeN (l : List UInt8) (W M F L H : Int) : Bool × Int × Int :=
  if rightB W M F L H = false then (false, 0, 1)
  else if l = [] then (false, 0, 0)
  else match parseN (bodyL l) 1 M.toNat F.toNat with
  | none => (false, 0, 3)
  | some n => if fitsB true (if negL l then -(n : Int) else (n : Int)) L H then (true, (if negL l then -(n : Int) else (n : Int)), 0) else (false, 0, 5)

theorem parseN_le {l : List UInt8} {a m f n : Nat} (h : parseN l a m f = some n) (hm : m + f ≤ 18) : n ≤ 2000000000000000000 := by
  unfold parseN at h
  have hA := cntD_take l
  split at h
  · cases h
  rename_i g1
  split at h
  · rename_i g2
    injection h with h
    rw [g2, List.take_length] at hA
    have v := val_le hA (n := f) (by omega)
    rw [tenI_cast, ← Int.natCast_mul] at v
    omega
  split at h
  · cases h
  rename_i g3
  injection h with h
  have hB := cntD_take (l.drop (cntD l + 1))
  have e1 : cntD (l.drop (cntD l + 1)) = (l.drop (cntD l + 1)).length := by rw [List.length_drop]; omega
  rw [e1, List.take_length] at hB
  have v1 := val_le hA (n := f) (by rw [List.length_take]; omega)
  have v2 := val_le hB (n := f - cntD (l.drop (cntD l + 1))) (by omega)
  rw [tenI_cast, ← Int.natCast_mul] at v1 v2
  omega
theorem size_pos {s : ByteArray} (h : s.data.toList ≠ []) : 0 < s.size := by
  rcases Nat.eq_zero_or_pos s.size with h0 | h0
  · exact absurd (List.eq_nil_of_length_eq_zero (by simpa using h0)) h
  · exact h0
theorem size_nil {s : ByteArray} (h : s.data.toList = []) : s.size = 0 := by
  have : s.data.toList.length = 0 := by rw [h]; rfl
  simpa using this
theorem negL_true {s : ByteArray} (h0 : 0 < s.size) (h : negL s.data.toList = true) : (((s[0]'h0).toNat : Int) == 45) = true := by
  unfold negL at h
  have e : s.data.toList.head? = some s[0] := by rw [List.head?_eq_getElem?, List.getElem?_eq_getElem (by simpa using h0)]; rfl
  rw [e] at h
  have h2 : s[0] = 45 := by simpa using h
  rw [h2]
  rfl
theorem negL_false {s : ByteArray} (h0 : 0 < s.size) (h : negL s.data.toList = false) : (((s[0]'h0).toNat : Int) == 45) = false := by
  unfold negL at h
  have e : s.data.toList.head? = some s[0] := by rw [List.head?_eq_getElem?, List.getElem?_eq_getElem (by simpa using h0)]; rfl
  rw [e] at h
  have h2 : s[0] ≠ 45 := by simpa using h
  rw [beq_eq_false_iff_ne]
  intro k
  exact h2 (UInt8.toNat_inj.1 (by have e : (45 : UInt8).toNat = 45 := rfl; omega))

theorem fitsB_false {v L H : Int} (h : fitsB true v L H = false) : v < L ∨ L ≤ v ∧ H < v := by
  unfold fitsB at h
  rw [if_pos rfl] at h
  have := of_decide_eq_false h
  omega
theorem fitsB_true {v L H : Int} (h : fitsB true v L H = true) : L ≤ v ∧ v ≤ H := by
  unfold fitsB at h
  rw [if_pos rfl] at h
  exact of_decide_eq_true h

end Go.Proofs.YteofmahbimkggaaDoor

/- Layer 23: the reference's Put. -/
namespace Go.Proofs.YteofmahbimkggaaDoor
set_option linter.unusedVariables false
open Go.RowKit

theorem colS_below {w0 W w' : World} {g : Nat} {x y : Value} (hb : Below W.heap.size W w') (h : W.cell? ⟨g, 0, none⟩ = some x ∧ W.cell? ⟨g, 2, none⟩ = some y ∧ Hid (Below w0.heap.size w0 W) ∧ Hid (g < W.heap.size)) :
    w'.cell? ⟨g, 0, none⟩ = some x ∧ w'.cell? ⟨g, 2, none⟩ = some y ∧ Hid (Below w0.heap.size w0 w') ∧ Hid (g < w'.heap.size) := by
  obtain ⟨h1, h2, h3, h4⟩ := h
  obtain ⟨c, -⟩ := bcell hb
  exact ⟨(c g 0 h4.out).trans h1, (c g 2 h4.out).trans h2, Lib.hid (bthen h3.out hb), Lib.hid (Nat.lt_of_lt_of_le h4.out hb.size)⟩

/- other cases -/
end Go.Proofs.YteofmahbimkggaaDoor
