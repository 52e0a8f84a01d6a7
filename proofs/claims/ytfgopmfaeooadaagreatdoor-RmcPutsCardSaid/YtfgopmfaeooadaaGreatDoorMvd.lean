/- Layer 28: the closure of Take. -/
import Derived.Test.YtfgopmfaeooadaaGreatDoorMva
import Derived.Deep.RegionHeld3
namespace Go.Proofs.YtfgopmfaeooadaaGreatDoor
set_option linter.unusedVariables false
open Go.RowKit

/-- A message's block is filled while fields are read. -/
structure TkI (X : World → Prop) (g M : Nat) (C : Array Value) (W w : World) : Prop where
  x : X w
  c : ∀ j, w.cell? ⟨M, j, none⟩ = C[j]?
  z : ∀ j, w.frozen? ⟨M, j, none⟩ = false
  gm : g < M
  mz : M < w.heap.size
  os : w.os = W.os
  tape : w.tape = W.tape
  output : w.output = W.output
  size : W.heap.size ≤ w.heap.size
  block : ∀ k, k < W.heap.size → k ≠ g → k ≠ M → w.heap[k]? = W.heap[k]?
theorem TkI.frm {X Y : World → Prop} {g M : Nat} {C : Array Value} {W w w' : World} (h : TkI X g M C W w) (hy : Y w') (hf : Frm g nilV w w') : TkI Y g M C W w' := by
  have gm := h.gm
  exact ⟨hy, fun j => (frm_cells hf h.mz (by omega) j).trans (h.c j), fun j => (frm_frozen hf h.mz (by omega) j).trans (h.z j), gm, Nat.lt_of_lt_of_le h.mz hf.size, hf.os.trans h.os, hf.tape.trans h.tape, hf.output.trans h.output, Nat.le_trans h.size hf.size,
    fun k h1 h2 h3 => (hf.block k (Nat.lt_of_lt_of_le h1 h.size) h2 (by simp [Value.ownBlock])).trans (h.block k h1 h2 h3)⟩
theorem TkI.keep {X Y : World → Prop} {g M : Nat} {C : Array Value} {W w w' : World} (h : TkI X g M C W w) (hy : Y w') (hb : Below w.heap.size w w') : TkI Y g M C W w' := h.frm hy (Frm.of_below hb)
theorem TkI.store {X Y : World → Prop} {g M o : Nat} {C C' : Array Value} {W w : World} {x y x' y' : Value} (h : TkI X g M C W w) (h0 : C[o]? = some x) (h1 : C[o + 1]? = some y) (hC : ∀ j, C'[j]? = if j = o then some x' else if j = o + 1 then some y' else C[j]?)
    (hy : Y ((w.setCell ⟨M, o, none⟩ x').setCell ⟨M, o + 1, none⟩ y')) : TkI Y g M C' W ((w.setCell ⟨M, o, none⟩ x').setCell ⟨M, o + 1, none⟩ y') := by
  refine ⟨hy, fun j => ?_, fun j => by simpa using h.z j, h.gm, by simpa using h.mz, h.os, h.tape, h.output, by simpa using h.size, fun k k1 k2 k3 => ?_⟩
  · rw [hC]
    by_cases e1 : j = o
    · subst e1
      rw [if_pos rfl, World.cell?_setCell_other _ _ _ _ (fun q => by injection q with _ q; omega), World.cell?_setCell_same _ _ _ ((h.c j).trans h0)]
    · rw [if_neg e1]
      by_cases e2 : j = o + 1
      · subst e2
        rw [if_pos rfl, World.cell?_setCell_same _ _ _ ((World.cell?_setCell_other _ _ _ _ (fun q => by injection q with _ q; omega)).trans ((h.c _).trans h1))]
      · rw [if_neg e2, World.cell?_setCell_other _ _ _ _ (fun q => by injection q with _ q; omega), World.cell?_setCell_other _ _ _ _ (fun q => by injection q with _ q; omega)]
        exact h.c j
  · exact (Below.heap_setCell _ _ _ _ k3).trans ((Below.heap_setCell _ _ _ _ k3).trans (h.block k k1 k2 k3))
theorem TkI.cell {X : World → Prop} {g M : Nat} {C : Array Value} {W w : World} (h : TkI X g M C W w) {b o : Nat} (hb : b < W.heap.size) (h1 : b ≠ g) (h2 : b ≠ M) : w.cell? ⟨b, o, none⟩ = W.cell? ⟨b, o, none⟩ := World.cell?_of_block (a := ⟨b, o, none⟩) (h.block b hb h1 h2)
theorem TkI.frozen {X : World → Prop} {g M : Nat} {C : Array Value} {W w : World} (h : TkI X g M C W w) {b o : Nat} (hb : b < W.heap.size) (h1 : b ≠ g) (h2 : b ≠ M) : w.frozen? ⟨b, o, none⟩ = W.frozen? ⟨b, o, none⟩ := World.frozen?_of_block (a := ⟨b, o, none⟩) (h.block b hb h1 h2)
theorem TkI.below {X : World → Prop} {g M B : Nat} {C : Array Value} {W w : World} (h : TkI X g M C W w) (hg : B ≤ g) (hB : B ≤ W.heap.size) : Below B W w :=
  ⟨h.os, h.tape, h.output, h.size, fun k hk => h.block k (by omega) (by omega) (by have := h.gm; omega)⟩

theorem unit_ways (a c : ByteArray) (b : Bool) (s1 : Rd) :
    (a.toList == c.toList) = true ∧ (if a ≠ c ∧ (b = true ∨ a ≠ ByteArray.empty) then rdFail 3 s1 else s1) = s1 ∨
    (a.toList == c.toList) = false ∧ b = true ∧ (if a ≠ c ∧ (b = true ∨ a ≠ ByteArray.empty) then rdFail 3 s1 else s1) = rdFail 3 s1 ∨
    (a.toList == c.toList) = false ∧ b = false ∧ a.toList.isEmpty = false ∧ (if a ≠ c ∧ (b = true ∨ a ≠ ByteArray.empty) then rdFail 3 s1 else s1) = rdFail 3 s1 ∨
    (a.toList == c.toList) = false ∧ b = false ∧ a.toList.isEmpty = true ∧ (if a ≠ c ∧ (b = true ∨ a ≠ ByteArray.empty) then rdFail 3 s1 else s1) = s1 := by
  rw [beq_text, isEmpty_text]
  by_cases h : a = c
  · exact .inl ⟨decide_eq_true h, if_neg (fun q => q.1 h)⟩
  · cases b with
    | true => exact .inr (.inl ⟨decide_eq_false h, rfl, if_pos ⟨h, .inl rfl⟩⟩)
    | false =>
      by_cases h2 : a = ByteArray.empty
      · exact .inr (.inr (.inr ⟨decide_eq_false h, rfl, decide_eq_true h2, if_neg (fun q => q.2.elim (fun q => by cases q) (fun q => q h2))⟩))
      · exact .inr (.inr (.inl ⟨decide_eq_false h, rfl, decide_eq_false h2, if_pos ⟨h, .inr h2⟩⟩))

/-- A text that may stand at the end. -/
theorem mode_ways (a : ByteArray) : (a.size = 0 ∧ a.toList.isEmpty = true ∧ a = ByteArray.empty) ∨ (a.toList.isEmpty = false ∧ a ≠ ByteArray.empty ∧ (2 ≤ a.size ∧ capB a = false ∨ ∃ hz : 0 < a.size, a.size = 1 ∧ (a[0].toNat < 65 ∧ capB a = false ∨ 90 < a[0].toNat ∧ capB a = false ∨ 65 ≤ a[0].toNat ∧ a[0].toNat ≤ 90 ∧ capB a = true))) := by
  rw [isEmpty_text]
  by_cases h0 : a.size = 0
  · have : a = ByteArray.empty := by simpa using h0
    exact .inl ⟨h0, decide_eq_true this, this⟩
  · have hne : a ≠ ByteArray.empty := fun q => h0 (by rw [q]; rfl)
    refine .inr ⟨decide_eq_false hne, hne, ?_⟩
    by_cases h1 : a.size = 1
    · refine .inr ⟨by omega, h1, ?_⟩
      have hg : (a[0]?.getD 0) = a[0] := by rw [getElem?_pos a 0 (by omega)]; rfl
      unfold capB
      rw [hg, decide_eq_true h1]
      by_cases h2 : a[0].toNat < 65
      · exact .inl ⟨h2, by simp; omega⟩
      · by_cases h3 : 90 < a[0].toNat
        · exact .inr (.inl ⟨h3, by simp; omega⟩)
        · exact .inr (.inr ⟨by omega, by omega, by simp; omega⟩)
    · refine .inl ⟨by omega, ?_⟩
      unfold capB
      simp [h1]
end Go.Proofs.YtfgopmfaeooadaaGreatDoor

/- Layer 28: Take. -/
namespace Go.Proofs.YtfgopmfaeooadaaGreatDoor
set_option linter.unusedVariables false
open Go.RowKit

def numsC (N : List (Bool × Int)) : List Value := N.flatMap fun x => [.bool x.1, .int .i64 x.2]
def vtgLV (N : List (Bool × Int)) : Value := .agg (numsC N).toArray
theorem vtgLV_four {b0 b1 b2 b3 : Bool} {n0 n1 n2 n3 : Int} : vtgLV [(b0, n0), (b1, n1), (b2, n2), (b3, n3)] = vtgV b0 n0 b1 n1 b2 n2 b3 n3 := rfl
/-- What Take hands back. -/
def VtgPost (x : List (Bool × Int) × Int) (w : World) (r : Ending) (w' : World) : Prop := r = .returned (.tuple #[vtgLV x.1, .int .i64 x.2]) ∧ Below w.heap.size w w'
theorem vtg_rchain {b0 b1 b2 b3 : Bool} {n0 n1 n2 n3 : Int} {s u0 s1 u1 s2 u2 s3 u3 s4 : Rd} (h0 : Hid (rdNum 1 3 2 0 36000 s = ((b0, n0), u0))) (k0 : Hid (rdUnit ⟨#[84]⟩ b0 u0 = s1)) (h1 : Hid (rdNum 1 3 2 0 36000 s1 = ((b1, n1), u1))) (k1 : Hid (rdUnit ⟨#[77]⟩ b1 u1 = s2))
    (h2 : Hid (rdNum 1 4 2 0 999999 s2 = ((b2, n2), u2))) (k2 : Hid (rdUnit ⟨#[78]⟩ b2 u2 = s3)) (h3 : Hid (rdNum 1 4 2 0 999999 s3 = ((b3, n3), u3))) (k3 : Hid (rdUnit ⟨#[75]⟩ b3 u3 = s4)) :
    rdCols vtgK s = ([(b0, n0), (b1, n1), (b2, n2), (b3, n3)], s4) := by
  have c0 : rdCol ⟨1, 3, 2, 0, 36000, ⟨#[84]⟩⟩ s = ((b0, n0), s1) := by unfold rdCol; rw [h0.out]; simp only; rw [k0.out]
  have c1 : rdCol ⟨1, 3, 2, 0, 36000, ⟨#[77]⟩⟩ s1 = ((b1, n1), s2) := by unfold rdCol; rw [h1.out]; simp only; rw [k1.out]
  have c2 : rdCol ⟨1, 4, 2, 0, 999999, ⟨#[78]⟩⟩ s2 = ((b2, n2), s3) := by unfold rdCol; rw [h2.out]; simp only; rw [k2.out]
  have c3 : rdCol ⟨1, 4, 2, 0, 999999, ⟨#[75]⟩⟩ s3 = ((b3, n3), s4) := by unfold rdCol; rw [h3.out]; simp only; rw [k3.out]
  simp only [vtgK, rdCols, c0, c1, c2, c3]
theorem vtg_taken {R : List ByteArray} {N : List (Bool × Int)} {s4 s5 : Rd} (hl : ¬(R.length ≠ 8 ∧ R.length ≠ 9)) (h : rdCols vtgK (0, R) = (N, s4)) (h5 : rdMode s4 = s5) : takeVtg R = if s5.1 = 0 then (N, 0) else (zeros4, s5.1) := by
  unfold takeVtg
  rw [if_neg hl, h]
  simp only
  rw [h5]
theorem mode3 {s4 s6 : Rd} {a : ByteArray} (h : rdText s4 = (a, s6)) (hn : s4.2 ≠ []) : (a.toList.isEmpty = true ∧ rdMode s4 = s6) ∨ (a.toList.isEmpty = false ∧ capB a = true ∧ rdMode s4 = s6) ∨ (a.toList.isEmpty = false ∧ capB a = false ∧ rdMode s4 = rdFail 3 s6) := by
  unfold rdMode
  rw [if_neg hn, h]
  simp only
  rw [isEmpty_text]
  by_cases h0 : a = ByteArray.empty
  · exact .inl ⟨decide_eq_true h0, if_neg (fun q => q.1 h0)⟩
  · cases hc : capB a with
    | true => exact .inr (.inl ⟨decide_eq_false h0, rfl, if_neg (fun q => by cases q.2)⟩)
    | false => exact .inr (.inr ⟨decide_eq_false h0, rfl, if_pos ⟨h0, rfl⟩⟩)
/-- A block's cells, and stores into it. -/
def AtC (w : World) (R : Nat) (C : Array Value) : Prop := ∀ j, w.cell? ⟨R, j, none⟩ = C[j]?
theorem AtC.set {w : World} {R : Nat} {C : Array Value} (h : AtC w R C) (k : Nat) (v : Value) (hk : k < C.size) : AtC (w.setCell ⟨R, k, none⟩ v) R (C.setIfInBounds k v) := by
  intro j
  rw [Array.getElem?_setIfInBounds]
  by_cases hj : k = j
  · subst hj
    rw [if_pos rfl, if_pos hk]
    exact World.cell?_setCell_same _ _ _ ((h k).trans (Array.getElem?_eq_getElem hk))
  · rw [if_neg hj, World.cell?_setCell_other _ _ _ _ (fun q => by injection q with _ q; exact hj q)]
    exact h j
theorem below_set {B R k : Nat} {a w : World} {v : Value} (h : Below B a w) (hR : B ≤ R) : Below B a (w.setCell ⟨R, k, none⟩ v) := h.setCell hR _
abbrev vtgZ : Array Value := vtgC false 0 false 0 false 0 false 0

end Go.Proofs.YtfgopmfaeooadaaGreatDoor

/- Layer 28: the reference's Take. Printed by genvtg7.py. -/
namespace Go.Proofs.YtfgopmfaeooadaaGreatDoor
set_option linter.unusedVariables false
open Go.RowKit

theorem rdNum_tail {W M F L H : Int} {s t : Rd} {x : Bool × Int} (h : rdNum W M F L H s = (x, t)) : t.2 = s.2.tail := by
  have : (rdNum W M F L H s).2.2 = s.2.tail := rfl
  rw [h] at this
  exact this
theorem rdUnit_tail {c : ByteArray} {b : Bool} {s t : Rd} (h : rdUnit c b s = t) : t.2 = s.2.tail := by
  rw [← h]
  unfold rdUnit
  split <;> rfl
end Go.Proofs.YtfgopmfaeooadaaGreatDoor

/- Layer 28: Kmh, Agrees; Few of layer 25. -/
namespace Go.Proofs.YtfgopmfaeooadaaGreatDoor
set_option linter.unusedVariables false
open Go.RowKit

def kmhN (n : Int) : Int := ((overQ (1852 * (max 0 (min n 999999))).toNat 1000 : Nat) : Int)
theorem kmhN_range (n : Int) : 0 ≤ kmhN n ∧ kmhN n ≤ 2000000 := by
  unfold kmhN
  have h : (1852 * (max 0 (min n 999999))).toNat ≤ 1851998148 := by omega
  generalize (1852 * (max 0 (min n 999999))).toNat = x at *
  unfold overQ
  split <;> omega
/-- Do both speeds agree? -/
def agreeB (b2 : Bool) (n2 : Int) (b3 : Bool) (n3 : Int) : Bool := !b2 || !b3 || (decide (kmhN n2 - 2 ≤ n3) && decide (n3 ≤ kmhN n2 + 2))
theorem agree_ways (b2 : Bool) (n2 : Int) (b3 : Bool) (n3 : Int) : (b2 = false ∧ agreeB b2 n2 b3 n3 = true) ∨ (b2 = true ∧ b3 = false ∧ agreeB b2 n2 b3 n3 = true) ∨ (b2 = true ∧ b3 = true ∧ (n3 < kmhN n2 - 2 ∧ agreeB b2 n2 b3 n3 = false ∨ kmhN n2 + 2 < n3 ∧ agreeB b2 n2 b3 n3 = false ∨ kmhN n2 - 2 ≤ n3 ∧ n3 ≤ kmhN n2 + 2 ∧ agreeB b2 n2 b3 n3 = true)) := by
  unfold agreeB
  cases b2 with
  | false => exact .inl ⟨rfl, rfl⟩
  | true =>
    cases b3 with
    | false => exact .inr (.inl ⟨rfl, rfl, rfl⟩)
    | true =>
      refine .inr (.inr ⟨rfl, rfl, ?_⟩)
      by_cases h1 : n3 < kmhN n2 - 2
      · exact .inl ⟨h1, by simp; omega⟩
      · by_cases h2 : kmhN n2 + 2 < n3
        · exact .inr (.inl ⟨h2, by simp; omega⟩)
        · exact .inr (.inr ⟨by omega, by omega, by simp; omega⟩)
/-- Are fields few, and short? -/
def fewL (fs : List ByteArray) : Bool := decide (fs.length ≤ 40) && fs.all fun f => decide (f.size ≤ 100)
theorem fewL_iff (fs : List ByteArray) : fewL fs = true ↔ fs.length ≤ 40 ∧ ∀ f ∈ fs, f.size ≤ 100 := by simp [fewL]
set_option maxHeartbeats 2000000 in
theorem r25Few_main (A : Option Addr) (n c : Nat) (fs : List ByteArray) (w : World) (hl : Hid (fs.length = n)) (hs : Hid (Strs w w.heap.size A fs)) (hz : Hid (∀ f ∈ fs, f.size ≤ maxLen)) (hn : n ≤ 40) :
    Calls Tryz.prog 5 #[.slice A n c] w fun e w' => e = .returned (.bool (fewL fs)) ∧ w' = w := by
  have i0 : (n : Int) ≤ 40 := by omega
  go_enter Tryz.func5, Tryz.ntmps5
  go_wp2
  go_loop [3] (fun v => ∃ k : Nat, v = .int .i64 (k : Int) ∧ k ≤ n ∧ Hid (∀ (j : Nat) (h : j < fs.length), j < k → fs[j].size ≤ 100)) (fun v => n - (intOf v).toNat)
  case atStart => exact ⟨0, rfl, Nat.zero_le _, fun j _ h => absurd h (Nat.not_lt_zero _)⟩
  case round =>
    obtain ⟨k, rfl, hk, hall⟩ := hrel
    by_cases hlt : k < n
    · have hkl : k < fs.length := by rw [hl.out]; exact hlt
      obtain ⟨b, off, hAb, hb, hc⟩ := hs.out k hkl
      subst hAb
      have hz1 : fs[k].size ≤ maxLen := hz.out _ (List.getElem_mem _)
      have i3 : (k : Int) < (n : Int) := by omega
      have i4 : (0 : Int) ≤ (k : Int) := by omega
      by_cases hbig : fs[k].size ≤ 100
      · have HN : Hid (∀ (j : Nat) (h : j < fs.length), j < k + 1 → fs[j].size ≤ 100) := fun j h hj => by
          rcases Nat.lt_or_ge j k with q | q
          · exact hall.out j h q
          · obtain rfl : j = k := by omega
            exact hbig
        have i5 : (fs[k].size : Int) ≤ 100 := by omega
        generalize fs[k] = f at hc hbig i5 hz1
        clear hall
        go_wp2_with fail
        go_round
        case rel => exact ⟨k + 1, by go_num, by omega, HN⟩
        case measure => simp [intOf]; omega
      · have i5 : (100 : Int) < (fs[k].size : Int) := by omega
        have HF : Hid (fewL fs = false) := by
          show _ = _
          cases hq : fewL fs with
          | false => rfl
          | true => exact absurd (((fewL_iff fs).1 hq).2 _ (List.getElem_mem _)) hbig
        unfold maxLen at hz1
        generalize fs[k] = f at hc hbig i5 hz1
        clear hall
        go_wp2_with fail
        go_ret
        exact ⟨by rw [HF.out]; rfl, rfl⟩
    · have HF : Hid (fewL fs = true) := (fewL_iff fs).2 ⟨by rw [hl.out]; exact hn, fun f hf => by
        obtain ⟨j, hj, rfl⟩ := List.mem_iff_getElem.1 hf
        exact hall.out j hj (by rw [hl.out] at hj; omega)⟩
      have i3 : (n : Int) ≤ (k : Int) := by omega
      clear hall
      go_wp2_with fail
      go_ret
      exact ⟨by rw [HF.out]; rfl, rfl⟩
theorem r25Few_any (A : Option Addr) (n c : Nat) (fs : List ByteArray) (w : World) (hl : fs.length = n) (hs : Strs w w.heap.size A fs) (hz : ∀ f ∈ fs, f.size ≤ maxLen) (hm : n ≤ maxLen) :
    Calls Tryz.prog 5 #[.slice A n c] w fun e w' => e = .returned (.bool (fewL fs)) ∧ w' = w := by
  by_cases h : n ≤ 40
  · exact r25Few_main A n c fs w hl hs hz h
  · have HF : Hid (fewL fs = false) := by
      show _ = _
      cases hq : fewL fs with
      | false => rfl
      | true => exact absurd ((fewL_iff fs).1 hq).1 (by omega)
    unfold maxLen at hm
    have i0 : (40 : Int) < (n : Int) := by omega
    clear hs hz
    go_enter Tryz.func5, Tryz.ntmps5
    go_wp2
    go_ret
    exact ⟨by rw [HF.out]; rfl, rfl⟩
end Go.Proofs.YtfgopmfaeooadaaGreatDoor
