/- Contracts of the reference's Texts and Same of layer 22. -/
import Derived.Test.YtleebikcakndnaaBas
import Derived.Test.YtleebikcakndnaaProg
import Derived.BigQuiet
import Derived.Deep.QuietTactic
namespace Go.Proofs.Ytleebikcakndnaa
set_option linter.unusedVariables false
open Go.RowKit

theorem toList_inj {a b : ByteArray} (h : a.toList = b.toList) : a = b := by
  rw [ByteArray.toList_eq, ByteArray.toList_eq] at h
  obtain ⟨⟨l⟩⟩ := a
  obtain ⟨⟨m⟩⟩ := b
  simp at h
  rw [h]
theorem beq_text (a b : ByteArray) : (a.toList == b.toList) = decide (a = b) := by
  by_cases h : a = b
  · subst h; simp
  · rw [decide_eq_false h, beq_eq_false_iff_ne]
    exact fun k => h (toList_inj k)

set_option maxHeartbeats 1000000 in
theorem r22Texts_len (A B : Option Addr) (n m c d : Nat) (w : World) (h : n ≠ m) :
    Calls Try.prog 33 #[.slice A n c, .slice B m d] w fun e w' => e = .returned (.bool false) ∧ Below w.heap.size w w' := by
  have hb : ((n : Int) != (m : Int)) = true := by rw [bne_iff_ne]; omega
  go_enter Try.func33, Try.ntmps33
  go_wp2
  go_ret
  exact ⟨rfl, Below.refl _ _⟩

set_option maxHeartbeats 2000000 in
theorem r22Texts_eq (A B : Option Addr) (fs gs : List ByteArray) (n c d : Nat) (w : World) (h0 : n ≤ maxLen) (hf : Hid (fs.length = n)) (hg : Hid (gs.length = n)) (hA : Hid (Strs w w.heap.size A fs)) (hB : Hid (Strs w w.heap.size B gs)) :
    Calls Try.prog 33 #[.slice A n c, .slice B n d] w fun e w' => e = .returned (.bool (decide (fs = gs))) ∧ Below w.heap.size w w' := by
  unfold maxLen at h0
  have hb : ((n : Int) != (n : Int)) = false := by rw [bne_eq_false_iff_eq]
  go_enter Try.func33, Try.ntmps33
  go_wp2
  go_loopw [5] (fun i wr => ∃ k nq : Nat, k ≤ n ∧ i = .int .i64 k ∧ wr = w.drewN nq ∧ Hid (∀ j, j < k → fs[j]? = gs[j]?)) (fun i _ => n - (intOf i).toNat)
  case atStart => exact ⟨0, 0, Nat.zero_le _, rfl, rfl, fun j h => absurd h (Nat.not_lt_zero _)⟩
  case round =>
    obtain ⟨k, nq, hk, rfl, rfl, hall⟩ := hrel
    by_cases hlt : k < n
    · have hkf : k < fs.length := by rw [hf.out]; exact hlt
      have hkg : k < gs.length := by rw [hg.out]; exact hlt
      obtain ⟨a1, o1, hA1, hb1, hc1⟩ := hA.out k hkf
      obtain ⟨a2, o2, hA2, hb2, hc2⟩ := hB.out k hkg
      subst hA1 hA2
      have i1 : (0 : Int) ≤ (k : Int) := Int.natCast_nonneg _
      have i2 : (k : Int) < (n : Int) := by omega
      have hf? : Hid (fs[k]? = some fs[k]) := List.getElem?_eq_getElem hkf
      have hg? : Hid (gs[k]? = some gs[k]) := List.getElem?_eq_getElem hkg
      generalize fs[k] = f at hc1 hf?
      generalize gs[k] = g at hc2 hg?
      by_cases hfg : f = g
      · have ht : (f.toList == g.toList) = true := by rw [beq_text, decide_eq_true hfg]
        have HE := Lib.hid hfg
        clear hfg
        go_wp2_with fail
        go_quiet (fail)
        go_wp2_with fail
        go_roundw
        case rel =>
          refine ⟨k + 1, _, by omega, by go_num, rfl, fun j hj => ?_⟩
          rcases Nat.lt_or_ge j k with h | h
          · exact hall.out j h
          · obtain rfl : j = k := by omega
            rw [hf?.out, hg?.out, HE.out]
        case measure => simp [intOf]; omega
      · have ht : (f.toList == g.toList) = false := by rw [beq_text, decide_eq_false hfg]
        have HN : Hid (decide (fs = gs) = false) := decide_eq_false (fun h => hfg (by have h1 := hf?.out; have h2 := hg?.out; rw [h] at h1; rw [h1] at h2; injection h2))
        clear hfg
        go_wp2_with fail
        go_quiet (fail)
        go_wp2_with fail
        go_ret
        exact ⟨by rw [HN.out]; rfl, bdrewN (bdrewN (Below.refl _ _) _) _⟩
    · have HY : Hid (decide (fs = gs) = true) := by
        refine decide_eq_true (List.ext_getElem? fun j => ?_)
        rcases Nat.lt_or_ge j k with h | h
        · exact hall.out j h
        · rw [List.getElem?_eq_none (by rw [hf.out]; omega), List.getElem?_eq_none (by rw [hg.out]; omega)]
      go_wp2_with fail
      go_ret
      exact ⟨by rw [HY.out]; rfl, bdrewN (Below.refl _ _) _⟩

theorem r22Texts_any (A B : Option Addr) (fs gs : List ByteArray) (c d : Nat) (w : World) (h0 : fs.length ≤ maxLen) (hA : Strs w w.heap.size A fs) (hB : Strs w w.heap.size B gs) :
    Calls Try.prog 33 #[.slice A fs.length c, .slice B gs.length d] w fun e w' => e = .returned (.bool (decide (fs = gs))) ∧ Below w.heap.size w w' := by
  by_cases h : fs.length = gs.length
  · rw [← h]
    exact r22Texts_eq A B fs gs _ c d w h0 rfl h.symm hA hB
  · rw [decide_eq_false (fun k => h (by rw [k]))]
    exact r22Texts_len A B _ _ c d w h


/-- A sentence as a value. -/
abbrev senV (t y : ByteArray) (A : Option Addr) (n c : Nat) : Value := .agg #[.string t, .string y, .slice A n c]

set_option maxHeartbeats 2000000 in
theorem r22Same_any (t1 y1 t2 y2 : ByteArray) (A B : Option Addr) (fs gs : List ByteArray) (c d : Nat) (w : World) (h0 : fs.length ≤ maxLen) (hA : Strs w w.heap.size A fs) (hB : Strs w w.heap.size B gs) :
    Calls Try.prog 14 #[.agg #[.string t1, .string y1, .slice A fs.length c], .agg #[.string t2, .string y2, .slice B gs.length d]] w fun e w' => e = .returned (.bool (decide (t1 = t2 ∧ y1 = y2 ∧ fs = gs))) ∧ Below w.heap.size w w' := by
  have b2 : ∀ o1 o2, Below w.heap.size w ((w.alloc o1).alloc o2) := fun o1 o2 => (below_new _ _).alloc (by simp) _
  have hT : ∀ o1 o2, Hid (Calls Try.prog 33 #[.slice A fs.length c, .slice B gs.length d] ((w.alloc o1).alloc o2) fun e w' => e = .returned (.bool (decide (fs = gs))) ∧ Below ((w.alloc o1).alloc o2).heap.size ((w.alloc o1).alloc o2) w') := fun o1 o2 =>
    r22Texts_any A B fs gs c d _ h0 ((hA.below (b2 o1 o2) (Nat.le_refl _)).more (by simp; omega)) ((hB.below (b2 o1 o2) (Nat.le_refl _)).more (by simp; omega))
  have HB := Lib.hid b2
  clear b2 hA hB h0
  by_cases h1 : t1 = t2
  · have k1 : (t1.toList == t2.toList) = true := by rw [beq_text, decide_eq_true h1]
    by_cases h2 : y1 = y2
    · have k2 : (y1.toList == y2.toList) = true := by rw [beq_text, decide_eq_true h2]
      have HE : Hid (decide (t1 = t2 ∧ y1 = y2 ∧ fs = gs) = decide (fs = gs)) := by show _ = _; simp [h1, h2]
      rw [HE.out]
      clear h1 h2
      generalize decide (fs = gs) = b at *
      generalize fs.length = n at *
      generalize gs.length = m at *
      go_enter Try.func14, Try.ntmps14
      go_wp2_with fail
      refine (hT _ _).out.mono ?_
      rintro e w1 ⟨rfl, hb1⟩
      go_wp2_with fail
      go_ret
      exact ⟨rfl, (HB.out _ _).trans (hb1.mono (by simp; omega))⟩
    · have k2 : (y1.toList == y2.toList) = false := by rw [beq_text, decide_eq_false h2]
      have HE : Hid (decide (t1 = t2 ∧ y1 = y2 ∧ fs = gs) = false) := by show _ = _; simp [h2]
      rw [HE.out]
      clear h1 h2
      go_enter Try.func14, Try.ntmps14
      go_wp2_with fail
      go_ret
      exact ⟨rfl, HB.out _ _⟩
  · have k1 : (t1.toList == t2.toList) = false := by rw [beq_text, decide_eq_false h1]
    have HE : Hid (decide (t1 = t2 ∧ y1 = y2 ∧ fs = gs) = false) := by show _ = _; simp [h1]
    rw [HE.out]
    clear h1
    go_enter Try.func14, Try.ntmps14
    go_wp2_with fail
    go_ret
    exact ⟨rfl, HB.out _ _⟩

end Go.Proofs.Ytleebikcakndnaa
