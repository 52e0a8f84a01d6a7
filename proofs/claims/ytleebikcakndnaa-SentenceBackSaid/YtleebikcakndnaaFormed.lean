/- The contract of sentence.formed. -/
import Derived.Test.YtleebikcakndnaaSenLine
namespace Go.Proofs.Ytleebikcakndnaa
set_option linter.unusedVariables false
open Go.RowKit

theorem IndexByte_star (s : ByteArray) (w : World) : Calls Try.prog 43 #[.string s, .int .u8 42] w fun e w' => e = .returned (.int .i64 (cutI s 42)) ∧ w = w' := IndexByte_any s 42 w

/-- Is a line as it must be, but for its sum? -/
def formedB (l : ByteArray) : Bool :=
  decide (8 ≤ l.size) && decide (cutI l 42 = (l.size : Int) - 3) && signsP (l.extract 0 5) 5 && (unhexL (l.extract (l.size - 3 + 1) l.size).data.toList).isSome && (decide (l.size = 8) || decide (l.data.toList[5]? = some 44))

set_option maxHeartbeats 1000000 in
theorem formed_short (l : ByteArray) (w : World) (h : l.size < 8) : Calls Try.prog 25 #[.string l] w fun e w' => e = .returned (.bool false) ∧ Below w.heap.size w w' := by
  go_enter Try.func25, Try.ntmps25
  go_wp2
  go_ret
  exact ⟨rfl, Below.refl _ _⟩

set_option maxHeartbeats 1000000 in
theorem formed_index (l : ByteArray) (n : Nat) (I : Int) (w : World) (h0 : n + 3 ≤ l.size) (h1 : l.size ≤ n + 3) (h5 : 5 ≤ n) (hm : l.size ≤ 1000000) (e1 : (l.size : Int) - 3 = (n : Int)) (hI : Hid (cutI l 42 = I)) (hne : (I != (n : Int)) = true) :
    Calls Try.prog 25 #[.string l] w fun e w' => e = .returned (.bool false) ∧ Below w.heap.size w w' := by
  go_enter Try.func25, Try.ntmps25
  go_wp2_with fail
  refine (IndexByte_star _ _).mono ?_
  rintro e w' ⟨rfl, rfl⟩
  rw [hI.out]
  go_wp2_with fail
  go_ret
  exact ⟨rfl, Below.refl _ _⟩

set_option maxHeartbeats 1000000 in
theorem formed_signs (l : ByteArray) (n : Nat) (w : World) (h0 : n + 3 ≤ l.size) (h1 : l.size ≤ n + 3) (h5 : 5 ≤ n) (hm : l.size ≤ 1000000) (e1 : (l.size : Int) - 3 = (n : Int)) (hI : Hid (cutI l 42 = (n : Int))) (hs : Hid (signsP (l.extract 0 5) 5 = false)) :
    Calls Try.prog 25 #[.string l] w fun e w' => e = .returned (.bool false) ∧ Below w.heap.size w w' := by
  go_enter Try.func25, Try.ntmps25
  go_wp2_with fail
  refine (IndexByte_star _ _).mono ?_
  rintro e w' ⟨rfl, rfl⟩
  rw [hI.out]
  go_wp2_with fail
  refine (signs_any _ 5 _).mono ?_
  rintro e w1 ⟨rfl, hb1⟩
  rw [hs.out]
  go_wp2_with fail
  go_ret
  exact ⟨rfl, hb1⟩

set_option maxHeartbeats 1000000 in
theorem formed_unhex (l : ByteArray) (n : Nat) (w : World) (h0 : n + 3 ≤ l.size) (h1 : l.size ≤ n + 3) (h5 : 5 ≤ n) (hm : l.size ≤ 1000000) (e1 : (l.size : Int) - 3 = (n : Int)) (hI : Hid (cutI l 42 = (n : Int))) (hs : Hid (signsP (l.extract 0 5) 5 = true))
    (hu : Hid (unhexL (l.extract (n + 1) l.size).data.toList = none)) :
    Calls Try.prog 25 #[.string l] w fun e w' => e = .returned (.bool false) ∧ Below w.heap.size w w' := by
  go_enter Try.func25, Try.ntmps25
  go_wp2_with fail
  refine (IndexByte_star _ _).mono ?_
  rintro e w' ⟨rfl, rfl⟩
  rw [hI.out]
  go_wp2_with fail
  refine (signs_any _ 5 _).mono ?_
  rintro e w1 ⟨rfl, hb1⟩
  rw [hs.out]
  go_wp2_with fail
  refine (Unhex_none _ _ hu).mono ?_
  rintro e w2 ⟨rfl, hb2⟩
  go_wp2_with fail
  go_ret
  exact ⟨rfl, bthen hb1 hb2⟩

set_option maxHeartbeats 1000000 in
theorem formed_five (l : ByteArray) (n : Nat) (v : Int) (w : World) (h0 : n + 3 ≤ l.size) (h1 : l.size ≤ n + 3) (h5 : 5 ≤ n) (h6 : n ≤ 5) (hm : l.size ≤ 1000000) (e1 : (l.size : Int) - 3 = (n : Int)) (hI : Hid (cutI l 42 = (n : Int))) (hs : Hid (signsP (l.extract 0 5) 5 = true))
    (hu : Hid (unhexL (l.extract (n + 1) l.size).data.toList = some v)) :
    Calls Try.prog 25 #[.string l] w fun e w' => e = .returned (.bool true) ∧ Below w.heap.size w w' := by
  have hb : ((n : Int) == 5) = true := by rw [beq_iff_eq]; omega
  go_enter Try.func25, Try.ntmps25
  go_wp2_with fail
  refine (IndexByte_star _ _).mono ?_
  rintro e w' ⟨rfl, rfl⟩
  rw [hI.out]
  go_wp2_with fail
  refine (signs_any _ 5 _).mono ?_
  rintro e w1 ⟨rfl, hb1⟩
  rw [hs.out]
  go_wp2_with fail
  refine (Unhex_some _ v _ hu).mono ?_
  rintro e w2 ⟨rfl, hb2⟩
  go_wp2_with fail
  go_ret
  exact ⟨rfl, bthen hb1 hb2⟩

set_option maxHeartbeats 1000000 in
theorem formed_six (l : ByteArray) (n : Nat) (v : Int) (b : Bool) (w : World) (h0 : n + 3 ≤ l.size) (h1 : l.size ≤ n + 3) (h5 : 6 ≤ n) (hm : l.size ≤ 1000000) (e1 : (l.size : Int) - 3 = (n : Int)) (hI : Hid (cutI l 42 = (n : Int))) (hs : Hid (signsP (l.extract 0 5) 5 = true))
    (hu : Hid (unhexL (l.extract (n + 1) l.size).data.toList = some v)) (hc : (((l[5]'(by omega)).toNat : Int) == 44) = b) :
    Calls Try.prog 25 #[.string l] w fun e w' => e = .returned (.bool b) ∧ Below w.heap.size w w' := by
  have hb : ((n : Int) == 5) = false := by rw [beq_eq_false_iff_ne]; omega
  go_enter Try.func25, Try.ntmps25
  go_wp2_with fail
  refine (IndexByte_star _ _).mono ?_
  rintro e w' ⟨rfl, rfl⟩
  rw [hI.out]
  go_wp2_with fail
  refine (signs_any _ 5 _).mono ?_
  rintro e w1 ⟨rfl, hb1⟩
  rw [hs.out]
  go_wp2_with fail
  refine (Unhex_some _ v _ hu).mono ?_
  rintro e w2 ⟨rfl, hb2⟩
  go_wp2_with fail
  go_ret
  exact ⟨rfl, bthen hb1 hb2⟩

theorem at_comma (s : ByteArray) (n : Nat) (h : n < s.size) : (s.data.toList[n]? = some 44) ↔ (s[n].toNat : Int) = 44 := by
  rw [at_some s n h]
  constructor
  · intro h
    injection h with h
    rw [h]
    rfl
  · intro h
    congr 1
    apply UInt8.toNat_inj.1
    have : (44 : UInt8).toNat = 44 := rfl
    omega

theorem formed_any (l : ByteArray) (w : World) (hm : l.size ≤ 1000000) : Calls Try.prog 25 #[.string l] w fun e w' => e = .returned (.bool (formedB l)) ∧ Below w.heap.size w w' := by
  by_cases h8 : l.size < 8
  · have hf : formedB l = false := by unfold formedB; rw [decide_eq_false (by omega : ¬ 8 ≤ l.size)]; rfl
    rw [hf]
    exact formed_short l w h8
  · obtain ⟨n, hn⟩ : ∃ n, l.size = n + 3 := ⟨l.size - 3, by omega⟩
    have e1 : (l.size : Int) - 3 = (n : Int) := by omega
    have e2 : l.size - 3 = n := by omega
    have d8 : decide (8 ≤ l.size) = true := decide_eq_true (by omega)
    by_cases hI : cutI l 42 = (n : Int)
    · have dI : decide (cutI l 42 = (l.size : Int) - 3) = true := decide_eq_true (by omega)
      cases hs : signsP (l.extract 0 5) 5 with
      | false =>
        have hf : formedB l = false := by unfold formedB; rw [hs]; simp
        rw [hf]
        exact formed_signs l n w (by omega) (by omega) (by omega) hm e1 hI hs
      | true =>
        cases hu : unhexL (l.extract (n + 1) l.size).data.toList with
        | none =>
          have hf : formedB l = false := by unfold formedB; rw [e2, hu]; simp
          rw [hf]
          exact formed_unhex l n w (by omega) (by omega) (by omega) hm e1 hI hs hu
        | some v =>
          have hf : formedB l = (decide (l.size = 8) || decide (l.data.toList[5]? = some 44)) := by unfold formedB; rw [e2, hu, d8, dI, hs]; rfl
          rw [hf]
          by_cases h5 : n = 5
          · rw [decide_eq_true (by omega : l.size = 8), Bool.true_or]
            exact formed_five l n v w (by omega) (by omega) (by omega) (by omega) hm e1 hI hs hu
          · rw [decide_eq_false (by omega : ¬ l.size = 8), Bool.false_or]
            refine formed_six l n v _ w (by omega) (by omega) (by omega) hm e1 hI hs hu ?_
            have hc := at_comma l 5 (by omega)
            by_cases h : ((l[5]'(by omega)).toNat : Int) = 44
            · rw [decide_eq_true (hc.2 h), beq_iff_eq]; exact h
            · rw [decide_eq_false (fun h' => h (hc.1 h')), beq_eq_false_iff_ne]; exact h
    · have hf : formedB l = false := by unfold formedB; rw [decide_eq_false (by omega : ¬ cutI l 42 = (l.size : Int) - 3)]; simp
      rw [hf]
      exact formed_index l n _ w (by omega) (by omega) (by omega) hm e1 rfl (by rw [bne_iff_ne]; exact hI)

end Go.Proofs.Ytleebikcakndnaa
