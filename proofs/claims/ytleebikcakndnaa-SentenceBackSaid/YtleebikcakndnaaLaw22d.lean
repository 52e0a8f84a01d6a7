/- The law SentenceBack, walked. -/
import Derived.Test.YtleebikcakndnaaPlain22c
import Derived.Deep.RegionWith
namespace Go.Proofs.Ytleebikcakndnaa
set_option linter.unusedVariables false
open Go.RowKit

set_option maxHeartbeats 2000000 in
theorem sentenceBack_few (t y : ByteArray) (fs : List ByteArray) (A : Option Addr) (c : Nat) (u : ByteArray) (w : World) (hn : fs.length ≤ maxLen) (ht : t.size ≤ maxLen) (hy : y.size ≤ maxLen) (hs : Strs w w.heap.size A fs) (hfz : ∀ f ∈ fs, f.size ≤ maxLen) (hfew : fewB t y fs = false) :
    Calls Try.prog 5 #[.agg #[.string t, .string y, .slice A fs.length c], .string u] w fun e w' => e = .returned (.bool true) ∧ Below w.heap.size w w' := by
  have hs1 : ∀ W, Below (w.heap.size + 1) (w.alloc (.cells #[.string t, .string y, .slice A fs.length c] 24)) W → Strs W W.heap.size A fs := fun W hb =>
    (((hs.below (below_new w _) (Nat.le_refl _)).below hb (by omega))).more (by have := hb.size; simp at this; omega)
  have HS := Lib.hid hs1
  clear hs1
  have HZ := Lib.hid hfz
  clear hfz hs
  have HN := Lib.hid hn
  clear hn
  have HF := fun W hb => Lib.hid (Few_any t y fs A c W HN.out ht hy (HS.out W hb) HZ.out)
  rw [hfew] at HF
  go_enter Try.func5, Try.ntmps5
  go_wp2_with fail
  refine (HF _ (by exact Below.refl _ _)).out.mono ?_
  rintro e w1 ⟨rfl, hb1⟩
  go_wp2_with fail
  refine (knows22_any _).mono ?_
  rintro e w2 ⟨rfl, hb2⟩
  go_wp2_with fail
  go_ret
  exact ⟨rfl, bthen (bthen (below_new _ _) hb1) hb2⟩

set_option maxHeartbeats 2000000 in
theorem sentenceBack_long (t y : ByteArray) (fs : List ByteArray) (A : Option Addr) (c : Nat) (u : ByteArray) (w : World) (hn : fs.length ≤ maxLen) (ht : t.size ≤ maxLen) (hy : y.size ≤ maxLen) (hs : Strs w w.heap.size A fs) (hfz : ∀ f ∈ fs, f.size ≤ maxLen) (hfew : fewB t y fs = true) (hu0 : u.size ≤ maxLen) (hu : (500 : Int) < (u.size : Int)) :
    Calls Try.prog 5 #[.agg #[.string t, .string y, .slice A fs.length c], .string u] w fun e w' => e = .returned (.bool true) ∧ Below w.heap.size w w' := by
  have hs1 : ∀ W, Below (w.heap.size + 1) (w.alloc (.cells #[.string t, .string y, .slice A fs.length c] 24)) W → Strs W W.heap.size A fs := fun W hb =>
    (((hs.below (below_new w _) (Nat.le_refl _)).below hb (by omega))).more (by have := hb.size; simp at this; omega)
  have HS := Lib.hid hs1
  clear hs1
  have HZ := Lib.hid hfz
  clear hfz hs
  have HN := Lib.hid hn
  clear hn
  have HF := fun W hb => Lib.hid (Few_any t y fs A c W HN.out ht hy (HS.out W hb) HZ.out)
  rw [hfew] at HF
  unfold maxLen at hu0
  go_enter Try.func5, Try.ntmps5
  go_wp2_with fail
  refine (HF _ (by exact Below.refl _ _)).out.mono ?_
  rintro e w1 ⟨rfl, hb1⟩
  go_wp2_with fail
  refine (knows22_any _).mono ?_
  rintro e w2 ⟨rfl, hb2⟩
  go_wp2_with fail
  go_ret
  exact ⟨rfl, bthen (bthen (below_new _ _) hb1) hb2⟩

theorem flat_le (fs : List ByteArray) : (fs.flatMap fun f => 44 :: f.data.toList).length ≥ fs.length := by
  induction fs with
  | nil => simp
  | cons f fs ih => rw [List.flatMap_cons, List.length_append, List.length_cons, List.length_cons]; omega
theorem parts_small {P : List UInt8} (hP : BodyOk P) : (partsL P).2.2.length ≤ 1000 ∧ (bodyL (partsL P).1 (partsL P).2.1 (partsL P).2.2).length ≤ 100000 := by
  have h := body_parts hP
  have h2 := flat_le (partsL P).2.2
  have h3 := hP.2.1
  have h4 : (bodyL (partsL P).1 (partsL P).2.1 (partsL P).2.2).length = P.length := by rw [h]
  refine ⟨?_, by omega⟩
  unfold bodyL at h4
  rw [List.length_append] at h4
  omega

end Go.Proofs.Ytleebikcakndnaa
