/- The contract of the reference's fields of layer 22. -/
import Derived.Test.YtleebikcakndnaaSplit
namespace Go.Proofs.Ytleebikcakndnaa
set_option linter.unusedVariables false
open Go.RowKit

/-- What stands behind the commas. -/
def fieldsB (s : ByteArray) : List ByteArray := ((splitC s.data.toList).tail).map toB

def FInv (L : List UInt8) (k f : Nat) (parts : List (List UInt8)) : Prop :=
  (f = 0 → parts = [] ∧ splitC L = headC (L.take k) (splitC (L.drop k))) ∧ (0 < f → ∃ P0, splitC L = P0 :: (parts ++ headC ((L.take k).drop f) (splitC (L.drop k))))
theorem finv_start (L : List UInt8) : FInv L 0 0 [] := by
  refine ⟨fun _ => ⟨rfl, ?_⟩, fun h => absurd h (by omega)⟩
  rw [List.take_zero, List.drop_zero, headC_nil _ (splitC_ne L)]
theorem finv_skip {L : List UInt8} {k f : Nat} {parts : List (List UInt8)} (h : FInv L k f parts) (hf : f ≤ k) (hk : k < L.length) (hc : L[k] ≠ 44) : FInv L (k + 1) f parts := by
  have e1 : splitC (L.drop k) = headC [L[k]] (splitC (L.drop (k + 1))) := by
    rw [List.drop_eq_getElem_cons hk, splitC_cons _ _ hc]
  have e2 : L.take (k + 1) = L.take k ++ [L[k]] := List.take_succ_eq_append_getElem hk
  have e3 : (L.take (k + 1)).drop f = (L.take k).drop f ++ [L[k]] := by
    rw [e2, List.drop_append_of_le_length (by rw [List.length_take]; omega)]
  refine ⟨fun h0 => ?_, fun h0 => ?_⟩
  · obtain ⟨a, b⟩ := h.1 h0
    exact ⟨a, by rw [b, e1, headC_headC _ _ _ (splitC_ne _), e2]⟩
  · obtain ⟨P0, b⟩ := h.2 h0
    exact ⟨P0, by rw [b, e1, headC_headC _ _ _ (splitC_ne _), e3]⟩
theorem comma_step {L : List UInt8} {k : Nat} (hk : k < L.length) (hc : L[k] = 44) (p : List UInt8) : headC p (splitC (L.drop k)) = p :: headC ((L.take (k + 1)).drop (k + 1)) (splitC (L.drop (k + 1))) := by
  rw [List.drop_eq_getElem_cons hk, hc, splitC_comma]
  have : (L.take (k + 1)).drop (k + 1) = [] := List.drop_eq_nil_of_le (by rw [List.length_take]; omega)
  rw [this, headC_nil _ (splitC_ne _)]
  simp [headC]
theorem finv_first {L : List UInt8} {k : Nat} {parts : List (List UInt8)} (h : FInv L k 0 parts) (hk : k < L.length) (hc : L[k] = 44) : FInv L (k + 1) (k + 1) parts := by
  refine ⟨fun h0 => absurd h0 (by omega), fun _ => ?_⟩
  obtain ⟨a, b⟩ := h.1 rfl
  exact ⟨L.take k, by rw [b, comma_step hk hc, a, List.nil_append]⟩
theorem finv_more {L : List UInt8} {k f : Nat} {parts : List (List UInt8)} (h : FInv L k f parts) (hf : 0 < f) (hk : k < L.length) (hc : L[k] = 44) : FInv L (k + 1) (k + 1) (parts ++ [(L.take k).drop f]) := by
  refine ⟨fun h0 => absurd h0 (by omega), fun _ => ?_⟩
  obtain ⟨P0, b⟩ := h.2 hf
  exact ⟨P0, by rw [b, comma_step hk hc]; simp⟩
theorem finv_end0 {L : List UInt8} {parts : List (List UInt8)} (h : FInv L L.length 0 parts) : (splitC L).tail = parts := by
  obtain ⟨a, b⟩ := h.1 rfl
  rw [b, a, List.drop_length]
  simp [splitC, headC]
theorem finv_end {L : List UInt8} {f : Nat} {parts : List (List UInt8)} (h : FInv L L.length f parts) (hf : 0 < f) : (splitC L).tail = parts ++ [(L.take L.length).drop f] := by
  obtain ⟨P0, b⟩ := h.2 hf
  rw [b, List.drop_length]
  simp [splitC, headC]

def strV (l : List UInt8) : Value := .string (toB l)
theorem extract_part (S : ByteArray) (f k : Nat) : S.extract f k = toB ((S.data.toList.take k).drop f) := by
  rw [extract_list, List.drop_take]

set_option maxHeartbeats 4000000 in
theorem r22fields_any (S : ByteArray) (w : World) (hm : S.size ≤ 100000) :
    Calls Try.prog 32 #[.string S] w (StrsPost (fieldsB S) w) := by
  obtain ⟨i0, hi, hz0, hz1, hz2⟩ := info_parts str_info
  have hL : S.data.toList.length = S.size := by simp
  have HL := Lib.hid hL
  clear hL
  have h00 := Lib.hid (finv_start S.data.toList)
  go_enter Try.func32, Try.ntmps32
  go_wp2
  go_loopw [3, 4, 5] (fun v fv iv wr => ∃ (k f : Nat) (parts : List (List UInt8)), iv = .int .i64 k ∧ fv = .int .i64 f ∧ k ≤ S.size + 1 ∧ f ≤ k ∧ parts.length ≤ k ∧ Hid (wr.ownsRow w.heap.size 9 1 v parts.length (parts.map strV)) ∧ Below w.heap.size w wr ∧
      Hid (k ≤ S.size ∧ FInv S.data.toList k f parts ∨ k = S.size + 1 ∧ (splitC S.data.toList).tail = parts)) (fun _ _ iv _ => S.size + 1 - (intOf iv).toNat)
  case atStart => exact ⟨0, 0, [], rfl, rfl, by omega, by omega, by simp, World.ownsRow_nil _ _ _ _, Below.refl _ _, .inl ⟨by omega, h00.out⟩⟩
  case round =>
    obtain ⟨k, f, parts, rfl, rfl, hk, hf, hpl, hown, hbr, hinv⟩ := hrel
    have hzr := hbr.size
    by_cases hks : k ≤ S.size
    · have HI : Hid (FInv S.data.toList k f parts) := by
        rcases hinv.out with ⟨_, h⟩ | ⟨h, _⟩
        · exact h
        · omega
      clear hinv
      by_cases hlt : k < S.size
      · have hne : ((k : Int) == (S.size : Int)) = false := by rw [beq_eq_false_iff_ne]; omega
        have hkl : k < S.data.toList.length := by rw [HL.out]; exact hlt
        by_cases hc : (S[k].toNat : Int) = 44
        · have hu : Hid (S.data.toList[k] = 44) := by
            show S.data.toList[k] = 44
            apply UInt8.toNat_inj.1
            have : (44 : UInt8).toNat = 44 := rfl
            have h2 : S.data.toList[k].toNat = S[k].toNat := rfl
            omega
          have hb : ((S[k].toNat : Int) == 44) = true := by rw [beq_iff_eq]; exact hc
          clear hc
          by_cases hf0 : f = 0
          · subst hf0
            have HN := Lib.hid (finv_first HI.out hkl hu.out)
            go_wp2_with fail
            go_roundw
            case rel => exact ⟨k + 1, k + 1, parts, by go_num, by go_num, by omega, by omega, by omega, hown, hbr, .inl ⟨by omega, HN.out⟩⟩
            case measure => simp [intOf]; omega
          · have hf1 : 0 < f := by omega
            have hf2 : (0 : Int) < (f : Int) := by omega
            have HN := Lib.hid (finv_more HI.out hf1 hkl hu.out)
            have hx := Lib.hid (extract_part S f k)
            go_wp2_with (at_builtin; refine wpList_append_own _ rfl _ _ 22 rfl w.heap.size 9 i0 (.string ByteArray.empty) 1 16 Try.underlying22 hi hz0 hz1 hz2 rfl (by decide) _ _ _ rfl (hown.out.alloc _) ⟨wr.heap.size, 0, none⟩ 1 1 [.string (S.extract f k)] rfl rfl ?c1 ?c2 ?c3 ?c4 ?c5 ?_)
            case c1 => exact cell_one_new _ _ _
            case c2 => intro u hu; simp at hu; subst hu; rfl
            case c3 => unfold maxLen; omega
            case c4 => omega
            case c5 => simp; omega
            intro v' w2 hown' hgrow _
            have hbb : Hid (Below w.heap.size w w2) := ((hbr.alloc (by omega) _).grown hgrow (by simp; omega) (fun k hk => (hown.out.lt k hk).1))
            have hown2 : Hid (w2.ownsRow w.heap.size 9 1 v' (parts ++ [(S.data.toList.take k).drop f]).length ((parts ++ [(S.data.toList.take k).drop f]).map strV)) := by
              show w2.ownsRow _ _ _ _ _ _
              rw [hx.out] at hown'
              simpa [strV] using hown'
            clear hown' hgrow
            go_wp2_with fail
            go_roundw
            case rel => exact ⟨k + 1, k + 1, _, by go_num, by go_num, by omega, by omega, by rw [List.length_append, List.length_singleton]; omega, hown2, hbb.out, .inl ⟨by omega, HN.out⟩⟩
            case measure => simp [intOf]; omega
        · have hu : Hid (S.data.toList[k] ≠ 44) := by
            show S.data.toList[k] ≠ 44
            intro h
            apply hc
            have h2 : S.data.toList[k].toNat = S[k].toNat := rfl
            rw [← h2, h]
            rfl
          have hb : ((S[k].toNat : Int) == 44) = false := by rw [beq_eq_false_iff_ne]; exact hc
          have HN := Lib.hid (finv_skip HI.out hf hkl hu.out)
          clear hc
          go_wp2_with fail
          go_roundw
          case rel => exact ⟨k + 1, f, parts, by go_num, rfl, by omega, by omega, by omega, hown, hbr, .inl ⟨by omega, HN.out⟩⟩
          case measure => simp [intOf]; omega
      · have hkeq : k = S.size := by omega
        have heq : ((k : Int) == (S.size : Int)) = true := by rw [beq_iff_eq]; omega
        have hkl : Hid (k = S.data.toList.length) := by show _ = _; rw [HL.out]; exact hkeq
        by_cases hf0 : f = 0
        · subst hf0
          have HN : Hid ((splitC S.data.toList).tail = parts) := by
            have := HI.out
            rw [hkl.out] at this
            exact finv_end0 this
          have hk2 : Hid (k + 1 = S.size + 1) := by show _ = _; omega
          clear hkeq
          go_wp2_with fail
          go_roundw
          case rel => exact ⟨k + 1, k + 1, parts, by go_num, by go_num, by omega, by omega, by omega, hown, hbr, .inr ⟨hk2.out, HN.out⟩⟩
          case measure => simp [intOf]; omega
        · have hf1 : 0 < f := by omega
          have hf2 : (0 : Int) < (f : Int) := by omega
          have HN : Hid ((splitC S.data.toList).tail = parts ++ [(S.data.toList.take k).drop f]) := by
            have := HI.out
            rw [hkl.out] at this ⊢
            exact finv_end this hf1
          have hk2 : Hid (k + 1 = S.size + 1) := by show _ = _; omega
          have hx := Lib.hid (extract_part S f k)
          clear hkeq
          go_wp2_with (at_builtin; refine wpList_append_own _ rfl _ _ 22 rfl w.heap.size 9 i0 (.string ByteArray.empty) 1 16 Try.underlying22 hi hz0 hz1 hz2 rfl (by decide) _ _ _ rfl (hown.out.alloc _) ⟨wr.heap.size, 0, none⟩ 1 1 [.string (S.extract f k)] rfl rfl ?d1 ?d2 ?d3 ?d4 ?d5 ?_)
          case d1 => exact cell_one_new _ _ _
          case d2 => intro u hu; simp at hu; subst hu; rfl
          case d3 => unfold maxLen; omega
          case d4 => omega
          case d5 => simp; omega
          intro v' w2 hown' hgrow _
          have hbb : Hid (Below w.heap.size w w2) := ((hbr.alloc (by omega) _).grown hgrow (by simp; omega) (fun k hk => (hown.out.lt k hk).1))
          have hown2 : Hid (w2.ownsRow w.heap.size 9 1 v' (parts ++ [(S.data.toList.take k).drop f]).length ((parts ++ [(S.data.toList.take k).drop f]).map strV)) := by
            show w2.ownsRow _ _ _ _ _ _
            rw [hx.out] at hown'
            simpa [strV] using hown'
          clear hown' hgrow
          go_wp2_with fail
          go_roundw
          case rel => exact ⟨k + 1, k + 1, _, by go_num, by go_num, by omega, by omega, by rw [List.length_append, List.length_singleton]; omega, hown2, hbb.out, .inr ⟨hk2.out, HN.out⟩⟩
          case measure => simp [intOf]; omega
    · have HT : Hid (parts.map toB = fieldsB S) := by
        rcases hinv.out with ⟨h, _⟩ | ⟨_, h⟩
        · omega
        · show _ = _
          unfold fieldsB
          rw [h]
      obtain ⟨A, c, hv⟩ := own_form hown.out
      have hst : Hid ((fieldsB S).length = parts.length ∧ Strs wr wr.heap.size A (fieldsB S) ∧ FreshA w.heap.size A) := by
        have h2 : wr.ownsRow w.heap.size 9 1 (.slice A parts.length c) parts.length ((fieldsB S).map Value.string) := by
          rw [← hv, ← HT.out, List.map_map]
          exact hown.out
        exact strs_of_own h2
      clear hinv hown
      subst hv
      go_wp2_with fail
      go_ret
      exact ⟨A, c, by rw [hst.out.1]; rfl, hst.out.2.1, hst.out.2.2, hbr⟩

end Go.Proofs.Ytleebikcakndnaa
