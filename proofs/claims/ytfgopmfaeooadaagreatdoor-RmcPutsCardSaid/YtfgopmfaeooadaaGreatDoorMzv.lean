/- Layer 26: the reference's One, Cols; rdVar and rdMode in parts. -/
import Derived.Test.YtfgopmfaeooadaaGreatDoorMzr
import Derived.Test.YtfgopmfaeooadaaGreatDoorMgf
namespace Go.Proofs.YtfgopmfaeooadaaGreatDoor
set_option linter.unusedVariables false
open Go.RowKit

abbrev colsM : Array Value := #[.int .i64 1, .int .i64 4, .int .i64 2, .int .i64 0, .int .i64 999999, .int .i64 1, .int .i64 3, .int .i64 2, .int .i64 0, .int .i64 36000, .int .i64 1, .int .i64 3, .int .i64 1, .int .i64 0, .int .i64 1800]
theorem r26Cols_any (w : World) : Calls Tryz.prog 38 #[] w fun e w' => e = .returned (.slice (some ⟨w.heap.size, 0, none⟩) 3 3) ∧ (∀ o, w'.cell? ⟨w.heap.size, o, none⟩ = colsM[o]?) ∧ w'.heap.size = w.heap.size + 1 ∧ Below w.heap.size w w' := by
  go_enter Tryz.func38, Tryz.ntmps38
  go_wp2
  go_ret
  exact ⟨rfl, fun o => World.cell?_alloc_at _ _ _ _ rfl, by simp, below_new _ _⟩
set_option maxRecDepth 8000 in
theorem r26One_any {g : Nat} {s t : Rd} {b : Bool} {w : World} (ht : Hid (rdSt s = (b, t))) (hp : RowRI g s w) : Calls Tryz.prog 40 #[.pointer (some ⟨g, 0, none⟩), .string ⟨#[65]⟩, .string ⟨#[86]⟩] w (RowRStep g (.bool b) t w) := by
  obtain ⟨a, s1, ha⟩ : ∃ a s1, Hid (rdText s = (a, s1)) := ⟨_, _, rfl⟩
  have ht := ht.out
  unfold rdSt at ht
  rw [ha.out] at ht
  injection ht with e1 e2
  simp only at e1 e2
  have HP := Lib.hid hp
  clear hp
  have q65 : (⟨#[65]⟩ : ByteArray).toList = [65] := by rw [ByteArray.toList_eq]
  have q86 : (⟨#[86]⟩ : ByteArray).toList = [86] := by rw [ByteArray.toList_eq]
  by_cases hA : a = ⟨#[65]⟩
  · rw [decide_eq_true hA] at e1
    rw [if_neg (fun h => h.1 hA)] at e2
    subst e1 e2
    have b2 : (a.toList == [65]) = true := by rw [text_one]; exact decide_eq_true hA
    have b3 : (a.toList != [65]) = false := by unfold bne; rw [b2]; rfl
    clear hA
    go_enter Tryz.func40, Tryz.ntmps40
    go_wp2_with fail
    refine (rowTText ha HP.out).mono ?_
    rintro r w1 ⟨rfl, hx, hf⟩
    have HX := Lib.hid hx
    have HF := Lib.hid hf
    clear hx hf HP
    go_wp2_with fail
    go_ret
    exact ⟨rfl, HX.out, HF.out⟩
  · rw [decide_eq_false hA] at e1
    have b2 : (a.toList == [65]) = false := by rw [text_one]; exact decide_eq_false hA
    have b4 : (a.toList != [65]) = true := by unfold bne; rw [b2]; rfl
    by_cases hV : a = ⟨#[86]⟩
    · rw [if_neg (fun h => h.2 hV)] at e2
      subst e1 e2
      have b3 : (a.toList == [86]) = true := by rw [text_one]; exact decide_eq_true hV
      have b5 : (a.toList != [86]) = false := by unfold bne; rw [b3]; rfl
      clear hA hV
      go_enter Tryz.func40, Tryz.ntmps40
      go_wp2_with fail
      refine (rowTText ha HP.out).mono ?_
      rintro r w1 ⟨rfl, hx, hf⟩
      have HX := Lib.hid hx
      have HF := Lib.hid hf
      clear hx hf HP
      go_wp2_with fail
      go_ret
      exact ⟨rfl, HX.out, HF.out⟩
    · rw [if_pos ⟨hA, hV⟩] at e2
      subst e1 e2
      have b3 : (a.toList == [86]) = false := by rw [text_one]; exact decide_eq_false hV
      have b5 : (a.toList != [86]) = true := by unfold bne; rw [b3]; rfl
      clear hA hV
      go_enter Tryz.func40, Tryz.ntmps40
      go_wp2_with fail
      refine (rowTText ha HP.out).mono ?_
      rintro r w1 ⟨rfl, hx, hf⟩
      have HX := Lib.hid hx
      have HF := Lib.hid hf
      clear hx hf HP
      go_wp2_with fail
      refine (rowFirst rfl HX.out).mono ?_
      rintro r w2 ⟨rfl, hx2, hf2⟩
      have HX2 := Lib.hid hx2
      have HF2 := Lib.hid (HF.out.step hf2)
      clear hx2 hf2
      go_wp2_with fail
      go_ret
      exact ⟨rfl, HX2.out, HF2.out⟩
/-- Whether the side does not fit the number. -/
def sidedB (b : Bool) (d : ByteArray) : Bool := if b then !decide (d = eT) && !decide (d = wT) else !decide (d = ByteArray.empty)
theorem var_parts {s s1 s2 t : Rd} {b b0 : Bool} {n n0 : Int} {d : ByteArray} (h : rdVar s = ((b, n), t)) (h1 : rdNum 1 3 1 0 1800 s = ((b0, n0), s1)) (h2 : rdText s1 = (d, s2)) :
    b = b0 ∧ n = (if d = wT then -n0 else n0) ∧ t = (if sidedB b0 d = true then rdFail 3 s2 else s2) := by
  unfold rdVar at h
  rw [h1] at h
  simp only at h
  rw [h2] at h
  simp only at h
  unfold sidedR at h
  have nWZ : ¬ wT = ByteArray.empty := by decide
  cases b0 with
  | false =>
    have hn : n0 = 0 := rdNum_is h1
    subst hn
    by_cases hd : d = ByteArray.empty
    · subst hd
      rw [if_neg (by simp), if_neg (fun q => nWZ q.symm)] at h
      injection h with e1 e2
      injection e1 with e1 e3
      exact ⟨e1.symm, by rw [← e3]; split <;> rfl, by rw [← e2]; rfl⟩
    · rw [if_pos (.inr ⟨rfl, hd⟩)] at h
      injection h with e1 e2
      injection e1 with e1 e3
      exact ⟨e1.symm, by rw [← e3]; split <;> rfl, by rw [← e2, if_pos (by simp [sidedB, hd])]⟩
  | true =>
    by_cases hd : d ≠ eT ∧ d ≠ wT
    · rw [if_pos (.inl ⟨rfl, hd⟩)] at h
      injection h with e1 e2
      injection e1 with e1 e3
      exact ⟨e1.symm, by rw [← e3, if_neg hd.2], by rw [← e2, if_pos (by simp [sidedB, hd.1, hd.2])]⟩
    · rw [if_neg (fun q => q.elim (fun q => hd q.2) (fun q => by cases q.1))] at h
      have hs : ¬ sidedB true d = true := by
        intro q
        simp [sidedB] at q
        exact hd q
      by_cases hw : d = wT
      · rw [if_pos hw] at h
        injection h with e1 e2
        injection e1 with e1 e3
        exact ⟨e1.symm, by rw [← e3, if_pos hw], by rw [← e2, if_neg hs]⟩
      · rw [if_neg hw] at h
        injection h with e1 e2
        injection e1 with e1 e3
        exact ⟨e1.symm, by rw [← e3, if_neg hw], by rw [← e2, if_neg hs]⟩
theorem fail_rest (E : Int) (s : Rd) : (rdFail E s).2 = s.2 := rfl
theorem st_rest (s : Rd) : (rdSt s).2.2 = s.2.tail := by unfold rdSt; split <;> rfl
theorem var_rest (s : Rd) : (rdVar s).2.2 = s.2.tail.tail := by
  unfold rdVar sidedR
  split
  · rfl
  · split <;> rfl
theorem tail_len {l : List ByteArray} : l.tail.length = l.length - 1 := List.length_tail
theorem clk_rest (s : Rd) : (rdClk s).2.2 = s.2.tail := rfl
theorem dat_rest (s : Rd) : (rdDat s).2.2 = s.2.tail := rfl
theorem ang_rest (l : Bool) (s : Rd) : (rdAng l s).2.2 = s.2.tail.tail := rfl
theorem num_rest (W M F L H : Int) (s : Rd) : (rdNum W M F L H s).2.2 = s.2.tail := rfl
end Go.Proofs.YtfgopmfaeooadaaGreatDoor
