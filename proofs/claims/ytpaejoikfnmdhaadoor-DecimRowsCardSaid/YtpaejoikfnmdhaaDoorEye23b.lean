/- Layer 23: the next text, of an eye, of a row. -/
import Derived.Test.YtpaejoikfnmdhaaDoorEye23
namespace Go.Proofs.YtpaejoikfnmdhaaDoor
set_option linter.unusedVariables false
open Go.RowKit
variable {Q : Nat → Prop}

set_option maxRecDepth 8000 in
set_option maxHeartbeats 1000000 in
theorem EyeText_any (g : Nat) (e : Int) (R : List ByteArray) (w : World) (h : EyeR Q w g e R) :
    Calls Tryd.prog 29 #[.pointer (some ⟨g, 0, none⟩)] w (EyePost Q g (.string (R.headD ByteArray.empty)) (textE e R) R.tail w) := by
  cases R with
  | nil =>
    have HN : Hid (EyePost Q g (.string ByteArray.empty) (firstE e 3) [] w (.returned (.string ByteArray.empty)) (if e = 0 then w.setCell ⟨g, 1, none⟩ (.int .i64 3) else w)) := ⟨rfl, h.noted, frm_note _ _ _ _ _⟩
    obtain ⟨A, c, h0, h1, h2, h3, h4, h5, hB, h6, h7, h8⟩ := h
    have HC := Lib.hid (note_any g e 3 w h1 (h3 1))
    change Calls Tryd.prog 29 #[.pointer (some ⟨g, 0, none⟩)] w (EyePost Q g (.string ByteArray.empty) (firstE e 3) [] w)
    replace h2 : w.cell? ⟨g, 2, none⟩ = some (.slice A 0 c) := h2
    clear h1 h3 h4 h5 h6 h7 h8
    generalize (if e = 0 then w.setCell ⟨g, 1, none⟩ (.int .i64 3) else w) = W at *
    go_enter Tryd.func29, Tryd.ntmps29
    go_wp2_with fail
    refine (HC.out).mono ?_
    rintro e w' ⟨rfl, rfl⟩
    go_wp2_with fail
    go_ret
    exact HN.out
  | cons s t =>
    obtain ⟨A, c, h0, h1, h2, h3, h4, h5, hB, h6, h7, h8⟩ := h
    obtain ⟨b, off, rfl, hb, hc⟩ := h5 0 (by simp)
    have hbg := h6 b hb
    have H6 := Lib.hid h6
    replace hc : w.cell? ⟨b, off, none⟩ = some (.string s) := hc
    have hn : (s :: t).length = t.length + 1 := rfl
    rw [hn] at h2 h7 h8
    have z2 := h3 2
    have HN : Hid (EyePost Q g (.string s) e t w (.returned (.string s)) (w.setCell ⟨g, 2, none⟩ (.slice (some ⟨b, off + 1, none⟩) t.length (c - 1)))) := by
      refine ⟨rfl, ⟨some ⟨b, off + 1, none⟩, c - 1, ?_, ?_, World.cell?_setCell_same _ _ _ h2, fun o => by simpa using h3 o, by simpa using h4, ?_, by simpa using hB, ?_, by omega, by omega⟩, frm_set _ _ _ _⟩
      · rw [World.cell?_setCell_other _ _ _ _ (by simp)]; exact h0
      · rw [World.cell?_setCell_other _ _ _ _ (by simp)]; exact h1
      · intro k hk
        obtain ⟨b2, off2, e1, e2, e3⟩ := h5 (k + 1) (by simpa using hk)
        injection e1 with e1
        injection e1 with e1 e1'
        subst e1 e1'
        refine ⟨b, off + 1, rfl, hb, ?_⟩
        rw [World.cell?_setCell_other _ _ _ _ (fun q => by injection q with q; exact hbg q.symm), show off + 1 + k = off + (k + 1) from by omega, e3]
        rfl
      · exact H6.out
    change Calls Tryd.prog 29 #[.pointer (some ⟨g, 0, none⟩)] w (EyePost Q g (.string s) e t w)
    have HF := Lib.hid h3
    clear h3 h5 h6 hn
    have i1 : (1 : Int) ≤ ((t.length + 1 : Nat) : Int) := by omega
    have i2 : ((t.length + 1 : Nat) : Int) ≤ (c : Int) := by omega
    have i3 : (((t.length + 1 : Nat) : Int) == 0) = false := by rw [beq_eq_false_iff_ne]; omega
    have i4 : (0 : Int) < ((t.length + 1 : Nat) : Int) := by omega
    have i5 : t.length + 1 - 1 = t.length := by omega
    by_cases hc1 : c = 1
    · subst hc1
      have ht : t = [] := List.eq_nil_of_length_eq_zero (by omega)
      subst ht
      have HN2 : Hid (EyePost Q g (.string s) e [] w (.returned (.string s)) (w.setCell ⟨g, 2, none⟩ (.slice (some ⟨b, off, none⟩) 0 0))) := by
        refine ⟨rfl, ⟨some ⟨b, off, none⟩, 0, ?_, ?_, World.cell?_setCell_same _ _ _ h2, fun o => by simpa using HF.out o, by simpa using h4, fun k hk => absurd hk (by simp), by simpa using hB, H6.out, by simp, by simp⟩, frm_set _ _ _ _⟩
        · rw [World.cell?_setCell_other _ _ _ _ (by simp)]; exact h0
        · rw [World.cell?_setCell_other _ _ _ _ (by simp)]; exact h1
      replace h2 : w.cell? ⟨g, 2, none⟩ = some (.slice (some ⟨b, off, none⟩) 1 1) := h2
      clear HN i1 i2 i3 i4 i5 h7 h8 HF
      go_enter Tryd.func29, Tryd.ntmps29
      go_wp2_with fail
      go_ret
      exact HN2.out
    · clear HF
      generalize t.length + 1 = n at *
      generalize t.length = m at *
      go_enter Tryd.func29, Tryd.ntmps29
      go_wp2_with fail
      go_ret
      exact HN.out

set_option maxRecDepth 8000 in
set_option maxHeartbeats 1000000 in
theorem RowText1_any (g : Nat) (e : Int) (R : List ByteArray) (w : World) (h : RowR Q w g e R) :
    Calls Tryd.prog 39 #[.pointer (some ⟨g, 0, none⟩)] w (RowRPost Q g (.string (R.headD ByteArray.empty)) (textE e R) R.tail w) := by
  have HR0 := Lib.hid h
  obtain ⟨A, c, fs, at_, h0, h1, h2, h3, h4, h5, hB, h6, h7, h8, rfl⟩ := h
  by_cases hlt : at_ < fs.length
  · have hdrop : fs.drop at_ = fs[at_] :: fs.drop (at_ + 1) := List.drop_eq_getElem_cons hlt
    obtain ⟨b, off, rfl, hb, hc⟩ := h5 at_ hlt
    have hbg := h6 b hb
    have z1 := h3 1
    obtain ⟨s, hs⟩ : ∃ s, fs[at_] = s := ⟨_, rfl⟩
    rw [hs] at hc hdrop
    have k : RowR Q (w.setCell ⟨g, 1, none⟩ (.int .i64 ((at_ : Int) + 1))) g e (fs.drop (at_ + 1)) := by
      refine ⟨some ⟨b, off, none⟩, c, fs, at_ + 1, ?_, ?_, ?_, fun o => by simpa using h3 o, by simpa using h4, strs_keep h5 hB h6 (frm_set _ _ _ _), by simpa using hB, h6, h7, by omega, rfl⟩
      · rw [World.cell?_setCell_other _ _ _ _ (by simp)]; exact h0
      · rw [World.cell?_setCell_same _ _ _ h1]
        rw [show ((at_ + 1 : Nat) : Int) = (at_ : Int) + 1 from by omega]
      · rw [World.cell?_setCell_other _ _ _ _ (by simp)]; exact h2
    have hf := frm_set w g 1 (.int .i64 ((at_ : Int) + 1))
    have HN : Hid (∀ n m, RowRPost Q g (.string ((fs.drop at_).headD ByteArray.empty)) (textE e (fs.drop at_)) (fs.drop at_).tail w (.returned (.string s)) (((w.drewN n).setCell ⟨g, 1, none⟩ (.int .i64 ((at_ : Int) + 1))).drewN m)) := by
      intro n m
      rw [hdrop]
      exact ⟨rfl, k, ⟨hf.os, hf.tape, hf.output, hf.size, hf.block⟩⟩
    have i1 : (at_ : Int) < (fs.length : Int) := by omega
    have i2 : (fs.length : Int) ≤ 1000000 := by omega
    have i3 : (0 : Int) ≤ (at_ : Int) := by omega
    have hbg' : ¬ g = b := fun q => hbg q.symm
    have hbg'' : ¬ b = g := hbg
    clear h3 h5 h6 hdrop hs k hf HR0 h7 h8 hbg
    generalize fs.length = n at *
    go_enter Tryd.func39, Tryd.ntmps39
    go_wp2_with fail
    go_quiet (fail)
    go_wp2_with fail
    go_quiet (fail)
    go_wp2_with fail
    go_ret
    exact HN.out _ _
  · have hnil : fs.drop at_ = [] := List.drop_eq_nil_of_le (by omega)
    have z2 := h3 2
    have HC : ∀ n, Hid (Calls Tryd.prog 40 #[.pointer (some ⟨g, 0, none⟩), .int .i64 3] (w.drewN n) fun r w' => r = .returned (.tuple #[]) ∧ Hid (RowRPost Q g (.string ((fs.drop at_).headD ByteArray.empty)) (textE e (fs.drop at_)) (fs.drop at_).tail w (.returned (.string ByteArray.empty)) w')) := fun n => Lib.hid ((First_any g e 3 (w.drewN n) h2 z2).mono (by
      rintro r w' ⟨rfl, rfl⟩
      refine ⟨rfl, Lib.hid ?_⟩
      have k := (HR0.out.keep (below_draws n)).noted (E := 3)
      rw [hnil] at k ⊢
      refine ⟨rfl, k, ?_⟩
      have f := frm_note (w.drewN n) g 2 e 3
      exact ⟨f.os, f.tape, f.output, f.size, f.block⟩))
    have i1 : (fs.length : Int) ≤ (at_ : Int) := by omega
    clear h3 h5 h6 hnil HR0 h7 h8 hlt
    generalize fs.length = n at *
    go_enter Tryd.func39, Tryd.ntmps39
    go_wp2_with fail
    go_quiet (fail)
    go_wp2_with fail
    refine (HC _).out.mono ?_
    rintro r w' ⟨rfl, hpo⟩
    go_wp2_with fail
    go_ret
    exact hpo.out

end Go.Proofs.YtpaejoikfnmdhaaDoor
