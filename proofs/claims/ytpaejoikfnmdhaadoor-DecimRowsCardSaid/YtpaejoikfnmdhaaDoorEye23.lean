/- Layer 23: eyes, and the reference's rows that are read: a text, an error. -/
import Derived.Test.YtpaejoikfnmdhaaDoorRow23
import Derived.Deep.QuietTactic
namespace Go.Proofs.YtpaejoikfnmdhaaDoor
set_option linter.unusedVariables false
open Go.RowKit
variable {Q : Nat → Prop}

abbrev nilV : Value := .slice none 0 0
/-- The error behind a text. -/
def textE (e : Int) (R : List ByteArray) : Int := if R = [] then firstE e 3 else e

/-- A slice of texts in blocks of a kind. -/
def StrsQ (Q : Nat → Prop) (w : World) (A : Option Addr) (fs : List ByteArray) : Prop :=
  ∀ k (hk : k < fs.length), ∃ b off, A = some ⟨b, off, none⟩ ∧ Q b ∧ w.cell? ⟨b, off + k, none⟩ = some (.string (fs[k]'hk))
/-- An eye that a call made. -/
def EyeR (Q : Nat → Prop) (w : World) (g : Nat) (e : Int) (R : List ByteArray) : Prop :=
  ∃ A c, w.cell? ⟨g, 0, none⟩ = some (.bool true) ∧ w.cell? ⟨g, 1, none⟩ = some (.int .i64 e) ∧ w.cell? ⟨g, 2, none⟩ = some (.slice A R.length c) ∧ (∀ o, w.frozen? ⟨g, o, none⟩ = false) ∧ g < w.heap.size ∧ StrsQ Q w A R ∧ (∀ b, Q b → b < w.heap.size) ∧ (∀ b, Q b → b ≠ g) ∧ R.length ≤ 1000000 ∧ R.length ≤ c
/-- A row of the reference that is read. -/
def RowR (Q : Nat → Prop) (w : World) (g : Nat) (e : Int) (R : List ByteArray) : Prop :=
  ∃ A c fs at_, w.cell? ⟨g, 0, none⟩ = some (.slice A fs.length c) ∧ w.cell? ⟨g, 1, none⟩ = some (.int .i64 ((at_ : Nat) : Int)) ∧ w.cell? ⟨g, 2, none⟩ = some (.int .i64 e) ∧ (∀ o, w.frozen? ⟨g, o, none⟩ = false) ∧ g < w.heap.size ∧ StrsQ Q w A fs ∧ (∀ b, Q b → b < w.heap.size) ∧ (∀ b, Q b → b ≠ g) ∧ fs.length ≤ 1000000 ∧ at_ ≤ fs.length ∧ R = fs.drop at_

theorem strs_keep {w w' : World} {A : Option Addr} {R : List ByteArray} {g : Nat} (h : StrsQ Q w A R) (hB : ∀ b, Q b → b < w.heap.size) (hA : ∀ b, Q b → b ≠ g) (hf : Frm g nilV w w') : StrsQ Q w' A R := by
  intro k hk
  obtain ⟨b, off, h1, h2, h3⟩ := h k hk
  exact ⟨b, off, h1, h2, (hf.cell (hB b h2) (hA b h2) (by simp [Value.ownBlock])).trans h3⟩
theorem EyeR.keep {w w' : World} {g : Nat} {e : Int} {R : List ByteArray} (h : EyeR Q w g e R) (hb : Below w.heap.size w w') : EyeR Q w' g e R := by
  obtain ⟨A, c, h0, h1, h2, h3, h4, h5, hB, h6, h7, h8⟩ := h
  obtain ⟨cc, ff⟩ := bcell hb
  exact ⟨A, c, (cc g 0 h4).trans h0, (cc g 1 h4).trans h1, (cc g 2 h4).trans h2, fun o => (ff g o h4).trans (h3 o), Nat.lt_of_lt_of_le h4 hb.size, strs_keep h5 hB h6 (Frm.of_below hb), (fun b q => Nat.lt_of_lt_of_le (hB b q) hb.size), h6, h7, h8⟩
theorem RowR.keep {w w' : World} {g : Nat} {e : Int} {R : List ByteArray} (h : RowR Q w g e R) (hb : Below w.heap.size w w') : RowR Q w' g e R := by
  obtain ⟨A, c, fs, at_, h0, h1, h2, h3, h4, h5, hB, h6, h7, h8, h9⟩ := h
  obtain ⟨cc, ff⟩ := bcell hb
  exact ⟨A, c, fs, at_, (cc g 0 h4).trans h0, (cc g 1 h4).trans h1, (cc g 2 h4).trans h2, fun o => (ff g o h4).trans (h3 o), Nat.lt_of_lt_of_le h4 hb.size, strs_keep h5 hB h6 (Frm.of_below hb), (fun b q => Nat.lt_of_lt_of_le (hB b q) hb.size), h6, h7, h8, h9⟩
theorem frm_set (w : World) (g o : Nat) (u : Value) : Frm g nilV w (w.setCell ⟨g, o, none⟩ u) := (Frm.of_below (Below.refl _ _)).set _ _
theorem EyeR.err {w : World} {g : Nat} {e E : Int} {R : List ByteArray} (h : EyeR Q w g e R) : EyeR Q (w.setCell ⟨g, 1, none⟩ (.int .i64 E)) g E R := by
  obtain ⟨A, c, h0, h1, h2, h3, h4, h5, hB, h6, h7, h8⟩ := h
  refine ⟨A, c, ?_, World.cell?_setCell_same _ _ _ h1, ?_, fun o => by simpa using h3 o, by simpa using h4, strs_keep h5 hB h6 (frm_set _ _ _ _), by simpa using hB, h6, h7, h8⟩
  · rw [World.cell?_setCell_other _ _ _ _ (by simp)]; exact h0
  · rw [World.cell?_setCell_other _ _ _ _ (by simp)]; exact h2
theorem RowR.err {w : World} {g : Nat} {e E : Int} {R : List ByteArray} (h : RowR Q w g e R) : RowR Q (w.setCell ⟨g, 2, none⟩ (.int .i64 E)) g E R := by
  obtain ⟨A, c, fs, at_, h0, h1, h2, h3, h4, h5, hB, h6, h7, h8, h9⟩ := h
  refine ⟨A, c, fs, at_, ?_, ?_, World.cell?_setCell_same _ _ _ h2, fun o => by simpa using h3 o, by simpa using h4, strs_keep h5 hB h6 (frm_set _ _ _ _), by simpa using hB, h6, h7, h8, h9⟩
  · rw [World.cell?_setCell_other _ _ _ _ (by simp)]; exact h0
  · rw [World.cell?_setCell_other _ _ _ _ (by simp)]; exact h1

/-- What a step of an eye leaves. -/
def EyePost (Q : Nat → Prop) (g : Nat) (x : Value) (e : Int) (R : List ByteArray) (w : World) (r : Ending) (w' : World) : Prop := r = .returned x ∧ EyeR Q w' g e R ∧ Frm g nilV w w'
def RowRPost (Q : Nat → Prop) (g : Nat) (x : Value) (e : Int) (R : List ByteArray) (w : World) (r : Ending) (w' : World) : Prop := r = .returned x ∧ RowR Q w' g e R ∧ Frm g nilV w w'

theorem EyeR.noted {w : World} {g : Nat} {e E : Int} {R : List ByteArray} (h : EyeR Q w g e R) : EyeR Q (if e = 0 then w.setCell ⟨g, 1, none⟩ (.int .i64 E) else w) g (firstE e E) R := by
  unfold firstE
  by_cases he : e = 0
  · rw [if_pos he, if_pos he]; exact h.err
  · rw [if_neg he, if_neg he]; exact h
theorem RowR.noted {w : World} {g : Nat} {e E : Int} {R : List ByteArray} (h : RowR Q w g e R) : RowR Q (if e = 0 then w.setCell ⟨g, 2, none⟩ (.int .i64 E) else w) g (firstE e E) R := by
  unfold firstE
  by_cases he : e = 0
  · rw [if_pos he, if_pos he]; exact h.err
  · rw [if_neg he, if_neg he]; exact h
theorem frm_note (w : World) (g o : Nat) (e E : Int) : Frm g nilV w (if e = 0 then w.setCell ⟨g, o, none⟩ (.int .i64 E) else w) := by
  split
  · exact frm_set _ _ _ _
  · exact Frm.of_below (Below.refl _ _)

set_option maxHeartbeats 1000000 in
theorem EyeFail_any (g : Nat) (e E : Int) (R : List ByteArray) (w : World) (h : EyeR Q w g e R) :
    Calls Tryd.prog 25 #[.pointer (some ⟨g, 0, none⟩), .int .i64 E] w (EyePost Q g (.tuple #[]) (firstE e E) R w) := by
  have HN : Hid (EyePost Q g (.tuple #[]) (firstE e E) R w (.returned (.tuple #[])) (if e = 0 then w.setCell ⟨g, 1, none⟩ (.int .i64 E) else w)) := ⟨rfl, h.noted, frm_note _ _ _ _ _⟩
  obtain ⟨A, c, h0, h1, h2, h3, h4, h5, hB, h6, h7, h8⟩ := h
  have HC := Lib.hid (note_any g e E w h1 (h3 1))
  clear h1 h2 h3 h4 h5 h6
  generalize (if e = 0 then w.setCell ⟨g, 1, none⟩ (.int .i64 E) else w) = W at *
  go_enter Tryd.func25, Tryd.ntmps25
  go_wp2_with fail
  refine (HC.out).mono ?_
  rintro e w' ⟨rfl, rfl⟩
  go_wp2_with fail
  go_end0
  exact HN.out
theorem RowFirst_any (g : Nat) (e E : Int) (R : List ByteArray) (w : World) (h : RowR Q w g e R) :
    Calls Tryd.prog 40 #[.pointer (some ⟨g, 0, none⟩), .int .i64 E] w (RowRPost Q g (.tuple #[]) (firstE e E) R w) := by
  have HN : RowR Q (if e = 0 then w.setCell ⟨g, 2, none⟩ (.int .i64 E) else w) g (firstE e E) R := h.noted
  obtain ⟨A, c, fs, at_, h0, h1, h2, h3, h4, -⟩ := h
  refine (First_any g e E w h2 (h3 2)).mono ?_
  rintro r w' ⟨rfl, rfl⟩
  exact ⟨rfl, HN, frm_note _ _ _ _ _⟩

theorem EyeErr_any (g : Nat) (e : Int) (R : List ByteArray) (w : World) (h : EyeR Q w g e R) :
    Calls Tryd.prog 31 #[.pointer (some ⟨g, 0, none⟩)] w fun r w' => r = .returned (.int .i64 e) ∧ w = w' := by
  obtain ⟨A, c, h0, h1, h2, h3, h4, h5, hB, h6, h7, h8⟩ := h
  clear h5 h6 h3
  go_enter Tryd.func31, Tryd.ntmps31
  go_wp2
  go_ret
  exact ⟨rfl, rfl⟩
theorem EyeLeft_any (g : Nat) (e : Int) (R : List ByteArray) (w : World) (h : EyeR Q w g e R) :
    Calls Tryd.prog 30 #[.pointer (some ⟨g, 0, none⟩)] w fun r w' => r = .returned (.int .i64 (R.length : Int)) ∧ w = w' := by
  obtain ⟨A, c, h0, h1, h2, h3, h4, h5, hB, h6, h7, h8⟩ := h
  clear h5 h6 h3
  generalize R.length = n at *
  go_enter Tryd.func30, Tryd.ntmps30
  go_wp2
  go_ret
  exact ⟨rfl, rfl⟩
theorem RowLeft_any (g : Nat) (e : Int) (R : List ByteArray) (w : World) (h : RowR Q w g e R) :
    Calls Tryd.prog 41 #[.pointer (some ⟨g, 0, none⟩)] w fun r w' => r = .returned (.int .i64 (R.length : Int)) ∧ ∃ k, w' = w.drewN k := by
  obtain ⟨A, c, fs, at_, h0, h1, h2, h3, h4, h5, hB, h6, h7, h8, rfl⟩ := h
  have hl : ((fs.drop at_).length : Int) = (fs.length : Int) - (at_ : Int) := by rw [List.length_drop]; omega
  rw [hl]
  clear h5 h6 h3 hl
  generalize fs.length = n at *
  have hn : (n : Int) ≤ 1000000 := by omega
  have ha : (at_ : Int) ≤ (n : Int) := by omega
  have hw : IntKind.i64.wrap ((n : Int) - (at_ : Int)) = (n : Int) - (at_ : Int) := IntWalk.i64_in _ (by omega)
  go_enter Tryd.func41, Tryd.ntmps41
  go_wp2_with fail
  go_quiet (fail)
  go_wp2_with fail
  go_ret
  exact ⟨rfl, _, rfl⟩

end Go.Proofs.YtpaejoikfnmdhaaDoor
