/- Layer 28: two lists, place by place. -/
import Derived.Test.YtcoohlopafjnmaaDoorMva
namespace Go.Proofs.YtcoohlopafjnmaaDoor
set_option linter.unusedVariables false
open Go.RowKit

set_option maxRecDepth 8000 in
set_option maxHeartbeats 4000000 in
theorem vtgbothPut_any {C D M P : Nat} {w : World} {I0 I1 I2 I3 I4 : World → Prop} (h0 : I0 w)
    (HC : Hid (∀ wr, (I0 wr ∨ I1 wr ∨ I2 wr ∨ I3 wr) → (∀ o, wr.cell? ⟨C, o, none⟩ = clCells[o]?) ∧ (∀ o, wr.cell? ⟨D, o, none⟩ = (ptrC M)[o]?)))
    (H0 : ∀ wr, I0 wr → Hid (Calls Tryd.prog 48 #[clV 1 3 2 0 36000 ⟨#[84]⟩, .pointer (some ⟨M, 0, none⟩), .pointer (some ⟨P, 0, none⟩)] wr.drew fun r w' => r = .returned (.tuple #[]) ∧ I1 w'))
    (H1 : ∀ wr, I1 wr → Hid (Calls Tryd.prog 48 #[clV 1 3 2 0 36000 ⟨#[77]⟩, .pointer (some ⟨M, 2, none⟩), .pointer (some ⟨P, 0, none⟩)] wr.drew fun r w' => r = .returned (.tuple #[]) ∧ I2 w'))
    (H2 : ∀ wr, I2 wr → Hid (Calls Tryd.prog 48 #[clV 1 4 2 0 999999 ⟨#[78]⟩, .pointer (some ⟨M, 4, none⟩), .pointer (some ⟨P, 0, none⟩)] wr.drew fun r w' => r = .returned (.tuple #[]) ∧ I3 w'))
    (H3 : ∀ wr, I3 wr → Hid (Calls Tryd.prog 48 #[clV 1 4 2 0 999999 ⟨#[75]⟩, .pointer (some ⟨M, 6, none⟩), .pointer (some ⟨P, 0, none⟩)] wr.drew fun r w' => r = .returned (.tuple #[]) ∧ I4 w')) :
    Calls Tryd.prog 45 #[.slice (some ⟨C, 0, none⟩) 4 4, .slice (some ⟨D, 0, none⟩) 4 4, .func (.func 48) #[] #[.pointer (some ⟨P, 0, none⟩)]] w fun r w' => r = .returned (.tuple #[]) ∧ I4 w' := by
  go_enter Tryd.func45, Tryd.ntmps45
  go_wp2_with fail
  go_loopw [12] (fun i wr => i = .int .i64 0 ∧ I0 wr ∨ i = .int .i64 1 ∧ I1 wr ∨ i = .int .i64 2 ∧ I2 wr ∨ i = .int .i64 3 ∧ I3 wr ∨ i = .int .i64 4 ∧ I4 wr) (fun i _ => 4 - (intOf i).toNat)
  case atStart => exact .inl ⟨rfl, h0⟩
  case round =>
    rcases hrel with ⟨rfl, hI⟩ | ⟨rfl, hI⟩ | ⟨rfl, hI⟩ | ⟨rfl, hI⟩ | ⟨rfl, hI⟩
    · obtain ⟨hc, hd⟩ := HC.out _ (.inl hI)
      have c0 := hc 0
      have c1 := hc 1
      have c2 := hc 2
      have c3 := hc 3
      have c4 := hc 4
      have c5 := hc 5
      have d0 := hd 0
      have HH := H0 _ hI
      clear hc hd HC H0 H1 H2 H3 h0
      go_wp2_with fail
      go_region_with (go_at_call 48; refine HH.out.mono ?_; rintro r w1 ⟨rfl, hI1⟩)
      all_goals go_wp2_with fail
      all_goals go_roundw
      all_goals first | exact .inr (.inl ⟨rfl, hI1⟩) | (simp [intOf])
    · obtain ⟨hc, hd⟩ := HC.out _ (.inr (.inl hI))
      have c0 := hc 6
      have c1 := hc 7
      have c2 := hc 8
      have c3 := hc 9
      have c4 := hc 10
      have c5 := hc 11
      have d0 := hd 1
      have HH := H1 _ hI
      clear hc hd HC H0 H1 H2 H3 h0
      go_wp2_with fail
      go_region_with (go_at_call 48; refine HH.out.mono ?_; rintro r w1 ⟨rfl, hI1⟩)
      all_goals go_wp2_with fail
      all_goals go_roundw
      all_goals first | exact .inr (.inr (.inl ⟨rfl, hI1⟩)) | (simp [intOf])
    · obtain ⟨hc, hd⟩ := HC.out _ (.inr (.inr (.inl hI)))
      have c0 := hc 12
      have c1 := hc 13
      have c2 := hc 14
      have c3 := hc 15
      have c4 := hc 16
      have c5 := hc 17
      have d0 := hd 2
      have HH := H2 _ hI
      clear hc hd HC H0 H1 H2 H3 h0
      go_wp2_with fail
      go_region_with (go_at_call 48; refine HH.out.mono ?_; rintro r w1 ⟨rfl, hI1⟩)
      all_goals go_wp2_with fail
      all_goals go_roundw
      all_goals first | exact .inr (.inr (.inr (.inl ⟨rfl, hI1⟩))) | (simp [intOf])
    · obtain ⟨hc, hd⟩ := HC.out _ (.inr (.inr (.inr hI)))
      have c0 := hc 18
      have c1 := hc 19
      have c2 := hc 20
      have c3 := hc 21
      have c4 := hc 22
      have c5 := hc 23
      have d0 := hd 3
      have HH := H3 _ hI
      clear hc hd HC H0 H1 H2 H3 h0
      go_wp2_with fail
      go_region_with (go_at_call 48; refine HH.out.mono ?_; rintro r w1 ⟨rfl, hI1⟩)
      all_goals go_wp2_with fail
      all_goals go_roundw
      all_goals first | exact .inr (.inr (.inr (.inr ⟨rfl, hI1⟩))) | (simp [intOf])
    · go_wp2_with fail
      go_end0
      exact ⟨rfl, hI⟩
set_option maxRecDepth 8000 in
set_option maxHeartbeats 4000000 in
theorem vtgbothTake_any {C D M P : Nat} {w : World} {I0 I1 I2 I3 I4 : World → Prop} (h0 : I0 w)
    (HC : Hid (∀ wr, (I0 wr ∨ I1 wr ∨ I2 wr ∨ I3 wr) → (∀ o, wr.cell? ⟨C, o, none⟩ = clCells[o]?) ∧ (∀ o, wr.cell? ⟨D, o, none⟩ = (ptrC M)[o]?)))
    (H0 : ∀ wr, I0 wr → Hid (Calls Tryd.prog 85 #[clV 1 3 2 0 36000 ⟨#[84]⟩, .pointer (some ⟨M, 0, none⟩), .pointer (some ⟨P, 0, none⟩)] wr.drew fun r w' => r = .returned (.tuple #[]) ∧ I1 w'))
    (H1 : ∀ wr, I1 wr → Hid (Calls Tryd.prog 85 #[clV 1 3 2 0 36000 ⟨#[77]⟩, .pointer (some ⟨M, 2, none⟩), .pointer (some ⟨P, 0, none⟩)] wr.drew fun r w' => r = .returned (.tuple #[]) ∧ I2 w'))
    (H2 : ∀ wr, I2 wr → Hid (Calls Tryd.prog 85 #[clV 1 4 2 0 999999 ⟨#[78]⟩, .pointer (some ⟨M, 4, none⟩), .pointer (some ⟨P, 0, none⟩)] wr.drew fun r w' => r = .returned (.tuple #[]) ∧ I3 w'))
    (H3 : ∀ wr, I3 wr → Hid (Calls Tryd.prog 85 #[clV 1 4 2 0 999999 ⟨#[75]⟩, .pointer (some ⟨M, 6, none⟩), .pointer (some ⟨P, 0, none⟩)] wr.drew fun r w' => r = .returned (.tuple #[]) ∧ I4 w')) :
    Calls Tryd.prog 45 #[.slice (some ⟨C, 0, none⟩) 4 4, .slice (some ⟨D, 0, none⟩) 4 4, .func (.func 85) #[] #[.pointer (some ⟨P, 0, none⟩)]] w fun r w' => r = .returned (.tuple #[]) ∧ I4 w' := by
  go_enter Tryd.func45, Tryd.ntmps45
  go_wp2_with fail
  go_loopw [12] (fun i wr => i = .int .i64 0 ∧ I0 wr ∨ i = .int .i64 1 ∧ I1 wr ∨ i = .int .i64 2 ∧ I2 wr ∨ i = .int .i64 3 ∧ I3 wr ∨ i = .int .i64 4 ∧ I4 wr) (fun i _ => 4 - (intOf i).toNat)
  case atStart => exact .inl ⟨rfl, h0⟩
  case round =>
    rcases hrel with ⟨rfl, hI⟩ | ⟨rfl, hI⟩ | ⟨rfl, hI⟩ | ⟨rfl, hI⟩ | ⟨rfl, hI⟩
    · obtain ⟨hc, hd⟩ := HC.out _ (.inl hI)
      have c0 := hc 0
      have c1 := hc 1
      have c2 := hc 2
      have c3 := hc 3
      have c4 := hc 4
      have c5 := hc 5
      have d0 := hd 0
      have HH := H0 _ hI
      clear hc hd HC H0 H1 H2 H3 h0
      go_wp2_with fail
      go_region_with (go_at_call 85; refine HH.out.mono ?_; rintro r w1 ⟨rfl, hI1⟩)
      all_goals go_wp2_with fail
      all_goals go_roundw
      all_goals first | exact .inr (.inl ⟨rfl, hI1⟩) | (simp [intOf])
    · obtain ⟨hc, hd⟩ := HC.out _ (.inr (.inl hI))
      have c0 := hc 6
      have c1 := hc 7
      have c2 := hc 8
      have c3 := hc 9
      have c4 := hc 10
      have c5 := hc 11
      have d0 := hd 1
      have HH := H1 _ hI
      clear hc hd HC H0 H1 H2 H3 h0
      go_wp2_with fail
      go_region_with (go_at_call 85; refine HH.out.mono ?_; rintro r w1 ⟨rfl, hI1⟩)
      all_goals go_wp2_with fail
      all_goals go_roundw
      all_goals first | exact .inr (.inr (.inl ⟨rfl, hI1⟩)) | (simp [intOf])
    · obtain ⟨hc, hd⟩ := HC.out _ (.inr (.inr (.inl hI)))
      have c0 := hc 12
      have c1 := hc 13
      have c2 := hc 14
      have c3 := hc 15
      have c4 := hc 16
      have c5 := hc 17
      have d0 := hd 2
      have HH := H2 _ hI
      clear hc hd HC H0 H1 H2 H3 h0
      go_wp2_with fail
      go_region_with (go_at_call 85; refine HH.out.mono ?_; rintro r w1 ⟨rfl, hI1⟩)
      all_goals go_wp2_with fail
      all_goals go_roundw
      all_goals first | exact .inr (.inr (.inr (.inl ⟨rfl, hI1⟩))) | (simp [intOf])
    · obtain ⟨hc, hd⟩ := HC.out _ (.inr (.inr (.inr hI)))
      have c0 := hc 18
      have c1 := hc 19
      have c2 := hc 20
      have c3 := hc 21
      have c4 := hc 22
      have c5 := hc 23
      have d0 := hd 3
      have HH := H3 _ hI
      clear hc hd HC H0 H1 H2 H3 h0
      go_wp2_with fail
      go_region_with (go_at_call 85; refine HH.out.mono ?_; rintro r w1 ⟨rfl, hI1⟩)
      all_goals go_wp2_with fail
      all_goals go_roundw
      all_goals first | exact .inr (.inr (.inr (.inr ⟨rfl, hI1⟩))) | (simp [intOf])
    · go_wp2_with fail
      go_end0
      exact ⟨rfl, hI⟩
end Go.Proofs.YtcoohlopafjnmaaDoor
