/- Layer 23: Look. -/
import Derived.Test.YtpaejoikfnmdhaaDoorEye23d
namespace Go.Proofs.YtpaejoikfnmdhaaDoor
set_option linter.unusedVariables false
open Go.RowKit

/-- A slice of texts that the call made. -/
def TextsPost2 (fs : List ByteArray) (w : World) (v : Value) (w' : World) : Prop :=
  ∃ A c, v = .slice A fs.length c ∧ fs.length ≤ c ∧ (∀ a, A = some a → a.block < w'.heap.size) ∧ (A = none → c = 0) ∧ Strs w' w'.heap.size A fs ∧ FreshA w.heap.size A ∧ Below w.heap.size w w'
set_option maxRecDepth 8000 in
set_option maxHeartbeats 2000000 in
theorem Clone2_any (A : Option Addr) (fs : List ByteArray) (c : Nat) (w : World) (hA : A = none → c = 0) (hs : Strs w w.heap.size A fs) (hn : fs.length ≤ 1000000) :
    Calls Tryd.prog 59 #[.slice A fs.length c] w fun e w' => ∃ v, e = .returned v ∧ TextsPost2 fs w v w' := by
  cases A with
  | none =>
    obtain rfl := hA rfl
    have hl : fs = [] := by
      cases fs with
      | nil => rfl
      | cons a l => obtain ⟨b, off, hA, -⟩ := hs 0 (by simp); cases hA
    subst hl
    clear hs hA
    change Calls Tryd.prog 59 #[.slice none 0 0] w _
    have EQ : ∀ W : World, (binOp .eql 47 (.slice none 0 0) (.slice none 0 0)).run Tryd.prog W = .ok (.bool true) W := fun W => Lib.run_eql_slice_nil W 47 9 none 0 0 0 0 Tryd.underlying47
    go_enter Tryd.func59, Tryd.ntmps59
    go_wp2
    go_ret
    exact ⟨_, rfl, none, 0, rfl, Nat.le_refl _, (fun a h => by cases h), fun _ => rfl, fun k hk => absurd hk (by simp), FreshA.none_, Below.refl _ _⟩
  | some a =>
    obtain ⟨i0, hi, hz0, hz1, hz2⟩ := info_partsP str_infoP
    obtain ⟨n, hln⟩ : ∃ n, fs.length = n := ⟨_, rfl⟩
    have HLN := Lib.hid hln
    have HS := Lib.hid hs
    rw [hln] at hn ⊢
    clear hs hA hln
    have hown : (w.alloc (.cells #[] 9)).ownsRow w.heap.size 9 1 (.slice (some ⟨w.heap.size, 0, none⟩) 0 0) 0 [] := World.ownsRow_made w #[] 0 (Nat.le_refl _) (by decide) rfl
    have HO := Lib.hid hown
    clear hown
    have EQ : ∀ W : World, (binOp .eql 47 (.slice (some a) n c) (.slice none 0 0)).run Tryd.prog W = .ok (.bool false) W := fun W => Lib.run_eql_slice_nil W 47 9 (some a) n c 0 0 Tryd.underlying47
    go_enter Tryd.func59, Tryd.ntmps59
    go_wp2_with (at_builtin; refine wpList_append_own _ rfl _ _ 47 rfl w.heap.size 9 i0 (.string ByteArray.empty) 1 16 Tryd.underlying47 hi hz0 hz1 hz2 rfl (by decide) _ _ _ rfl HO.out a n c (fs.map Value.string) rfl (by simp [HLN.out]) ?c1 ?c2 ?c3 ?c4 ?c5 ?_)
    case c1 =>
      intro j u hu
      rw [List.getElem?_map] at hu
      have hj : j < fs.length := by
        rcases Nat.lt_or_ge j fs.length with k | k
        · exact k
        · rw [List.getElem?_eq_none k] at hu; cases hu
      rw [List.getElem?_eq_getElem hj] at hu
      injection hu with hu
      obtain ⟨b, off, hA, hb, hc⟩ := HS.out j hj
      injection hA with hA
      subst hA
      have e1 : (⟨b, off, none⟩ : Addr).add j = ⟨b, off + j, none⟩ := by unfold Addr.add; split <;> simp_all
      rw [e1, World.cell?_alloc_past _ _ _ hb, hc, ← hu]
    case c2 => intro u hu; obtain ⟨s, -, rfl⟩ := List.mem_map.1 hu; rfl
    case c3 => unfold maxLen; omega
    case c4 => omega
    case c5 => simp
    intro v' w2 hown' hgrow _
    have HPOST : Hid (TextsPost2 fs w v' w2) := by
      obtain ⟨A, c', rfl⟩ := own_formP hown'
      obtain ⟨h1, h2, h3⟩ := strs_of_ownP hown'
      have hcap : fs.length ≤ c' := by
        rw [h1]
        rcases hown'.2 with ⟨_, h0⟩ | ⟨g, cap, cur, hv, _, _, hn, _⟩
        · omega
        · injection hv with _ _ hv; omega
      have hblk : ∀ a, A = some a → a.block < w2.heap.size := fun a ha => by
        subst ha
        rcases hown'.2 with ⟨hv, _⟩ | ⟨g, cap, cur, hv, _, hg, _⟩
        · injection hv with hv; cases hv
        · injection hv with hv
          injection hv with hv
          rw [hv]
          exact (Array.getElem?_eq_some_iff.1 hg).1
      refine ⟨A, c', by rw [h1], hcap, hblk, fun hA => ?_, h2, h3, ((below_new w _).grown hgrow (by simp) (fun k hk => (HO.out.lt k hk).1))⟩
      subst hA
      rcases hown'.2 with ⟨hv, _⟩ | ⟨g, cap, cur, hv, _⟩
      · injection hv
      · cases hv
    clear hown' hgrow HO HS
    go_wp2_with fail
    go_ret
    exact ⟨_, rfl, HPOST.out⟩


/-- A new eye. -/
def LookPost (fs : List ByteArray) (w : World) (r : Ending) (w' : World) : Prop :=
  ∃ g, r = .returned (.pointer (some ⟨g, 0, none⟩)) ∧ EyeR (fun b => w.heap.size ≤ b ∧ b < g) w' g 0 fs ∧ w.heap.size ≤ g ∧ w'.heap.size = g + 1 ∧ Below w.heap.size w w'
set_option maxHeartbeats 1000000 in
theorem Look_any (A : Option Addr) (fs : List ByteArray) (c : Nat) (w : World) (hA : A = none → c = 0) (hs : Strs w w.heap.size A fs) (hn : fs.length ≤ 1000000) :
    Calls Tryd.prog 33 #[.slice A fs.length c] w (LookPost fs w) := by
  have HC := Lib.hid (Clone2_any A fs c w hA hs hn)
  have HN := Lib.hid hn
  clear hs hA hn
  obtain ⟨n, hln⟩ : ∃ n, fs.length = n := ⟨_, rfl⟩
  rw [hln] at HC ⊢
  have HLN := Lib.hid hln
  clear hln
  go_enter Tryd.func33, Tryd.ntmps33
  go_wp2_with fail
  refine HC.out.mono ?_
  rintro r w1 ⟨v, rfl, ht⟩
  obtain ⟨A', c', rfl, h1, hblk, h2, h3, h4, h5⟩ := ht
  have HPO : Hid (LookPost fs w (.returned (.pointer (some ⟨w1.heap.size, 0, none⟩))) (w1.alloc (.cells #[.bool true, .int .i64 0, .slice A' fs.length c'] 59))) := by
    have hb : Below w1.heap.size w1 (w1.alloc (.cells #[.bool true, .int .i64 0, .slice A' fs.length c'] 59)) := below_new _ _
    refine ⟨w1.heap.size, rfl, ⟨A', c', by simp [World.cell?_alloc_at], by simp [World.cell?_alloc_at], by simp [World.cell?_alloc_at], fun o => ?_, by simp, fun k hk => ?_, (fun b q => by have := q.2; simp; omega), (fun b q => by have := q.2; omega), HN.out, h1⟩, h5.size, by simp, bthen h5 (below_new _ _)⟩
    · rw [frozen?_alloc_cells]; exact frozen_past _ _ _ (Nat.le_refl _)
    · obtain ⟨b, off, e1, e2, e3⟩ := h3 k hk
      exact ⟨b, off, e1, ⟨h4 _ e1, e2⟩, (hb.cell (p := ⟨b, off + k, none⟩) e2).trans e3⟩
  rw [HLN.out] at HPO
  clear h1 h2 h3 h4 h5 hblk
  rw [HLN.out]
  go_wp2_with fail
  go_ret
  exact HPO.out

end Go.Proofs.YtpaejoikfnmdhaaDoor
