/- Layer 23: what pens do; slices.Clone of texts. -/
import Derived.Test.YtpaejoikfnmdhaaDoorPen23
import Derived.Deep.QuietTactic
namespace Go.Proofs.YtpaejoikfnmdhaaDoor
set_option linter.unusedVariables false
open Go.RowKit

theorem PutPost23.after {g : Nat} {e E : Int} {v : Value} {L S : List ByteArray} {w W w' : World} {r : Ending} (hb : Below w.heap.size w W) (h : PutPost23 g e E v L S W r w') : PutPost23 g e E v L S w r w' := by
  obtain ⟨h0, v', h1, h2, h3⟩ := h
  exact ⟨h0, v', h1, (Frm.of_below hb).trans h2 (.inl rfl), h3.elim .inl fun q => .inr fun k hk => Nat.le_trans hb.size (q k hk)⟩
theorem news1 (w : World) (a : ByteArray) : News (w.alloc (.cells #[.string a] 9)) w.heap.size [a] := fun j hj => by
  obtain rfl : j = 0 := by simpa using hj
  rw [World.cell?_alloc_at _ _ _ _ rfl]
  rfl
theorem news2 (w : World) (a b : ByteArray) : News (w.alloc (.cells #[.string a, .string b] 9)) w.heap.size [a, b] := fun j hj => by
  rw [World.cell?_alloc_at _ _ _ _ rfl]
  have hj2 : j < 2 := by simpa using hj
  rcases (by omega : j = 0 ∨ j = 1) with rfl | rfl <;> rfl
theorem PenOk.own_ne {w W : World} {g : Nat} {e : Int} {v : Value} {L : List ByteArray} (h : PenOk w g e v L) (hz : w.heap.size ≤ W.heap.size) : v.ownBlock ≠ some W.heap.size := fun q => by
  have := (h.2.2.2.2.2.lt _ q).2
  omega

set_option maxHeartbeats 1000000 in
theorem PenText_any (g : Nat) (e E : Int) (v : Value) (L : List ByteArray) (s : ByteArray) (w : World) (hp : PenOk w g e v L) (hL : L.length + 2 ≤ 1000000) :
    Calls Tryd.prog 24 #[.pointer (some ⟨g, 0, none⟩), .string s, .int .i64 E] w (PutPost23 g e E v L [s] w) := by
  have HQ := Lib.hid (Penput_any g w.heap.size 1 e E v L [s] (w.alloc (.cells #[.string s] 9)) (hp.keep (below_new w _)) rfl hp.2.2.2.2.1 (news1 w s) (hp.own_ne (Nat.le_refl _)) (by omega) (by omega))
  have HB := Lib.hid (below_new w (.cells #[.string s] 9))
  clear hp
  go_enter Tryd.func24, Tryd.ntmps24
  go_wp2_with fail
  refine (HQ.out).mono ?_
  rintro e w' hpost
  have HPO := Lib.hid (PutPost23.after HB.out hpost)
  obtain ⟨rfl, -⟩ := hpost
  go_wp2_with fail
  go_end0
  exact HPO.out
set_option maxHeartbeats 1000000 in
theorem PenNum_any (g : Nat) (e : Int) (v : Value) (L : List ByteArray) (b : Bool) (n W M F H' K : Int) (w : World) (hp : PenOk w g e v L) (hL : L.length + 2 ≤ 1000000) :
    Calls Tryd.prog 22 #[.pointer (some ⟨g, 0, none⟩), numV b n, colV W M F H' K] w (PutPost23 g e (putN b n W M F H' K).2 v L [(putN b n W M F H' K).1] w) := by
  have HP := fun W' => Lib.hid (Put23_any b n W M F H' K W')
  generalize (putN b n W M F H' K).1 = s at *
  generalize (putN b n W M F H' K).2 = E at *
  have HQ := fun W' (hb : Below w.heap.size w W') => Lib.hid (Penput_any g W'.heap.size 1 e E v L [s] (W'.alloc (.cells #[.string s] 9)) ((hp.keep hb).keep (below_new W' _)) rfl (Nat.lt_of_lt_of_le hp.2.2.2.2.1 hb.size) (news1 W' s) (hp.own_ne hb.size) (by omega) (by omega))
  clear hp
  go_enter Tryd.func22, Tryd.ntmps22
  go_wp2_with fail
  refine ((HP _).out).mono ?_
  rintro e w1 ⟨rfl, hb1⟩
  have b1 := Lib.hid (bthen (bthen (below_new w _) (below_new _ _)) hb1)
  go_wp2_with fail
  refine ((HQ w1 b1.out).out).mono ?_
  rintro e w' hpost
  have HPO := Lib.hid (PutPost23.after (bthen b1.out (below_new w1 _)) hpost)
  obtain ⟨rfl, -⟩ := hpost
  go_wp2_with fail
  go_end0
  exact HPO.out
set_option maxHeartbeats 1000000 in
theorem PenAngle_any (g : Nat) (e : Int) (v : Value) (L : List ByteArray) (b : Bool) (n : Int) (lat : Bool) (w : World) (hp : PenOk w g e v L) (hL : L.length + 2 ≤ 1000000) :
    Calls Tryd.prog 23 #[.pointer (some ⟨g, 0, none⟩), numV b n, .bool lat] w (PutPost23 g e (angN b n lat).2.2 v L [(angN b n lat).1, (angN b n lat).2.1] w) := by
  have HP := fun W' => Lib.hid (Angle23_any b n lat W')
  generalize (angN b n lat).1 = s at *
  generalize (angN b n lat).2.1 = d at *
  generalize (angN b n lat).2.2 = E at *
  have HQ := fun W' (hb : Below w.heap.size w W') => Lib.hid (Penput_any g W'.heap.size 2 e E v L [s, d] (W'.alloc (.cells #[.string s, .string d] 9)) ((hp.keep hb).keep (below_new W' _)) rfl (Nat.lt_of_lt_of_le hp.2.2.2.2.1 hb.size) (news2 W' s d) (hp.own_ne hb.size) (by omega) (by omega))
  clear hp
  go_enter Tryd.func23, Tryd.ntmps23
  go_wp2_with fail
  refine ((HP _).out).mono ?_
  rintro e w1 ⟨rfl, hb1⟩
  have b1 := Lib.hid (bthen (below_new w _) hb1)
  go_wp2_with fail
  refine ((HQ w1 b1.out).out).mono ?_
  rintro e w' hpost
  have HPO := Lib.hid (PutPost23.after (bthen b1.out (below_new w1 _)) hpost)
  obtain ⟨rfl, -⟩ := hpost
  go_wp2_with fail
  go_end0
  exact HPO.out

theorem strs_of_ownP {w : World} {B : Nat} {e : TypeId} {A : Option Addr} {n c : Nat} {fs : List ByteArray} (h : w.ownsRow B e 1 (.slice A n c) n (fs.map Value.string)) : fs.length = n ∧ Strs w w.heap.size A fs ∧ FreshA B A := by
  have hl : fs.length = n := by have := h.1; simpa using this
  refine ⟨hl, ?_, fun a ha => ?_⟩
  · intro k hk
    rcases h.2 with ⟨hv, h0⟩ | ⟨g, cap, cur, hv, _, hg, _⟩
    · omega
    · have hA : A = some ⟨g, 0, none⟩ := by injection hv
      subst hA
      have hc := h.cells (g := g) rfl k (.string fs[k]) (by simp [hk])
      exact ⟨g, 0, rfl, (Array.getElem?_eq_some_iff.1 hg).1, by
        have : (⟨g, 0, none⟩ : Addr).add k = ⟨g, 0 + k, none⟩ := by unfold Addr.add; split <;> simp_all
        rw [← this]; exact hc⟩
  · rcases h.2 with ⟨hv, h0⟩ | ⟨g, cap, cur, hv, hb, hg, _⟩
    · have hA : A = none := by injection hv
      rw [hA] at ha
      cases ha
    · have hA : A = some ⟨g, 0, none⟩ := by injection hv
      rw [hA] at ha
      injection ha with ha
      rw [← ha]
      exact hb
theorem own_formP {w : World} {B : Nat} {e : TypeId} {size n : Nat} {v : Value} {xs : List Value} (h : w.ownsRow B e size v n xs) : ∃ A c, v = .slice A n c := by
  rcases h.2 with ⟨hv, h0⟩ | ⟨g, cap, cur, hv, _⟩
  · exact ⟨none, 0, by rw [hv, h0]⟩
  · exact ⟨_, _, hv⟩

/-- A slice of texts that the call made. -/
def TextsPost (fs : List ByteArray) (w : World) (v : Value) (w' : World) : Prop :=
  ∃ A c, v = .slice A fs.length c ∧ (A = none → c = 0) ∧ Strs w' w'.heap.size A fs ∧ FreshA w.heap.size A ∧ Below w.heap.size w w'
set_option maxRecDepth 8000 in
set_option maxHeartbeats 2000000 in
theorem Clone_any (A : Option Addr) (fs : List ByteArray) (c : Nat) (w : World) (hA : A = none → c = 0) (hs : Strs w w.heap.size A fs) (hn : fs.length ≤ 1000000) :
    Calls Tryd.prog 59 #[.slice A fs.length c] w fun e w' => ∃ v, e = .returned v ∧ TextsPost fs w v w' := by
  cases A with
  | none =>
    obtain rfl := hA rfl
    have hl : fs = [] := by
      cases fs with
      | nil => rfl
      | cons a l => obtain ⟨b, off, hA, -⟩ := hs 0 (by simp); cases hA
    subst hl
    clear hs hA
    change Calls Tryd.prog 59 #[.slice none 0 0] w _
    have EQ : ∀ W : World, (binOp .eql 47 (.slice none 0 0) (.slice none 0 0)).run Tryd.prog W = .ok (.bool true) W := fun W => Lib.run_eql_slice_nil W 47 9 none 0 0 0 0 Tryd.underlying47
    go_enter Tryd.func59, Tryd.ntmps59
    go_wp2
    go_ret
    exact ⟨_, rfl, none, 0, rfl, fun _ => rfl, fun k hk => absurd hk (by simp), FreshA.none_, Below.refl _ _⟩
  | some a =>
    obtain ⟨i0, hi, hz0, hz1, hz2⟩ := info_partsP str_infoP
    obtain ⟨n, hln⟩ : ∃ n, fs.length = n := ⟨_, rfl⟩
    have HLN := Lib.hid hln
    have HS := Lib.hid hs
    rw [hln] at hn ⊢
    clear hs hA hln
    have hown : (w.alloc (.cells #[] 9)).ownsRow w.heap.size 9 1 (.slice (some ⟨w.heap.size, 0, none⟩) 0 0) 0 [] := World.ownsRow_made w #[] 0 (Nat.le_refl _) (by decide) rfl
    have HO := Lib.hid hown
    clear hown
    have EQ : ∀ W : World, (binOp .eql 47 (.slice (some a) n c) (.slice none 0 0)).run Tryd.prog W = .ok (.bool false) W := fun W => Lib.run_eql_slice_nil W 47 9 (some a) n c 0 0 Tryd.underlying47
    go_enter Tryd.func59, Tryd.ntmps59
    go_wp2_with (at_builtin; refine wpList_append_own _ rfl _ _ 47 rfl w.heap.size 9 i0 (.string ByteArray.empty) 1 16 Tryd.underlying47 hi hz0 hz1 hz2 rfl (by decide) _ _ _ rfl HO.out a n c (fs.map Value.string) rfl (by simp [HLN.out]) ?c1 ?c2 ?c3 ?c4 ?c5 ?_)
    case c1 =>
      intro j u hu
      rw [List.getElem?_map] at hu
      have hj : j < fs.length := by
        rcases Nat.lt_or_ge j fs.length with k | k
        · exact k
        · rw [List.getElem?_eq_none k] at hu; cases hu
      rw [List.getElem?_eq_getElem hj] at hu
      injection hu with hu
      obtain ⟨b, off, hA, hb, hc⟩ := HS.out j hj
      injection hA with hA
      subst hA
      have e1 : (⟨b, off, none⟩ : Addr).add j = ⟨b, off + j, none⟩ := by unfold Addr.add; split <;> simp_all
      rw [e1, World.cell?_alloc_past _ _ _ hb, hc, ← hu]
    case c2 => intro u hu; obtain ⟨s, -, rfl⟩ := List.mem_map.1 hu; rfl
    case c3 => unfold maxLen; omega
    case c4 => omega
    case c5 => simp
    intro v' w2 hown' hgrow _
    have HPOST : Hid (TextsPost fs w v' w2) := by
      obtain ⟨A, c', rfl⟩ := own_formP hown'
      obtain ⟨h1, h2, h3⟩ := strs_of_ownP hown'
      refine ⟨A, c', by rw [h1], fun hA => ?_, h2, h3, ((below_new w _).grown hgrow (by simp) (fun k hk => (HO.out.lt k hk).1))⟩
      subst hA
      rcases hown'.2 with ⟨hv, _⟩ | ⟨g, cap, cur, hv, _⟩
      · injection hv
      · cases hv
    clear hown' hgrow HO HS
    go_wp2_with fail
    go_ret
    exact ⟨_, rfl, HPOST.out⟩

/-- What Done answers. -/
def DonePost (e : Int) (L : List ByteArray) (w : World) (r : Ending) (w' : World) : Prop :=
  ∃ v, r = .returned (.tuple #[v, .int .i64 e]) ∧ TextsPost (if e = 0 then L else []) w v w'
set_option maxRecDepth 8000 in
set_option maxHeartbeats 2000000 in
theorem PenDone_any (g : Nat) (e : Int) (v : Value) (L : List ByteArray) (w : World) (hp : PenOk w g e v L) (hL : L.length ≤ 1000000) :
    Calls Tryd.prog 26 #[.pointer (some ⟨g, 0, none⟩)] w (DonePost e L w) := by
  obtain ⟨p0, p1, p2, -, p4, p5⟩ := hp
  by_cases h : e = 0
  · subst h
    obtain ⟨A, c, rfl⟩ := own_formP p5
    have hA : A = none → c = 0 := fun q => by
      subst q
      rcases p5.2 with ⟨hv, _⟩ | ⟨_, _, _, hv, _⟩
      · injection hv
      · cases hv
    have HC := Lib.hid (Clone_any A L c w hA (strs_of_ownP p5).2.1 hL)
    have HE : Hid (DonePost 0 L w = fun r w' => ∃ v, r = .returned (.tuple #[v, .int .i64 0]) ∧ TextsPost L w v w') := rfl
    clear hA p5
    go_enter Tryd.func26, Tryd.ntmps26
    go_wp2_with fail
    refine HC.out.mono ?_
    rintro e w' ⟨v, rfl, ht⟩
    have HT := Lib.hid ht
    clear ht
    go_wp2_with fail
    go_ret2
    rw [HE.out]
    exact ⟨v, rfl, HT.out⟩
  · have hne : (e == 0) = false := by rw [beq_eq_false_iff_ne]; exact h
    have hne2 : (e != 0) = true := by rw [bne_iff_ne]; exact h
    have HE : Hid (∀ n, DonePost e L w (.returned (.tuple #[.slice none 0 0, .int .i64 e])) (w.drewN n)) := fun n => by
      refine ⟨_, rfl, none, 0, ?_, fun _ => rfl, ?_, FreshA.none_, below_draws n⟩
      · rw [if_neg h]; rfl
      · rw [if_neg h]; exact fun k hk => absurd hk (by simp)
    clear h p5
    go_enter Tryd.func26, Tryd.ntmps26
    go_wp2_with fail
    go_quiet (fail)
    go_wp2_with fail
    go_ret2
    exact HE.out _

/-- A new pen. -/
theorem Row_any (w : World) : Calls Tryd.prog 32 #[] w fun r w' => r = .returned (.pointer (some ⟨w.heap.size, 0, none⟩)) ∧ PenOk w' w.heap.size 0 (.slice none 0 0) [] ∧ Below w.heap.size w w' ∧ w'.heap.size = w.heap.size + 1 := by
  go_enter Tryd.func32, Tryd.ntmps32
  go_wp2
  go_ret
  refine ⟨rfl, ⟨by simp [World.cell?_alloc_at], by simp [World.cell?_alloc_at], by simp [World.cell?_alloc_at], fun o => ?_, by simp, World.ownsRow_nil _ _ _ _⟩, below_new _ _, by simp⟩
  rw [frozen?_alloc_cells]
  exact frozen_past _ _ _ (Nat.le_refl _)

end Go.Proofs.YtpaejoikfnmdhaaDoor
