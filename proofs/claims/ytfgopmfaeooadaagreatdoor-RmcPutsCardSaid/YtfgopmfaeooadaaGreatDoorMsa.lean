/- Layer 27: what is read. -/
import Derived.Test.YtfgopmfaeooadaaGreatDoorMgf
import Derived.Test.YtfgopmfaeooadaaGreatDoorMvd
namespace Go.Proofs.YtfgopmfaeooadaaGreatDoor
set_option linter.unusedVariables false
open Go.RowKit

def rdOne (s : Rd) : Bool × Rd := (decide ((rdText s).1 = ⟨#[65]⟩), if (rdText s).1 ≠ ⟨#[65]⟩ ∧ (rdText s).1 ≠ ⟨#[77]⟩ then rdFail 3 (rdText s).2 else (rdText s).2)
def rdIds : Nat → Rd → List Int × Rd
  | 0, s => ([], s)
  | k + 1, s => (if (rdNum 1 3 0 1 255 s).1.1 = true then (rdNum 1 3 0 1 255 s).1.2 :: (rdIds k (rdNum 1 3 0 1 255 s).2).1 else (rdIds k (rdNum 1 3 0 1 255 s).2).1, (rdIds k (rdNum 1 3 0 1 255 s).2).2)
structure GsaD where
  a : Bool
  f : Int
  ids : List Int
  p0 : Bool × Int
  p1 : Bool × Int
  p2 : Bool × Int
def zeroS : GsaD := ⟨false, 0, [], (false, 0), (false, 0), (false, 0)⟩
def rdDop (s : Rd) : (Bool × Int) × Rd := rdNum 1 3 2 0 99999 s
/-- All that is read, one behind the other. -/
def rdGsa (s : Rd) : GsaD × Rd :=
  (⟨(rdOne s).1, (rdDig 1 3 (rdOne s).2).1, (rdIds 12 (rdDig 1 3 (rdOne s).2).2).1, (rdDop (rdIds 12 (rdDig 1 3 (rdOne s).2).2).2).1, (rdDop (rdDop (rdIds 12 (rdDig 1 3 (rdOne s).2).2).2).2).1, (rdDop (rdDop (rdDop (rdIds 12 (rdDig 1 3 (rdOne s).2).2).2).2).2).1⟩,
    (rdDop (rdDop (rdDop (rdIds 12 (rdDig 1 3 (rdOne s).2).2).2).2).2).2)
def takeGsa (R : List ByteArray) : GsaD × Int := if R.length ≠ 17 then (zeroS, 3) else if (rdGsa (0, R)).2.1 = 0 then ((rdGsa (0, R)).1, 0) else (zeroS, (rdGsa (0, R)).2.1)
theorem gsa_taken {R : List ByteArray} {a : Bool} {f : Int} {ids : List Int} {d0 d1 d2 : Bool × Int} {r1 r2 r3 r4 r5 r6 : Rd} (hl : R.length = 17) (h1 : Hid (rdOne (0, R) = (a, r1))) (h2 : Hid (rdDig 1 3 r1 = (f, r2))) (h3 : Hid (rdIds 12 r2 = (ids, r3))) (h4 : Hid (rdNum 1 3 2 0 99999 r3 = (d0, r4))) (h5 : Hid (rdNum 1 3 2 0 99999 r4 = (d1, r5))) (h6 : Hid (rdNum 1 3 2 0 99999 r5 = (d2, r6))) :
    takeGsa R = if r6.1 = 0 then (⟨a, f, ids, d0, d1, d2⟩, 0) else (zeroS, r6.1) := by
  have hg : rdGsa (0, R) = (⟨a, f, ids, d0, d1, d2⟩, r6) := by
    unfold rdGsa rdDop
    rw [h1.out]
    simp only
    rw [h2.out]
    simp only
    rw [h3.out]
    simp only
    rw [h4.out]
    simp only
    rw [h5.out]
    simp only
    rw [h6.out]
  unfold takeGsa
  rw [if_neg (fun q => q hl), hg]
theorem rdIds_step {k : Nat} {s s' : Rd} {b : Bool} {n : Int} (h : rdNum 1 3 0 1 255 s = ((b, n), s')) : rdIds (k + 1) s = (if b = true then n :: (rdIds k s').1 else (rdIds k s').1, (rdIds k s').2) := by
  simp only [rdIds, h]
theorem rdIds_len : ∀ (k : Nat) (s : Rd), (rdIds k s).1.length ≤ k
  | 0, s => Nat.le_refl _
  | k + 1, s => by
    have := rdIds_len k (rdNum 1 3 0 1 255 s).2
    simp only [rdIds]
    split
    · simp; omega
    · omega
theorem one_ways (t : ByteArray) (s1 : Rd) : ((t.toList == [65]) = true ∧ decide (t = ⟨#[65]⟩) = true ∧ (if t ≠ ⟨#[65]⟩ ∧ t ≠ ⟨#[77]⟩ then rdFail 3 s1 else s1) = s1) ∨
    ((t.toList == [65]) = false ∧ decide (t = ⟨#[65]⟩) = false ∧ ((t.toList == [77]) = true ∧ (if t ≠ ⟨#[65]⟩ ∧ t ≠ ⟨#[77]⟩ then rdFail 3 s1 else s1) = s1 ∨ (t.toList == [77]) = false ∧ (if t ≠ ⟨#[65]⟩ ∧ t ≠ ⟨#[77]⟩ then rdFail 3 s1 else s1) = rdFail 3 s1)) := by
  have l65 : (⟨#[65]⟩ : ByteArray).toList = [65] := by rw [ByteArray.toList_eq]
  have l77 : (⟨#[77]⟩ : ByteArray).toList = [77] := by rw [ByteArray.toList_eq]
  have b65 : (t.toList == [65]) = decide (t = ⟨#[65]⟩) := by rw [← beq_text, l65]
  have b77 : (t.toList == [77]) = decide (t = ⟨#[77]⟩) := by rw [← beq_text, l77]
  rw [b65, b77]
  by_cases h : t = ⟨#[65]⟩
  · exact .inl ⟨decide_eq_true h, decide_eq_true h, if_neg (fun q => q.1 h)⟩
  · refine .inr ⟨decide_eq_false h, decide_eq_false h, ?_⟩
    by_cases h2 : t = ⟨#[77]⟩
    · exact .inl ⟨decide_eq_true h2, if_neg (fun q => q.2 h2)⟩
    · exact .inr ⟨decide_eq_false h2, if_pos ⟨h, h2⟩⟩
set_option maxRecDepth 8000 in
set_option maxHeartbeats 2000000 in
theorem r25One_any {g : Nat} {s t : Rd} {b : Bool} {w : World} (ht : Hid (rdOne s = (b, t))) (hp : RowRI g s w) : Calls Tryz.prog 40 #[.pointer (some ⟨g, 0, none⟩), .string ⟨#[65]⟩, .string ⟨#[77]⟩] w (RowRStep g (.bool b) t w) := by
  obtain ⟨a, s1, ha⟩ : ∃ a s1, Hid (rdText s = (a, s1)) := ⟨_, _, rfl⟩
  have ht := ht.out
  unfold rdOne at ht
  rw [ha.out] at ht
  injection ht with e1 e2
  simp only at e1 e2
  have HP := Lib.hid hp
  clear hp
  rcases one_ways a s1 with ⟨k1, k2, k3⟩ | ⟨k1, k2, ⟨k3, k4⟩ | ⟨k3, k4⟩⟩
  · rw [k2] at e1
    rw [k3] at e2
    subst e1 e2
    clear k2 k3
    go_enter Tryz.func40, Tryz.ntmps40
    go_wp2_with fail
    refine (rowTText ha HP.out).mono ?_
    rintro r w1 ⟨rfl, hx, hf⟩
    have HX := Lib.hid hx
    have HF := Lib.hid hf
    clear hx hf HP
    go_wp2_with fail
    go_ret
    exact ⟨rfl, HX.out, HF.out⟩
  · rw [k2] at e1
    rw [k4] at e2
    subst e1 e2
    clear k2 k4
    go_enter Tryz.func40, Tryz.ntmps40
    go_wp2_with fail
    refine (rowTText ha HP.out).mono ?_
    rintro r w1 ⟨rfl, hx, hf⟩
    have HX := Lib.hid hx
    have HF := Lib.hid hf
    clear hx hf HP
    go_wp2_with fail
    go_ret
    exact ⟨rfl, HX.out, HF.out⟩
  · rw [k2] at e1
    rw [k4] at e2
    subst e1 e2
    clear k2 k4
    go_enter Tryz.func40, Tryz.ntmps40
    go_wp2_with fail
    refine (rowTText ha HP.out).mono ?_
    rintro r w1 ⟨rfl, hx, hf⟩
    have HX := Lib.hid hx
    have HF := Lib.hid hf
    clear hx hf HP
    go_wp2_with fail
    refine (rowFirst rfl HX.out).mono ?_
    rintro r w2 ⟨rfl, hx2, hf2⟩
    have HX2 := Lib.hid hx2
    have HF2 := Lib.hid (HF.out.step hf2)
    clear hx2 hf2
    go_wp2_with fail
    go_ret
    exact ⟨rfl, HX2.out, HF2.out⟩
end Go.Proofs.YtfgopmfaeooadaaGreatDoor

/- Layer 27: Take. Printed by gengsat.py. -/
namespace Go.Proofs.YtfgopmfaeooadaaGreatDoor
set_option linter.unusedVariables false
open Go.RowKit

abbrev gsaC (a : Bool) (f : Int) (A : Option Addr) (n c : Nat) (b0 : Bool) (n0 : Int) (b1 : Bool) (n1 : Int) (b2 : Bool) (n2 : Int) : Array Value := #[.bool a, .int .i64 f, .slice A n c, .bool b0, .int .i64 n0, .bool b1, .int .i64 n1, .bool b2, .int .i64 n2]
abbrev gsaV (a : Bool) (f : Int) (A : Option Addr) (n c : Nat) (b0 : Bool) (n0 : Int) (b1 : Bool) (n1 : Int) (b2 : Bool) (n2 : Int) : Value := .agg (gsaC a f A n c b0 n0 b1 n1 b2 n2)
/-- A slice of numbers, read as a list. -/
def Ints (w : World) (B : Nat) (A : Option Addr) (l : List Int) : Prop := ∀ k (hk : k < l.length), ∃ b off, A = some ⟨b, off, none⟩ ∧ b < B ∧ w.cell? ⟨b, off + k, none⟩ = some (.int .i64 l[k])
theorem Ints.below {w w' : World} {B B' : Nat} {A : Option Addr} {l : List Int} (h : Ints w B A l) (hb : Below B' w w') (hB : B ≤ B') : Ints w' B A l := fun k hk => by
  obtain ⟨b, off, h1, h2, h3⟩ := h k hk
  exact ⟨b, off, h1, h2, (hb.cell (p := ⟨b, off + k, none⟩) (by show b < B'; omega)).trans h3⟩
theorem Ints.more {w : World} {B B' : Nat} {A : Option Addr} {l : List Int} (h : Ints w B A l) (hB : B ≤ B') : Ints w B' A l := fun k hk => by
  obtain ⟨b, off, h1, h2, h3⟩ := h k hk
  exact ⟨b, off, h1, by omega, h3⟩
def GsaPost (x : GsaD × Int) (w : World) (r : Ending) (w' : World) : Prop :=
  ∃ A n c, r = .returned (.tuple #[gsaV x.1.a x.1.f A n c x.1.p0.1 x.1.p0.2 x.1.p1.1 x.1.p1.2 x.1.p2.1 x.1.p2.2, .int .i64 x.2]) ∧ x.1.ids.length = n ∧ Ints w' w'.heap.size A x.1.ids ∧ Below w.heap.size w w'
/-- The ids so far, and noughts behind them. -/
def idsC (D : List Int) : Array Value := ((D.map (Value.int .i64)) ++ List.replicate (12 - D.length) (Value.int .i64 0)).toArray
theorem idsC_size (D : List Int) (h : D.length ≤ 12) : (idsC D).size = 12 := by simp [idsC]; omega
theorem idsC_put (D : List Int) (n : Int) (h : D.length < 12) : (idsC D).setIfInBounds D.length (.int .i64 n) = idsC (D ++ [n]) := by
  obtain ⟨k, hk⟩ : ∃ k, 12 - D.length = k + 1 := ⟨11 - D.length, by omega⟩
  have hk2 : 12 - (D.length + 1) = k := by omega
  unfold idsC
  rw [List.setIfInBounds_toArray]
  congr 1
  rw [hk, List.replicate_succ, List.set_append_right _ _ (by simp), List.length_append, List.length_singleton, hk2]
  simp
theorem idsC_get (D : List Int) (k : Nat) (h : k < D.length) : (idsC D)[k]? = some (.int .i64 D[k]) := by
  unfold idsC
  simp only [List.getElem?_toArray]
  rw [List.getElem?_append_left (by simpa using h)]
  simp [h]
theorem idsC_zero (D : List Int) (h : D.length < 12) : (idsC D)[D.length]? = some (.int .i64 0) := by
  unfold idsC
  simp only [List.getElem?_toArray]
  rw [List.getElem?_append_right (by simp), List.getElem?_replicate, if_pos (by simp; omega)]
theorem far_set {w : World} {R b o o' : Nat} {u : Value} (h : R ≠ b) : (w.setCell ⟨R, o, none⟩ u).cell? ⟨b, o', none⟩ = w.cell? ⟨b, o', none⟩ := World.cell?_setCell_other _ _ _ _ (fun q => by injection q with q; exact h q)
theorem ints_of {w : World} {IB : Nat} {D : List Int} (h : ∀ j, w.cell? ⟨IB, j, none⟩ = (idsC D)[j]?) (hz : IB < w.heap.size) : Ints w w.heap.size (some ⟨IB, 0, none⟩) D := fun k hk => ⟨IB, 0, rfl, hz, by rw [Nat.zero_add, h, idsC_get D k hk]⟩
end Go.Proofs.YtfgopmfaeooadaaGreatDoor
