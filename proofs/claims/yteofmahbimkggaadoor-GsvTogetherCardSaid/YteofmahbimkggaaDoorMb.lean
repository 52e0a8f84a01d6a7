/- Layer 23: the reference's count and value. -/
import Derived.Test.YteofmahbimkggaaDoorMa
import Derived.IntWalk
import Derived.Deep.RegionHeld3
namespace Go.Proofs.YteofmahbimkggaaDoor
set_option linter.unusedVariables false
open Go.RowKit

/-- Is a byte a digit? -/
def isD (c : UInt8) : Bool := decide (48 ≤ c.toNat ∧ c.toNat ≤ 57)
/-- How many digits stand ahead. -/
def cntD (l : List UInt8) : Nat := (l.takeWhile isD).length
theorem cntD_is : ∀ (l : List UInt8) (k : Nat), (∀ j (h : j < l.length), j < k → isD l[j] = true) → k ≤ l.length → (∀ h : k < l.length, isD l[k] = false) → cntD l = k := by
  intro l
  induction l with
  | nil => intro k _ h _; simp at h; subst h; rfl
  | cons c l ih =>
    intro k h1 h2 h3
    cases k with
    | zero =>
      have := h3 (by simp)
      unfold cntD
      rw [List.takeWhile_cons, if_neg (by simpa using this)]
      rfl
    | succ k =>
      have hc := h1 0 (by simp) (by omega)
      unfold cntD
      rw [List.takeWhile_cons, if_pos (by simpa using hc), List.length_cons]
      have := ih k (fun j hj hk => h1 (j + 1) (by simpa using hj) (by omega)) (by simpa using h2) (fun hk => h3 (by simpa using hk))
      unfold cntD at this
      rw [this]

end Go.Proofs.YteofmahbimkggaaDoor

/- Layer 23: the reference's value. -/
namespace Go.Proofs.YteofmahbimkggaaDoor
set_option linter.unusedVariables false
open Go.RowKit

/-- The number of digits. -/
def valD (l : List UInt8) : Nat := l.foldl (fun n c => 10 * n + (c.toNat - 48)) 0
theorem valD_snoc (l : List UInt8) (c : UInt8) : valD (l ++ [c]) = 10 * valD l + (c.toNat - 48) := by simp [valD]
theorem valD_lt (l : List UInt8) (h : ∀ c ∈ l, isD c = true) : valD l < 10 ^ l.length := by
  have key : ∀ r : List UInt8, (∀ c ∈ r, isD c = true) → valD r.reverse < 10 ^ r.length := by
    intro r
    induction r with
    | nil => intro _; decide
    | cons c r ih =>
      intro hr
      have h1 := ih (fun x hx => hr x (by simp [hx]))
      have h2 := of_decide_eq_true (hr c (by simp))
      rw [List.reverse_cons, valD_snoc, List.length_cons, Nat.pow_succ]
      omega
  have := key l.reverse (fun c hc => h c (by simpa using hc))
  rw [List.reverse_reverse, List.length_reverse] at this
  exact this

end Go.Proofs.YteofmahbimkggaaDoor

/- Layer 23: parse, the plain law; the reference's parse. -/
namespace Go.Proofs.YteofmahbimkggaaDoor
set_option linter.unusedVariables false
open Go.RowKit

/-- The number of a text: from least to most digits ahead of the point, from 1 to frac behind it. -/
def parseN (l : List UInt8) (least most frac : Nat) : Option Nat :=
  if cntD l < least ∨ most < cntD l then none
  else if cntD l = l.length then some (valD l * 10 ^ frac)
  else if l[cntD l]? ≠ some 46 ∨ cntD (l.drop (cntD l + 1)) < 1 ∨ frac < cntD (l.drop (cntD l + 1)) ∨ cntD l + 1 + cntD (l.drop (cntD l + 1)) ≠ l.length then none
  else some (valD (l.take (cntD l)) * 10 ^ frac + valD (l.drop (cntD l + 1)) * 10 ^ (frac - cntD (l.drop (cntD l + 1))))
theorem cntD_le (l : List UInt8) : cntD l ≤ l.length := by
  unfold cntD
  exact (List.takeWhile_prefix isD).length_le
theorem while_all : ∀ l : List UInt8, ∀ c ∈ l.takeWhile isD, isD c = true := by
  intro l
  induction l with
  | nil => intro c h; simp at h
  | cons x l ih =>
    intro c h
    rw [List.takeWhile_cons] at h
    split at h
    · rename_i hx
      rcases List.mem_cons.1 h with rfl | h
      · exact hx
      · exact ih c h
    · simp at h
theorem cntD_take (l : List UInt8) : ∀ c ∈ l.take (cntD l), isD c = true := by
  intro c hc
  have : l.take (cntD l) = l.takeWhile isD := by
    unfold cntD
    exact (List.prefix_iff_eq_take.1 (List.takeWhile_prefix isD)).symm
  rw [this] at hc
  exact while_all l c hc

end Go.Proofs.YteofmahbimkggaaDoor

/- Layer 23: the reference's parse. -/
namespace Go.Proofs.YteofmahbimkggaaDoor
set_option linter.unusedVariables false
open Go.RowKit

end Go.Proofs.YteofmahbimkggaaDoor

/- Layer 23: the reference's parse, with a byte behind the first digits. -/
namespace Go.Proofs.YteofmahbimkggaaDoor
set_option linter.unusedVariables false
open Go.RowKit

end Go.Proofs.YteofmahbimkggaaDoor

/- Layer 23: the reference's parse, whole. -/
namespace Go.Proofs.YteofmahbimkggaaDoor
set_option linter.unusedVariables false
open Go.RowKit

theorem tenI_cast (k : Nat) : tenI k = ((10 ^ k : Nat) : Int) := rfl
theorem val_le {l : List UInt8} {n : Nat} (h : ∀ c ∈ l, isD c = true) (hn : l.length + n ≤ 18) : (valD l : Int) * tenI n ≤ 1000000000000000000 ∧ 0 ≤ (valD l : Int) * tenI n := by
  have h1 := valD_lt l h
  have h2 : valD l * 10 ^ n < 10 ^ l.length * 10 ^ n := Nat.mul_lt_mul_of_pos_right h1 (Nat.pow_pos (by decide))
  rw [← Nat.pow_add] at h2
  have h3 : (10 : Nat) ^ (l.length + n) ≤ 10 ^ 18 := Nat.pow_le_pow_right (by decide) hn
  have e : (10 : Nat) ^ 18 = 1000000000000000000 := by decide
  rw [tenI_cast, ← Int.natCast_mul]
  omega

end Go.Proofs.YteofmahbimkggaaDoor

/- Layer 23: the closure of the program's parse. -/
namespace Go.Proofs.YteofmahbimkggaaDoor
set_option linter.unusedVariables false
open Go.RowKit

/-- What the three variables hold. -/
def NextSt (W : World) (gs gn ga : Nat) (s : ByteArray) (nv : Int) (a : Nat) : Prop :=
  W.cell? ⟨gs, 0, none⟩ = some (.string s) ∧ W.cell? ⟨gn, 0, none⟩ = some (.int .i64 nv) ∧ W.cell? ⟨ga, 0, none⟩ = some (.int .i64 (a : Int)) ∧ W.frozen? ⟨gn, 0, none⟩ = false ∧ W.frozen? ⟨ga, 0, none⟩ = false
/-- The sum behind k digits more. -/
def sumV (s : ByteArray) (a : Nat) (nv : Int) (k : Nat) : Int := nv * tenI k + (valD ((s.data.toList.drop a).take k) : Int)
theorem sumV_zero (s : ByteArray) (a : Nat) (nv : Int) : sumV s a nv 0 = nv := by
  unfold sumV
  rw [tenI_zero, List.take_zero]
  show nv * 1 + 0 = nv
  omega
theorem sumV_succ (s : ByteArray) (a : Nat) (nv : Int) (k : Nat) (h : a + k < s.size) (hd : isD s[a + k] = true) : sumV s a nv (k + 1) = 10 * sumV s a nv k + ((s[a + k].toNat : Int) - 48) := by
  unfold sumV
  have hl : k < (s.data.toList.drop a).length := by rw [List.length_drop]; have : s.data.toList.length = s.size := by simp
                                                    omega
  have he : (s.data.toList.drop a)[k] = s[a + k] := by rw [List.getElem_drop]; rfl
  have h2 := of_decide_eq_true hd
  rw [List.take_succ_eq_append_getElem hl, valD_snoc, he, tenI_succ, ← Int.mul_assoc]
  omega

def NextPost (s : ByteArray) (a most : Nat) (nv : Int) (gs gn ga B : Nat) (W : World) (e : Ending) (w' : World) : Prop :=
  ∃ (K : Nat) (nv2 : Int), K = min (cntD (s.data.toList.drop a)) (most + 1) ∧ e = .returned (.int .i64 (K : Int)) ∧ NextSt w' gs gn ga s nv2 (a + K) ∧ Below B W w' ∧ w'.heap.size = W.heap.size ∧ (K ≤ most → nv2 = sumV s a nv K)

/-- What the loop of the closure keeps. -/
def NextRel (s : ByteArray) (a most : Nat) (nv : Int) (gs gn ga B : Nat) (W : World) (v : Value) (wr : World) : Prop :=
  ∃ (k : Nat) (nv2 : Int), v = .int .i64 (k : Int) ∧ k ≤ most + 1 ∧ a + k ≤ s.size ∧ Hid (∀ j, j < k → ∃ h : a + j < s.size, isD s[a + j] = true) ∧ Hid (NextSt wr gs gn ga s nv2 (a + k)) ∧ Hid (Below B W wr) ∧ Hid (wr.heap.size = W.heap.size) ∧ Hid (k ≤ most → nv2 = sumV s a nv k)

theorem next_round {s : ByteArray} {a most : Nat} {nv : Int} {gs gn ga B : Nat} {W wr : World} {k : Nat} {nv2 : Int}
    (hm : most ≤ 12) (hd1 : gs ≠ gn) (hd2 : gs ≠ ga) (hd3 : gn ≠ ga) (hB1 : B ≤ gn) (hB2 : B ≤ ga)
    (HB : ∀ k, k ≤ most → 0 ≤ sumV s a nv k ∧ sumV s a nv k ≤ 9000000000000000000)
    (hkm : k ≤ most) (hlt : a + k < s.size) (hd : isD s[a + k] = true) (hall : ∀ j, j < k → ∃ h : a + j < s.size, isD s[a + j] = true)
    (hst : NextSt wr gs gn ga s nv2 (a + k)) (hb : Below B W wr) (hz : wr.heap.size = W.heap.size) (hex : k ≤ most → nv2 = sumV s a nv k) :
    NextRel s a most nv gs gn ga B W (.int .i64 ((k : Int) + 1)) ((wr.setCell ⟨gn, 0, none⟩ (.int .i64 (wrap64 (wrap64 (10 * nv2) + (((s[a + k]'hlt).toNat : Int) - 48))))).setCell ⟨ga, 0, none⟩ (.int .i64 (((a + k : Nat) : Int) + 1))).drew := by
  obtain ⟨c1, c2, c3, z1, z2⟩ := hst
  refine ⟨k + 1, wrap64 (wrap64 (10 * nv2) + (((s[a + k]'hlt).toNat : Int) - 48)), by rw [Int.natCast_add]; rfl, by omega, by omega, Lib.hid ?_, Lib.hid ⟨?_, ?_, ?_, ?_, ?_⟩, Lib.hid ?_, Lib.hid ?_, Lib.hid ?_⟩
  · intro j hj
    rcases Nat.lt_or_ge j k with h | h
    · exact hall j h
    · obtain rfl : j = k := by omega
      exact ⟨hlt, hd⟩
  · show ((wr.setCell _ _).setCell _ _).cell? _ = _
    rw [World.cell?_setCell_other _ _ _ _ (fun e => by injection e with e; exact hd2 e.symm), World.cell?_setCell_other _ _ _ _ (fun e => by injection e with e; exact hd1 e.symm)]
    exact c1
  · show ((wr.setCell _ _).setCell _ _).cell? _ = _
    rw [World.cell?_setCell_other _ _ _ _ (fun e => by injection e with e; exact hd3 e.symm), World.cell?_setCell_same _ _ _ c2]
  · show ((wr.setCell _ _).setCell _ _).cell? _ = _
    have h0 : (wr.setCell ⟨gn, 0, none⟩ (.int .i64 (wrap64 (wrap64 (10 * nv2) + (((s[a + k]'hlt).toNat : Int) - 48))))).cell? ⟨ga, 0, none⟩ = _ := (World.cell?_setCell_other _ _ _ _ (fun e => by injection e with e; exact hd3 e)).trans c3
    rw [World.cell?_setCell_same _ _ _ h0]
    rw [show ((a + (k + 1) : Nat) : Int) = ((a + k : Nat) : Int) + 1 from by omega]
  · show ((wr.setCell _ _).setCell _ _).frozen? _ = _
    simpa using z1
  · show ((wr.setCell _ _).setCell _ _).frozen? _ = _
    simpa using z2
  · exact bdrew ((hb.setCell hB1 _).setCell hB2 _)
  · show ((wr.setCell _ _).setCell _ _).heap.size = _
    simpa using hz
  · intro hk1
    have e1 := hex (by omega)
    have b1 := HB k (by omega)
    have b2 := HB (k + 1) hk1
    have e2 := sumV_succ s a nv k hlt hd
    have e3 := of_decide_eq_true hd
    subst e1
    rw [e2] at b2 ⊢
    have q1 : wrap64 (10 * sumV s a nv k) = 10 * sumV s a nv k := IntWalk.wrap64_in _ (by omega)
    rw [q1, IntWalk.wrap64_in _ (by omega)]

theorem cntD_ge : ∀ (l : List UInt8) (k : Nat), (∀ j (h : j < l.length), j < k → isD l[j] = true) → k ≤ l.length → k ≤ cntD l := by
  intro l
  induction l with
  | nil => intro k _ h; exact Nat.le_trans h (Nat.zero_le _)
  | cons c l ih =>
    intro k h1 h2
    cases k with
    | zero => exact Nat.zero_le _
    | succ k =>
      have h0 : isD c = true := h1 0 (by simp) (by omega)
      have h3 := ih k (fun j hj hk => h1 (j + 1) (by simpa using hj) (by omega)) (by simpa using h2)
      unfold cntD at h3 ⊢
      rw [List.takeWhile_cons_of_pos h0, List.length_cons]
      omega

theorem next_out {s : ByteArray} {a most : Nat} {nv : Int} {gs gn ga B : Nat} {W wr : World} {k : Nat} {nv2 : Int}
    (hak : a + k ≤ s.size) (hstop : k = most + 1 ∨ ¬ a + k < s.size ∨ ∃ h : a + k < s.size, isD s[a + k] = false) (hk : k ≤ most + 1) (hall : ∀ j, j < k → ∃ h : a + j < s.size, isD s[a + j] = true)
    (hst : NextSt wr gs gn ga s nv2 (a + k)) (hb : Below B W wr) (hz : wr.heap.size = W.heap.size) (hex : k ≤ most → nv2 = sumV s a nv k) :
    NextPost s a most nv gs gn ga B W (.returned (.int .i64 (k : Int))) wr := by
  refine ⟨k, nv2, ?_, rfl, hst, hb, hz, hex⟩
  have hsz : s.data.toList.length = s.size := by simp
  have hlen : (s.data.toList.drop a).length = s.size - a := by rw [List.length_drop, hsz]
  have hg : ∀ j (h : j < (s.data.toList.drop a).length) (h2 : a + j < s.size), (s.data.toList.drop a)[j] = s[a + j] := fun j h h2 => by rw [List.getElem_drop]; rfl
  have hle : k ≤ cntD (s.data.toList.drop a) := cntD_ge _ _ (fun j hj hk => by
    obtain ⟨h, e⟩ := hall j hk
    rw [hg j hj h]
    exact e) (by omega)
  rcases hstop with h | h | ⟨h, e⟩
  · omega
  · have := cntD_le (s.data.toList.drop a)
    omega
  · have : cntD (s.data.toList.drop a) = k := cntD_is _ k (fun j hj hk => by
      obtain ⟨h, e⟩ := hall j hk
      rw [hg j hj h]
      exact e) (by omega) (fun h' => by rw [hg k h' h]; exact e)
    omega

end Go.Proofs.YteofmahbimkggaaDoor
