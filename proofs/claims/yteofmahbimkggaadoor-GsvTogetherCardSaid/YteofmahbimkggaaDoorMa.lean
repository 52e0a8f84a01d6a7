/- General small lemmas over any program: texts, bytes, the worlds of a walk. -/
import Derived.WalkKit
import Derived.WalkSpells
import Derived.WalkLawsBesides
import Derived.Lib.Hide
import Derived.Test.YteofmahbimkggaaDoorProg
import Derived.BigQuiet
import Derived.Lib.TrimByte
namespace Go.Proofs.YteofmahbimkggaaDoor
set_option linter.unusedVariables false
open Go.RowKit

theorem ret_u8 {a b : Int} (h : a = b) : Ending.returned (.int .u8 a) = .returned (.int .u8 b) := by rw [h]
theorem ret_i64 {a b : Int} (h : a = b) : Ending.returned (.int .i64 a) = .returned (.int .i64 b) := by rw [h]
theorem ret_str {a b : ByteArray} (h : a = b) : Ending.returned (.string a) = .returned (.string b) := by rw [h]
theorem ret_bool {a b : Bool} (h : a = b) : Ending.returned (.bool a) = .returned (.bool b) := by rw [h]

theorem bthen {w w1 w2 : World} (h1 : Below w.heap.size w w1) (h2 : Below w1.heap.size w1 w2) : Below w.heap.size w w2 := h1.trans (h2.mono h1.size)
theorem hb_le {B : Nat} {a w : World} (h : Below B a w) (hB : B ≤ a.heap.size := by exact Nat.le_refl _) : B ≤ w.heap.size := Nat.le_trans hB h.size
theorem bdrewN {B : Nat} {a w : World} (h : Below B a w) (n : Nat) : Below B a (w.drewN n) := ⟨h.os, h.tape, h.output, h.size, h.block⟩

theorem bdrew {B : Nat} {a w : World} (h : Below B a w) : Below B a w.drew := ⟨h.os, h.tape, h.output, h.size, h.block⟩

theorem take_snoc (s : ByteArray) (k : Nat) (h : k < s.size) : s.data.toList.take (k + 1) = s.data.toList.take k ++ [s[k]] := by
  rw [List.take_succ_eq_append_getElem (by simpa using h)]; rfl

theorem xor_u8 (a b : UInt8) : Value.int IntKind.u8 (bits BinOp.xor IntKind.u8 (a.toNat : Int) (b.toNat : Int)) = Value.int IntKind.u8 ((a ^^^ b).toNat : Int) := by
  rw [u8_xor_nat _ _ a.toNat_lt b.toNat_lt, UInt8.toNat_xor]

/-- A row of bytes becomes a text. -/
theorem run_conv_row {P : Program} (w : World) (src dst e : TypeId) (a : Addr) (cap : Nat) (ns : List Int)
    (hs : P.underlying src = some (.slice e)) (he : P.underlying e = some (.int .u8)) (hd : P.underlying dst = some .string)
    (hc : ∀ j (hj : j < ns.length), w.cell? (a.add j) = some (.int .u8 ns[j])) :
    (convert src dst (.slice (some a) ns.length cap)).run P w = .ok (.string ⟨(ns.map fun n => UInt8.ofNat n.toNat).toArray⟩) w := by
  rw [run_convert_bytes_string w src dst e (some a) ns.length cap hs he hd]
  have hl := run_loadCells_list (P := P) w a (ns.map (Value.int .u8)) (fun j v hj => by
    have hjl : j < ns.length := by
      rcases Nat.lt_or_ge j ns.length with h | h
      · exact h
      · simp [List.getElem?_eq_none (show (ns.map (Value.int .u8)).length ≤ j by simpa using h)] at hj
    rw [hc j hjl]
    simpa [List.getElem?_eq_getElem hjl] using hj)
  rw [List.length_map] at hl
  rw [run_bytesToString w a ns.length cap ns hl]
  congr 2
  have : ∀ (l : List Int) (r : ByteArray), l.foldl (fun r n => r.push (UInt8.ofNat n.toNat)) r = ⟨r.data ++ (l.map fun n => UInt8.ofNat n.toNat).toArray⟩ := by
    intro l
    induction l with
    | nil => intro r; simp
    | cons n l ih =>
      intro r
      simp only [List.foldl_cons, List.map_cons]
      rw [ih]
      congr 1
      apply Array.ext'
      simp [ByteArray.push]
  rw [this]
  simp

theorem run_conv1 {P : Program} (src dst e : TypeId) (hs : P.underlying src = some (.slice e)) (he : P.underlying e = some (.int .u8)) (hd : P.underlying dst = some .string)
    (w : World) (a : Int) (n : Nat) (hn : n = w.heap.size) :
    (convert src dst (.slice (some ⟨n, 0, none⟩) 1 1)).run P (w.alloc (.cells #[.int .u8 a] e)) = .ok (.string ⟨#[UInt8.ofNat a.toNat]⟩) (w.alloc (.cells #[.int .u8 a] e)) := by
  subst hn
  exact run_conv_row (w.alloc (.cells #[.int .u8 a] e)) src dst e ⟨w.heap.size, 0, none⟩ 1 [a] hs he hd (fun j hj => by
    have : j = 0 := by simp at hj; omega
    subst this
    simp [Addr.add, World.cell?_alloc_new])

theorem run_conv1d {P : Program} (src dst e : TypeId) (hs : P.underlying src = some (.slice e)) (he : P.underlying e = some (.int .u8)) (hd : P.underlying dst = some .string)
    (w : World) (a : Int) (n : Nat) (hn : n = w.heap.size) :
    (convert src dst (.slice (some ⟨n, 0, none⟩) 1 1)).run P (w.alloc (.cells #[.int .u8 a] e)).drew = .ok (.string ⟨#[UInt8.ofNat a.toNat]⟩) (w.alloc (.cells #[.int .u8 a] e)).drew := by
  subst hn
  exact run_conv_row (w.alloc (.cells #[.int .u8 a] e)).drew src dst e ⟨w.heap.size, 0, none⟩ 1 [a] hs he hd (fun j hj => by
    have : j = 0 := by simp at hj; omega
    subst this
    show (w.alloc _).cell? _ = _
    simp [Addr.add, World.cell?_alloc_new])

theorem run_conv2 {P : Program} (src dst e : TypeId) (hs : P.underlying src = some (.slice e)) (he : P.underlying e = some (.int .u8)) (hd : P.underlying dst = some .string)
    (w : World) (a b : Int) (n : Nat) (hn : n = w.heap.size) :
    (convert src dst (.slice (some ⟨n, 0, none⟩) 2 2)).run P (w.alloc (.cells #[.int .u8 a, .int .u8 b] e)) = .ok (.string ⟨#[UInt8.ofNat a.toNat, UInt8.ofNat b.toNat]⟩) (w.alloc (.cells #[.int .u8 a, .int .u8 b] e)) := by
  subst hn
  exact run_conv_row (w.alloc (.cells #[.int .u8 a, .int .u8 b] e)) src dst e ⟨w.heap.size, 0, none⟩ 2 [a, b] hs he hd (fun j hj => by
    have hj2 : j < 2 := by simpa using hj
    have : j = 0 ∨ j = 1 := by omega
    rcases this with rfl | rfl <;> simp [Addr.add, World.cell?_alloc_new])

/-- A slice that came in (or was made), read as a list of texts: the address is told only where there is an element. -/
def Strs (w : World) (B : Nat) (A : Option Addr) (fs : List ByteArray) : Prop :=
  ∀ k (hk : k < fs.length), ∃ b off, A = some ⟨b, off, none⟩ ∧ b < B ∧ w.cell? ⟨b, off + k, none⟩ = some (.string (fs[k]'hk))
theorem Strs.keep {w w' : World} {B : Nat} {A : Option Addr} {fs : List ByteArray} (h : Strs w B A fs) (hk : ∀ p : Addr, p.block < B → w'.cell? p = w.cell? p) : Strs w' B A fs := by
  intro k hk'
  obtain ⟨b, off, hA, hb, hc⟩ := h k hk'
  exact ⟨b, off, hA, hb, (hk _ hb).trans hc⟩
theorem Strs.below {w w' : World} {B B' : Nat} {A : Option Addr} {fs : List ByteArray} (h : Strs w B A fs) (hb : Below B' w w') (hB : B ≤ B') : Strs w' B A fs :=
  h.keep fun _ hp => hb.cell (Nat.lt_of_lt_of_le hp hB)
theorem Strs.more {w : World} {B B' : Nat} {A : Option Addr} {fs : List ByteArray} (h : Strs w B A fs) (hB : B ≤ B') : Strs w B' A fs := by
  intro k hk'
  obtain ⟨b, off, hA, hb, hc⟩ := h k hk'
  exact ⟨b, off, hA, by omega, hc⟩
/-- The address lies at or behind block lo. -/
def FreshA (lo : Nat) (A : Option Addr) : Prop := ∀ a, A = some a → lo ≤ a.block
theorem FreshA.none_ {lo : Nat} : FreshA lo none := fun a h => by cases h
theorem FreshA.less {lo lo' : Nat} {A : Option Addr} (h : FreshA lo A) (hl : lo' ≤ lo) : FreshA lo' A := fun a e => Nat.le_trans hl (h a e)
theorem Strs.setCell {w : World} {B lo : Nat} {A : Option Addr} {fs : List ByteArray} (h : Strs w B A fs) (hf : FreshA lo A) {p : Addr} (hp : p.block < lo) (v : Value) : Strs (w.setCell p v) B A fs := by
  intro k hk'
  obtain ⟨b, off, hA, hb, hc⟩ := h k hk'
  have hlo := hf _ hA
  exact ⟨b, off, hA, hb, (World.cell?_setCell_other w p _ v (fun e => by subst e; exact absurd hp (Nat.not_lt.2 hlo))).trans hc⟩
theorem below_new (w : World) (o : Obj) : Below w.heap.size w (w.alloc o) := (Below.refl _ _).alloc (Nat.le_refl _) _
theorem bcell {B : Nat} {W w1 : World} (hb : Below B W w1) : (∀ b o, b < B → w1.cell? ⟨b, o, none⟩ = W.cell? ⟨b, o, none⟩) ∧ (∀ b o, b < B → w1.frozen? ⟨b, o, none⟩ = W.frozen? ⟨b, o, none⟩) :=
  ⟨fun b o h => hb.cell (p := ⟨b, o, none⟩) h, fun b o h => hb.frozen (p := ⟨b, o, none⟩) h⟩

end Go.Proofs.YteofmahbimkggaaDoor

/- Layer 23: ten, Right, fits, of the program and of the reference. -/
namespace Go.Proofs.YteofmahbimkggaaDoor
set_option linter.unusedVariables false
open Go.RowKit

/-- Ten to the power of k. -/
def tenI (k : Nat) : Int := ((10 ^ k : Nat) : Int)
theorem tenI_zero : tenI 0 = 1 := rfl
theorem tenI_succ (k : Nat) : tenI (k + 1) = tenI k * 10 := by unfold tenI; rw [Nat.pow_succ]; omega
theorem tenI_pos (k : Nat) : 1 ≤ tenI k := by
  unfold tenI
  have : 0 < 10 ^ k := Nat.pow_pos (by decide)
  omega
theorem tenI_le {k n : Nat} (h : k ≤ n) : tenI k ≤ tenI n := by
  unfold tenI
  have : 10 ^ k ≤ 10 ^ n := Nat.pow_le_pow_right (by decide) h
  omega
theorem tenI_18 : tenI 18 = 1000000000000000000 := by decide
theorem tenI_17 : tenI 17 = 100000000000000000 := by decide

set_option maxHeartbeats 1000000 in
theorem ten_any (n : Nat) (w : World) (hn : n ≤ 18) :
    Calls Tryd.prog 33 #[.int .i64 (n : Int)] w fun e w' => e = .returned (.int .i64 (tenI n)) ∧ w = w' := by
  go_enter Tryd.func33, Tryd.ntmps33
  go_wp2
  go_loop [3, 5] (fun p i => ∃ k : Nat, k ≤ n ∧ i = .int .i64 k ∧ p = .int .i64 (tenI k)) (fun _ i => n - (intOf i).toNat)
  case atStart => exact ⟨0, Nat.zero_le _, rfl, rfl⟩
  case round =>
    obtain ⟨k, hk, rfl, rfl⟩ := hrel
    by_cases hlt : k < n
    · have h1 := tenI_pos k
      have h2 := tenI_le (show k ≤ 17 by omega)
      rw [tenI_17] at h2
      have h3 := Lib.hid (tenI_succ k)
      generalize tenI k = T at *
      go_wp2
      go_round
      case rel => exact ⟨k + 1, by omega, by go_num, by rw [h3.out]⟩
      case measure => simp [intOf]; omega
    · obtain rfl : k = n := by omega
      go_wp2
      go_ret
      exact ⟨rfl, rfl⟩

/-- A column as a value. -/
abbrev colV (W M F L H : Int) : Value := .agg #[.int .i64 W, .int .i64 M, .int .i64 F, .int .i64 L, .int .i64 H]
/-- May a column be? -/
def rightB (W M F L H : Int) : Bool := decide (1 ≤ W ∧ W ≤ M ∧ M ≤ 12 ∧ 0 ≤ F ∧ F ≤ 6 ∧ L ≤ H ∧ -tenI (M + F).toNat < L ∧ H < tenI (M + F).toNat)

set_option maxHeartbeats 2000000 in
theorem Right_no (W M F L H : Int) (w : World) (h : W < 1 ∨ 1 ≤ W ∧ M < W ∨ 1 ≤ W ∧ W ≤ M ∧ 12 < M) :
    Calls Tryd.prog 30 #[colV W M F L H] w fun e w' => e = .returned (.bool false) ∧ Below w.heap.size w w' := by
  rcases h with h | ⟨h0, h⟩ | ⟨h0, h1, h⟩
  all_goals
    go_enter Tryd.func30, Tryd.ntmps30
    go_wp2
    go_ret
    exact ⟨rfl, below_new _ _⟩

set_option maxHeartbeats 2000000 in
theorem Right_no2 (W M F L H : Int) (w : World) (h0 : 1 ≤ W) (h1 : W ≤ M) (h2 : M ≤ 12) (h : F < 0 ∨ 0 ≤ F ∧ 6 < F ∨ 0 ≤ F ∧ F ≤ 6 ∧ H < L) :
    Calls Tryd.prog 30 #[colV W M F L H] w fun e w' => e = .returned (.bool false) ∧ Below w.heap.size w w' := by
  rcases h with h | ⟨h3, h⟩ | ⟨h3, h4, h⟩
  all_goals
    go_enter Tryd.func30, Tryd.ntmps30
    go_wp2
    go_ret
    exact ⟨rfl, below_new _ _⟩

set_option maxHeartbeats 2000000 in
theorem Right_end (W L H : Int) (m f : Nat) (w : World) (h0 : 1 ≤ W) (h1 : W ≤ (m : Int)) (h2 : m ≤ 12) (h3 : f ≤ 6) (h4 : L ≤ H) :
    Calls Tryd.prog 30 #[colV W m f L H] w fun e w' => e = .returned (.bool (decide (-tenI (m + f) < L ∧ H < tenI (m + f)))) ∧ Below w.heap.size w w' := by
  have HT := fun W => Lib.hid (ten_any (m + f) W (by omega))
  rw [Int.natCast_add] at HT
  have t1 := tenI_pos (m + f)
  have t2 := tenI_le (show m + f ≤ 18 by omega)
  rw [tenI_18] at t2
  generalize tenI (m + f) = T at *
  by_cases h5 : -T < L
  · have e : decide (-T < L ∧ H < T) = decide (H < T) := by simp [h5]
    rw [e]
    clear e
    go_enter Tryd.func30, Tryd.ntmps30
    go_wp2_with fail
    refine (HT _).out.mono ?_
    rintro e w' ⟨rfl, rfl⟩
    go_wp2_with fail
    go_ret
    exact ⟨rfl, below_new _ _⟩
  · have e : decide (-T < L ∧ H < T) = false := by simp [h5]
    rw [e]
    clear e
    go_enter Tryd.func30, Tryd.ntmps30
    go_wp2_with fail
    refine (HT _).out.mono ?_
    rintro e w' ⟨rfl, rfl⟩
    go_wp2_with fail
    go_ret
    exact ⟨rfl, below_new _ _⟩

theorem Right_any (W M F L H : Int) (w : World) : Calls Tryd.prog 30 #[colV W M F L H] w fun e w' => e = .returned (.bool (rightB W M F L H)) ∧ Below w.heap.size w w' := by
  by_cases h : 1 ≤ W ∧ W ≤ M ∧ M ≤ 12
  · obtain ⟨h0, h1, h2⟩ := h
    by_cases h : 0 ≤ F ∧ F ≤ 6 ∧ L ≤ H
    · obtain ⟨h3, h4, h5⟩ := h
      obtain ⟨m, rfl⟩ := Int.eq_ofNat_of_zero_le (show 0 ≤ M by omega)
      obtain ⟨f, rfl⟩ := Int.eq_ofNat_of_zero_le h3
      have e : rightB W m f L H = decide (-tenI (m + f) < L ∧ H < tenI (m + f)) := by
        unfold rightB
        rw [show ((m : Int) + (f : Int)).toNat = m + f from by omega]
        simp only [h0, h1, h2, h3, h4, h5, true_and]
      rw [e]
      exact Right_end W L H m f w h0 h1 (by omega) (by omega) h5
    · have e : rightB W M F L H = false := by
        unfold rightB
        rw [decide_eq_false_iff_not]
        rintro ⟨_, _, _, a, b, c, _⟩
        exact h ⟨a, b, c⟩
      rw [e]
      exact Right_no2 W M F L H w h0 h1 h2 (by omega)
  · have e : rightB W M F L H = false := by
      unfold rightB
      rw [decide_eq_false_iff_not]
      rintro ⟨a, b, c, _⟩
      exact h ⟨a, b, c⟩
    rw [e]
    exact Right_no W M F L H w (by omega)

end Go.Proofs.YteofmahbimkggaaDoor

/- Layer 23: the reference's Right; fits. -/
namespace Go.Proofs.YteofmahbimkggaaDoor
set_option linter.unusedVariables false
open Go.RowKit

theorem rightB_no {W M F L H : Int} (h : ¬ ((1 ≤ W ∧ W ≤ M ∧ M ≤ 12) ∧ 0 ≤ F ∧ F ≤ 6 ∧ L ≤ H)) : rightB W M F L H = false := by
  unfold rightB
  rw [decide_eq_false_iff_not]
  rintro ⟨a, b, c, d, e, f, _⟩
  exact h ⟨⟨a, b, c⟩, d, e, f⟩

end Go.Proofs.YteofmahbimkggaaDoor

/- Layer 23: fits; digits. -/
namespace Go.Proofs.YteofmahbimkggaaDoor
set_option linter.unusedVariables false
open Go.RowKit

/-- A number as a value. -/
abbrev numV (b : Bool) (n : Int) : Value := .agg #[.bool b, .int .i64 n]
/-- May a number be? -/
def fitsB (b : Bool) (n lo hi : Int) : Bool := if b then decide (lo ≤ n ∧ n ≤ hi) else decide (n = 0)

set_option maxHeartbeats 2000000 in
theorem fits_any (b : Bool) (n lo hi : Int) (w : World) : Calls Tryd.prog 31 #[numV b n, .int .i64 lo, .int .i64 hi] w fun e w' => e = .returned (.bool (fitsB b n lo hi)) ∧ Below w.heap.size w w' := by
  cases b with
  | false =>
    by_cases h : n = 0
    · subst h
      have e : fitsB false 0 lo hi = true := by unfold fitsB; simp
      rw [e]
      clear e
      go_enter Tryd.func31, Tryd.ntmps31
      go_wp2
      go_ret
      exact ⟨rfl, below_new _ _⟩
    · have e : fitsB false n lo hi = false := by unfold fitsB; simp [h]
      rw [e]
      clear e
      go_enter Tryd.func31, Tryd.ntmps31
      go_wp2
      go_ret
      exact ⟨rfl, below_new _ _⟩
  | true =>
    by_cases h : lo ≤ n
    · have e : fitsB true n lo hi = decide (n ≤ hi) := by unfold fitsB; rw [if_pos rfl]; simp [h]
      rw [e]
      clear e
      go_enter Tryd.func31, Tryd.ntmps31
      go_wp2
      go_ret
      exact ⟨rfl, below_new _ _⟩
    · have e : fitsB true n lo hi = false := by unfold fitsB; rw [if_pos rfl]; simp [h]
      rw [e]
      clear e
      go_enter Tryd.func31, Tryd.ntmps31
      go_wp2
      go_ret
      exact ⟨rfl, below_new _ _⟩

end Go.Proofs.YteofmahbimkggaaDoor

/- Layer 23: digits, of the program and of the reference. -/
namespace Go.Proofs.YteofmahbimkggaaDoor
set_option linter.unusedVariables false
open Go.RowKit

/-- Digits of n, at least l; f: at most so many. -/
def digF : Nat → Nat → Nat → List UInt8
  | 0, _, _ => []
  | f + 1, n, l => if 0 < n ∨ 0 < l then digF f (n / 10) (l - 1) ++ [UInt8.ofNat (48 + n % 10)] else []
def digL (n l : Nat) : List UInt8 := digF 20 n l
theorem digF_stop (f : Nat) : digF f 0 0 = [] := by cases f <;> simp [digF]
theorem digF_step (f n l : Nat) (h : 0 < n ∨ 0 < l) : digF (f + 1) n l = digF f (n / 10) (l - 1) ++ [UInt8.ofNat (48 + n % 10)] := by rw [digF, if_pos h]
theorem digF_len (f : Nat) : ∀ n l, (digF f n l).length ≤ f := by
  induction f with
  | zero => intro n l; simp [digF]
  | succ f ih =>
    intro n l
    unfold digF
    split
    · have := ih (n / 10) (l - 1); simp; omega
    · simp

/-- The block of 20 bytes, of which the last ones are laid. -/
def Tail (w : World) (g : Nat) (suf : List UInt8) : Prop :=
  (∀ j, j < 20 → ∃ v, w.cell? ⟨g, j, none⟩ = some v) ∧ ∀ j (h : j < suf.length), w.cell? ⟨g, 20 - suf.length + j, none⟩ = some (.int .u8 (suf[j].toNat : Int))

theorem Tail.put {w : World} {g : Nat} {suf : List UInt8} (h : Tail w g suf) (a : Nat) (ha : a + suf.length = 19) (c : UInt8) (z : Int) (hz : z = (c.toNat : Int)) : Tail (w.setCell ⟨g, a, none⟩ (.int .u8 z)) g (c :: suf) := by
  subst hz
  obtain ⟨h1, h2⟩ := h
  have key : ∀ j, j ≠ a → (w.setCell ⟨g, a, none⟩ (.int .u8 (c.toNat : Int))).cell? ⟨g, j, none⟩ = w.cell? ⟨g, j, none⟩ := fun j hj => World.cell?_setCell_other w _ _ _ (fun e => by injection e with _ e; exact hj e.symm)
  obtain ⟨v, hv⟩ := h1 a (by omega)
  have same : (w.setCell ⟨g, a, none⟩ (.int .u8 (c.toNat : Int))).cell? ⟨g, a, none⟩ = some (.int .u8 (c.toNat : Int)) := World.cell?_setCell_same w _ _ hv
  refine ⟨fun j hj => ?_, fun j hj => ?_⟩
  · by_cases e : j = a
    · subst e; exact ⟨_, same⟩
    · rw [key j e]; exact h1 j hj
  · cases j with
    | zero =>
      rw [List.length_cons, show 20 - (suf.length + 1) + 0 = a from by omega]
      exact same
    | succ j =>
      rw [List.length_cons] at hj ⊢
      rw [show 20 - (suf.length + 1) + (j + 1) = 20 - suf.length + j from by omega, key _ (by omega)]
      exact h2 j (by omega)

theorem digits_new (w : World) (o : Array Value) (T : TypeId) (ho : o.size = 20) : Tail (w.alloc (.cells o T)) w.heap.size [] := by
  refine ⟨fun j hj => ?_, fun j hj => absurd hj (by simp)⟩
  rw [World.cell?_alloc_new]
  exact ⟨o[j]'(by omega), by rw [Array.getElem?_eq_getElem]⟩

/-- What holds of the loop behind a round. -/
def digits_next (n l : Nat) (w : World) (a m : Nat) (suf : List UInt8) (wr : World) : Prop :=
  a + suf.length = 20 ∧ a ≤ 20 ∧ m ≤ 1000000000000000000 ∧ m < 10 ^ (a - 1) ∧ digL n l = digF a m (l - suf.length) ++ suf ∧ Tail wr w.heap.size suf ∧ Below w.heap.size w wr ∧ w.heap.size < wr.heap.size ∧ ∀ o, wr.frozen? ⟨w.heap.size, o, none⟩ = false
theorem digits_rel {n l : Nat} {w : World} {b m : Nat} {suf : List UInt8} {wr : World} (h : digits_next n l w b (m / 10) suf wr) :
    ∃ (m2 a : Nat) (suf2 : List UInt8), Value.int .i64 ((m : Int) / 10) = .int .i64 (m2 : Int) ∧ Value.int .i64 (b : Int) = .int .i64 (a : Int) ∧ Hid (a + suf2.length = 20) ∧ a ≤ 20 ∧ m2 ≤ 1000000000000000000 ∧ Hid (m2 < 10 ^ (a - 1)) ∧ Hid (digL n l = digF a m2 (l - suf2.length) ++ suf2) ∧ Hid (Tail wr w.heap.size suf2) ∧ Hid (Below w.heap.size w wr) ∧ w.heap.size < wr.heap.size ∧ Hid (∀ o, wr.frozen? ⟨w.heap.size, o, none⟩ = false) := by
  obtain ⟨h1, h2, h3, h4, h5, h6, h7, h8, h9⟩ := h
  exact ⟨m / 10, b, suf, rfl, rfl, h1, h2, h3, h4, h5, h6, h7, h8, h9⟩
theorem digits_round {n l : Nat} {w wr : World} {b m : Nat} {suf : List UInt8} (hs : b + 1 + suf.length = 20) (hm : m ≤ 1000000000000000000) (hp : m < 10 ^ (b + 1 - 1)) (hd : digL n l = digF (b + 1) m (l - suf.length) ++ suf) (ht : Tail wr w.heap.size suf) (hb : Below w.heap.size w wr) (hz : w.heap.size < wr.heap.size) (hf : ∀ o, wr.frozen? ⟨w.heap.size, o, none⟩ = false) (hgo : 0 < m ∨ suf.length < l) :
    digits_next n l w b (m / 10) (UInt8.ofNat (48 + m % 10) :: suf) (wr.setCell ⟨w.heap.size, b, none⟩ (.int .u8 (48 + (m : Int) % 10))) := by
  refine ⟨by rw [List.length_cons]; omega, by omega, by omega, ?_, ?_, ht.put b (by omega) _ _ ?_, hb.setCell (Nat.le_refl _) _, by simpa using hz, fun o => by simpa using hf o⟩
  · rw [Nat.add_sub_cancel] at hp
    cases b with
    | zero => have : m < 1 := hp; show m / 10 < 1; omega
    | succ b =>
      rw [Nat.add_sub_cancel]
      rw [Nat.pow_succ] at hp
      omega
  · rw [hd, digF_step _ _ _ (by omega), List.append_assoc, List.length_cons]
    rfl
  · have : (UInt8.ofNat (48 + m % 10)).toNat = 48 + m % 10 := by simp; omega
    rw [this]
    omega

set_option maxRecDepth 8000 in
set_option maxHeartbeats 2000000 in
theorem digits_any (n l : Nat) (w : World) (hn : n ≤ 1000000000000000000) (hl : l ≤ 18) :
    Calls Tryd.prog 34 #[.int .i64 (n : Int), .int .i64 (l : Int)] w fun e w' => e = .returned (.string ⟨(digL n l).toArray⟩) ∧ Below w.heap.size w w' := by
  have HN19 : Hid (n < 10 ^ (20 - 1)) := by
    have : (10 : Nat) ^ (20 - 1) = 10000000000000000000 := by decide
    show n < _
    omega
  go_enter Tryd.func34, Tryd.ntmps34
  go_wp2
  go_loopw [0, 6] (fun v at_ wr => ∃ (m a : Nat) (suf : List UInt8), v = .int .i64 (m : Int) ∧ at_ = .int .i64 (a : Int) ∧ Hid (a + suf.length = 20) ∧ a ≤ 20 ∧ m ≤ 1000000000000000000 ∧ Hid (m < 10 ^ (a - 1)) ∧ Hid (digL n l = digF a m (l - suf.length) ++ suf) ∧ Hid (Tail wr w.heap.size suf) ∧ Hid (Below w.heap.size w wr) ∧ w.heap.size < wr.heap.size ∧ Hid (∀ o, wr.frozen? ⟨w.heap.size, o, none⟩ = false)) (fun v at_ _ => (intOf at_).toNat)
  case atStart =>
    refine ⟨n, 20, [], rfl, rfl, rfl, Nat.le_refl _, hn, HN19, Lib.hid (by show digL n l = digF 20 n (l - 0) ++ []; rw [List.append_nil]; rfl), Lib.hid (digits_new w _ _ rfl), Lib.hid (below_new w _), by simp, Lib.hid (fun o => ?_)⟩
    simp
  case round =>
    obtain ⟨m, a, suf, rfl, rfl, hs, ha, hm, hp, hd, ht, hb, hz, hf⟩ := hrel
    by_cases hgo : 0 < m ∨ suf.length < l
    · have ha1 : 1 ≤ a := by
        have h1 := hs.out
        have h2 := hp.out
        rcases Nat.eq_zero_or_pos a with h | h
        · subst h
          have : m < 1 := h2
          omega
        · exact h
      obtain ⟨b, rfl⟩ : ∃ b, a = b + 1 := ⟨a - 1, by omega⟩
      obtain ⟨v, hv⟩ := ht.out.1 b (by omega)
      have hfb := hf.out b
      have e1 : ((b + 1 : Nat) : Int) - 1 = (b : Int) := by omega
      have hgo2 : 0 < (m : Int) ∨ (m : Int) ≤ 0 ∧ (20 : Int) - ((b + 1 : Nat) : Int) < (l : Int) := by have := hs.out; omega
      have hnext : Hid (digits_next n l w b (m / 10) (UInt8.ofNat (48 + m % 10) :: suf) (wr.setCell ⟨w.heap.size, b, none⟩ (.int .u8 (48 + (m : Int) % 10)))) := digits_round hs.out hm hp.out hd.out ht.out hb.out hz hf.out hgo
      clear hs hp hd ht hb hf hgo
      rcases hgo2 with h | ⟨h, h'⟩
      · go_wp2
        go_round
        case rel => exact digits_rel hnext.out
        case measure => simp [intOf]
      · obtain rfl : m = 0 := by omega
        clear h
        go_wp2
        go_round
        case rel => exact digits_rel hnext.out
        case measure => simp [intOf]
    · have h1 : (m : Int) ≤ 0 := by omega
      have h2 : (l : Int) ≤ 20 - (a : Int) := by have := hs.out; omega
      have hres : Hid (digL n l = suf) := by
        have h3 := hd.out
        rw [show m = 0 from by omega, show l - suf.length = 0 from by omega, digF_stop] at h3
        exact h3
      have kc : ∀ cap, (convert 69 9 (.slice (some ⟨w.heap.size, a, none⟩) (20 - a) cap)).run Tryd.prog wr = .ok (.string ⟨suf.toArray⟩) wr := by
        intro cap
        have h4 := run_conv_row (P := Tryd.prog) wr 69 9 5 ⟨w.heap.size, a, none⟩ cap (suf.map fun c => (c.toNat : Int)) Tryd.underlying69 Tryd.underlying5 Tryd.underlying9 (fun j hj => by
          rw [List.length_map] at hj
          have h5 := ht.out.2 j hj
          rw [List.getElem_map]
          rw [show 20 - suf.length = a from by have := hs.out; omega] at h5
          rw [show (⟨w.heap.size, a, none⟩ : Addr).add j = ⟨w.heap.size, a + j, none⟩ from by simp [Addr.add]]
          exact h5)
        rw [List.length_map, show suf.length = 20 - a from by have := hs.out; omega, List.map_map] at h4
        have e : ∀ q : List UInt8, List.map ((fun n : Int => UInt8.ofNat n.toNat) ∘ fun c : UInt8 => (c.toNat : Int)) q = q := fun q => (List.map_congr_left (fun c _ => by simp)).trans (List.map_id q)
        rw [e] at h4
        exact h4
      have i1 : (0 : Int) ≤ (a : Int) := Int.natCast_nonneg _
      have i2 : (a : Int) ≤ 20 := by omega
      have k0 : (convert 69 9 (.slice (some ⟨w.heap.size, 0, none⟩) 0 0)).run Tryd.prog wr = .ok (.string ⟨#[]⟩) wr :=
        run_conv_row (P := Tryd.prog) wr 69 9 5 ⟨w.heap.size, 0, none⟩ 0 [] Tryd.underlying69 Tryd.underlying5 Tryd.underlying9 (fun j hj => absurd hj (by simp))
      by_cases h20 : a = 20
      · have hnil : Hid (suf = []) := by have := hs.out; show _ = _; exact List.eq_nil_of_length_eq_zero (by omega)
        subst h20
        clear hs hp hd ht hf hgo HN19 hm hn kc
        go_wp2
        go_ret
        exact ⟨by rw [hres.out, hnil.out]; rfl, hb.out⟩
      · have i3 : a < 20 := by omega
        have i4 : ¬ (20 - a = 0) := by omega
        clear hs hp hd ht hf hgo HN19 hm hn k0 h20
        go_wp2
        go_ret
        exact ⟨by rw [hres.out]; rfl, hb.out⟩

end Go.Proofs.YteofmahbimkggaaDoor

/- strings.TrimRight of one byte; the reference's Digits and behind. -/
namespace Go.Proofs.YteofmahbimkggaaDoor
set_option linter.unusedVariables false
open Go.RowKit

def toB (l : List UInt8) : ByteArray := ⟨l.toArray⟩
theorem B_toList (t : ByteArray) : toB t.data.toList = t := by obtain ⟨⟨l⟩⟩ := t; rfl
theorem toList_B (l : List UInt8) : (toB l).data.toList = l := by simp [toB]
theorem size_B (l : List UInt8) : (toB l).size = l.length := by show l.toArray.size = _; simp
theorem toB_append (a b : List UInt8) : toB a ++ toB b = toB (a ++ b) := by
  apply ByteArray.ext
  simp [toB, ByteArray.data_append]

theorem trimR_nil (c : UInt8) : Lib.trimRightB [] c = [] := rfl
theorem trimR_eq (l : List UInt8) (c : UInt8) : Lib.trimRightB (l ++ [c]) c = Lib.trimRightB l c := by simp [Lib.trimRightB]
theorem trimR_ne (l : List UInt8) (x c : UInt8) (h : x ≠ c) : Lib.trimRightB (l ++ [x]) c = l ++ [x] := by simp [Lib.trimRightB, h]
theorem last_parted (t : ByteArray) (n : Nat) (h : t.size = n + 1) : t.data.toList = (t.extract 0 n).data.toList ++ [t[n]'(by omega)] := by
  have hl : n < t.data.toList.length := by simpa using (show n < t.size by omega)
  have e1 : (t.extract 0 n).data.toList = t.data.toList.take n := by rw [Lib.extract_upto]
  have e2 : t.data.toList[n]'hl = t[n]'(by omega) := rfl
  have e3 : t.data.toList.length = n + 1 := by simpa using h
  rw [e1, ← e2, ← List.take_succ_eq_append_getElem hl, List.take_of_length_le (by omega)]

set_option maxHeartbeats 1000000 in
theorem trimByte_any (s : ByteArray) (c : UInt8) (w : World) (hs : s.size ≤ 1000000) :
    Calls Tryd.prog 36 #[.string s, .int .u8 (c.toNat : Int)] w fun e w' => e = .returned (.string (toB (Lib.trimRightB s.data.toList c))) ∧ w = w' := by
  go_enter Tryd.func36, Tryd.ntmps36
  go_wp2
  go_loop [0] (fun v => ∃ t : ByteArray, v = .string t ∧ t.size ≤ 1000000 ∧ Hid (Lib.trimRightB s.data.toList c = Lib.trimRightB t.data.toList c)) (fun v => Lib.strSize v)
  case atStart => exact ⟨s, rfl, hs, rfl⟩
  case round =>
    obtain ⟨t, rfl, ht, hR⟩ := hrel
    by_cases h0 : t.size = 0
    · have hf : Hid (Lib.trimRightB s.data.toList c = t.data.toList) := by
        have : t.data.toList = [] := List.eq_nil_of_length_eq_zero (by simpa using h0)
        show _ = _
        rw [hR.out, this]; rfl
      go_wp2
      go_ret
      exact ⟨by rw [hf.out, B_toList]; rfl, rfl⟩
    · obtain ⟨n, hn⟩ : ∃ n, t.size = n + 1 := ⟨t.size - 1, by omega⟩
      have hlt : n < t.size := by omega
      have hp := Lib.hid (last_parted t n hn)
      have e1 : (t.size : Int) - 1 = (n : Int) := by omega
      have hpos : (0 : Int) < (t.size : Int) := by omega
      by_cases hc : t[n] = c
      · have hb : (((t[n]'hlt).toNat : Int) == (c.toNat : Int)) = true := by rw [hc]; simp
        have hR2 : Hid (Lib.trimRightB s.data.toList c = Lib.trimRightB (t.extract 0 n).data.toList c) := by
          show _ = _
          rw [hR.out, hp.out, hc, trimR_eq]
        have hz : (t.extract 0 n).size = n := by rw [ByteArray.size_extract]; omega
        clear hp hc hn h0
        go_wp2
        go_round
        case rel => exact ⟨_, rfl, by omega, hR2⟩
        case measure => rw [Lib.strSize_string, Lib.strSize_string]; omega
      · have hb : (((t[n]'hlt).toNat : Int) == (c.toNat : Int)) = false := by
          rw [beq_eq_false_iff_ne]
          exact fun k => hc (UInt8.toNat_inj.1 (by omega))
        have hf : Hid (Lib.trimRightB s.data.toList c = t.data.toList) := by
          show _ = _
          rw [hR.out, hp.out, trimR_ne _ _ _ hc]
        clear hp hc hn h0
        go_wp2
        go_ret
        exact ⟨by rw [hf.out, B_toList]; rfl, rfl⟩

end Go.Proofs.YteofmahbimkggaaDoor

/- strings.TrimRight of noughts; the reference's Digits. -/
namespace Go.Proofs.YteofmahbimkggaaDoor
set_option linter.unusedVariables false
open Go.RowKit

theorem toList_len (s : ByteArray) : s.toList.length = s.size := by rw [ByteArray.toList_eq]; simp
theorem nonempty_forms {s : ByteArray} (h : 0 < s.size) : s.toList.isEmpty = false ∧ (s.toList == []) = false := by
  have hl := toList_len s
  cases hs : s.toList with
  | nil => rw [hs] at hl; simp at hl; omega
  | cons a l => exact ⟨rfl, rfl⟩

set_option maxRecDepth 20000 in
set_option maxHeartbeats 1000000 in
theorem trimRight_any (s : ByteArray) (w : World) (hs : s.size ≤ 1000000) (h0 : 0 < s.size) :
    Calls Tryd.prog 35 #[.string s, .string ⟨#[48]⟩] w fun e w' => e = .returned (.string (toB (Lib.trimRightB s.data.toList 48))) ∧ w = w' := by
  obtain ⟨f1, f2⟩ := nonempty_forms h0
  have HT := fun W => Lib.hid (trimByte_any s 48 W hs)
  go_enter Tryd.func35, Tryd.ntmps35
  go_wp2_with fail
  refine (HT _).out.mono ?_
  rintro e w' ⟨rfl, rfl⟩
  go_wp2_with fail
  go_ret
  exact ⟨rfl, rfl⟩

end Go.Proofs.YteofmahbimkggaaDoor

/- Layer 23: the reference's behind; the program's pointed. -/
namespace Go.Proofs.YteofmahbimkggaaDoor
set_option linter.unusedVariables false
open Go.RowKit

theorem digF_enough (f : Nat) : ∀ n l, n < 10 ^ f → l ≤ f → digF (f + 1) n l = digF f n l := by
  induction f with
  | zero =>
    intro n l h1 h2
    have : n < 1 := h1
    rw [show n = 0 from by omega, show l = 0 from by omega]
    rfl
  | succ f ih =>
    intro n l h1 h2
    by_cases h : 0 < n ∨ 0 < l
    · rw [digF_step (f + 1) n l h, digF_step f n l h, ih (n / 10) (l - 1) (by rw [Nat.pow_succ] at h1; omega) (by omega)]
    · rw [show n = 0 from by omega, show l = 0 from by omega, digF_stop, digF_stop]
theorem digL_step (n l : Nat) (hn : n ≤ 1000000000000000000) (hl : l ≤ 18) (h : 0 < n ∨ 0 < l) : digL n l = digL (n / 10) (l - 1) ++ [UInt8.ofNat (48 + n % 10)] := by
  unfold digL
  rw [digF_step 19 n l h, ← digF_enough 19 (n / 10) (l - 1) (by have : (10 : Nat) ^ 19 = 10000000000000000000 := by decide
                                                                omega) (by omega)]
theorem ofNat_48 (m : Nat) (h : m < 10) : UInt8.ofNat (48 + m) = 48 ↔ m = 0 := by
  constructor
  · intro k
    have := congrArg UInt8.toNat k
    simp at this
    omega
  · rintro rfl; rfl

/-- What stands behind the whole digits: a point and digits, without the noughts at their end. -/
def tailB (r f : Nat) : List UInt8 := if r = 0 then [] else Lib.trimRightB (46 :: digL r f) 48
theorem trim_down (r f : Nat) (hr : 0 < r) (h : r % 10 = 0) (hm : r ≤ 1000000000000000000) (hf : f ≤ 18) : Lib.trimRightB (46 :: digL r f) 48 = Lib.trimRightB (46 :: digL (r / 10) (f - 1)) 48 := by
  rw [digL_step r f hm hf (.inl hr), (ofNat_48 (r % 10) (by omega)).2 h, ← List.cons_append, trimR_eq]
theorem trim_stay (r f : Nat) (hr : 0 < r) (h : r % 10 ≠ 0) (hm : r ≤ 1000000000000000000) (hf : f ≤ 18) : Lib.trimRightB (46 :: digL r f) 48 = 46 :: digL r f := by
  rw [digL_step r f hm hf (.inl hr), ← List.cons_append, trimR_ne _ _ _ (fun k => h ((ofNat_48 (r % 10) (by omega)).1 k))]

/-- A number from 0 on, with a point. -/
def pointL (n whole f : Nat) : List UInt8 := digL (n / 10 ^ f) whole ++ tailB (n % 10 ^ f) f

set_option maxRecDepth 8000 in
set_option maxHeartbeats 2000000 in
theorem pointed_any (n whole f : Nat) (w : World) (hn : n ≤ 1000000000000000000) (hw : whole ≤ 18) (hf : f ≤ 17) :
    Calls Tryd.prog 32 #[.int .i64 (n : Int), .int .i64 (whole : Int), .int .i64 (f : Int)] w fun e w' => e = .returned (.string (toB (pointL n whole f))) ∧ Below w.heap.size w w' := by
  have hT := fun W => Lib.hid (ten_any f W (by omega))
  have t1 := tenI_pos f
  have t2 := tenI_le hf
  rw [tenI_17] at t2
  have hq : (n : Int) / tenI f = ((n / 10 ^ f : Nat) : Int) := by unfold tenI; rw [Int.natCast_ediv]
  have hr : (n : Int) % tenI f = ((n % 10 ^ f : Nat) : Int) := by unfold tenI; rw [Int.natCast_emod]
  have hq1 : n / 10 ^ f ≤ 1000000000000000000 := Nat.le_trans (Nat.div_le_self _ _) hn
  have hr1 : n % 10 ^ f ≤ 1000000000000000000 := Nat.le_trans (Nat.mod_le _ _) hn
  have HP : Hid (pointL n whole f = digL (n / 10 ^ f) whole ++ tailB (n % 10 ^ f) f) := rfl
  generalize n / 10 ^ f = q at *
  generalize n % 10 ^ f = r at *
  generalize tenI f = T at *
  have HD := fun W => Lib.hid (digits_any q whole W hq1 hw)
  have HD2 := fun W => Lib.hid (digits_any r f W hr1 (by omega))
  have hA : (toB (digL q whole)).size ≤ 20 := by rw [size_B]; exact digF_len 20 q whole
  have hB : (toB (digL r f)).size ≤ 20 := by rw [size_B]; exact digF_len 20 r f
  change ∀ W, Hid (Calls Tryd.prog 34 #[.int .i64 (q : Int), .int .i64 (whole : Int)] W fun e w' => e = .returned (.string (toB (digL q whole))) ∧ Below W.heap.size W w') at HD
  change ∀ W, Hid (Calls Tryd.prog 34 #[.int .i64 (r : Int), .int .i64 (f : Int)] W fun e w' => e = .returned (.string (toB (digL r f))) ∧ Below W.heap.size W w') at HD2
  by_cases h0 : r = 0
  · subst h0
    have HR : Hid (toB (pointL n whole f) = toB (digL q whole)) := by
      show _ = _
      rw [HP.out]
      show toB (digL q whole ++ []) = _
      rw [List.append_nil]
    clear HP HD2 hB hr1
    generalize toB (digL q whole) = A at *
    go_enter Tryd.func32, Tryd.ntmps32
    go_wp2_with fail
    refine (hT _).out.mono ?_
    rintro e w' ⟨rfl, rfl⟩
    go_wp2_with fail
    refine (HD _).out.mono ?_
    rintro e w1 ⟨rfl, hb1⟩
    go_wp2_with fail
    refine (hT _).out.mono ?_
    rintro e w' ⟨rfl, rfl⟩
    go_wp2_with fail
    go_ret
    exact ⟨by rw [HR.out]; rfl, hb1⟩
  · have hne : ((r : Int) != 0) = true := by rw [bne_iff_ne]; omega
    have hBl : (toB (digL r f)).data.toList = digL r f := toList_B _
    have hC : (⟨#[46]⟩ ++ toB (digL r f) : ByteArray).size ≤ 21 ∧ 0 < (⟨#[46]⟩ ++ toB (digL r f) : ByteArray).size := by
      have h1 : (ByteArray.mk #[46]).size = 1 := rfl
      rw [ByteArray.size_append]; omega
    have hl : (⟨#[46]⟩ ++ toB (digL r f) : ByteArray).data.toList = 46 :: digL r f := by
      show (toB [46] ++ toB (digL r f)).data.toList = _
      rw [toB_append, toList_B]; rfl
    have HTR := fun W => Lib.hid (trimRight_any (⟨#[46]⟩ ++ toB (digL r f)) W (by omega) hC.2)
    rw [hl] at HTR
    have ht : tailB r f = Lib.trimRightB (46 :: digL r f) 48 := by unfold tailB; rw [if_neg h0]
    rw [← ht] at HTR
    have hD : (toB (tailB r f)).size ≤ 21 := by
      rw [size_B, ht]
      have h1 : (digL r f).length ≤ 20 := digF_len 20 r f
      unfold Lib.trimRightB
      rw [List.length_reverse]
      have h2 := (List.dropWhile_suffix (fun x => x == (48 : UInt8)) (l := (46 :: digL r f).reverse)).length_le
      rw [List.length_reverse, List.length_cons] at h2
      omega
    have HR : Hid (toB (pointL n whole f) = toB (digL q whole) ++ toB (tailB r f)) := by
      show _ = _
      rw [HP.out, toB_append]
    clear HP hBl hl ht h0
    generalize toB (tailB r f) = D at *
    generalize toB (digL q whole) = A at *
    generalize toB (digL r f) = B at *
    go_enter Tryd.func32, Tryd.ntmps32
    go_wp2_with fail
    refine (hT _).out.mono ?_
    rintro e w' ⟨rfl, rfl⟩
    go_wp2_with fail
    refine (HD _).out.mono ?_
    rintro e w1 ⟨rfl, hb1⟩
    go_wp2_with fail
    refine (hT _).out.mono ?_
    rintro e w' ⟨rfl, rfl⟩
    go_wp2_with fail
    refine (HD2 _).out.mono ?_
    rintro e w2 ⟨rfl, hb2⟩
    go_wp2_with fail
    refine (HTR _).out.mono ?_
    rintro e w' ⟨rfl, rfl⟩
    go_wp2_with fail
    go_ret
    exact ⟨by rw [HR.out]; rfl, bthen hb1 hb2⟩

end Go.Proofs.YteofmahbimkggaaDoor

/- Layer 23: the program's Put. -/
namespace Go.Proofs.YteofmahbimkggaaDoor
set_option linter.unusedVariables false
open Go.RowKit

/-- A number's text in a column, and the error's number. -/
def putN (b : Bool) (n W M F L H : Int) : ByteArray × Int :=
  if rightB W M F L H = false then (ByteArray.empty, 1)
  else if fitsB b n L H = false then (ByteArray.empty, 5)
  else if b = false then (ByteArray.empty, 0)
  else if n < 0 then (toB (45 :: pointL (-n).toNat W.toNat F.toNat), 0) else (toB (pointL n.toNat W.toNat F.toNat), 0)

theorem right_bounds {W M F L H : Int} (h : rightB W M F L H = true) : 1 ≤ W ∧ W ≤ 12 ∧ 0 ≤ F ∧ F ≤ 6 ∧ -1000000000000000000 < L ∧ H < 1000000000000000000 := by
  have h := of_decide_eq_true h
  have t := tenI_le (show (M + F).toNat ≤ 18 by omega)
  rw [tenI_18] at t
  omega
theorem digL_len (n l : Nat) : (digL n l).length ≤ 20 := digF_len 20 n l
theorem trimR_len (l : List UInt8) (c : UInt8) : (Lib.trimRightB l c).length ≤ l.length := by
  unfold Lib.trimRightB
  rw [List.length_reverse]
  have h2 := (List.dropWhile_suffix (fun x => x == c) (l := l.reverse)).length_le
  rw [List.length_reverse] at h2
  exact h2
theorem pointL_len (n w f : Nat) : (pointL n w f).length ≤ 41 := by
  unfold pointL tailB
  rw [List.length_append]
  have h1 := digL_len (n / 10 ^ f) w
  split
  · simp; omega
  · have h2 := trimR_len (46 :: digL (n % 10 ^ f) f) 48
    have h3 := digL_len (n % 10 ^ f) f
    rw [List.length_cons] at h2
    omega

set_option maxHeartbeats 2000000 in
theorem Put23_arg (b : Bool) (n W M F L H : Int) (w : World) (h : rightB W M F L H = false) :
    Calls Tryd.prog 27 #[numV b n, colV W M F L H] w fun e w' => e = .returned (.tuple #[.string ByteArray.empty, .int .i64 1]) ∧ Below w.heap.size w w' := by
  have HR := fun W' => Lib.hid (Right_any W M F L H W')
  rw [h] at HR
  clear h
  go_enter Tryd.func27, Tryd.ntmps27
  go_wp2_with fail
  refine (HR _).out.mono ?_
  rintro e w1 ⟨rfl, hb1⟩
  go_wp2_with fail
  go_ret2
  exact ⟨rfl, bthen (bthen (below_new _ _) (below_new _ _)) hb1⟩

set_option maxHeartbeats 2000000 in
theorem Put23_range (b : Bool) (n W M F L H : Int) (w : World) (h : rightB W M F L H = true) (h2 : fitsB b n L H = false) :
    Calls Tryd.prog 27 #[numV b n, colV W M F L H] w fun e w' => e = .returned (.tuple #[.string ByteArray.empty, .int .i64 5]) ∧ Below w.heap.size w w' := by
  have HR := fun W' => Lib.hid (Right_any W M F L H W')
  have HF := fun W' => Lib.hid (fits_any b n L H W')
  rw [h] at HR
  rw [h2] at HF
  clear h h2
  go_enter Tryd.func27, Tryd.ntmps27
  go_wp2_with fail
  refine (HR _).out.mono ?_
  rintro e w1 ⟨rfl, hb1⟩
  obtain ⟨c1, f1⟩ := bcell hb1
  have hz := hb1.size
  simp at hz
  have hz1 : w.heap.size < w1.heap.size := by omega
  have hz4 : w.heap.size + 1 < w1.heap.size := by omega
  go_wp2_with fail
  refine (HF _).out.mono ?_
  rintro e w2 ⟨rfl, hb2⟩
  go_wp2_with fail
  go_ret2
  exact ⟨rfl, bthen (bthen (bthen (below_new _ _) (below_new _ _)) hb1) hb2⟩

set_option maxHeartbeats 2000000 in
theorem Put23_none (n W M F L H : Int) (w : World) (h : rightB W M F L H = true) (h2 : fitsB false n L H = true) :
    Calls Tryd.prog 27 #[numV false n, colV W M F L H] w fun e w' => e = .returned (.tuple #[.string ByteArray.empty, .int .i64 0]) ∧ Below w.heap.size w w' := by
  have HR := fun W' => Lib.hid (Right_any W M F L H W')
  have HF := fun W' => Lib.hid (fits_any false n L H W')
  rw [h] at HR
  rw [h2] at HF
  clear h h2
  go_enter Tryd.func27, Tryd.ntmps27
  go_wp2_with fail
  refine (HR _).out.mono ?_
  rintro e w1 ⟨rfl, hb1⟩
  obtain ⟨c1, f1⟩ := bcell hb1
  have hz := hb1.size
  simp at hz
  have hz1 : w.heap.size < w1.heap.size := by omega
  have hz4 : w.heap.size + 1 < w1.heap.size := by omega
  go_wp2_with fail
  refine (HF _).out.mono ?_
  rintro e w2 ⟨rfl, hb2⟩
  obtain ⟨c2, f2⟩ := bcell hb2
  have hz2 := hb2.size
  have hz3 : w.heap.size < w2.heap.size := by omega
  go_wp2_with fail
  go_ret2
  exact ⟨rfl, bthen (bthen (bthen (below_new _ _) (below_new _ _)) hb1) hb2⟩

set_option maxHeartbeats 2000000 in
theorem Put23_pos (n : Nat) (W F : Nat) (M L H : Int) (w : World) (h : rightB W M F L H = true) (h2 : fitsB true n L H = true) (hn : n ≤ 1000000000000000000) (hW : W ≤ 12) (hF : F ≤ 6) :
    Calls Tryd.prog 27 #[numV true n, colV W M F L H] w fun e w' => e = .returned (.tuple #[.string (toB (pointL n W F)), .int .i64 0]) ∧ Below w.heap.size w w' := by
  have HR := fun W' => Lib.hid (Right_any W M F L H W')
  have HF := fun W' => Lib.hid (fits_any true n L H W')
  have HP := fun W' => Lib.hid (pointed_any n W F W' hn (by omega) (by omega))
  rw [h] at HR
  rw [h2] at HF
  generalize toB (pointL n W F) = S at *
  clear h h2
  go_enter Tryd.func27, Tryd.ntmps27
  go_wp2_with fail
  refine (HR _).out.mono ?_
  rintro e w1 ⟨rfl, hb1⟩
  obtain ⟨c1, f1⟩ := bcell hb1
  have hz := hb1.size
  simp at hz
  have hz1 : w.heap.size < w1.heap.size := by omega
  have hz4 : w.heap.size + 1 < w1.heap.size := by omega
  go_wp2_with fail
  refine (HF _).out.mono ?_
  rintro e w2 ⟨rfl, hb2⟩
  obtain ⟨c2, f2⟩ := bcell hb2
  have hz2 := hb2.size
  have hz3 : w.heap.size < w2.heap.size := by omega
  go_wp2_with fail
  refine (HP _).out.mono ?_
  rintro e w3 ⟨rfl, hb3⟩
  go_wp2_with fail
  go_ret2
  exact ⟨rfl, bthen (bthen (bthen (bthen (below_new _ _) (below_new _ _)) hb1) hb2) hb3⟩

set_option maxHeartbeats 2000000 in
theorem Put23_neg (n : Nat) (W F : Nat) (M L H : Int) (w : World) (h : rightB W M F L H = true) (h2 : fitsB true (-(n : Int)) L H = true) (hn0 : 0 < n) (hn : n ≤ 1000000000000000000) (hW : W ≤ 12) (hF : F ≤ 6) :
    Calls Tryd.prog 27 #[numV true (-(n : Int)), colV W M F L H] w fun e w' => e = .returned (.tuple #[.string (toB (45 :: pointL n W F)), .int .i64 0]) ∧ Below w.heap.size w w' := by
  have HR := fun W' => Lib.hid (Right_any W M F L H W')
  have HF := fun W' => Lib.hid (fits_any true (-(n : Int)) L H W')
  have HP := fun W' => Lib.hid (pointed_any n W F W' hn (by omega) (by omega))
  rw [h] at HR
  rw [h2] at HF
  have hS : (toB (pointL n W F)).size ≤ 41 := by rw [size_B]; exact pointL_len n W F
  have hT : Hid (toB (45 :: pointL n W F) = ⟨#[45]⟩ ++ toB (pointL n W F)) := (toB_append [45] (pointL n W F)).symm
  generalize toB (45 :: pointL n W F) = T at *
  generalize toB (pointL n W F) = S at *
  clear h h2
  go_enter Tryd.func27, Tryd.ntmps27
  go_wp2_with fail
  refine (HR _).out.mono ?_
  rintro e w1 ⟨rfl, hb1⟩
  obtain ⟨c1, f1⟩ := bcell hb1
  have hz := hb1.size
  simp at hz
  have hz1 : w.heap.size < w1.heap.size := by omega
  have hz4 : w.heap.size + 1 < w1.heap.size := by omega
  go_wp2_with fail
  refine (HF _).out.mono ?_
  rintro e w2 ⟨rfl, hb2⟩
  obtain ⟨c2, f2⟩ := bcell hb2
  have hz2 := hb2.size
  have hz3 : w.heap.size < w2.heap.size := by omega
  go_wp2_with fail
  refine (HP _).out.mono ?_
  rintro e w3 ⟨rfl, hb3⟩
  go_wp2_with fail
  go_ret2
  exact ⟨by rw [hT.out]; rfl, bthen (bthen (bthen (bthen (below_new _ _) (below_new _ _)) hb1) hb2) hb3⟩

theorem Put23_any (b : Bool) (n W M F L H : Int) (w : World) :
    Calls Tryd.prog 27 #[numV b n, colV W M F L H] w fun e w' => e = .returned (.tuple #[.string (putN b n W M F L H).1, .int .i64 (putN b n W M F L H).2]) ∧ Below w.heap.size w w' := by
  unfold putN
  cases h : rightB W M F L H with
  | false => rw [if_pos rfl]; exact Put23_arg b n W M F L H w h
  | true =>
    rw [if_neg (by decide)]
    cases h2 : fitsB b n L H with
    | false => rw [if_pos rfl]; exact Put23_range b n W M F L H w h h2
    | true =>
      rw [if_neg (by decide)]
      cases b with
      | false => rw [if_pos rfl]; exact Put23_none n W M F L H w h h2
      | true =>
        rw [if_neg (by decide)]
        obtain ⟨b1, b2, b3, b4, b5, b6⟩ := right_bounds h
        have hr : L ≤ n ∧ n ≤ H := by have := h2; unfold fitsB at this; rw [if_pos rfl] at this; exact of_decide_eq_true this
        obtain ⟨W', rfl⟩ := Int.eq_ofNat_of_zero_le (show 0 ≤ W by omega)
        obtain ⟨F', rfl⟩ := Int.eq_ofNat_of_zero_le b3
        by_cases hn : n < 0
        · rw [if_pos hn]
          obtain ⟨k, hk⟩ := Int.eq_ofNat_of_zero_le (show 0 ≤ -n by omega)
          obtain rfl : n = -(k : Int) := by omega
          rw [show (-(-(k : Int))).toNat = k from by omega]
          exact Put23_neg k W' F' M L H w h h2 (by omega) (by omega) (by omega) (by omega)
        · rw [if_neg hn]
          obtain ⟨k, rfl⟩ := Int.eq_ofNat_of_zero_le (show 0 ≤ n by omega)
          exact Put23_pos k W' F' M L H w h h2 (by omega) (by omega) (by omega)

end Go.Proofs.YteofmahbimkggaaDoor
