/- Layer 23: digits, of the program and of the reference. -/
import Derived.Test.YtpaejoikfnmdhaaDoorDec3
namespace Go.Proofs.YtpaejoikfnmdhaaDoor
set_option linter.unusedVariables false
open Go.RowKit

/-- Digits of n, at least l; f: at most so many. -/
def digF : Nat → Nat → Nat → List UInt8
  | 0, _, _ => []
  | f + 1, n, l => if 0 < n ∨ 0 < l then digF f (n / 10) (l - 1) ++ [UInt8.ofNat (48 + n % 10)] else []
def digL (n l : Nat) : List UInt8 := digF 20 n l
theorem digF_stop (f : Nat) : digF f 0 0 = [] := by cases f <;> simp [digF]
theorem digF_step (f n l : Nat) (h : 0 < n ∨ 0 < l) : digF (f + 1) n l = digF f (n / 10) (l - 1) ++ [UInt8.ofNat (48 + n % 10)] := by rw [digF, if_pos h]
theorem digF_len (f : Nat) : ∀ n l, (digF f n l).length ≤ f := by
  induction f with
  | zero => intro n l; simp [digF]
  | succ f ih =>
    intro n l
    unfold digF
    split
    · have := ih (n / 10) (l - 1); simp; omega
    · simp

/-- The block of 20 bytes, of which the last ones are laid. -/
def Tail (w : World) (g : Nat) (suf : List UInt8) : Prop :=
  (∀ j, j < 20 → ∃ v, w.cell? ⟨g, j, none⟩ = some v) ∧ ∀ j (h : j < suf.length), w.cell? ⟨g, 20 - suf.length + j, none⟩ = some (.int .u8 (suf[j].toNat : Int))

theorem Tail.put {w : World} {g : Nat} {suf : List UInt8} (h : Tail w g suf) (a : Nat) (ha : a + suf.length = 19) (c : UInt8) (z : Int) (hz : z = (c.toNat : Int)) : Tail (w.setCell ⟨g, a, none⟩ (.int .u8 z)) g (c :: suf) := by
  subst hz
  obtain ⟨h1, h2⟩ := h
  have key : ∀ j, j ≠ a → (w.setCell ⟨g, a, none⟩ (.int .u8 (c.toNat : Int))).cell? ⟨g, j, none⟩ = w.cell? ⟨g, j, none⟩ := fun j hj => World.cell?_setCell_other w _ _ _ (fun e => by injection e with _ e; exact hj e.symm)
  obtain ⟨v, hv⟩ := h1 a (by omega)
  have same : (w.setCell ⟨g, a, none⟩ (.int .u8 (c.toNat : Int))).cell? ⟨g, a, none⟩ = some (.int .u8 (c.toNat : Int)) := World.cell?_setCell_same w _ _ hv
  refine ⟨fun j hj => ?_, fun j hj => ?_⟩
  · by_cases e : j = a
    · subst e; exact ⟨_, same⟩
    · rw [key j e]; exact h1 j hj
  · cases j with
    | zero =>
      rw [List.length_cons, show 20 - (suf.length + 1) + 0 = a from by omega]
      exact same
    | succ j =>
      rw [List.length_cons] at hj ⊢
      rw [show 20 - (suf.length + 1) + (j + 1) = 20 - suf.length + j from by omega, key _ (by omega)]
      exact h2 j (by omega)

theorem digits_new (w : World) (o : Array Value) (T : TypeId) (ho : o.size = 20) : Tail (w.alloc (.cells o T)) w.heap.size [] := by
  refine ⟨fun j hj => ?_, fun j hj => absurd hj (by simp)⟩
  rw [World.cell?_alloc_new]
  exact ⟨o[j]'(by omega), by rw [Array.getElem?_eq_getElem]⟩

/-- What holds of the loop behind a round. -/
def digits_next (n l : Nat) (w : World) (a m : Nat) (suf : List UInt8) (wr : World) : Prop :=
  a + suf.length = 20 ∧ a ≤ 20 ∧ m ≤ 1000000000000000000 ∧ m < 10 ^ (a - 1) ∧ digL n l = digF a m (l - suf.length) ++ suf ∧ Tail wr w.heap.size suf ∧ Below w.heap.size w wr ∧ w.heap.size < wr.heap.size ∧ ∀ o, wr.frozen? ⟨w.heap.size, o, none⟩ = false
theorem digits_rel {n l : Nat} {w : World} {b m : Nat} {suf : List UInt8} {wr : World} (h : digits_next n l w b (m / 10) suf wr) :
    ∃ (m2 a : Nat) (suf2 : List UInt8), Value.int .i64 ((m : Int) / 10) = .int .i64 (m2 : Int) ∧ Value.int .i64 (b : Int) = .int .i64 (a : Int) ∧ Hid (a + suf2.length = 20) ∧ a ≤ 20 ∧ m2 ≤ 1000000000000000000 ∧ Hid (m2 < 10 ^ (a - 1)) ∧ Hid (digL n l = digF a m2 (l - suf2.length) ++ suf2) ∧ Hid (Tail wr w.heap.size suf2) ∧ Hid (Below w.heap.size w wr) ∧ w.heap.size < wr.heap.size ∧ Hid (∀ o, wr.frozen? ⟨w.heap.size, o, none⟩ = false) := by
  obtain ⟨h1, h2, h3, h4, h5, h6, h7, h8, h9⟩ := h
  exact ⟨m / 10, b, suf, rfl, rfl, h1, h2, h3, h4, h5, h6, h7, h8, h9⟩
theorem digits_round {n l : Nat} {w wr : World} {b m : Nat} {suf : List UInt8} (hs : b + 1 + suf.length = 20) (hm : m ≤ 1000000000000000000) (hp : m < 10 ^ (b + 1 - 1)) (hd : digL n l = digF (b + 1) m (l - suf.length) ++ suf) (ht : Tail wr w.heap.size suf) (hb : Below w.heap.size w wr) (hz : w.heap.size < wr.heap.size) (hf : ∀ o, wr.frozen? ⟨w.heap.size, o, none⟩ = false) (hgo : 0 < m ∨ suf.length < l) :
    digits_next n l w b (m / 10) (UInt8.ofNat (48 + m % 10) :: suf) (wr.setCell ⟨w.heap.size, b, none⟩ (.int .u8 (48 + (m : Int) % 10))) := by
  refine ⟨by rw [List.length_cons]; omega, by omega, by omega, ?_, ?_, ht.put b (by omega) _ _ ?_, hb.setCell (Nat.le_refl _) _, by simpa using hz, fun o => by simpa using hf o⟩
  · rw [Nat.add_sub_cancel] at hp
    cases b with
    | zero => have : m < 1 := hp; show m / 10 < 1; omega
    | succ b =>
      rw [Nat.add_sub_cancel]
      rw [Nat.pow_succ] at hp
      omega
  · rw [hd, digF_step _ _ _ (by omega), List.append_assoc, List.length_cons]
    rfl
  · have : (UInt8.ofNat (48 + m % 10)).toNat = 48 + m % 10 := by simp; omega
    rw [this]
    omega

set_option maxRecDepth 8000 in
set_option maxHeartbeats 2000000 in
theorem digits_any (n l : Nat) (w : World) (hn : n ≤ 1000000000000000000) (hl : l ≤ 18) :
    Calls Tryd.prog 52 #[.int .i64 (n : Int), .int .i64 (l : Int)] w fun e w' => e = .returned (.string ⟨(digL n l).toArray⟩) ∧ Below w.heap.size w w' := by
  have HN19 : Hid (n < 10 ^ (20 - 1)) := by
    have : (10 : Nat) ^ (20 - 1) = 10000000000000000000 := by decide
    show n < _
    omega
  go_enter Tryd.func52, Tryd.ntmps52
  go_wp2
  go_loopw [0, 6] (fun v at_ wr => ∃ (m a : Nat) (suf : List UInt8), v = .int .i64 (m : Int) ∧ at_ = .int .i64 (a : Int) ∧ Hid (a + suf.length = 20) ∧ a ≤ 20 ∧ m ≤ 1000000000000000000 ∧ Hid (m < 10 ^ (a - 1)) ∧ Hid (digL n l = digF a m (l - suf.length) ++ suf) ∧ Hid (Tail wr w.heap.size suf) ∧ Hid (Below w.heap.size w wr) ∧ w.heap.size < wr.heap.size ∧ Hid (∀ o, wr.frozen? ⟨w.heap.size, o, none⟩ = false)) (fun v at_ _ => (intOf at_).toNat)
  case atStart =>
    refine ⟨n, 20, [], rfl, rfl, rfl, Nat.le_refl _, hn, HN19, Lib.hid (by show digL n l = digF 20 n (l - 0) ++ []; rw [List.append_nil]; rfl), Lib.hid (digits_new w _ _ rfl), Lib.hid (below_new w _), by simp, Lib.hid (fun o => ?_)⟩
    simp
  case round =>
    obtain ⟨m, a, suf, rfl, rfl, hs, ha, hm, hp, hd, ht, hb, hz, hf⟩ := hrel
    by_cases hgo : 0 < m ∨ suf.length < l
    · have ha1 : 1 ≤ a := by
        have h1 := hs.out
        have h2 := hp.out
        rcases Nat.eq_zero_or_pos a with h | h
        · subst h
          have : m < 1 := h2
          omega
        · exact h
      obtain ⟨b, rfl⟩ : ∃ b, a = b + 1 := ⟨a - 1, by omega⟩
      obtain ⟨v, hv⟩ := ht.out.1 b (by omega)
      have hfb := hf.out b
      have e1 : ((b + 1 : Nat) : Int) - 1 = (b : Int) := by omega
      have hgo2 : 0 < (m : Int) ∨ (m : Int) ≤ 0 ∧ (20 : Int) - ((b + 1 : Nat) : Int) < (l : Int) := by have := hs.out; omega
      have hnext : Hid (digits_next n l w b (m / 10) (UInt8.ofNat (48 + m % 10) :: suf) (wr.setCell ⟨w.heap.size, b, none⟩ (.int .u8 (48 + (m : Int) % 10)))) := digits_round hs.out hm hp.out hd.out ht.out hb.out hz hf.out hgo
      clear hs hp hd ht hb hf hgo
      rcases hgo2 with h | ⟨h, h'⟩
      · go_wp2
        go_round
        case rel => exact digits_rel hnext.out
        case measure => simp [intOf]
      · obtain rfl : m = 0 := by omega
        clear h
        go_wp2
        go_round
        case rel => exact digits_rel hnext.out
        case measure => simp [intOf]
    · have h1 : (m : Int) ≤ 0 := by omega
      have h2 : (l : Int) ≤ 20 - (a : Int) := by have := hs.out; omega
      have hres : Hid (digL n l = suf) := by
        have h3 := hd.out
        rw [show m = 0 from by omega, show l - suf.length = 0 from by omega, digF_stop] at h3
        exact h3
      have kc : ∀ cap, (convert 84 9 (.slice (some ⟨w.heap.size, a, none⟩) (20 - a) cap)).run Tryd.prog wr = .ok (.string ⟨suf.toArray⟩) wr := by
        intro cap
        have h4 := run_conv_row (P := Tryd.prog) wr 84 9 5 ⟨w.heap.size, a, none⟩ cap (suf.map fun c => (c.toNat : Int)) Tryd.underlying84 Tryd.underlying5 Tryd.underlying9 (fun j hj => by
          rw [List.length_map] at hj
          have h5 := ht.out.2 j hj
          rw [List.getElem_map]
          rw [show 20 - suf.length = a from by have := hs.out; omega] at h5
          rw [show (⟨w.heap.size, a, none⟩ : Addr).add j = ⟨w.heap.size, a + j, none⟩ from by simp [Addr.add]]
          exact h5)
        rw [List.length_map, show suf.length = 20 - a from by have := hs.out; omega, List.map_map] at h4
        have e : ∀ q : List UInt8, List.map ((fun n : Int => UInt8.ofNat n.toNat) ∘ fun c : UInt8 => (c.toNat : Int)) q = q := fun q => (List.map_congr_left (fun c _ => by simp)).trans (List.map_id q)
        rw [e] at h4
        exact h4
      have i1 : (0 : Int) ≤ (a : Int) := Int.natCast_nonneg _
      have i2 : (a : Int) ≤ 20 := by omega
      have k0 : (convert 84 9 (.slice (some ⟨w.heap.size, 0, none⟩) 0 0)).run Tryd.prog wr = .ok (.string ⟨#[]⟩) wr :=
        run_conv_row (P := Tryd.prog) wr 84 9 5 ⟨w.heap.size, 0, none⟩ 0 [] Tryd.underlying84 Tryd.underlying5 Tryd.underlying9 (fun j hj => absurd hj (by simp))
      by_cases h20 : a = 20
      · have hnil : Hid (suf = []) := by have := hs.out; show _ = _; exact List.eq_nil_of_length_eq_zero (by omega)
        subst h20
        clear hs hp hd ht hf hgo HN19 hm hn kc
        go_wp2
        go_ret
        exact ⟨by rw [hres.out, hnil.out]; rfl, hb.out⟩
      · have i3 : a < 20 := by omega
        have i4 : ¬ (20 - a = 0) := by omega
        clear hs hp hd ht hf hgo HN19 hm hn k0 h20
        go_wp2
        go_ret
        exact ⟨by rw [hres.out]; rfl, hb.out⟩

end Go.Proofs.YtpaejoikfnmdhaaDoor
