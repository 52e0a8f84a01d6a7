/- The laws GsaPuts and GsaBack, walked and joined. Printed by gengsak.py. -/
import Derived.Test.YtkjmcgjlkheamaaDoorMsj
import Derived.Test.YtkjmcgjlkheamaaDoorMsb
namespace Go.Proofs.YtkjmcgjlkheamaaDoor
set_option linter.unusedVariables false
open Go.RowKit

theorem putGsa_len (m : GsaD) : (putGsa m).1.length ≤ 17 := by
  unfold putGsa
  split
  · simp
  · rename_i q
    unfold wrDone
    simp only
    split
    · rw [wrNum_len, wrNum_len, wrNum_len, wrIds_len, wrDig_len, wrText_len, nums12_len _ (by omega)]; simp
    · simp
theorem putGsa_small (m : GsaD) : Small (putGsa m).1 := by
  unfold putGsa
  split
  · exact Small.nil
  · have hd : ∀ lo hi n s, Small s.2 → Small (wrDig lo hi n s).2 := fun lo hi n s h => by
      unfold wrDig
      split
      · exact wrText_small h (by decide)
      · exact wrText_small h (by rw [digT_size]; omega)
    have hi : ∀ (l : List (Bool × Int)) s, Small s.2 → Small (wrIds l s).2 := fun l => by
      induction l with
      | nil => intro s h; exact h
      | cons n l ih => intro s h; exact ih _ (wrNum_small h)
    exact wrDone_small (wrNum_small (wrNum_small (wrNum_small (hi _ _ (hd _ _ _ _ (wrText_small Small.nil (by unfold modeT; split <;> decide)))))))
theorem putGsa_none {m : GsaD} (h : (putGsa m).2 ≠ 0) : (putGsa m).1 = [] := by
  unfold putGsa at h ⊢
  split at h
  · rename_i q; rw [if_pos q]
  · rename_i q; rw [if_neg q]; exact wrDone_none h
set_option maxRecDepth 8000 in
theorem gsaPuts_many (a : Bool) (f : Int) (A : Option Addr) (n c : Nat) (b0 : Bool) (n0 : Int) (b1 : Bool) (n1 : Int) (b2 : Bool) (n2 : Int) (w : World) (h : (20 : Int) < (n : Int)) (hm : n ≤ maxLen) : Calls Tryd.prog 7 #[gsaV a f A n c b0 n0 b1 n1 b2 n2] w fun e w' => e = .returned (.bool true) ∧ Below w.heap.size w w' := by
  unfold maxLen at hm
  have HK := fun W => Lib.hid (knows27_any W)
  go_enter Tryd.func7, Tryd.ntmps7
  go_wp2_with fail
  refine ((HK _).out).mono ?_
  rintro e w1 ⟨rfl, hb1⟩
  go_wp2_with fail
  go_ret
  exact ⟨rfl, bthen (below_new _ _) hb1⟩
set_option maxRecDepth 8000 in
set_option maxHeartbeats 4000000 in
theorem gsaPuts_few (a : Bool) (f : Int) (A : Option Addr) (n c : Nat) (b0 : Bool) (n0 : Int) (b1 : Bool) (n1 : Int) (b2 : Bool) (n2 : Int) (Y : List ByteArray × Int) (w : World) (h : (n : Int) ≤ 20) (hlen : Y.1.length ≤ maxLen)
    (HP : ∀ W, Below w.heap.size w W → Hid (Calls Tryd.prog 22 #[gsaV a f A n c b0 n0 b1 n1 b2 n2] W (PutPost Y W)))
    (HQ : ∀ W, Below w.heap.size w W → Hid (Calls Tryd.prog 23 #[gsaV a f A n c b0 n0 b1 n1 b2 n2] W (PutPost Y W))) :
    Calls Tryd.prog 7 #[gsaV a f A n c b0 n0 b1 n1 b2 n2] w fun e w' => e = .returned (.bool true) ∧ Below w.heap.size w w' := by
  have HK := fun W => Lib.hid (knows27_any W)
  obtain ⟨fs, E⟩ := Y
  have HW0 : Hid (∀ o, (w.alloc (.cells (gsaC a f A n c b0 n0 b1 n1 b2 n2) 50)).cell? ⟨w.heap.size, o, none⟩ = (gsaC a f A n c b0 n0 b1 n1 b2 n2)[o]?) := fun o => World.cell?_alloc_at _ _ _ _ rfl
  go_enter Tryd.func7, Tryd.ntmps7
  go_wp2_with fail
  refine ((HK _).out).mono ?_
  rintro e w0 ⟨rfl, hb0⟩
  have HC0 : Hid (∀ o, w0.cell? ⟨w.heap.size, o, none⟩ = (gsaC a f A n c b0 n0 b1 n1 b2 n2)[o]?) := fun o => ((bcell hb0).1 _ o (by simp)).trans (HW0.out o)
  have HZ0 : Hid (w.heap.size < w0.heap.size) := by show _ < _; have := hb0.size; simp at this; omega
  have HB0 := Lib.hid (bthen (below_new w _) hb0)
  clear hb0 HW0
  have m_0 := HC0.out 0
  have m_1 := HC0.out 1
  have m_2 := HC0.out 2
  have m_3 := HC0.out 3
  have m_4 := HC0.out 4
  have m_5 := HC0.out 5
  have m_6 := HC0.out 6
  have m_7 := HC0.out 7
  have m_8 := HC0.out 8
  go_wp2_with fail
  refine ((HP _ HB0.out).out).mono ?_
  rintro e w1 ⟨v, rfl, B, d, rfl, hA, hs1, hf, hb1⟩
  have HC1 : Hid (∀ o, w1.cell? ⟨w.heap.size, o, none⟩ = (gsaC a f A n c b0 n0 b1 n1 b2 n2)[o]?) := fun o => ((bcell hb1).1 _ o HZ0.out).trans (HC0.out o)
  have HB1 := Lib.hid (bthen HB0.out hb1)
  have HS1 := Lib.hid hs1
  clear hA hs1 hf hb1 HC0 HB0 m_0 m_1 m_2 m_3 m_4 m_5 m_6 m_7 m_8
  have m_0 := HC1.out 0
  have m_1 := HC1.out 1
  have m_2 := HC1.out 2
  have m_3 := HC1.out 3
  have m_4 := HC1.out 4
  have m_5 := HC1.out 5
  have m_6 := HC1.out 6
  have m_7 := HC1.out 7
  have m_8 := HC1.out 8
  go_wp2_with fail
  refine ((HQ _ HB1.out).out).mono ?_
  rintro e w2 ⟨v, rfl, C, e, rfl, hA, hs2, hf, hb2⟩
  have HT : Hid (Calls Tryd.prog 11 #[.slice B fs.length d, .slice C fs.length e] w2 fun e w' => e = .returned (.bool true) ∧ Below w2.heap.size w2 w') := by
    have := r22Texts_any B C fs fs d e w2 hlen ((HS1.out.below hb2 (Nat.le_refl _)).more hb2.size) hs2
    rw [decide_eq_true rfl] at this
    exact this
  have HB2 := Lib.hid (bthen HB1.out hb2)
  clear hA hs2 hf hb2 HC1 HB1 m_0 m_1 m_2 m_3 m_4 m_5 m_6 m_7 m_8 HS1 hlen
  go_wp2_with fail
  refine (HT.out).mono ?_
  rintro e w3 ⟨rfl, hb3⟩
  have HB3 := Lib.hid (bthen HB2.out hb3)
  clear hb3
  go_wp2_with fail
  refine (num27_any _ _).mono ?_
  rintro e w' ⟨rfl, rfl⟩
  go_wp2_with fail
  refine (num27_any _ _).mono ?_
  rintro e w' ⟨rfl, rfl⟩
  go_wp2_with fail
  go_ret
  exact ⟨by rfl, HB3.out⟩
theorem gsaPuts_any (a : Bool) (f : Int) (A : Option Addr) (c : Nat) (L : List Int) (b0 : Bool) (n0 : Int) (b1 : Bool) (n1 : Int) (b2 : Bool) (n2 : Int) (w : World) (hm : L.length ≤ maxLen) (hs : Ints w w.heap.size A L) : Calls Tryd.prog 7 #[gsaV a f A L.length c b0 n0 b1 n1 b2 n2] w fun e w' => e = .returned (.bool true) ∧ Below w.heap.size w w' := by
  have hst : ∀ W, Below w.heap.size w W → Ints W W.heap.size A L := fun W hb => (hs.below hb (Nat.le_refl _)).more hb.size
  by_cases h : L.length ≤ 20
  · refine gsaPuts_few a f A L.length c b0 n0 b1 n1 b2 n2 (putGsa ⟨a, f, L, (b0, n0), (b1, n1), (b2, n2)⟩) w (by omega) ?_ (fun W hb => gsaPut_any a f A c L b0 n0 b1 n1 b2 n2 W (hst W hb) (by omega)) (fun W hb => r27Put_any a f A c L b0 n0 b1 n1 b2 n2 W (hst W hb) (by omega))
    have := putGsa_len ⟨a, f, L, (b0, n0), (b1, n1), (b2, n2)⟩
    unfold maxLen
    omega
  · exact gsaPuts_many a f A L.length c b0 n0 b1 n1 b2 n2 w (by omega) hm

set_option maxRecDepth 8000 in
theorem gsaBack_big (a : Bool) (f : Int) (A : Option Addr) (n c : Nat) (b0 : Bool) (n0 : Int) (b1 : Bool) (n1 : Int) (b2 : Bool) (n2 : Int) (B : Option Addr) (m d : Nat) (w : World) (h : (20 : Int) < (n : Int)) (hm : n ≤ maxLen) : Calls Tryd.prog 8 #[gsaV a f A n c b0 n0 b1 n1 b2 n2, .slice B m d] w fun e w' => e = .returned (.bool true) ∧ Below w.heap.size w w' := by
  unfold maxLen at hm
  have HK := fun W => Lib.hid (knows27_any W)
  go_enter Tryd.func8, Tryd.ntmps8
  go_wp2_with fail
  refine ((HK _).out).mono ?_
  rintro e w1 ⟨rfl, hb1⟩
  go_wp2_with fail
  go_ret
  exact ⟨rfl, bthen (below_new _ _) hb1⟩
set_option maxRecDepth 8000 in
theorem gsaBack_many (a : Bool) (f : Int) (A : Option Addr) (n c : Nat) (b0 : Bool) (n0 : Int) (b1 : Bool) (n1 : Int) (b2 : Bool) (n2 : Int) (B : Option Addr) (m d : Nat) (w : World) (h : (n : Int) ≤ 20) (HF : ∀ W, Below w.heap.size w W → Hid (Calls Tryd.prog 14 #[.slice B m d] W fun e w' => e = .returned (.bool false) ∧ w' = W)) : Calls Tryd.prog 8 #[gsaV a f A n c b0 n0 b1 n1 b2 n2, .slice B m d] w fun e w' => e = .returned (.bool true) ∧ Below w.heap.size w w' := by
  have HK := fun W => Lib.hid (knows27_any W)
  have HF1 := HF _ (below_new w (.cells (gsaC a f A n c b0 n0 b1 n1 b2 n2) 50))
  go_enter Tryd.func8, Tryd.ntmps8
  go_wp2_with fail
  refine (HF1.out).mono ?_
  rintro e w' ⟨rfl, rfl⟩
  go_wp2_with fail
  refine ((HK _).out).mono ?_
  rintro e w1 ⟨rfl, hb1⟩
  go_wp2_with fail
  go_ret
  exact ⟨rfl, bthen (below_new _ _) hb1⟩
/-- The sizes of the first k. -/
def sizeTo (l : List ByteArray) (k : Nat) : Int := ((sizes (l.take k) : Nat) : Int)
theorem sizeTo_succ {l : List ByteArray} {k : Nat} (h : k < l.length) : sizeTo l (k + 1) = sizeTo l k + (l[k].size : Int) := by
  unfold sizeTo
  rw [List.take_succ_eq_append_getElem h, sizes_append]
  simp [sizes]
theorem sizeTo_le {l : List ByteArray} {N : Nat} (h : ∀ t ∈ l, t.size ≤ N) (k : Nat) : 0 ≤ sizeTo l k ∧ sizeTo l k ≤ ((N * k : Nat) : Int) := by
  induction k with
  | zero => simp [sizeTo, sizes]
  | succ k ih =>
    by_cases hk : k < l.length
    · rw [sizeTo_succ hk]
      have := h _ (List.getElem_mem hk)
      have e : N * (k + 1) = N * k + N := Nat.mul_succ _ _
      omega
    · have e : sizeTo l (k + 1) = sizeTo l k := by unfold sizeTo; rw [List.take_of_length_le (by omega), List.take_of_length_le (by omega)]
      have e2 : N * (k + 1) = N * k + N := Nat.mul_succ _ _
      rw [e]
      omega
set_option maxRecDepth 8000 in
set_option maxHeartbeats 8000000 in
theorem gsaBack_few (a : Bool) (f : Int) (A : Option Addr) (n c : Nat) (L : List Int) (b0 : Bool) (n0 : Int) (b1 : Bool) (n1 : Int) (b2 : Bool) (n2 : Int) (xa : Bool) (xf : Int) (y0 : Bool) (z0 : Int) (y1 : Bool) (z1 : Int) (y2 : Bool) (z2 : Int) (F : Int) (xL : List Int) (A' : Option Addr) (n' c' : Nat) (R fa fb : List ByteArray) (E : Int) (w : World) (hn20 : (n : Int) ≤ 20) (hL : Hid (L.length = n)) (hv : Hid (Ints w w.heap.size A L)) (hxl : Hid (xL.length ≤ 12))
    (hn : Hid (R.length = n')) (hs : Hid (Strs w w.heap.size A' R)) (hRz : Hid (∀ f ∈ R, f.size ≤ 100)) (hn40 : n' ≤ 40)
    (HF : ∀ W, Below w.heap.size w W → Hid (Calls Tryd.prog 14 #[.slice A' n' c'] W fun e w' => e = .returned (.bool true) ∧ w' = W))
    (HP : ∀ W, Below w.heap.size w W → Hid (Calls Tryd.prog 22 #[gsaV a f A n c b0 n0 b1 n1 b2 n2] W (PutPost (fa, E) W)))
    (HE0 : Hid (E ≠ 0 → fa.length = 0))
    (HT1 : Hid (E = 0 → fa.length = 17 ∧ ∀ B d W, (B = none → d = 0) → Strs W W.heap.size B fa → Calls Tryd.prog 25 #[.slice B 17 d] W (GsaPost (⟨a, f, L, (b0, n0), (b1, n1), (b2, n2)⟩, 0) W)))
    (HT2 : ∀ W, Below w.heap.size w W → Hid (Calls Tryd.prog 25 #[.slice A' n' c'] W (GsaPost (⟨xa, xf, xL, (y0, z0), (y1, z1), (y2, z2)⟩, F) W)))
    (HX0 : Hid (F ≠ 0 → xa = false ∧ xf = 0 ∧ xL = [] ∧ (y0 = false ∧ z0 = 0) ∧ (y1 = false ∧ z1 = 0) ∧ y2 = false ∧ z2 = 0))
    (HX1 : Hid (F = 0 → (∀ A2 c2 W, Ints W W.heap.size A2 xL → Calls Tryd.prog 22 #[gsaV xa xf A2 xL.length c2 y0 z0 y1 z1 y2 z2] W (PutPost (fb, 0) W)) ∧ (∀ B d W, (B = none → d = 0) → Strs W W.heap.size B fb → Calls Tryd.prog 25 #[.slice B 17 d] W (GsaPost (⟨xa, xf, xL, (y0, z0), (y1, z1), (y2, z2)⟩, 0) W)) ∧ fb.length = 17 ∧ n' = 17 ∧ Small fb ∧ sizes fb ≤ sizes R)) :
    Calls Tryd.prog 8 #[gsaV a f A n c b0 n0 b1 n1 b2 n2, .slice A' n' c'] w fun e w' => e = .returned (.bool true) ∧ Below w.heap.size w w' := by
  have HK := fun W => Lib.hid (knows27_any W)
  have HB0 := Lib.hid (below_new w (.cells (gsaC a f A n c b0 n0 b1 n1 b2 n2) 50))
  have HC0 : Hid (∀ o, (w.alloc (.cells (gsaC a f A n c b0 n0 b1 n1 b2 n2) 50)).cell? ⟨w.heap.size, o, none⟩ = (gsaC a f A n c b0 n0 b1 n1 b2 n2)[o]?) := fun o => World.cell?_alloc_at _ _ _ _ rfl
  obtain ⟨xm, hxm⟩ : ∃ xm, xL.length = xm := ⟨_, rfl⟩
  have HXM := Lib.hid hxm
  have i4 : xm ≤ 12 := by rw [← hxm]; exact hxl.out
  rw [hxm] at HX1
  clear hxm
  go_enter Tryd.func8, Tryd.ntmps8
  go_wp2_with fail
  refine ((HF _ HB0.out).out).mono ?_
  rintro e w' ⟨rfl, rfl⟩
  go_wp2_with fail
  refine ((HK _).out).mono ?_
  rintro e w1 ⟨rfl, hb1⟩
  have HB1 := Lib.hid (bthen HB0.out hb1)
  have HC1 : Hid (∀ o, w1.cell? ⟨w.heap.size, o, none⟩ = (gsaC a f A n c b0 n0 b1 n1 b2 n2)[o]?) := fun o => ((bcell hb1).1 _ o (by simp)).trans (HC0.out o)
  have HZ1 : Hid (w.heap.size < w1.heap.size) := by show _ < _; have := hb1.size; simp at this; omega
  clear hb1 HB0 HC0
  have m_0 := HC1.out 0
  have m_1 := HC1.out 1
  have m_2 := HC1.out 2
  have m_3 := HC1.out 3
  have m_4 := HC1.out 4
  have m_5 := HC1.out 5
  have m_6 := HC1.out 6
  have m_7 := HC1.out 7
  have m_8 := HC1.out 8
  go_wp2_with fail
  refine ((HP _ HB1.out).out).mono ?_
  rintro e w2 ⟨v, rfl, A2, c2, rfl, hA2, hs2, -, hb2⟩
  have HB2 := Lib.hid (bthen HB1.out hb2)
  have HC2 : Hid (∀ o, w2.cell? ⟨w.heap.size, o, none⟩ = (gsaC a f A n c b0 n0 b1 n1 b2 n2)[o]?) := fun o => ((bcell hb2).1 _ o HZ1.out).trans (HC1.out o)
  have HZ2 : Hid (w.heap.size < w2.heap.size) := Nat.lt_of_lt_of_le HZ1.out hb2.size
  have HS2 := Lib.hid hs2
  have HA2 := Lib.hid hA2
  clear hb2 hs2 hA2 HB1 HC1 HZ1 HP HF m_0 m_1 m_2 m_3 m_4 m_5 m_6 m_7 m_8
  obtain ⟨qa, hqa⟩ : ∃ q, fa.length = q := ⟨_, rfl⟩
  rw [hqa] at HE0 HT1 ⊢
  clear hqa
  try dsimp only
  repeat (fail_if_success (show Code.wp _ (Code.seq (Code.region 4 _ _) _) _ _ _)
          first | go_values | go_skip | go_guarded | go_step | go_upon | go_back | (simp only [Int.not_lt, Int.not_le] at *; go_simp) | (go_ite <;> go_prune <;> (try go_simp)))
  go_cut [] (fun wx => Hid (Below w.heap.size w wx))
  case first =>
    go_wp2_with fail
    refine (num27_any _ _).mono ?_
    rintro e w' ⟨rfl, rfl⟩
    by_cases hE : E = 0
    · subst hE
      obtain ⟨hq17, hT1⟩ := HT1.out rfl
      subst hq17
      have HT := Lib.hid (hT1 A2 c2 w2 HA2.out HS2.out)
      clear HT1 hT1 HX1 HX0 HE0 HT2
      go_wp2_with fail
      refine (HT.out).mono ?_
      rintro e w3 ⟨A3, n3, c3, rfl, hn3, hv3, hb3⟩
      simp only at hv3 hn3
      obtain rfl : n = n3 := hL.out.symm.trans hn3
      clear hn3
      have hbn := below_new w3 (.cells (gsaC a f A3 n c3 b0 n0 b1 n1 b2 n2) 50)
      have hb33 := bthen hb3 hbn
      have HC3 : Hid (∀ o, (w3.alloc (.cells (gsaC a f A3 n c3 b0 n0 b1 n1 b2 n2) 50)).cell? ⟨w3.heap.size, o, none⟩ = (gsaC a f A3 n c3 b0 n0 b1 n1 b2 n2)[o]?) := fun o => World.cell?_alloc_at _ _ _ _ rfl
      have HM3 : Hid (∀ o, (w3.alloc (.cells (gsaC a f A3 n c3 b0 n0 b1 n1 b2 n2) 50)).cell? ⟨w.heap.size, o, none⟩ = (gsaC a f A n c b0 n0 b1 n1 b2 n2)[o]?) := fun o => (World.cell?_alloc_past _ _ _ (Nat.lt_of_lt_of_le HZ2.out hb3.size)).trans (((bcell hb3).1 _ o HZ2.out).trans (HC2.out o))
      have m_0 := HM3.out 0
      have m_1 := HM3.out 1
      have m_2 := HM3.out 2
      have m_3 := HM3.out 3
      have m_4 := HM3.out 4
      have m_5 := HM3.out 5
      have m_6 := HM3.out 6
      have m_7 := HM3.out 7
      have m_8 := HM3.out 8
      have x_0 := HC3.out 0
      have x_1 := HC3.out 1
      have x_2 := HC3.out 2
      have x_3 := HC3.out 3
      have x_4 := HC3.out 4
      have x_5 := HC3.out 5
      have x_6 := HC3.out 6
      have x_7 := HC3.out 7
      have x_8 := HC3.out 8
      have HB3 := Lib.hid (bthen HB2.out hb33)
      have HSM := Lib.hid (r27Same_same a f b0 n0 b1 n1 b2 n2 A3 A n c3 c L (w3.alloc (.cells (gsaC a f A3 n c3 b0 n0 b1 n1 b2 n2) 50)) hL ((hv3.below hbn (Nat.le_refl _)).more hbn.size) ((hv.out.below HB3.out (Nat.le_refl _)).more HB3.out.size) (by omega))
      clear hb3 hb33 hbn hv3 HC3 HM3 HC2
      go_wp2_with fail
      refine (HSM.out).mono ?_
      rintro e w4 ⟨rfl, hb4⟩
      have HB4 := Lib.hid (bthen HB3.out hb4)
      clear hb4
      go_wp2_with fail
      refine (num27_any _ _).mono ?_
      rintro e w' ⟨rfl, rfl⟩
      go_wp2_with fail
      go_meet
      exact HB4
    · have hne : (E == 0) = false := by rw [beq_eq_false_iff_ne]; exact hE
      go_wp2_with fail
      go_meet
      exact HB2
  case rest =>
  have HB3 := hcut
  clear HT1 HC2 HZ2 HS2 HA2 HB2
  go_wp2_with fail
  refine ((HT2 _ HB3.out).out).mono ?_
  rintro e w4 ⟨A4, n4, c4, rfl, hn4, hv4, hb4⟩
  simp only at hv4 hn4
  obtain rfl : xm = n4 := HXM.out.symm.trans hn4
  clear hn4
  have hbn4 := below_new w4 (.cells (gsaC xa xf A4 xm c4 y0 z0 y1 z1 y2 z2) 50)
  have HB4 := Lib.hid (bthen (bthen HB3.out hb4) hbn4)
  have HV4 := Lib.hid ((hv4.below hbn4 (Nat.le_refl _)).more hbn4.size)
  have HC4 : Hid (∀ o, (w4.alloc (.cells (gsaC xa xf A4 xm c4 y0 z0 y1 z1 y2 z2) 50)).cell? ⟨w4.heap.size, o, none⟩ = (gsaC xa xf A4 xm c4 y0 z0 y1 z1 y2 z2)[o]?) := fun o => World.cell?_alloc_at _ _ _ _ rfl
  have HZ4 : Hid (w4.heap.size < (w4.alloc (.cells (gsaC xa xf A4 xm c4 y0 z0 y1 z1 y2 z2) 50)).heap.size) := by show _ < _; simp
  clear hb4 hbn4 hv4 HB3 hcut HT2
  go_wp2_with fail
  refine (num27_any _ _).mono ?_
  rintro e w' ⟨rfl, rfl⟩
  generalize w4.alloc (.cells (gsaC xa xf A4 xm c4 y0 z0 y1 z1 y2 z2) 50) = W4 at *
  by_cases hF : F = 0
  · subst hF
    obtain ⟨hp, ht, h8, h17, hsm, hnl⟩ := HX1.out rfl
    subst h17
    have HP5 := Lib.hid (hp A4 c4 W4 HV4.out)
    have HT5 := Lib.hid ht
    have HSM := Lib.hid hsm
    have HNL := Lib.hid hnl
    have HN8 := Lib.hid h8
    clear hp ht hsm hnl h8 HX1 HX0 HE0
    have x_0 := HC4.out 0
    have x_1 := HC4.out 1
    have x_2 := HC4.out 2
    have x_3 := HC4.out 3
    have x_4 := HC4.out 4
    have x_5 := HC4.out 5
    have x_6 := HC4.out 6
    have x_7 := HC4.out 7
    have x_8 := HC4.out 8
    go_wp2_with fail
    refine (HP5.out).mono ?_
    rintro e w5 ⟨v, rfl, A5, c5, rfl, hA5, hs5, -, hb5⟩
    have HB5 := Lib.hid (bthen HB4.out hb5)
    have HC5 : Hid (∀ o, w5.cell? ⟨w4.heap.size, o, none⟩ = (gsaC xa xf A4 xm c4 y0 z0 y1 z1 y2 z2)[o]?) := fun o => ((bcell hb5).1 _ o HZ4.out).trans (HC4.out o)
    have HV5 := Lib.hid ((HV4.out.below hb5 (Nat.le_refl _)).more hb5.size)
    have HZ5 : Hid (w4.heap.size < w5.heap.size) := Nat.lt_of_lt_of_le HZ4.out hb5.size
    have HS5 := Lib.hid hs5
    have HT6 := Lib.hid (HT5.out A5 c5 w5 hA5 hs5)
    rw [HN8.out]
    clear hs5 hA5 hb5 HT5 HP5 HC4 HZ4 HB4 HV4 x_0 x_1 x_2 x_3 x_4 x_5 x_6 x_7 x_8
    go_wp2_with fail
    refine (HT6.out).mono ?_
    rintro e w6 ⟨A6, n6, c6, rfl, hn6, hv6, hb6⟩
    simp only at hv6 hn6
    obtain rfl : xm = n6 := HXM.out.symm.trans hn6
    clear hn6
    have hbn6 := below_new w6 (.cells (gsaC xa xf A6 xm c6 y0 z0 y1 z1 y2 z2) 50)
    have HC6 : Hid (∀ o, (w6.alloc (.cells (gsaC xa xf A6 xm c6 y0 z0 y1 z1 y2 z2) 50)).cell? ⟨w6.heap.size, o, none⟩ = (gsaC xa xf A6 xm c6 y0 z0 y1 z1 y2 z2)[o]?) := fun o => World.cell?_alloc_at _ _ _ _ rfl
    have HM6 : Hid (∀ o, (w6.alloc (.cells (gsaC xa xf A6 xm c6 y0 z0 y1 z1 y2 z2) 50)).cell? ⟨w4.heap.size, o, none⟩ = (gsaC xa xf A4 xm c4 y0 z0 y1 z1 y2 z2)[o]?) := fun o => (World.cell?_alloc_past _ _ _ (Nat.lt_of_lt_of_le HZ5.out hb6.size)).trans (((bcell hb6).1 _ o HZ5.out).trans (HC5.out o))
    have h57 : Below w5.heap.size w5 (w6.alloc (.cells (gsaC xa xf A6 xm c6 y0 z0 y1 z1 y2 z2) 50)) := bthen hb6 hbn6
    have HB7 := Lib.hid (bthen HB5.out h57)
    have HZ7 : Hid (w4.heap.size < (w6.alloc (.cells (gsaC xa xf A6 xm c6 y0 z0 y1 z1 y2 z2) 50)).heap.size ∧ w6.heap.size < (w6.alloc (.cells (gsaC xa xf A6 xm c6 y0 z0 y1 z1 y2 z2) 50)).heap.size) := ⟨Nat.lt_of_lt_of_le HZ5.out h57.size, by simp⟩
    have HS7 : Hid (Strs (w6.alloc (.cells (gsaC xa xf A6 xm c6 y0 z0 y1 z1 y2 z2) 50)) (w6.alloc (.cells (gsaC xa xf A6 xm c6 y0 z0 y1 z1 y2 z2) 50)).heap.size A5 fb) := (HS5.out.below h57 (Nat.le_refl _)).more h57.size
    have HR7 : Hid (Strs (w6.alloc (.cells (gsaC xa xf A6 xm c6 y0 z0 y1 z1 y2 z2) 50)) (w6.alloc (.cells (gsaC xa xf A6 xm c6 y0 z0 y1 z1 y2 z2) 50)).heap.size A' R) := (hs.out.below HB7.out (Nat.le_refl _)).more HB7.out.size
    have HSM7 : Hid (∀ W, Below (w6.alloc (.cells (gsaC xa xf A6 xm c6 y0 z0 y1 z1 y2 z2) 50)).heap.size (w6.alloc (.cells (gsaC xa xf A6 xm c6 y0 z0 y1 z1 y2 z2) 50)) W → Calls Tryd.prog 26 #[gsaV xa xf A4 xm c4 y0 z0 y1 z1 y2 z2, gsaV xa xf A6 xm c6 y0 z0 y1 z1 y2 z2] W fun e w' => e = .returned (.bool true) ∧ Below W.heap.size W w') := fun W hW =>
      r27Same_same xa xf y0 z0 y1 z1 y2 z2 A4 A6 xm c4 c6 xL W HXM ((HV5.out.below (h57.trans (hW.mono h57.size)) (Nat.le_refl _)).more (h57.trans (hW.mono h57.size)).size) ((hv6.below (bthen hbn6 hW) (Nat.le_refl _)).more (bthen hbn6 hW).size) (by omega)
    clear h57 hb6 hbn6 hv6 HC5 HZ5 HS5 HB5 HV5
    go_wp2_with fail
    generalize hW7 : w6.alloc (.cells (gsaC xa xf A6 xm c6 y0 z0 y1 z1 y2 z2) 50) = W7 at *
    clear hW7
    go_loopw [15, 16, 17] (fun vw vi i wr => ∃ k : Nat, k ≤ 17 ∧ i = .int .i64 (k : Int) ∧ vw = .int .i64 (sizeTo R k) ∧ vi = .int .i64 (sizeTo fb k) ∧ W7 = wr) (fun _ _ i _ => 17 - (intOf i).toNat)
    case atStart => exact ⟨0, Nat.zero_le _, rfl, by simp [sizeTo, sizes], by simp [sizeTo, sizes], rfl⟩
    case round =>
      obtain ⟨k, hk, rfl, rfl, rfl, rfl⟩ := hrel
      by_cases hlt : k < 17
      · have hkb : k < fb.length := by rw [HN8.out]; exact hlt
        have hkr : k < R.length := by rw [hn.out]; exact hlt
        obtain ⟨a1, o1, hA1, hb1, hc1⟩ := HS7.out k hkb
        obtain ⟨a2, o2, hA2, hb2, hc2⟩ := HR7.out k hkr
        subst hA1 hA2
        have i1 : (0 : Int) ≤ (k : Int) := Int.natCast_nonneg _
        have i3 : (k : Int) < 17 := by omega
        have hs1 := sizeTo_le hRz.out k
        have hs2 := sizeTo_le (N := 100) HSM.out k
        have HW1 : Hid (sizeTo R (k + 1) = sizeTo R k + (R[k].size : Int)) := sizeTo_succ hkr
        have HW2 : Hid (sizeTo fb (k + 1) = sizeTo fb k + (fb[k].size : Int)) := sizeTo_succ hkb
        have z1' : fb[k].size ≤ 100 := HSM.out _ (List.getElem_mem _)
        have z2' : R[k].size ≤ 100 := hRz.out _ (List.getElem_mem _)
        have j1 : 0 ≤ sizeTo R k := hs1.1
        have j2 : sizeTo R k ≤ 1700 := by omega
        have j3 : 0 ≤ sizeTo fb k := hs2.1
        have j4 : sizeTo fb k ≤ 1700 := by omega
        generalize sizeTo R k = SR at *
        generalize sizeTo fb k = SF at *
        generalize fb[k] = ff at *
        generalize R[k] = gg at *
        clear hkb hkr hs1 hs2
        go_wp2_with fail
        go_roundw
        case rel => exact ⟨k + 1, by omega, by go_num, by rw [HW1.out], by rw [HW2.out], by first | rfl | trivial⟩
        case measure => simp [intOf]; omega
      · obtain rfl : k = 17 := by omega
        have hle : sizeTo fb 17 ≤ sizeTo R 17 := by
          unfold sizeTo
          rw [List.take_of_length_le (by rw [HN8.out]; exact Nat.le_refl _), List.take_of_length_le (by rw [hn.out]; exact Nat.le_refl _)]
          have := HNL.out
          omega
        generalize sizeTo R 17 = SR at *
        generalize sizeTo fb 17 = SF at *
        have hbd : Below W7.heap.size W7 W7 := Below.refl _ _
        have HS9 := Lib.hid (HSM7.out _ hbd)
        have HB9 := HB7
        have m_0 := HM6.out 0
        have m_1 := HM6.out 1
        have m_2 := HM6.out 2
        have m_3 := HM6.out 3
        have m_4 := HM6.out 4
        have m_5 := HM6.out 5
        have m_6 := HM6.out 6
        have m_7 := HM6.out 7
        have m_8 := HM6.out 8
        have x_0 := HC6.out 0
        have x_1 := HC6.out 1
        have x_2 := HC6.out 2
        have x_3 := HC6.out 3
        have x_4 := HC6.out 4
        have x_5 := HC6.out 5
        have x_6 := HC6.out 6
        have x_7 := HC6.out 7
        have x_8 := HC6.out 8
        clear hbd HM6 HC6 HS7 HR7 HSM7
        go_wp2_with fail
        refine (num27_any _ _).mono ?_
        rintro e w' ⟨rfl, rfl⟩
        go_wp2_with fail
        refine (num27_any _ _).mono ?_
        rintro e w' ⟨rfl, rfl⟩
        go_wp2_with fail
        refine (HS9.out).mono ?_
        rintro e w8 ⟨rfl, hb8⟩
        have HB8 := Lib.hid (bthen HB9.out hb8)
        clear hb8
        go_wp2_with fail
        go_ret
        exact ⟨by first | rfl | simp [hle], HB8.out⟩
  · have hne : (F != 0) = true := by rw [bne_iff_ne]; exact hF
    obtain ⟨rfl, rfl, hx0, ⟨rfl, rfl⟩, ⟨rfl, rfl⟩, rfl, rfl⟩ := HX0.out hF
    have hxm0 : xm = 0 := by rw [← HXM.out, hx0]; rfl
    subst hx0 hxm0
    have HSM0 := Lib.hid (r27Same_same false 0 false 0 false 0 false 0 A4 none 0 c4 0 [] W4 HXM HV4.out (fun k hk => absurd hk (Nat.not_lt_zero _)) (by omega))
    have HE2 := HE0
    have x_0 := HC4.out 0
    have x_1 := HC4.out 1
    have x_2 := HC4.out 2
    have x_3 := HC4.out 3
    have x_4 := HC4.out 4
    have x_5 := HC4.out 5
    have x_6 := HC4.out 6
    have x_7 := HC4.out 7
    have x_8 := HC4.out 8
    clear HX1 HX0 HC4 HV4 HE0
    go_wp2_with fail
    refine (HSM0.out).mono ?_
    rintro e w5 ⟨rfl, hb5⟩
    have HB5 := Lib.hid (bthen HB4.out hb5)
    clear hb5 HSM0
    by_cases hE : E = 0
    · subst hE
      go_wp2_with fail
      refine (num27_any _ _).mono ?_
      rintro e w' ⟨rfl, rfl⟩
      go_wp2_with fail
      go_ret
      exact ⟨by rfl, HB5.out⟩
    · have hne2 : (E == 0) = false := by rw [beq_eq_false_iff_ne]; exact hE
      have hq0 := HE2.out hE
      subst hq0
      go_wp2_with fail
      refine (num27_any _ _).mono ?_
      rintro e w' ⟨rfl, rfl⟩
      go_wp2_with fail
      go_ret
      exact ⟨by rfl, HB5.out⟩
theorem gsaBack_any (a : Bool) (f : Int) (A : Option Addr) (c : Nat) (L : List Int) (b0 : Bool) (n0 : Int) (b1 : Bool) (n1 : Int) (b2 : Bool) (n2 : Int) (A' : Option Addr) (c' : Nat) (fs : List ByteArray) (w : World) (hL : L.length ≤ maxLen) (hv : Ints w w.heap.size A L) (hA : A' = none → c' = 0) (hn : fs.length ≤ maxLen) (hs : Strs w w.heap.size A' fs) (hz : ∀ f ∈ fs, f.size ≤ maxLen) :
    Calls Tryd.prog 8 #[gsaV a f A L.length c b0 n0 b1 n1 b2 n2, .slice A' fs.length c'] w fun e w' => e = .returned (.bool true) ∧ Below w.heap.size w w' := by
  have hst : ∀ W, Below w.heap.size w W → Strs W W.heap.size A' fs := fun W hb => (hs.below hb (Nat.le_refl _)).more hb.size
  have hvt : ∀ W, Below w.heap.size w W → Ints W W.heap.size A L := fun W hb => (hv.below hb (Nat.le_refl _)).more hb.size
  have hf : ∀ W, Below w.heap.size w W → Calls Tryd.prog 14 #[.slice A' fs.length c'] W fun e w' => e = .returned (.bool (fewL fs)) ∧ w' = W := fun W hb => r25Few_any A' fs.length c' fs W rfl (hst W hb) hz hn
  by_cases h20 : L.length ≤ 20
  · cases hfew : fewL fs with
    | false =>
      rw [hfew] at hf
      exact gsaBack_many a f A L.length c b0 n0 b1 n1 b2 n2 A' fs.length c' w (by omega) hf
    | true =>
      rw [hfew] at hf
      obtain ⟨h40, h100⟩ := (fewL_iff fs).1 hfew
      refine gsaBack_few a f A L.length c L b0 n0 b1 n1 b2 n2 (takeGsa fs).1.a (takeGsa fs).1.f (takeGsa fs).1.p0.1 (takeGsa fs).1.p0.2 (takeGsa fs).1.p1.1 (takeGsa fs).1.p1.2 (takeGsa fs).1.p2.1 (takeGsa fs).1.p2.2 (takeGsa fs).2 (takeGsa fs).1.ids A' fs.length c' fs (putGsa ⟨a, f, L, (b0, n0), (b1, n1), (b2, n2)⟩).1 (putGsa (takeGsa fs).1).1 (putGsa ⟨a, f, L, (b0, n0), (b1, n1), (b2, n2)⟩).2 w (by omega) rfl hv (takeGsa_len fs) rfl hs h100 h40 hf
        (fun W hb => gsaPut_any a f A c L b0 n0 b1 n1 b2 n2 W (hvt W hb) (by omega)) (fun h => ?_) (fun h => ?_) (fun W hb => gsaTake_any A' fs c' W hA (hst W hb) (fun t ht => Nat.le_trans (h100 t ht) (by omega))) (fun h => ?_) (fun h => ?_)
      · rw [putGsa_none h]; rfl
      · obtain ⟨h1, h17⟩ := gsa_put_take h
        refine ⟨h17, fun B d W hB hS => ?_⟩
        have := gsaTake_any B (putGsa ⟨a, f, L, (b0, n0), (b1, n1), (b2, n2)⟩).1 d W hB hS (fun t ht => Nat.le_trans (putGsa_small _ t ht) (by omega))
        rw [h1, h17] at this
        exact this
      · have := takeGsa_no h
        rw [this]
        exact ⟨rfl, rfl, rfl, ⟨rfl, rfl⟩, ⟨rfl, rfl⟩, rfl, rfl⟩
      · obtain ⟨h1, h2, h3, h4⟩ := gsa_take_put h
        obtain ⟨h5, h6⟩ := gsa_put_take h3
        refine ⟨fun A2 c2 W hV => ?_, fun B d W hB hS => ?_, h6, h1, putGsa_small _, h4⟩
        · have := gsaPut_any (takeGsa fs).1.a (takeGsa fs).1.f A2 c2 (takeGsa fs).1.ids (takeGsa fs).1.p0.1 (takeGsa fs).1.p0.2 (takeGsa fs).1.p1.1 (takeGsa fs).1.p1.2 (takeGsa fs).1.p2.1 (takeGsa fs).1.p2.2 W hV (by omega)
          have e : putGsa ⟨(takeGsa fs).1.a, (takeGsa fs).1.f, (takeGsa fs).1.ids, ((takeGsa fs).1.p0.1, (takeGsa fs).1.p0.2), ((takeGsa fs).1.p1.1, (takeGsa fs).1.p1.2), ((takeGsa fs).1.p2.1, (takeGsa fs).1.p2.2)⟩ = ((putGsa (takeGsa fs).1).1, 0) := Prod.ext rfl h3
          rw [e] at this
          exact this
        · have := gsaTake_any B (putGsa (takeGsa fs).1).1 d W hB hS (fun t ht => Nat.le_trans (putGsa_small _ t ht) (by omega))
          rw [h5, h6] at this
          exact this
  · exact gsaBack_big a f A L.length c b0 n0 b1 n1 b2 n2 A' fs.length c' w (by omega) hL
end Go.Proofs.YtkjmcgjlkheamaaDoor
