/- Layer 23, plain: what is taken, put, is taken as that; angles. -/
import Derived.Test.YtpaejoikfnmdhaaDoorPlain23
namespace Go.Proofs.YtpaejoikfnmdhaaDoor
set_option linter.unusedVariables false
open Go.RowKit

theorem foldl_val (l : List UInt8) : ∀ n, l.foldl (fun n c => 10 * n + (c.toNat - 48)) n = n * 10 ^ l.length + valD l := by
  induction l with
  | nil => intro n; simp [valD]
  | cons c l ih =>
    intro n
    have e1 : valD (c :: l) = (10 * 0 + (c.toNat - 48)) * 10 ^ l.length + valD l := ih (10 * 0 + (c.toNat - 48))
    rw [List.foldl_cons, ih, e1, List.length_cons, Nat.pow_succ, Nat.add_mul]
    rw [show n * (10 ^ l.length * 10) = 10 * n * 10 ^ l.length from by rw [← Nat.mul_assoc, Nat.mul_right_comm, Nat.mul_comm n 10]]
    simp only [Nat.mul_zero, Nat.zero_add]
    omega
theorem valD_append (a b : List UInt8) : valD (a ++ b) = valD a * 10 ^ b.length + valD b := by
  unfold valD
  rw [List.foldl_append]
  exact foldl_val b _

theorem pointL_short {l : List UInt8} {a m f n : Nat} (h : NumText l a m f n) (ha : 1 ≤ a) (hmf : m + f ≤ 18) : (pointL n 1 f).length ≤ l.length := by
  obtain ⟨A, T, rfl, hA, h1, h2, h3⟩ := h
  have hv := valD_lt A hA
  have hp : 0 < 10 ^ f := Nat.pow_pos (by decide)
  unfold pointL
  rw [List.length_append, List.length_append]
  rcases h3 with ⟨rfl, rfl⟩ | ⟨B, rfl, hB, h4, h5, rfl⟩
  · rw [Nat.mul_div_cancel _ hp, Nat.mul_mod_left]
    have := digL_le (l := 1) hv (by omega)
    show _ + ([] : List UInt8).length ≤ _
    simpa using this
  · have hvb := valD_lt B hB
    have hr : valD B * 10 ^ (f - B.length) < 10 ^ f := by
      have : valD B * 10 ^ (f - B.length) < 10 ^ B.length * 10 ^ (f - B.length) := Nat.mul_lt_mul_of_pos_right hvb (Nat.pow_pos (by decide))
      rwa [← Nat.pow_add, show B.length + (f - B.length) = f from by omega] at this
    have e1 : (valD A * 10 ^ f + valD B * 10 ^ (f - B.length)) / 10 ^ f = valD A := by
      rw [Nat.mul_comm, Nat.mul_add_div hp, Nat.div_eq_of_lt hr, Nat.add_zero]
    have e2 : (valD A * 10 ^ f + valD B * 10 ^ (f - B.length)) % 10 ^ f = valD B * 10 ^ (f - B.length) := by
      rw [Nat.mul_comm, Nat.mul_add_mod, Nat.mod_eq_of_lt hr]
    rw [e1, e2]
    have k1 := digL_le (l := 1) hv (by omega)
    have k2 := tailB_short (valD B) (f - B.length) f hr (by omega) (by omega)
    rw [List.length_cons]
    omega

theorem take_put {l : List UInt8} {b : Bool} {n W M F L H : Int} (h : takeN l W M F L H = (b, n, 0)) :
    ∃ t : ByteArray, putN b n W M F L H = (t, 0) ∧ (W = 1 → t.size ≤ l.length) := by
  unfold takeN at h
  by_cases hr : rightB W M F L H = false
  · rw [if_pos hr] at h; simp at h
  rw [if_neg hr] at h
  by_cases h0 : l = []
  · rw [if_pos h0] at h
    injection h with h1 h2
    injection h2 with h2 h3
    subst h1 h2
    refine ⟨ByteArray.empty, ?_, fun _ => by show 0 ≤ _; omega⟩
    unfold putN
    rw [if_neg hr, if_neg (by unfold fitsB; simp), if_pos rfl]
  rw [if_neg h0] at h
  obtain ⟨w, m, f, rfl, rfl, rfl, g1, g2, g3, g4, g5, g6⟩ := right_mf (by simpa using hr)
  rw [Int.toNat_natCast, Int.toNat_natCast] at h
  cases hq : parseN (bodyL l) 1 m f with
  | none => rw [hq] at h; simp at h
  | some k =>
    rw [hq] at h
    dsimp only at h
    by_cases hf : fitsB true (if negL l then -(k : Int) else (k : Int)) L H = true
    · rw [if_pos hf] at h
      injection h with h1 h2
      injection h2 with h2 h3
      subst h1
      rw [h2] at hf
      have ht := pointL_short (parseN_inv hq) (Nat.le_refl _) (by omega)
      have hab : n.natAbs = k := by split at h2 <;> omega
      unfold putN
      rw [if_neg hr, if_neg (by rw [hf]; decide), if_neg (by decide), Int.toNat_natCast, Int.toNat_natCast]
      by_cases hn : n < 0
      · rw [if_pos hn, show (-n).toNat = k from by omega]
        refine ⟨_, rfl, fun e => ?_⟩
        have hw : w = 1 := by omega
        subst hw
        have hneg : negL l = true := by
          cases hg : negL l with
          | true => rfl
          | false => rw [hg] at h2; simp at h2; omega
        unfold bodyL at ht
        rw [hneg, if_pos rfl, List.length_drop] at ht
        have : 0 < l.length := List.length_pos_iff.2 h0
        rw [size_B, List.length_cons]
        omega
      · rw [if_neg hn, show n.toNat = k from by omega]
        refine ⟨_, rfl, fun e => ?_⟩
        have hw : w = 1 := by omega
        subst hw
        rw [size_B]
        refine Nat.le_trans ht ?_
        unfold bodyL
        split
        · rw [List.length_drop]; omega
        · omega
    · rw [if_neg hf] at h; simp at h

theorem angL_text (x : Nat) (lat : Bool) (h : (x : Int) ≤ farI lat) : NumText (angL x lat) (wide2 lat) (wide2 lat) 5 (x / 6000000 * 10000000 + x % 6000000) := by
  have hx : x ≤ 1080000000 ∧ (lat = true → x ≤ 540000000) := by
    unfold farI at h
    cases lat
    · have : (x : Int) ≤ 1080000000 := by simpa using h
      exact ⟨by omega, fun k => by cases k⟩
    · have : (x : Int) ≤ 540000000 := by simpa using h
      exact ⟨by omega, fun _ => by omega⟩
  have e3 : (10 : Nat) ^ 3 = 1000 := by decide
  have e2 : (10 : Nat) ^ 2 = 100 := by decide
  have e5 : (10 : Nat) ^ 5 = 100000 := by decide
  have hd : x / 6000000 < 10 ^ wideN lat := by
    unfold wideN
    cases lat with
    | true => have := hx.2 rfl; simp; omega
    | false => simp; omega
  have hw : wideN lat ≤ 3 := by unfold wideN; split <;> omega
  have k1 := digL_eq hd (by omega)
  have k2 : (digL (x % 6000000 / 100000) 2).length = 2 := digL_eq (by omega) (by omega)
  have k3 := digL_val (n := x / 6000000) (l := wideN lat) (by omega)
  have k4 := digL_val (n := x % 6000000 / 100000) (l := 2) (by omega)
  have hA : wide2 lat = wideN lat + 2 := by unfold wide2 wideN; split <;> rfl
  have hv : valD (digL (x / 6000000) (wideN lat) ++ digL (x % 6000000 / 100000) 2) = x / 6000000 * 100 + x % 6000000 / 100000 := by rw [valD_append, k2, k3, k4, e2]
  refine ⟨digL (x / 6000000) (wideN lat) ++ digL (x % 6000000 / 100000) 2, tailB (x % 6000000 % 100000) 5, ?_, ?_, ?_, ?_, ?_⟩
  · unfold angL pointL
    rw [e5, List.append_assoc]
  · intro c hc
    rcases List.mem_append.1 hc with h | h
    · exact digL_isD _ _ c h
    · exact digL_isD _ _ c h
  · rw [List.length_append, k1, k2, hA]; exact Nat.le_refl _
  · rw [List.length_append, k1, k2, hA]; exact Nat.le_refl _
  · rw [hv, e5]
    rcases tailB_text (x % 6000000 % 100000) 5 (by omega) (by omega) with ⟨h1, h2⟩ | ⟨B, h1, h2, h3, h4, h5⟩
    · exact .inl ⟨h1, by omega⟩
    · exact .inr ⟨B, h1, h2, h3, h4, by rw [h5]; omega⟩
theorem angL_ne (x : Nat) (lat : Bool) (h : (x : Int) ≤ farI lat) : angL x lat ≠ [] :=
  (bodyL_pos (angL_text x lat h) (by unfold wide2; split <;> omega)).2.2

theorem ang_take {b : Bool} {n : Int} {lat : Bool} (h : (angN b n lat).2.2 = 0) : takeAng (angN b n lat).1.data.toList (angN b n lat).2.1 lat = (b, n, 0) := by
  unfold angN at h ⊢
  by_cases hf : fitsB b n (-farI lat) (farI lat) = false
  · rw [if_pos hf] at h; exact absurd h (by decide)
  rw [if_neg hf] at h ⊢
  cases b with
  | false =>
    rw [if_pos rfl]
    have : n = 0 := by unfold fitsB at hf; simpa using hf
    subst this
    unfold takeAng
    exact if_pos ⟨rfl, rfl⟩
  | true =>
    rw [if_neg (by decide)]
    have hb := fitsB_true (show fitsB true n (-farI lat) (farI lat) = true by simpa using hf)
    have hx : ((n.natAbs : Nat) : Int) ≤ farI lat := by omega
    have hp := parseN_of (angL_text n.natAbs lat hx)
    have hne := angL_ne n.natAbs lat hx
    have q1 : (n.natAbs / 6000000 * 10000000 + n.natAbs % 6000000) % 10000000 = n.natAbs % 6000000 := by omega
    have q2 : (n.natAbs / 6000000 * 10000000 + n.natAbs % 6000000) / 10000000 * 6000000 + (n.natAbs / 6000000 * 10000000 + n.natAbs % 6000000) % 10000000 = n.natAbs := by omega
    by_cases hn : n < 0
    · rw [if_pos hn]
      show takeAng (toB (angL (-n).toNat lat)).data.toList (sideB lat true) lat = _
      rw [toList_B, show (-n).toNat = n.natAbs from by omega]
      unfold takeAng
      rw [if_neg (fun k => hne k.1), hp]
      dsimp only
      rw [if_neg (fun k => k.2 rfl), q2, q1, if_neg (by omega), if_pos rfl, show -((n.natAbs : Nat) : Int) = n from by omega]
    · rw [if_neg hn]
      show takeAng (toB (angL n.toNat lat)).data.toList (sideB lat false) lat = _
      rw [toList_B, show n.toNat = n.natAbs from by omega]
      unfold takeAng
      rw [if_neg (fun k => hne k.1), hp]
      dsimp only
      rw [if_neg (fun k => k.1 rfl), q2, q1, if_neg (by omega), if_neg (sideB_ne lat), show ((n.natAbs : Nat) : Int) = n from by omega]

theorem sideB_size (lat neg : Bool) : (sideB lat neg).size = 1 := by cases lat <;> cases neg <;> rfl

theorem angL_short {l : List UInt8} {x N : Nat} {lat : Bool} (h : NumText l (wide2 lat) (wide2 lat) 5 N) (hm : N % 10000000 < 6000000) (hx : x = N / 10000000 * 6000000 + N % 10000000) (hf : (x : Int) ≤ farI lat) : (angL x lat).length ≤ l.length := by
  obtain ⟨A, T, rfl, hA, h1, h2, h3⟩ := h
  obtain ⟨A', T', e, hA', h1', h2', h3'⟩ := angL_text x lat hf
  have hN : x / 6000000 * 10000000 + x % 6000000 = N := by omega
  rw [hN] at h3'
  rw [e, List.length_append, List.length_append]
  have e5 : (10 : Nat) ^ 5 = 100000 := by decide
  have hT' : T' = tailB (N % 100000) 5 := by
    have k := angL_text x lat hf
    have : angL x lat = (digL (x / 6000000) (wideN lat) ++ digL (x % 6000000 / 100000) 2) ++ tailB (x % 6000000 % 100000) 5 := by
      unfold angL pointL
      rw [e5, List.append_assoc]
    rw [this] at e
    have hw : wideN lat ≤ 3 := by unfold wideN; split <;> omega
    have hxx : x ≤ 1080000000 := by unfold farI at hf; split at hf <;> omega
    have hd : x / 6000000 < 10 ^ wideN lat := by
      unfold farI at hf
      unfold wideN
      cases lat with
      | true => simp at hf ⊢; omega
      | false => simp at hf ⊢; omega
    have l1 : (digL (x / 6000000) (wideN lat) ++ digL (x % 6000000 / 100000) 2).length = A'.length := by
      rw [List.length_append, digL_eq hd (by omega), digL_eq (n := x % 6000000 / 100000) (l := 2) (by have : (10 : Nat) ^ 2 = 100 := by decide
                                                                                                      omega) (by omega)]
      have : wide2 lat = wideN lat + 2 := by unfold wide2 wideN; split <;> rfl
      omega
    have := (List.append_inj e l1).2
    rw [← this, show x % 6000000 % 100000 = N % 100000 from by omega]
  rw [hT']
  rcases h3 with ⟨rfl, h⟩ | ⟨B, rfl, hB, h4, h5, h⟩
  · have : N % 100000 = 0 := by rw [h, e5]; exact Nat.mul_mod_left _ _
    rw [this]
    show _ + ([] : List UInt8).length ≤ _ + ([] : List UInt8).length
    omega
  · have hvb := valD_lt B hB
    have hr : valD B * 10 ^ (5 - B.length) < 10 ^ 5 := by
      have : valD B * 10 ^ (5 - B.length) < 10 ^ B.length * 10 ^ (5 - B.length) := Nat.mul_lt_mul_of_pos_right hvb (Nat.pow_pos (by decide))
      rwa [← Nat.pow_add, show B.length + (5 - B.length) = 5 from by omega] at this
    have : N % 100000 = valD B * 10 ^ (5 - B.length) := by
      rw [← e5, h, Nat.mul_comm (valD A), Nat.mul_add_mod, Nat.mod_eq_of_lt hr]
    rw [this]
    have k2 := tailB_short (valD B) (5 - B.length) 5 hr (by omega) (by omega)
    rw [List.length_cons]
    omega

theorem takeAng_put {l : List UInt8} {d : ByteArray} {lat b : Bool} {n : Int} (h : takeAng l d lat = (b, n, 0)) :
    ∃ t p : ByteArray, angN b n lat = (t, p, 0) ∧ t.size ≤ l.length ∧ p.size ≤ d.size := by
  unfold takeAng at h
  by_cases h0 : l = [] ∧ d.data.toList = []
  · rw [if_pos h0] at h
    injection h with h1 h2
    injection h2 with h2 h3
    subst h1 h2
    refine ⟨ByteArray.empty, ByteArray.empty, ?_, Nat.zero_le _, Nat.zero_le _⟩
    unfold angN
    rw [if_neg (by unfold fitsB; simp), if_pos rfl]
  rw [if_neg h0] at h
  cases hq : parseN l (wide2 lat) (wide2 lat) 5 with
  | none => rw [hq] at h; simp at h
  | some N =>
    rw [hq] at h
    dsimp only at h
    by_cases hd : d ≠ sideB lat false ∧ d ≠ sideB lat true
    · rw [if_pos hd] at h; simp at h
    rw [if_neg hd] at h
    by_cases hg : 6000000 ≤ N % 10000000 ∨ farI lat < ((N / 10000000 * 6000000 + N % 10000000 : Nat) : Int)
    · rw [if_pos hg] at h; simp at h
    rw [if_neg hg] at h
    injection h with h1 h2
    injection h2 with h2 h3
    subst h1
    obtain ⟨x, hx⟩ : ∃ x, x = N / 10000000 * 6000000 + N % 10000000 := ⟨_, rfl⟩
    rw [← hx] at hg h2
    have hfar : (x : Int) ≤ farI lat := by omega
    have hs := angL_short (parseN_inv hq) (by omega) hx hfar
    have hab : n.natAbs = x := by split at h2 <;> omega
    have hd1 : d.size = 1 := by
      by_cases k : d = sideB lat false
      · rw [k]; exact sideB_size _ _
      · have : d = sideB lat true := Classical.not_not.1 fun k' => hd ⟨k, k'⟩
        rw [this]; exact sideB_size _ _
    have hfit : fitsB true n (-farI lat) (farI lat) = true := by
      unfold fitsB
      rw [if_pos rfl]
      exact decide_eq_true (by omega)
    unfold angN
    rw [if_neg (by rw [hfit]; decide), if_neg (by decide)]
    by_cases hn : n < 0
    · rw [if_pos hn, show (-n).toNat = x from by omega]
      exact ⟨_, _, rfl, by rw [size_B]; exact hs, by rw [sideB_size, hd1]; exact Nat.le_refl _⟩
    · rw [if_neg hn, show n.toNat = x from by omega]
      exact ⟨_, _, rfl, by rw [size_B]; exact hs, by rw [sideB_size, hd1]; exact Nat.le_refl _⟩
theorem takeAng_no {l : List UInt8} {d : ByteArray} {lat : Bool} (h : (takeAng l d lat).2.2 ≠ 0) : (takeAng l d lat).1 = false ∧ (takeAng l d lat).2.1 = 0 := by
  unfold takeAng at h ⊢
  by_cases h0 : l = [] ∧ d.data.toList = []
  · rw [if_pos h0]; exact ⟨rfl, rfl⟩
  rw [if_neg h0] at h ⊢
  cases hq : parseN l (wide2 lat) (wide2 lat) 5 with
  | none => exact ⟨rfl, rfl⟩
  | some N =>
    rw [hq] at h
    dsimp only at h ⊢
    by_cases hd : d ≠ sideB lat false ∧ d ≠ sideB lat true
    · rw [if_pos hd]; exact ⟨rfl, rfl⟩
    rw [if_neg hd] at h ⊢
    by_cases hg : 6000000 ≤ N % 10000000 ∨ farI lat < ((N / 10000000 * 6000000 + N % 10000000 : Nat) : Int)
    · rw [if_pos hg]; exact ⟨rfl, rfl⟩
    rw [if_neg hg] at h
    exact absurd rfl h
theorem takeN_no {l : List UInt8} {W M F L H : Int} (h : (takeN l W M F L H).2.2 ≠ 0) : (takeN l W M F L H).1 = false ∧ (takeN l W M F L H).2.1 = 0 := by
  unfold takeN at h ⊢
  by_cases hr : rightB W M F L H = false
  · rw [if_pos hr]; exact ⟨rfl, rfl⟩
  rw [if_neg hr] at h ⊢
  by_cases h0 : l = []
  · rw [if_pos h0]; exact ⟨rfl, rfl⟩
  rw [if_neg h0] at h ⊢
  cases hq : parseN (bodyL l) 1 M.toNat F.toNat with
  | none => exact ⟨rfl, rfl⟩
  | some k =>
    rw [hq] at h
    dsimp only at h ⊢
    by_cases hf : fitsB true (if negL l then -(k : Int) else (k : Int)) L H = true
    · rw [if_pos hf] at h; exact absurd rfl h
    · rw [if_neg hf]; exact ⟨rfl, rfl⟩

end Go.Proofs.YtpaejoikfnmdhaaDoor
