/- Layer 23: the closure of the program's parse. -/
import Derived.Test.YtpaejoikfnmdhaaDoorDec14
import Derived.Deep.RegionHeld3
namespace Go.Proofs.YtpaejoikfnmdhaaDoor
set_option linter.unusedVariables false
open Go.RowKit

/-- What the three variables hold. -/
def NextSt (W : World) (gs gn ga : Nat) (s : ByteArray) (nv : Int) (a : Nat) : Prop :=
  W.cell? ⟨gs, 0, none⟩ = some (.string s) ∧ W.cell? ⟨gn, 0, none⟩ = some (.int .i64 nv) ∧ W.cell? ⟨ga, 0, none⟩ = some (.int .i64 (a : Int)) ∧ W.frozen? ⟨gn, 0, none⟩ = false ∧ W.frozen? ⟨ga, 0, none⟩ = false
/-- The sum behind k digits more. -/
def sumV (s : ByteArray) (a : Nat) (nv : Int) (k : Nat) : Int := nv * tenI k + (valD ((s.data.toList.drop a).take k) : Int)
theorem sumV_zero (s : ByteArray) (a : Nat) (nv : Int) : sumV s a nv 0 = nv := by
  unfold sumV
  rw [tenI_zero, List.take_zero]
  show nv * 1 + 0 = nv
  omega
theorem sumV_succ (s : ByteArray) (a : Nat) (nv : Int) (k : Nat) (h : a + k < s.size) (hd : isD s[a + k] = true) : sumV s a nv (k + 1) = 10 * sumV s a nv k + ((s[a + k].toNat : Int) - 48) := by
  unfold sumV
  have hl : k < (s.data.toList.drop a).length := by rw [List.length_drop]; have : s.data.toList.length = s.size := by simp
                                                    omega
  have he : (s.data.toList.drop a)[k] = s[a + k] := by rw [List.getElem_drop]; rfl
  have h2 := of_decide_eq_true hd
  rw [List.take_succ_eq_append_getElem hl, valD_snoc, he, tenI_succ, ← Int.mul_assoc]
  omega

def NextPost (s : ByteArray) (a most : Nat) (nv : Int) (gs gn ga B : Nat) (W : World) (e : Ending) (w' : World) : Prop :=
  ∃ (K : Nat) (nv2 : Int), K = min (cntD (s.data.toList.drop a)) (most + 1) ∧ e = .returned (.int .i64 (K : Int)) ∧ NextSt w' gs gn ga s nv2 (a + K) ∧ Below B W w' ∧ w'.heap.size = W.heap.size ∧ (K ≤ most → nv2 = sumV s a nv K)

/-- What the loop of the closure keeps. -/
def NextRel (s : ByteArray) (a most : Nat) (nv : Int) (gs gn ga B : Nat) (W : World) (v : Value) (wr : World) : Prop :=
  ∃ (k : Nat) (nv2 : Int), v = .int .i64 (k : Int) ∧ k ≤ most + 1 ∧ a + k ≤ s.size ∧ Hid (∀ j, j < k → ∃ h : a + j < s.size, isD s[a + j] = true) ∧ Hid (NextSt wr gs gn ga s nv2 (a + k)) ∧ Hid (Below B W wr) ∧ Hid (wr.heap.size = W.heap.size) ∧ Hid (k ≤ most → nv2 = sumV s a nv k)

theorem next_round {s : ByteArray} {a most : Nat} {nv : Int} {gs gn ga B : Nat} {W wr : World} {k : Nat} {nv2 : Int}
    (hm : most ≤ 12) (hd1 : gs ≠ gn) (hd2 : gs ≠ ga) (hd3 : gn ≠ ga) (hB1 : B ≤ gn) (hB2 : B ≤ ga)
    (HB : ∀ k, k ≤ most → 0 ≤ sumV s a nv k ∧ sumV s a nv k ≤ 9000000000000000000)
    (hkm : k ≤ most) (hlt : a + k < s.size) (hd : isD s[a + k] = true) (hall : ∀ j, j < k → ∃ h : a + j < s.size, isD s[a + j] = true)
    (hst : NextSt wr gs gn ga s nv2 (a + k)) (hb : Below B W wr) (hz : wr.heap.size = W.heap.size) (hex : k ≤ most → nv2 = sumV s a nv k) :
    NextRel s a most nv gs gn ga B W (.int .i64 ((k : Int) + 1)) ((wr.setCell ⟨gn, 0, none⟩ (.int .i64 (wrap64 (wrap64 (10 * nv2) + (((s[a + k]'hlt).toNat : Int) - 48))))).setCell ⟨ga, 0, none⟩ (.int .i64 (((a + k : Nat) : Int) + 1))).drew := by
  obtain ⟨c1, c2, c3, z1, z2⟩ := hst
  refine ⟨k + 1, wrap64 (wrap64 (10 * nv2) + (((s[a + k]'hlt).toNat : Int) - 48)), by rw [Int.natCast_add]; rfl, by omega, by omega, Lib.hid ?_, Lib.hid ⟨?_, ?_, ?_, ?_, ?_⟩, Lib.hid ?_, Lib.hid ?_, Lib.hid ?_⟩
  · intro j hj
    rcases Nat.lt_or_ge j k with h | h
    · exact hall j h
    · obtain rfl : j = k := by omega
      exact ⟨hlt, hd⟩
  · show ((wr.setCell _ _).setCell _ _).cell? _ = _
    rw [World.cell?_setCell_other _ _ _ _ (fun e => by injection e with e; exact hd2 e.symm), World.cell?_setCell_other _ _ _ _ (fun e => by injection e with e; exact hd1 e.symm)]
    exact c1
  · show ((wr.setCell _ _).setCell _ _).cell? _ = _
    rw [World.cell?_setCell_other _ _ _ _ (fun e => by injection e with e; exact hd3 e.symm), World.cell?_setCell_same _ _ _ c2]
  · show ((wr.setCell _ _).setCell _ _).cell? _ = _
    have h0 : (wr.setCell ⟨gn, 0, none⟩ (.int .i64 (wrap64 (wrap64 (10 * nv2) + (((s[a + k]'hlt).toNat : Int) - 48))))).cell? ⟨ga, 0, none⟩ = _ := (World.cell?_setCell_other _ _ _ _ (fun e => by injection e with e; exact hd3 e)).trans c3
    rw [World.cell?_setCell_same _ _ _ h0]
    rw [show ((a + (k + 1) : Nat) : Int) = ((a + k : Nat) : Int) + 1 from by omega]
  · show ((wr.setCell _ _).setCell _ _).frozen? _ = _
    simpa using z1
  · show ((wr.setCell _ _).setCell _ _).frozen? _ = _
    simpa using z2
  · exact bdrew ((hb.setCell hB1 _).setCell hB2 _)
  · show ((wr.setCell _ _).setCell _ _).heap.size = _
    simpa using hz
  · intro hk1
    have e1 := hex (by omega)
    have b1 := HB k (by omega)
    have b2 := HB (k + 1) hk1
    have e2 := sumV_succ s a nv k hlt hd
    have e3 := of_decide_eq_true hd
    subst e1
    rw [e2] at b2 ⊢
    have q1 : wrap64 (10 * sumV s a nv k) = 10 * sumV s a nv k := IntWalk.wrap64_in _ (by omega)
    rw [q1, IntWalk.wrap64_in _ (by omega)]

theorem cntD_ge : ∀ (l : List UInt8) (k : Nat), (∀ j (h : j < l.length), j < k → isD l[j] = true) → k ≤ l.length → k ≤ cntD l := by
  intro l
  induction l with
  | nil => intro k _ h; exact Nat.le_trans h (Nat.zero_le _)
  | cons c l ih =>
    intro k h1 h2
    cases k with
    | zero => exact Nat.zero_le _
    | succ k =>
      have h0 : isD c = true := h1 0 (by simp) (by omega)
      have h3 := ih k (fun j hj hk => h1 (j + 1) (by simpa using hj) (by omega)) (by simpa using h2)
      unfold cntD at h3 ⊢
      rw [List.takeWhile_cons_of_pos h0, List.length_cons]
      omega

theorem next_out {s : ByteArray} {a most : Nat} {nv : Int} {gs gn ga B : Nat} {W wr : World} {k : Nat} {nv2 : Int}
    (hak : a + k ≤ s.size) (hstop : k = most + 1 ∨ ¬ a + k < s.size ∨ ∃ h : a + k < s.size, isD s[a + k] = false) (hk : k ≤ most + 1) (hall : ∀ j, j < k → ∃ h : a + j < s.size, isD s[a + j] = true)
    (hst : NextSt wr gs gn ga s nv2 (a + k)) (hb : Below B W wr) (hz : wr.heap.size = W.heap.size) (hex : k ≤ most → nv2 = sumV s a nv k) :
    NextPost s a most nv gs gn ga B W (.returned (.int .i64 (k : Int))) wr := by
  refine ⟨k, nv2, ?_, rfl, hst, hb, hz, hex⟩
  have hsz : s.data.toList.length = s.size := by simp
  have hlen : (s.data.toList.drop a).length = s.size - a := by rw [List.length_drop, hsz]
  have hg : ∀ j (h : j < (s.data.toList.drop a).length) (h2 : a + j < s.size), (s.data.toList.drop a)[j] = s[a + j] := fun j h h2 => by rw [List.getElem_drop]; rfl
  have hle : k ≤ cntD (s.data.toList.drop a) := cntD_ge _ _ (fun j hj hk => by
    obtain ⟨h, e⟩ := hall j hk
    rw [hg j hj h]
    exact e) (by omega)
  rcases hstop with h | h | ⟨h, e⟩
  · omega
  · have := cntD_le (s.data.toList.drop a)
    omega
  · have : cntD (s.data.toList.drop a) = k := cntD_is _ k (fun j hj hk => by
      obtain ⟨h, e⟩ := hall j hk
      rw [hg j hj h]
      exact e) (by omega) (fun h' => by rw [hg k h' h]; exact e)
    omega

set_option maxHeartbeats 2000000 in
theorem next_any (s : ByteArray) (a most : Nat) (nv : Int) (gs gn ga B : Nat) (W : World) (hs : s.size ≤ 1000000) (ha : a ≤ s.size) (hm : most ≤ 12)
    (hst : NextSt W gs gn ga s nv a) (hd1 : gs ≠ gn) (hd2 : gs ≠ ga) (hd3 : gn ≠ ga) (hB1 : B ≤ gn) (hB2 : B ≤ ga)
    (HB : Hid (∀ k, k ≤ most → 0 ≤ sumV s a nv k ∧ sumV s a nv k ≤ 9000000000000000000)) :
    Calls Tryd.prog 61 #[.int .i64 (most : Int), .pointer (some ⟨ga, 0, none⟩), .pointer (some ⟨gs, 0, none⟩), .pointer (some ⟨gn, 0, none⟩)] W (NextPost s a most nv gs gn ga B W) := by
  have HST := Lib.hid hst
  clear hst
  go_enter Tryd.func61, Tryd.ntmps61
  go_wp2
  go_loopw [6] (fun v wr => NextRel s a most nv gs gn ga B W v wr) (fun v _ => most + 1 - (intOf v).toNat)
  case atStart => exact ⟨0, nv, rfl, Nat.zero_le _, ha, fun j h => absurd h (Nat.not_lt_zero _), HST, Lib.hid (Below.refl _ _), rfl, fun _ => (sumV_zero s a nv).symm⟩
  case round =>
    obtain ⟨k, nv2, rfl, hk, hak, hall, hst, hb, hz, hex⟩ := hrel
    obtain ⟨c1, c2, c3, z1, z2⟩ := hst.out
    by_cases hlt : a + k < s.size
    · have i1 : ((a + k : Nat) : Int) < (s.size : Int) := by omega
      have i2 : (0 : Int) ≤ ((a + k : Nat) : Int) := Int.natCast_nonneg _
      have i3 : ((a + k : Nat) : Int).toNat = a + k := by omega
      by_cases hd : isD s[a + k] = true
      · have hdd := of_decide_eq_true hd
        have h48 : (48 : Int) ≤ ((s[a + k]'hlt).toNat : Int) := by omega
        have h57 : ((s[a + k]'hlt).toNat : Int) ≤ 57 := by omega
        by_cases hkm : k ≤ most
        · have HN := Lib.hid (next_round hm hd1 hd2 hd3 hB1 hB2 HB.out hkm hlt hd hall.out hst.out hb.out hz.out hex.out)
          clear hall hst hb hz hex
          generalize hA : a + k = A at *
          go_wp2
          go_region_with (fail)
          all_goals go_wp2
          all_goals go_roundw
          all_goals first | exact HN.out | (show most + 1 - ((k : Int) + 1).toNat < most + 1 - (k : Int).toNat; omega)
        · have HO := Lib.hid (next_out hak (.inl (by omega)) hk hall.out hst.out hb.out hz.out hex.out)
          have hkm2 : (most : Int) < (k : Int) := by omega
          clear hall hst hb hz hex hkm
          generalize hA : a + k = A at *
          go_wp2
          go_ret
          exact HO.out
      · have HO := Lib.hid (next_out hak (.inr (.inr ⟨hlt, by simpa using hd⟩)) hk hall.out hst.out hb.out hz.out hex.out)
        have hdd : ¬ (48 ≤ (s[a + k]'hlt).toNat ∧ (s[a + k]'hlt).toNat ≤ 57) := fun h => hd (decide_eq_true h)
        clear hall hst hb hz hex hd
        by_cases h1 : 48 ≤ (s[a + k]'hlt).toNat
        · have h48 : (48 : Int) ≤ ((s[a + k]'hlt).toNat : Int) := by omega
          have h57 : (57 : Int) < ((s[a + k]'hlt).toNat : Int) := by omega
          generalize hA : a + k = A at *
          go_wp2
          go_ret
          exact HO.out
        · have h48 : ((s[a + k]'hlt).toNat : Int) < (48 : Int) := by omega
          generalize hA : a + k = A at *
          go_wp2
          go_ret
          exact HO.out
    · have HO := Lib.hid (next_out hak (.inr (.inl hlt)) hk hall.out hst.out hb.out hz.out hex.out)
      have i1 : (s.size : Int) ≤ ((a + k : Nat) : Int) := by omega
      clear hall hst hb hz hex
      generalize hA : a + k = A at *
      go_wp2
      go_ret
      exact HO.out

end Go.Proofs.YtpaejoikfnmdhaaDoor
