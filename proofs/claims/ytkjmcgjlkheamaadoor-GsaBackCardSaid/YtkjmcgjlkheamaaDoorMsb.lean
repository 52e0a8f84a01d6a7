/- Layer 27: the reference's Take. Printed by gengsar.py. -/
import Derived.Test.YtkjmcgjlkheamaaDoorMsa
namespace Go.Proofs.YtkjmcgjlkheamaaDoor
set_option linter.unusedVariables false
open Go.RowKit

theorem int_infoG : (Tryd.prog.info? 2).map (fun i => (i.zero, i.size, i.bytes)) = some (some (.int .i64 0), 1, 8) := by kernel_rfl
theorem ints_of_own {w : World} {B : Nat} {e : TypeId} {v : Value} {D : List Int} (h : w.ownsRow B e 1 v D.length (D.map (Value.int .i64))) : ∃ A c, v = .slice A D.length c ∧ Ints w w.heap.size A D ∧ FreshA B A := by
  rcases h.2 with ⟨hv, h0⟩ | ⟨g, cap, cur, hv, hb, hg, -⟩
  · exact ⟨none, 0, by rw [hv, h0], fun k hk => by omega, FreshA.none_⟩
  · subst hv
    refine ⟨some ⟨g, 0, none⟩, cap, rfl, fun k hk => ⟨g, 0, rfl, (Array.getElem?_eq_some_iff.1 hg).1, ?_⟩, fun a ha => by injection ha with ha; rw [← ha]; exact hb⟩
    have hc := h.cells (g := g) rfl k (.int .i64 D[k]) (by simp [hk])
    have : (⟨g, 0, none⟩ : Addr).add k = ⟨g, 0 + k, none⟩ := by unfold Addr.add; split <;> simp_all
    rw [← this]
    exact hc
end Go.Proofs.YtkjmcgjlkheamaaDoor

/- Layer 27: Same, knows; the law GsaTakes, walked. Printed by gengsas.py. -/
namespace Go.Proofs.YtkjmcgjlkheamaaDoor
set_option linter.unusedVariables false
open Go.RowKit

set_option maxRecDepth 8000 in
set_option maxHeartbeats 4000000 in
theorem r03Same_same (A B : Option Addr) (n c d : Nat) (L : List Int) (w : World) (hn : Hid (L.length = n)) (hA : Hid (Ints w w.heap.size A L)) (hB : Hid (Ints w w.heap.size B L)) (h0 : n ≤ 1000000) :
    Calls Tryd.prog 101 #[.slice A n c, .slice B n d] w fun e w' => e = .returned (.bool true) ∧ Below w.heap.size w w' := by
  have hb : ((n : Int) != (n : Int)) = false := by rw [bne_eq_false_iff_eq]
  go_enter Tryd.func101, Tryd.ntmps101
  go_wp2
  go_loopw [5] (fun i wr => ∃ k nq : Nat, k ≤ n ∧ i = .int .i64 k ∧ wr = w.drewN nq) (fun i _ => n - (intOf i).toNat)
  case atStart => exact ⟨0, 0, Nat.zero_le _, rfl, rfl⟩
  case round =>
    obtain ⟨k, nq, hk, rfl, rfl⟩ := hrel
    by_cases hlt : k < n
    · have hkl : k < L.length := by rw [hn.out]; exact hlt
      obtain ⟨b1, o1, hA1, hb1, hc1⟩ := hA.out k hkl
      obtain ⟨b2, o2, hA2, hb2, hc2⟩ := hB.out k hkl
      subst hA1 hA2
      generalize L[k] = v at *
      have hv : (v != v) = false := by rw [bne_eq_false_iff_eq]
      have i1 : (0 : Int) ≤ (k : Int) := Int.natCast_nonneg _
      have i2 : (k : Int) < (n : Int) := by omega
      clear hkl
      go_wp2_with fail
      go_quiet (fail)
      go_wp2_with fail
      go_roundw
      case rel => exact ⟨k + 1, _, by omega, by go_num, rfl⟩
      case measure => simp [intOf]; omega
    · go_wp2_with fail
      go_ret
      exact ⟨by rfl, bdrewN (Below.refl _ _) _⟩
set_option maxRecDepth 8000 in
set_option maxHeartbeats 4000000 in
theorem r27Same_same (a : Bool) (f : Int) (b0 : Bool) (n0 : Int) (b1 : Bool) (n1 : Int) (b2 : Bool) (n2 : Int) (A B : Option Addr) (n c d : Nat) (L : List Int) (w : World) (hn : Hid (L.length = n)) (hA : Hid (Ints w w.heap.size A L)) (hB : Hid (Ints w w.heap.size B L)) (h0 : n ≤ 1000000) :
    Calls Tryd.prog 26 #[gsaV a f A n c b0 n0 b1 n1 b2 n2, gsaV a f B n d b0 n0 b1 n1 b2 n2] w fun e w' => e = .returned (.bool true) ∧ Below w.heap.size w w' := by
  have hbb : Below w.heap.size w ((w.alloc (.cells (gsaC a f A n c b0 n0 b1 n1 b2 n2) 50)).alloc (.cells (gsaC a f B n d b0 n0 b1 n1 b2 n2) 50)) := bthen (below_new _ _) (below_new _ _)
  have HV : Hid (Calls Tryd.prog 101 #[.slice A n c, .slice B n d] ((w.alloc (.cells (gsaC a f A n c b0 n0 b1 n1 b2 n2) 50)).alloc (.cells (gsaC a f B n d b0 n0 b1 n1 b2 n2) 50)) fun e w' => e = .returned (.bool true) ∧ Below ((w.alloc (.cells (gsaC a f A n c b0 n0 b1 n1 b2 n2) 50)).alloc (.cells (gsaC a f B n d b0 n0 b1 n1 b2 n2) 50)).heap.size ((w.alloc (.cells (gsaC a f A n c b0 n0 b1 n1 b2 n2) 50)).alloc (.cells (gsaC a f B n d b0 n0 b1 n1 b2 n2) 50)) w') :=
    r03Same_same A B n c d L _ hn ((hA.out.below hbb (Nat.le_refl _)).more hbb.size) ((hB.out.below hbb (Nat.le_refl _)).more hbb.size) h0
  have HB := Lib.hid hbb
  have HC1 : Hid (∀ o, ((w.alloc (.cells (gsaC a f A n c b0 n0 b1 n1 b2 n2) 50)).alloc (.cells (gsaC a f B n d b0 n0 b1 n1 b2 n2) 50)).cell? ⟨w.heap.size, o, none⟩ = (gsaC a f A n c b0 n0 b1 n1 b2 n2)[o]?) := fun o => (World.cell?_alloc_past _ _ _ (by simp)).trans (World.cell?_alloc_at _ _ _ _ rfl)
  have HC2 : Hid (∀ o, ((w.alloc (.cells (gsaC a f A n c b0 n0 b1 n1 b2 n2) 50)).alloc (.cells (gsaC a f B n d b0 n0 b1 n1 b2 n2) 50)).cell? ⟨w.heap.size + 1, o, none⟩ = (gsaC a f B n d b0 n0 b1 n1 b2 n2)[o]?) := fun o => World.cell?_alloc_at _ _ _ _ (by simp)
  have HZ : Hid (((w.alloc (.cells (gsaC a f A n c b0 n0 b1 n1 b2 n2) 50)).alloc (.cells (gsaC a f B n d b0 n0 b1 n1 b2 n2) 50)).heap.size = w.heap.size + 2) := by show _ = _; simp
  have hv : (f == f) = true := by simp
  have hv0 : (n0 == n0) = true := by simp
  have hv1 : (n1 == n1) = true := by simp
  have hv2 : (n2 == n2) = true := by simp
  clear hA hB hbb
  go_enter Tryd.func26, Tryd.ntmps26
  go_wp2_with fail
  refine HV.out.mono ?_
  rintro r w1 ⟨rfl, hb1⟩
  have hz := HZ.out
  have HC1' : Hid (∀ o, w1.cell? ⟨w.heap.size, o, none⟩ = (gsaC a f A n c b0 n0 b1 n1 b2 n2)[o]?) := fun o => ((bcell hb1).1 _ o (by omega)).trans (HC1.out o)
  have HC2' : Hid (∀ o, w1.cell? ⟨w.heap.size + 1, o, none⟩ = (gsaC a f B n d b0 n0 b1 n1 b2 n2)[o]?) := fun o => ((bcell hb1).1 _ o (by omega)).trans (HC2.out o)
  have HB1 := Lib.hid (bthen HB.out hb1)
  clear hz hb1 HC1 HC2 HB HV HZ
  have x3 := HC1'.out 3
  have y3 := HC2'.out 3
  have x4 := HC1'.out 4
  have y4 := HC2'.out 4
  have x5 := HC1'.out 5
  have y5 := HC2'.out 5
  have x6 := HC1'.out 6
  have y6 := HC2'.out 6
  have x7 := HC1'.out 7
  have y7 := HC2'.out 7
  have x8 := HC1'.out 8
  have y8 := HC2'.out 8
  go_wp2_with fail
  go_ret
  exact ⟨by first | rfl | simp, HB1.out⟩
theorem gsaTake_any (A : Option Addr) (R : List ByteArray) (c : Nat) (w : World) (hA : A = none → c = 0) (hs : Strs w w.heap.size A R) (hz : ∀ t ∈ R, t.size ≤ 1000000) : Calls Tryd.prog 25 #[.slice A R.length c] w (GsaPost (takeGsa R) w) := by
  by_cases h : R.length = 17
  · exact gsaTake_ok A R.length c R w rfl hA hs hz h
  · have : takeGsa R = (zeroS, 3) := by unfold takeGsa; rw [if_pos h]
    rw [this]
    exact gsaTake_bad A R.length c w (by rw [bne_iff_ne]; omega)
theorem num27_any (n : Int) (w : World) : Calls Tryd.prog 24 #[.int .i64 n] w fun e w' => e = .returned (.int .i64 n) ∧ w = w' := by
  go_enter Tryd.func24, Tryd.ntmps24
  go_wp2
  go_ret
  exact ⟨rfl, rfl⟩
abbrev knR (k : Nat) : List ByteArray := [⟨#[65]⟩, ⟨#[49]⟩] ++ List.replicate k ByteArray.empty
theorem knows27_take : takeGsa (knR 15) = (⟨true, 1, [], (false, 0), (false, 0), (false, 0)⟩, 0) := by
  have h : (takeGsa (knR 15)).1.a = true ∧ (takeGsa (knR 15)).1.f = 1 ∧ (takeGsa (knR 15)).1.ids = [] ∧ (takeGsa (knR 15)).1.p0 = (false, 0) ∧ (takeGsa (knR 15)).1.p1 = (false, 0) ∧ (takeGsa (knR 15)).1.p2 = (false, 0) ∧ (takeGsa (knR 15)).2 = 0 := by decide +kernel
  generalize takeGsa (knR 15) = x at *
  obtain ⟨⟨a, f, ids, p0, p1, p2⟩, E⟩ := x
  obtain ⟨rfl, rfl, rfl, rfl, rfl, rfl, rfl⟩ := h
  rfl
set_option maxRecDepth 8000 in
set_option maxHeartbeats 4000000 in
theorem knows27_any (w : World) : Calls Tryd.prog 21 #[] w fun e w' => e = .returned (.bool true) ∧ Below w.heap.size w w' := by
  have HO0 : Hid ((w.alloc (.cells #[.string ⟨#[65]⟩, .string ⟨#[49]⟩] 9)).ownsRow w.heap.size 9 1 (.slice (some ⟨w.heap.size, 0, none⟩) 2 2) (2 + 0) ((knR 0).map Value.string)) := World.ownsRow_lit w #[.string ⟨#[65]⟩, .string ⟨#[49]⟩] 2 (Nat.le_refl _) (by decide) rfl
  have HB0 := Lib.hid (below_new w (.cells #[.string ⟨#[65]⟩, .string ⟨#[49]⟩] 9))
  obtain ⟨i0, hi, hz0, hz1, hz2⟩ := info_partsP str_infoP
  go_enter Tryd.func21, Tryd.ntmps21
  go_wp2_with fail
  go_loopw [1, 2] (fun v iv wr => ∃ k : Nat, iv = .int .i64 (k : Int) ∧ k ≤ 15 ∧ Hid (wr.ownsRow w.heap.size 9 1 v (2 + k) ((knR k).map Value.string)) ∧ Hid (Below w.heap.size w wr)) (fun _ iv _ => 15 - (intOf iv).toNat)
  case atStart => exact ⟨0, rfl, by omega, HO0, HB0⟩
  case round =>
    obtain ⟨k, rfl, hk, hown, hb⟩ := hrel
    clear HO0 HB0
    by_cases hlt : k < 15
    · have i1 : (k : Int) < 15 := by omega
      have hbn := below_new wr (.cells #[.string ByteArray.empty] 9)
      have HO1 := Lib.hid (ownP_below hown.out hbn)
      have HB1 := Lib.hid (Below.trans hb.out (hbn.mono hb.out.size))
      have HNW := Lib.hid (news_get (news1 wr ByteArray.empty))
      have HWV : Hid (w.heap.size ≤ (wr.alloc (.cells #[.string ByteArray.empty] 9)).heap.size) := by show _ ≤ _; exact Nat.le_trans hb.out.size hbn.size
      clear hbn
      go_wp2_with (at_builtin; refine wpList_append_lies _ rfl _ _ 28 rfl w.heap.size 9 i0 (.string ByteArray.empty) 1 16 Tryd.underlying28 hi hz0 hz1 hz2 rfl (by decide) _ _ _ rfl HO1.out ⟨wr.heap.size, 0, none⟩ 1 1 ([ByteArray.empty].map Value.string) rfl rfl HNW.out ?c2 (by decide) ?c3 ?c4 HWV.out _ rfl ?_)
      case c2 => intro u hu; obtain ⟨s, -, rfl⟩ := List.mem_map.1 hu; rfl
      case c3 => unfold maxLen; omega
      case c4 => omega
      intro g2 cap w6 hown' hgrow hlies hg2
      have HO2 : Hid (w6.ownsRow w.heap.size 9 1 (.slice (some ⟨g2, 0, none⟩) (2 + k + 1) cap) (2 + (k + 1)) ((knR (k + 1)).map Value.string)) := by
        have e : (knR (k + 1)).map Value.string = Value.string ⟨#[65]⟩ :: Value.string ⟨#[49]⟩ :: (List.replicate k (Value.string ByteArray.empty) ++ [Value.string ByteArray.empty]) := by
          simp [List.replicate_succ']
        rw [e]
        exact hown'
      have HB2 : Hid (Below w.heap.size w w6) := HB1.out.grown hgrow HWV.out (fun k hk => (HO1.out.lt k hk).1)
      clear hown' hgrow hlies hg2
      go_wp2_with fail
      go_roundw
      case rel => exact ⟨k + 1, by go_num, by omega, HO2, HB2⟩
      case measure => simp [intOf]; omega
    · obtain rfl : k = 15 := by omega
      obtain ⟨A, c, rfl⟩ := own_formP hown.out
      obtain ⟨-, hst, -⟩ := strs_of_ownP hown.out
      have hA : A = none → c = 0 := fun q => by
        subst q
        rcases hown.out.2 with ⟨-, h0⟩ | ⟨g, cap, cur, hv, -⟩
        · omega
        · injection hv with hv; cases hv
      have HT := gsaTake_any A (knR 15) c wr hA hst (by decide)
      rw [knows27_take] at HT
      have HT2 : Hid (Calls Tryd.prog 25 #[.slice A 17 c] wr (GsaPost (⟨true, 1, [], (false, 0), (false, 0), (false, 0)⟩, 0) wr)) := HT
      clear hst hA HT hown
      go_wp2_with fail
      refine HT2.out.mono ?_
      rintro r w2 ⟨A2, n2, c2, rfl, hn2, hi2, hb2⟩
      simp only at hn2 hi2
      have hn2' : n2 = 0 := hn2.symm
      subst hn2'
      have hbn := below_new w2 (.cells (gsaC true 1 A2 0 c2 false 0 false 0 false 0) 50)
      have HC : Hid (∀ o, (w2.alloc (.cells (gsaC true 1 A2 0 c2 false 0 false 0 false 0) 50)).cell? ⟨w2.heap.size, o, none⟩ = (gsaC true 1 A2 0 c2 false 0 false 0 false 0)[o]?) := fun o => World.cell?_alloc_at _ _ _ _ rfl
      have HSM := Lib.hid (r27Same_same true 1 false 0 false 0 false 0 A2 none 0 c2 0 [] (w2.alloc (.cells (gsaC true 1 A2 0 c2 false 0 false 0 false 0) 50)) rfl (fun k hk => absurd hk (Nat.not_lt_zero _)) (fun k hk => absurd hk (Nat.not_lt_zero _)) (by omega))
      have HB3 := Lib.hid (Below.trans hb.out ((bthen hb2 hbn).mono hb.out.size))
      clear hbn hb2 hi2 hn2 HT2
      have m0 := HC.out 0
      have m1 := HC.out 1
      have m2 := HC.out 2
      have m3 := HC.out 3
      have m4 := HC.out 4
      have m5 := HC.out 5
      have m6 := HC.out 6
      have m7 := HC.out 7
      have m8 := HC.out 8
      go_wp2_with fail
      refine HSM.out.mono ?_
      rintro r w3 ⟨rfl, hb3⟩
      have HB4 := Lib.hid (Below.trans HB3.out (hb3.mono HB3.out.size))
      clear hb3
      go_wp2_with fail
      refine (num27_any _ _).mono ?_
      rintro e w' ⟨rfl, rfl⟩
      go_wp2_with fail
      go_ret
      exact ⟨by rfl, HB4.out⟩
theorem takeGsa_len (R : List ByteArray) : (takeGsa R).1.ids.length ≤ 12 := by
  unfold takeGsa
  split
  · exact Nat.zero_le _
  · split
    · exact rdIds_len 12 _
    · exact Nat.zero_le _
end Go.Proofs.YtkjmcgjlkheamaaDoor
