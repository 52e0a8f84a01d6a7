/- The law SentenceBack, walked. -/
import Derived.Test.YtleebikcakndnaaLaw22d
import Derived.IntWalk
import Derived.Deep.RegionHeld3
namespace Go.Proofs.Ytleebikcakndnaa
set_option linter.unusedVariables false
open Go.RowKit

theorem backS_below {w0 : World} {g h : Nat} {a b c d e f : Value} {C D : Option Addr} {fs : List ByteArray} {W W' : World} (hb : Below W.heap.size W W') (k : W.cell? ⟨g, 0, none⟩ = some a ∧ W.cell? ⟨g, 1, none⟩ = some b ∧ W.cell? ⟨g, 2, none⟩ = some c ∧ W.cell? ⟨h, 0, none⟩ = some d ∧ W.cell? ⟨h, 1, none⟩ = some e ∧ W.cell? ⟨h, 2, none⟩ = some f ∧ Hid (Strs W W.heap.size C fs) ∧ Hid (Strs W W.heap.size D fs) ∧ Hid (Below w0.heap.size w0 W) ∧ Hid (g < W.heap.size) ∧ Hid (h < W.heap.size)) :
    W'.cell? ⟨g, 0, none⟩ = some a ∧ W'.cell? ⟨g, 1, none⟩ = some b ∧ W'.cell? ⟨g, 2, none⟩ = some c ∧ W'.cell? ⟨h, 0, none⟩ = some d ∧ W'.cell? ⟨h, 1, none⟩ = some e ∧ W'.cell? ⟨h, 2, none⟩ = some f ∧ Hid (Strs W' W'.heap.size C fs) ∧ Hid (Strs W' W'.heap.size D fs) ∧ Hid (Below w0.heap.size w0 W') ∧ Hid (g < W'.heap.size) ∧ Hid (h < W'.heap.size) := by
  obtain ⟨k0, k1, k2, k3, k4, k5, k6, k7, k8, k9, k10⟩ := k
  obtain ⟨cc, _⟩ := bcell hb
  have hz := hb.size
  refine ⟨(cc g 0 k9.out).trans k0, (cc g 1 k9.out).trans k1, (cc g 2 k9.out).trans k2, (cc h 0 k10.out).trans k3, (cc h 1 k10.out).trans k4, (cc h 2 k10.out).trans k5, Lib.hid ((k6.out.below hb (Nat.le_refl _)).more hz), Lib.hid ((k7.out.below hb (Nat.le_refl _)).more hz), Lib.hid (bthen k8.out hb), Lib.hid (Nat.lt_of_lt_of_le k9.out hz), Lib.hid (Nat.lt_of_lt_of_le k10.out hz)⟩
theorem backS_start {w0 : World} {g h : Nat} {a b c d e f : Value} {C D : Option Addr} {fs : List ByteArray} {W : World} {r s : Nat → Option Value} (hg : ∀ o, W.cell? ⟨g, o, none⟩ = r o) (hh : ∀ o, W.cell? ⟨h, o, none⟩ = s o) (g0 : r 0 = some a) (g1 : r 1 = some b) (g2 : r 2 = some c) (h0 : s 0 = some d) (h1 : s 1 = some e) (h2 : s 2 = some f)
    (k6 : Strs W W.heap.size C fs) (k7 : Strs W W.heap.size D fs) (k8 : Below w0.heap.size w0 W) (k9 : g < W.heap.size) (k10 : h < W.heap.size) :
    W.drew.cell? ⟨g, 0, none⟩ = some a ∧ W.drew.cell? ⟨g, 1, none⟩ = some b ∧ W.drew.cell? ⟨g, 2, none⟩ = some c ∧ W.drew.cell? ⟨h, 0, none⟩ = some d ∧ W.drew.cell? ⟨h, 1, none⟩ = some e ∧ W.drew.cell? ⟨h, 2, none⟩ = some f ∧ Hid (Strs W.drew W.drew.heap.size C fs) ∧ Hid (Strs W.drew W.drew.heap.size D fs) ∧ Hid (Below w0.heap.size w0 W.drew) ∧ Hid (g < W.drew.heap.size) ∧ Hid (h < W.drew.heap.size) :=
  ⟨(hg 0).trans g0, (hg 1).trans g1, (hg 2).trans g2, (hh 0).trans h0, (hh 1).trans h1, (hh 2).trans h2, Lib.hid k6, Lib.hid k7, Lib.hid (bdrew k8), Lib.hid k9, Lib.hid k10⟩

set_option maxHeartbeats 4000000 in
theorem sentenceBack_ok_err (t y : ByteArray) (fs : List ByteArray) (A : Option Addr) (c : Nat) (u : ByteArray) (w : World) (hn : fs.length ≤ maxLen) (ht : t.size ≤ maxLen) (hy : y.size ≤ maxLen) (hs : Strs w w.heap.size A fs) (hfz : ∀ f ∈ fs, f.size ≤ maxLen) (hfew : fewB t y fs = true) (hu : u.size ≤ 500)
    (hE : (putS t y fs).2 = 0) (hg : (takeS u).2.2 ≠ 0) :
    Calls Try.prog 5 #[.agg #[.string t, .string y, .slice A fs.length c], .string u] w fun e w' => e = .returned (.bool true) ∧ Below w.heap.size w w' := by
  have hs1 : ∀ W, Below (w.heap.size + 1) (w.alloc (.cells #[.string t, .string y, .slice A fs.length c] 24)) W → Strs W W.heap.size A fs := fun W hb =>
    (((hs.below (below_new w _) (Nat.le_refl _)).below hb (by omega))).more (by have := hb.size; simp at this; omega)
  have HS := Lib.hid hs1
  clear hs1
  have HZ := Lib.hid hfz
  clear hfz hs
  have HN := Lib.hid hn
  clear hn
  have HF := fun W hb => Lib.hid (Few_any t y fs A c W HN.out ht hy (HS.out W hb) HZ.out)
  rw [hfew] at HF
  obtain ⟨f1, f2, f3, f4, f5⟩ := fewB_of hfew
  have HPut := fun W hb => Lib.hid (Put_any t y fs A c W (by omega) (by omega) (HS.out W hb))
  obtain ⟨tz, tp⟩ := take_put (M := u) hE
  obtain ⟨T, hT⟩ : ∃ T, putS t y fs = (T, 0) := ⟨(putS t y fs).1, by rw [← hE]⟩
  rw [hT] at tz tp
  replace tz : T.size ≤ 82 := tz
  unfold PutPost at HPut
  rw [hT] at HPut
  have HT1 := fun W => Lib.hid (Take_any (T ++ u) W (by rw [ByteArray.size_append]; omega))
  rw [tp] at HT1
  have HSame : ∀ (B : Option Addr) (d : Nat) (W : World), Strs W W.heap.size B fs → Strs W W.heap.size A fs → Hid (Calls Try.prog 14 #[.agg #[.string t, .string y, .slice B fs.length d], .agg #[.string t, .string y, .slice A fs.length c]] W fun e w' => e = .returned (.bool true) ∧ Below W.heap.size W w') := by
    intro B d W hA hB
    have := r22Same_any t y t y B A fs fs d c W HN.out hA hB
    rw [decide_eq_true (show t = t ∧ y = y ∧ fs = fs from ⟨rfl, rfl, rfl⟩)] at this
    exact this
  unfold SenPost at HT1
  clear tp hT hE
  dsimp only at HT1
  have HT2 := fun W => Lib.hid (Take_any u W (by omega))
  have hz := takeS_err hg
  rw [hz] at HT2
  generalize (takeS u).2.2 = G at *
  have hG : (G != 0) = true := by rw [bne_iff_ne]; exact hg
  have HSame2 : ∀ (B : Option Addr) (d : Nat) (W : World), Strs W W.heap.size B [] → Hid (Calls Try.prog 14 #[.agg #[.string ByteArray.empty, .string ByteArray.empty, .slice B 0 d], .agg #[.string ⟨#[]⟩, .string ⟨#[]⟩, .slice none 0 0]] W fun e w' => e = .returned (.bool true) ∧ Below W.heap.size W w') := by
    intro B d W hA
    exact r22Same_any ByteArray.empty ByteArray.empty ByteArray.empty ByteArray.empty B none [] [] d 0 W (by simp) hA (fun k hk => absurd hk (by simp))
  clear hz hg
  unfold SenPost at HT2
  simp only [List.length_nil, Int.natCast_zero] at HT2
  have HZZ := Lib.hid f4
  clear f4 hfew HZ f5
  have HA := fun W hb => Lib.hid (HS.out W hb)
  clear HS HN
  go_enter Try.func5, Try.ntmps5
  go_wp2_with fail
  refine (HF _ (by exact Below.refl _ _)).out.mono ?_
  rintro e w1 ⟨rfl, hb1⟩
  go_wp2_with fail
  refine (knows22_any _).mono ?_
  rintro e w2 ⟨rfl, hb2⟩
  have hb12 := bthen hb1 hb2
  obtain ⟨c2, _⟩ := bcell hb12
  go_wp2_with fail
  refine (HPut _ (by simpa using hb12)).out.mono ?_
  rintro e w3 ⟨rfl, hb3⟩
  clear c2
  have hb13 := bthen hb12 hb3
  obtain ⟨c3, _⟩ := bcell hb13
  go_wp2_with fail
  refine (HT1 _).out.mono ?_
  rintro e w4 ⟨B, d, rfl, hst2, hfr2, hb4⟩
  obtain ⟨c4, _⟩ := bcell hb4
  have hz4 := hb4.size
  have hz3 := hb13.size
  simp at hz3
  have hz5 : w.heap.size < w3.heap.size := hz3
  have hz6 : w.heap.size < w4.heap.size := by omega
  go_wp2_with fail
  refine (num22_any _ _).mono ?_
  rintro e w' ⟨rfl, rfl⟩
  go_wp2_with fail
  refine (num22_any _ _).mono ?_
  rintro e w' ⟨rfl, rfl⟩
  go_wp2_with fail
  have hb04 : Below w.heap.size w w4 := bthen (bthen (below_new w _) hb13) hb4
  have hbA : Below (w.heap.size + 1) (w.alloc (.cells #[.string t, .string y, .slice A fs.length c] 24)) (w4.alloc (.cells #[.string t, .string y, .slice B fs.length d] 24)) := ((by simpa using hb13 : Below (w.heap.size + 1) _ w3).trans (hb4.mono (by omega))).alloc (by omega) _
  refine (HSame B d _ ((hst2.below (below_new w4 _) (Nat.le_refl _)).more (by simp)) (HA _ hbA).out).out.mono ?_
  rintro e w5 ⟨rfl, hb5⟩
  go_wp2_with fail
  refine (num22_any _ _).mono ?_
  rintro e w' ⟨rfl, rfl⟩
  go_wp2_with fail
  have hb05 : Below w.heap.size w w5 := bthen (bthen hb04 (below_new _ _)) hb5
  refine (HT2 _).out.mono ?_
  rintro e w6 ⟨C, d2, rfl, hst3, hfr3, hb6⟩
  obtain ⟨c6, _⟩ := bcell hb6
  have hz7 := hb6.size
  go_wp2_with fail
  refine (num22_any _ _).mono ?_
  rintro e w' ⟨rfl, rfl⟩
  go_wp2_with fail
  refine (HSame2 C d2 _ ((hst3.below (below_new w6 _) (Nat.le_refl _)).more (by simp))).out.mono ?_
  rintro e w7 ⟨rfl, hb7⟩
  go_wp2_with fail
  go_ret
  exact ⟨rfl, bthen (bthen (bthen hb05 hb6) (below_new _ _)) hb7⟩

set_option maxHeartbeats 4000000 in
theorem sentenceBack_err_err (t y : ByteArray) (fs : List ByteArray) (A : Option Addr) (c : Nat) (u : ByteArray) (w : World) (hn : fs.length ≤ maxLen) (ht : t.size ≤ maxLen) (hy : y.size ≤ maxLen) (hs : Strs w w.heap.size A fs) (hfz : ∀ f ∈ fs, f.size ≤ maxLen) (hfew : fewB t y fs = true) (hu : u.size ≤ 500)
    (hE : (putS t y fs).2 ≠ 0) (hg : (takeS u).2.2 ≠ 0) :
    Calls Try.prog 5 #[.agg #[.string t, .string y, .slice A fs.length c], .string u] w fun e w' => e = .returned (.bool true) ∧ Below w.heap.size w w' := by
  have hs1 : ∀ W, Below (w.heap.size + 1) (w.alloc (.cells #[.string t, .string y, .slice A fs.length c] 24)) W → Strs W W.heap.size A fs := fun W hb =>
    (((hs.below (below_new w _) (Nat.le_refl _)).below hb (by omega))).more (by have := hb.size; simp at this; omega)
  have HS := Lib.hid hs1
  clear hs1
  have HZ := Lib.hid hfz
  clear hfz hs
  have HN := Lib.hid hn
  clear hn
  have HF := fun W hb => Lib.hid (Few_any t y fs A c W HN.out ht hy (HS.out W hb) HZ.out)
  rw [hfew] at HF
  obtain ⟨f1, f2, f3, f4, f5⟩ := fewB_of hfew
  have HPut := fun W hb => Lib.hid (Put_any t y fs A c W (by omega) (by omega) (HS.out W hb))
  obtain ⟨E, hT, hE1⟩ : ∃ E, putS t y fs = (ByteArray.empty, E) ∧ (E == 0) = false := by
    refine ⟨(putS t y fs).2, ?_, by rw [beq_eq_false_iff_ne]; exact hE⟩
    unfold putS at hE ⊢
    split
    · rfl
    · rename_i h1
      rw [if_neg h1] at hE
      split
      · rfl
      · rename_i h2
        rw [if_neg h2] at hE
        exact absurd rfl hE
  have hE2 : (E != 0) = true := by rw [bne_iff_ne]; rw [beq_eq_false_iff_ne] at hE1; exact hE1
  unfold PutPost at HPut
  rw [hT] at HPut
  have HT1 := fun W => Lib.hid (Take_any (ByteArray.empty ++ u) W (by rw [ByteArray.size_append]; have : ByteArray.empty.size = 0 := rfl; omega))
  unfold SenPost at HT1
  generalize takeS (ByteArray.empty ++ u) = R2 at *
  obtain ⟨⟨T2, Y2, fs2⟩, n2, E2⟩ := R2
  clear hT hE
  dsimp only at HT1
  generalize fs2.length = N2 at *
  have HT2 := fun W => Lib.hid (Take_any u W (by omega))
  have hz := takeS_err hg
  rw [hz] at HT2
  generalize (takeS u).2.2 = G at *
  have hG : (G != 0) = true := by rw [bne_iff_ne]; exact hg
  have HSame2 : ∀ (B : Option Addr) (d : Nat) (W : World), Strs W W.heap.size B [] → Hid (Calls Try.prog 14 #[.agg #[.string ByteArray.empty, .string ByteArray.empty, .slice B 0 d], .agg #[.string ⟨#[]⟩, .string ⟨#[]⟩, .slice none 0 0]] W fun e w' => e = .returned (.bool true) ∧ Below W.heap.size W w') := by
    intro B d W hA
    exact r22Same_any ByteArray.empty ByteArray.empty ByteArray.empty ByteArray.empty B none [] [] d 0 W (by simp) hA (fun k hk => absurd hk (by simp))
  clear hz hg
  unfold SenPost at HT2
  simp only [List.length_nil, Int.natCast_zero] at HT2
  have HZZ := Lib.hid f4
  clear f4 hfew HZ f5
  have HA := fun W hb => Lib.hid (HS.out W hb)
  clear HS HN
  go_enter Try.func5, Try.ntmps5
  go_wp2_with fail
  refine (HF _ (by exact Below.refl _ _)).out.mono ?_
  rintro e w1 ⟨rfl, hb1⟩
  go_wp2_with fail
  refine (knows22_any _).mono ?_
  rintro e w2 ⟨rfl, hb2⟩
  have hb12 := bthen hb1 hb2
  obtain ⟨c2, _⟩ := bcell hb12
  go_wp2_with fail
  refine (HPut _ (by simpa using hb12)).out.mono ?_
  rintro e w3 ⟨rfl, hb3⟩
  clear c2
  have hb13 := bthen hb12 hb3
  obtain ⟨c3, _⟩ := bcell hb13
  go_wp2_with fail
  refine (HT1 _).out.mono ?_
  rintro e w4 ⟨B, d, rfl, hst2, hfr2, hb4⟩
  obtain ⟨c4, _⟩ := bcell hb4
  have hz4 := hb4.size
  have hz3 := hb13.size
  simp at hz3
  have hz5 : w.heap.size < w3.heap.size := hz3
  have hz6 : w.heap.size < w4.heap.size := by omega
  go_wp2_with fail
  refine (num22_any _ _).mono ?_
  rintro e w' ⟨rfl, rfl⟩
  go_wp2_with fail
  refine (num22_any _ _).mono ?_
  rintro e w' ⟨rfl, rfl⟩
  go_wp2_with fail
  have hb04 : Below w.heap.size w w4 := bthen (bthen (below_new w _) hb13) hb4
  have hb05 : Below w.heap.size w _ := bthen hb04 (below_new w4 (.cells #[.string T2, .string Y2, .slice B N2 d] 24))
  refine (HT2 _).out.mono ?_
  rintro e w6 ⟨C, d2, rfl, hst3, hfr3, hb6⟩
  obtain ⟨c6, _⟩ := bcell hb6
  have hz7 := hb6.size
  go_wp2_with fail
  refine (num22_any _ _).mono ?_
  rintro e w' ⟨rfl, rfl⟩
  go_wp2_with fail
  refine (HSame2 C d2 _ ((hst3.below (below_new w6 _) (Nat.le_refl _)).more (by simp))).out.mono ?_
  rintro e w7 ⟨rfl, hb7⟩
  go_wp2_with fail
  go_ret
  exact ⟨rfl, bthen (bthen (bthen hb05 hb6) (below_new _ _)) hb7⟩

end Go.Proofs.Ytleebikcakndnaa
