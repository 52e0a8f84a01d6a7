/- The law SentenceBack, walked. -/
import Derived.Test.YtleebikcakndnaaLaw22e
import Derived.IntWalk
import Derived.Deep.RegionHeld3
namespace Go.Proofs.Ytleebikcakndnaa
set_option linter.unusedVariables false
open Go.RowKit

set_option maxHeartbeats 4000000 in
theorem sentenceBack_ok_ok (t y : ByteArray) (fs : List ByteArray) (A : Option Addr) (c : Nat) (u : ByteArray) (w : World) (hn : fs.length ≤ maxLen) (ht : t.size ≤ maxLen) (hy : y.size ≤ maxLen) (hs : Strs w w.heap.size A fs) (hfz : ∀ f ∈ fs, f.size ≤ maxLen) (hfew : fewB t y fs = true) (hu : u.size ≤ 500)
    (hE : (putS t y fs).2 = 0) (hg : (takeS u).2.2 = 0) :
    Calls Try.prog 5 #[.agg #[.string t, .string y, .slice A fs.length c], .string u] w fun e w' => e = .returned (.bool true) ∧ Below w.heap.size w w' := by
  have hs1 : ∀ W, Below (w.heap.size + 1) (w.alloc (.cells #[.string t, .string y, .slice A fs.length c] 24)) W → Strs W W.heap.size A fs := fun W hb =>
    (((hs.below (below_new w _) (Nat.le_refl _)).below hb (by omega))).more (by have := hb.size; simp at this; omega)
  have HS := Lib.hid hs1
  clear hs1
  have HZ := Lib.hid hfz
  clear hfz hs
  have HN := Lib.hid hn
  clear hn
  have HF := fun W hb => Lib.hid (Few_any t y fs A c W HN.out ht hy (HS.out W hb) HZ.out)
  rw [hfew] at HF
  obtain ⟨f1, f2, f3, f4, f5⟩ := fewB_of hfew
  have HPut := fun W hb => Lib.hid (Put_any t y fs A c W (by omega) (by omega) (HS.out W hb))
  obtain ⟨tz, tp⟩ := take_put (M := u) hE
  obtain ⟨T, hT⟩ : ∃ T, putS t y fs = (T, 0) := ⟨(putS t y fs).1, by rw [← hE]⟩
  rw [hT] at tz tp
  replace tz : T.size ≤ 82 := tz
  unfold PutPost at HPut
  rw [hT] at HPut
  have HT1 := fun W => Lib.hid (Take_any (T ++ u) W (by rw [ByteArray.size_append]; omega))
  rw [tp] at HT1
  have HSame : ∀ (B : Option Addr) (d : Nat) (W : World), Strs W W.heap.size B fs → Strs W W.heap.size A fs → Hid (Calls Try.prog 14 #[.agg #[.string t, .string y, .slice B fs.length d], .agg #[.string t, .string y, .slice A fs.length c]] W fun e w' => e = .returned (.bool true) ∧ Below W.heap.size W w') := by
    intro B d W hA hB
    have := r22Same_any t y t y B A fs fs d c W HN.out hA hB
    rw [decide_eq_true (show t = t ∧ y = y ∧ fs = fs from ⟨rfl, rfl, rfl⟩)] at this
    exact this
  unfold SenPost at HT1
  clear tp hT hE
  dsimp only at HT1
  have HT2 := fun W => Lib.hid (Take_any u W (by omega))
  obtain ⟨P, x1, y1, M, hwhole, hP, hx1⟩ := take_is hg
  have hz : takeS u = (partsL P, P.length + 6, 0) := by rw [hwhole]; exact take_form hP hx1
  obtain ⟨x2, y2, hx2, hput⟩ := put_parts hP
  have hz2 : takeS (toB (wholeL P x2 y2 [])) = (partsL P, P.length + 6, 0) := take_form hP hx2
  have hU : (toB (wholeL P x2 y2 [])).size = P.length + 6 := by rw [size_B, whole_len, List.length_nil, Nat.add_zero]
  have hul : P.length + 6 ≤ u.size := by rw [hwhole, size_B, whole_len]; omega
  have hpre : ∀ (x y : UInt8) (M : List UInt8), (toB (wholeL P x y M)).extract 0 (P.length + 2) = toB (36 :: (P ++ [42])) := by
    intro x y M
    have e : wholeL P x y M = (36 :: (P ++ [42])) ++ ([x, y, 13, 10] ++ M) := by simp [wholeL]
    rw [extract_list, toList_B, e, List.drop_zero, Nat.sub_zero, List.take_left' (by simp)]
  have hcut : ((toB (wholeL P x2 y2 [])).extract 0 (P.length + 2)) = (u.extract 0 (P.length + 2)) := by rw [hwhole, hpre, hpre]
  have hcut2 := beq_text ((toB (wholeL P x2 y2 [])).extract 0 (P.length + 2)) (u.extract 0 (P.length + 2))
  rw [decide_eq_true hcut] at hcut2
  have hfl : (partsL P).2.2.length ≤ 501 := by have := takeS_len u; rw [hz] at this; show (partsL P).2.2.length ≤ _; exact Nat.le_trans this (by omega)
  have hfl2 := Lib.hid hfl
  rw [hz] at HT2
  have HT3 := fun W => Lib.hid (Take_any (toB (wholeL P x2 y2 [])) W (by rw [hU]; omega))
  rw [hz2] at HT3
  have pz := parts_small hP
  obtain ⟨p1, p2, _⟩ := hP
  clear hg hz hz2 hwhole hx1 hx2 hpre hcut hfl
  generalize toB (wholeL P x2 y2 []) = U at *
  generalize hk : P.length = K at *
  clear hk
  generalize partsL P = R3 at *
  obtain ⟨T3, Y3, fs3⟩ := R3
  have HPut3 := fun (B : Option Addr) (d : Nat) W hb => Lib.hid (Put_any T3 Y3 fs3 B d W pz.1 pz.2 hb)
  unfold PutPost at HPut3
  rw [hput] at HPut3
  have HSame2 : ∀ (B C : Option Addr) (d d2 : Nat) (W : World), Strs W W.heap.size B fs3 → Strs W W.heap.size C fs3 → Hid (Calls Try.prog 14 #[.agg #[.string T3, .string Y3, .slice B fs3.length d], .agg #[.string T3, .string Y3, .slice C fs3.length d2]] W fun e w' => e = .returned (.bool true) ∧ Below W.heap.size W w') := by
    intro B C d d2 W hA hB
    have := r22Same_any T3 Y3 T3 Y3 B C fs3 fs3 d d2 W (by have := hfl2.out; unfold maxLen; simp at this; omega) hA hB
    rw [decide_eq_true (show T3 = T3 ∧ Y3 = Y3 ∧ fs3 = fs3 from ⟨rfl, rfl, rfl⟩)] at this
    exact this
  have HQ := Lib.hid hcut2
  clear hput pz hfl2 hcut2
  have eU : (U.size : Int) = (K : Int) + 6 := by omega
  have eK : ((K + 6 : Nat) : Int) = (K : Int) + 6 := by omega
  unfold SenPost at HT2 HT3
  dsimp only at HT2 HT3
  simp only [eK] at HT2 HT3
  have HZZ := Lib.hid f4
  clear f4 hfew HZ f5
  have HA := fun W hb => Lib.hid (HS.out W hb)
  clear HS HN
  go_enter Try.func5, Try.ntmps5
  go_wp2_with fail
  refine (HF _ (by exact Below.refl _ _)).out.mono ?_
  rintro e w1 ⟨rfl, hb1⟩
  go_wp2_with fail
  refine (knows22_any _).mono ?_
  rintro e w2 ⟨rfl, hb2⟩
  have hb12 := bthen hb1 hb2
  obtain ⟨c2, _⟩ := bcell hb12
  go_wp2_with fail
  refine (HPut _ (by simpa using hb12)).out.mono ?_
  rintro e w3 ⟨rfl, hb3⟩
  clear c2
  have hb13 := bthen hb12 hb3
  obtain ⟨c3, _⟩ := bcell hb13
  go_wp2_with fail
  refine (HT1 _).out.mono ?_
  rintro e w4 ⟨B, d, rfl, hst2, hfr2, hb4⟩
  obtain ⟨c4, _⟩ := bcell hb4
  have hz4 := hb4.size
  have hz3 := hb13.size
  simp at hz3
  have hz5 : w.heap.size < w3.heap.size := hz3
  have hz6 : w.heap.size < w4.heap.size := by omega
  go_wp2_with fail
  refine (num22_any _ _).mono ?_
  rintro e w' ⟨rfl, rfl⟩
  go_wp2_with fail
  refine (num22_any _ _).mono ?_
  rintro e w' ⟨rfl, rfl⟩
  go_wp2_with fail
  have hb04 : Below w.heap.size w w4 := bthen (bthen (below_new w _) hb13) hb4
  have hbA : Below (w.heap.size + 1) (w.alloc (.cells #[.string t, .string y, .slice A fs.length c] 24)) (w4.alloc (.cells #[.string t, .string y, .slice B fs.length d] 24)) := ((by simpa using hb13 : Below (w.heap.size + 1) _ w3).trans (hb4.mono (by omega))).alloc (by omega) _
  refine (HSame B d _ ((hst2.below (below_new w4 _) (Nat.le_refl _)).more (by simp)) (HA _ hbA).out).out.mono ?_
  rintro e w5 ⟨rfl, hb5⟩
  go_wp2_with fail
  refine (num22_any _ _).mono ?_
  rintro e w' ⟨rfl, rfl⟩
  go_wp2_with fail
  have hb05 : Below w.heap.size w w5 := bthen (bthen hb04 (below_new _ _)) hb5
  refine (HT2 _).out.mono ?_
  rintro e w6 ⟨C, d2, rfl, hst3, hfr3, hb6⟩
  obtain ⟨c6, _⟩ := bcell hb6
  have hz7 := hb6.size
  go_wp2_with fail
  refine (num22_any _ _).mono ?_
  rintro e w' ⟨rfl, rfl⟩
  go_wp2_with fail
  have hst4 := (hst3.below (below_new w6 (.cells #[.string T3, .string Y3, .slice C fs3.length d2] 24)) (Nat.le_refl _)).more (show w6.heap.size ≤ (w6.alloc (.cells #[.string T3, .string Y3, .slice C fs3.length d2] 24)).heap.size by simp)
  refine (HPut3 C d2 _ hst4).out.mono ?_
  rintro e w7 ⟨rfl, hb7⟩
  obtain ⟨c7, _⟩ := bcell hb7
  have hz8 := hb7.size
  simp at hz8
  have hz9 : w6.heap.size < w7.heap.size := hz8
  go_wp2_with fail
  refine (HT3 _).out.mono ?_
  rintro e w8 ⟨D, d3, rfl, hst5, hfr5, hb8⟩
  obtain ⟨c8, _⟩ := bcell hb8
  have hz10 := hb8.size
  have hz11 : w6.heap.size < w8.heap.size := by omega
  go_wp2_with fail
  have i1 : (K : Int) + 6 ≤ (u.size : Int) := by omega
  have i2 : IntKind.i64.wrap ((K : Int) + 6 - 4) = (K : Int) + 2 := by rw [show (K : Int) + 6 - 4 = (K : Int) + 2 from by omega]; exact IntWalk.i64_in _ (by omega)
  have i3 : ((K : Int) + 2).toNat = K + 2 := by omega
  have i4 : (0 : Int) ≤ (K : Int) + 2 := by omega
  have i5 : (K : Int) + 2 ≤ (U.size : Int) := by omega
  have i6 : (K : Int) + 2 ≤ (u.size : Int) := by omega
  have hq := HQ.out
  have hW : Below w8.heap.size w8 (w8.alloc (.cells #[.string T3, .string Y3, .slice D fs3.length d3] 24)) := below_new w8 _
  have hstC := ((hst4.below hb7 (Nat.le_refl _)).below hb8 hb7.size).below hW (Nat.le_trans hb7.size hb8.size)
  have hstD := hst5.below hW (Nat.le_refl _)
  have HS0 := Lib.hid (backS_start (w0 := w) (g := w6.heap.size) (h := w8.heap.size) (W := w8.alloc (.cells #[.string T3, .string Y3, .slice D fs3.length d3] 24)) (a := .string T3) (b := .string Y3) (c := .slice C fs3.length d2) (d := .string T3) (e := .string Y3) (f := .slice D fs3.length d3) (C := C) (D := D) (fs := fs3) (r := fun o => (#[Value.string T3, .string Y3, .slice C fs3.length d2] : Array Value)[o]?) (s := fun o => (#[Value.string T3, .string Y3, .slice D fs3.length d3] : Array Value)[o]?)
    (fun o => (World.cell?_alloc_lt w8 _ ⟨w6.heap.size, o, none⟩ hz11).trans ((c8 w6.heap.size o hz9).trans ((c7 w6.heap.size o (by simp)).trans (World.cell?_alloc_new _ _ _ _))))
    (fun o => World.cell?_alloc_new w8 _ _ o) rfl rfl rfl rfl rfl rfl (hstC.more (Nat.le_trans (Nat.le_trans hb7.size hb8.size) hW.size)) (hstD.more hW.size) (bthen (bthen (bthen (bthen hb05 hb6) (below_new _ _)) (bthen hb7 hb8)) hW) (by simp; omega) (by simp))
  try clear hb5
  clear hstC hstD hst4 hst5 hst3 hb7 hb8 hb6 hb05 hb04 hb13 hb12 hb1 hb2 hb3 hb4 c3 c4 c6 c7 c8 hz3 hz4 hz5 hz6 hz7 hz8 hz9 hz10 hz11 hst2 hfr2 hfr3 hfr5 hW HPut HT1 HT2 HT3 HPut3 HF HA HZZ
  go_region_held3 (fun w' => w'.cell? ⟨w6.heap.size, 0, none⟩ = some (.string T3) ∧ w'.cell? ⟨w6.heap.size, 1, none⟩ = some (.string Y3) ∧ w'.cell? ⟨w6.heap.size, 2, none⟩ = some (.slice C fs3.length d2) ∧ w'.cell? ⟨w8.heap.size, 0, none⟩ = some (.string T3) ∧ w'.cell? ⟨w8.heap.size, 1, none⟩ = some (.string Y3) ∧ w'.cell? ⟨w8.heap.size, 2, none⟩ = some (.slice D fs3.length d3) ∧ Hid (Strs w' w'.heap.size C fs3) ∧ Hid (Strs w' w'.heap.size D fs3) ∧ Hid (Below w.heap.size w w') ∧ Hid (w6.heap.size < w'.heap.size) ∧ Hid (w8.heap.size < w'.heap.size)) (first | exact HS0.out | assumption | (refine backS_below (by assumption) ?_; assumption) | (go_split_ands; refine ⟨?_, ?_, ?_, ?_, ?_, ?_, ?_, ?_, ?_, ?_, ?_⟩ <;> assumption) | (go_split_ands; refine backS_below (by assumption) ⟨?_, ?_, ?_, ?_, ?_, ?_, ?_, ?_, ?_, ?_, ?_⟩ <;> assumption)) (first | (go_at_call 11; refine (num22_any _ _).mono ?_; rintro e w' ⟨rfl, rfl⟩) | (go_at_call 14; go_split_ands; refine (HSame2 C D d2 d3 _ (Hid.out (by assumption)) (Hid.out (by assumption))).out.mono ?_; rintro e w9 ⟨rfl, hb9⟩))
  all_goals
    go_wp2_with fail
    go_ret
    go_split_ands
    exact ⟨rfl, Hid.out (by assumption)⟩

end Go.Proofs.Ytleebikcakndnaa
