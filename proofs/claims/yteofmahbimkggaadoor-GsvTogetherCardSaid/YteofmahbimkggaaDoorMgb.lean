/- Layer 29: Put. Printed by gengsv3.py. -/
import Derived.Test.YteofmahbimkggaaDoorMga
import Derived.Test.YteofmahbimkggaaDoorMvc
namespace Go.Proofs.YteofmahbimkggaaDoor
set_option linter.unusedVariables false
open Go.RowKit

def viewC (v : V4) : List Value := [.bool v.1.1, .int .i64 v.1.2, .bool v.2.1.1, .int .i64 v.2.1.2, .bool v.2.2.1.1, .int .i64 v.2.2.1.2, .bool v.2.2.2.1, .int .i64 v.2.2.2.2]
/-- A slice of views, read as a list. -/
def Vws (w : World) (B : Nat) (A : Option Addr) (l : List V4) : Prop :=
  ∀ k (hk : k < l.length), ∃ b off, A = some ⟨b, off, none⟩ ∧ b < B ∧ ∀ (j : Nat) u, (viewC l[k])[j]? = some u → w.cell? ⟨b, off + 8 * k + j, none⟩ = some u
theorem Vws.below {w w' : World} {B B' : Nat} {A : Option Addr} {l : List V4} (h : Vws w B A l) (hb : Below B' w w') (hB : B ≤ B') : Vws w' B A l := by
  intro k hk
  obtain ⟨b, off, h1, h2, h3⟩ := h k hk
  exact ⟨b, off, h1, h2, fun j u hu => (hb.cell (p := ⟨b, off + 8 * k + j, none⟩) (by show b < B'; omega)).trans (h3 j u hu)⟩
theorem Vws.more {w : World} {B B' : Nat} {A : Option Addr} {l : List V4} (h : Vws w B A l) (hB : B ≤ B') : Vws w B' A l := by
  intro k hk
  obtain ⟨b, off, h1, h2, h3⟩ := h k hk
  exact ⟨b, off, h1, by omega, h3⟩
abbrev gsvC (T N S : Int) (A : Option Addr) (n c : Nat) : Array Value := #[.int .i64 T, .int .i64 N, .int .i64 S, .slice A n c]
abbrev gsvV (T N S : Int) (A : Option Addr) (n c : Nat) : Value := .agg (gsvC T N S A n c)
theorem wrDig_len (lo hi n : Int) (s : Rd) : (wrDig lo hi n s).2.length = s.2.length + 1 := by rw [wrDig_text, wrText_len]
theorem wrDigR_len (lo hi n : Int) (s : Rd) : (wrDigR lo hi n s).2.length ≤ s.2.length + 1 := by
  unfold wrDigR
  split
  · exact Nat.le_succ _
  · rw [wrText_len]; exact Nat.le_refl _
theorem wrView_len (v : V4) (s : Rd) : (wrView v s).2.length = s.2.length + 4 := by unfold wrView; rw [wrNum_len, wrNum_len, wrNum_len, wrNum_len]
theorem wrViews_len (l : List V4) : ∀ s : Rd, (wrViews l s).2.length = s.2.length + 4 * l.length := by
  induction l with
  | nil => exact fun s => by simp [wrViews]
  | cons v l ih =>
    intro s
    show (wrViews l (wrView v s)).2.length = _
    rw [ih, wrView_len, List.length_cons]
    omega
theorem wrViews_snoc (l : List V4) (k : Nat) (h : k < l.length) (s : Rd) : wrViews (l.take (k + 1)) s = wrView l[k] (wrViews (l.take k) s) := by
  unfold wrViews
  rw [List.take_succ_eq_append_getElem h, List.foldl_append]
  rfl
theorem textsNone (w w' : World) (hb : Below w.heap.size w w') : TextsPost [] w (.slice none 0 0) w' := ⟨none, 0, rfl, fun _ => rfl, fun k hk => absurd hk (by simp), FreshA.none_, hb⟩

set_option maxRecDepth 8000 in
theorem gsvPut_long (T N S : Int) (A : Option Addr) (n c : Nat) (w : World) (hn : (4 : Int) < (n : Int)) (hm : n ≤ 1000000) : Calls Tryd.prog 11 #[gsvV T N S A n c] w (PutPost ([], 7) w) := by
  go_enter Tryd.func11, Tryd.ntmps11
  go_wp2
  go_ret2
  exact ⟨_, rfl, textsNone _ _ (below_new _ _)⟩
set_option maxRecDepth 8000 in
set_option maxHeartbeats 8000000 in
theorem gsvPut_ok (T N S : Int) (A : Option Addr) (n c : Nat) (L : List V4) (w : World) (hn : Hid (L.length = n)) (hs : Hid (Vws w w.heap.size A L)) (h4 : n ≤ 4) : Calls Tryd.prog 11 #[gsvV T N S A n c] w (PutPost (putGsv ⟨T, N, S, L⟩) w) := by
  obtain ⟨s1, e1⟩ : ∃ s, Hid (wrText (digS 1 9 T) (digE 1 9 T) (0, []) = s) := ⟨_, rfl⟩
  obtain ⟨s2, e2⟩ : ∃ s, Hid (wrText (digS 1 (min T 9) N) (digE 1 (min T 9) N) s1 = s) := ⟨_, rfl⟩
  obtain ⟨s3, e3⟩ : ∃ s, Hid (wrNum 1 2 0 0 99 (true, S) s2 = s) := ⟨_, rfl⟩
  have HPUT : Hid (putGsv ⟨T, N, S, L⟩ = wrDone (wrViews L s3)) := by
    show _ = _
    unfold putGsv
    rw [if_neg (by show ¬ 4 < L.length; rw [hn.out]; omega)]
    simp only
    rw [wrDig_text 1 9, e1.out, wrDig_text, e2.out, e3.out]
  have l1 : s1.2.length = 1 := by rw [← e1.out, wrText_len]; rfl
  have l2 : s2.2.length = 2 := by rw [← e2.out, wrText_len, l1]
  have l3 : s3.2.length = 3 := by rw [← e3.out, wrNum_len, l2]
  rw [HPUT.out]
  clear HPUT
  obtain ⟨X, hX⟩ : ∃ X, wrDone (wrViews L s3) = X := ⟨_, rfl⟩
  have HX := Lib.hid hX
  rw [hX]
  clear hX
  have HD1 : ∀ W, Hid (Calls Tryd.prog 18 #[.int .i64 T, .int .i64 9] W fun e w' => e = .returned (.tuple #[.string (digS 1 9 T), .int .i64 (digE 1 9 T)]) ∧ Below W.heap.size W w') := fun W => gsvdigit_any T 9 W
  have HD2 := fun W => Lib.hid (gsvdigit_any N T W)
  have HM0 : Hid (∀ o, (w.alloc (.cells (gsvC T N S A n c) 26)).cell? ⟨w.heap.size, o, none⟩ = (gsvC T N S A n c)[o]?) := fun o => World.cell?_alloc_at _ _ _ _ rfl
  have HB0 := Lib.hid (below_new w (.cells (gsvC T N S A n c) 26))
  have HZ0 : Hid ((w.alloc (.cells (gsvC T N S A n c) 26)).heap.size = w.heap.size + 1) := by show _ = _; simp
  have i0 : (n : Int) ≤ 4 := by omega
  go_enter Tryd.func11, Tryd.ntmps11
  go_wp2_with fail
  generalize hW1 : w.alloc (.cells (gsvC T N S A n c) 26) = W1 at *
  clear hW1
  refine penRow.mono ?_
  rintro r w2 ⟨rfl, hp2, hb2, hz2⟩
  have hz0 := HZ0.out
  have HM : Hid (∀ o, w2.cell? ⟨w.heap.size, o, none⟩ = (gsvC T N S A n c)[o]?) := fun o => ((bcell hb2).1 _ o (by omega)).trans (HM0.out o)
  have HB2 := Lib.hid (bthen HB0.out (hb2.mono (by omega : w.heap.size + 1 ≤ W1.heap.size) |>.mono (by omega : w.heap.size + 1 ≤ w.heap.size + 1) |> fun h => (by rw [hz0]; exact h)))
  have HS2 : Hid (Vws w2 w.heap.size A L) := hs.out.below HB2.out (Nat.le_refl _)
  obtain ⟨S0, hS⟩ : ∃ S0, (fun k => k < W1.heap.size + 1) = S0 := ⟨_, rfl⟩
  have sW : Hid (∀ k, k < W1.heap.size + 1 → S0 k) := fun k hk => by rw [← hS]; exact hk
  rw [hS] at hp2
  have HK0 : Hid (PenI S0 W1.heap.size (0, []) w2 ∧ Kept S0 W1.heap.size w2 w2) := ⟨hp2, Kept.refl _ _ _⟩
  have hgw : w.heap.size < W1.heap.size := by omega
  clear hp2 hb2 hz2 hS HM0 HB0 HZ0 hz0
  generalize W1.heap.size = g at *

  have m0 := HM.out 0
  go_wp2_with fail
  refine (HD1 _).out.mono ?_
  rintro r x1 ⟨rfl, hb⟩
  have hk := Kept.of_below (S := S0) (g := g) hb HK0.out.1.bd
  have HK1 : Hid (PenI S0 g (0, []) x1 ∧ Kept S0 g w2 x1) := ⟨HK0.out.1.keep hb, HK0.out.2.trans hk⟩
  clear hb hk HK0 m0
  go_wp2_with fail
  refine (penText e1 HK1.out.1 (by decide)).mono ?_
  rintro r x2 ⟨rfl, hp, hk⟩
  have HK2 : Hid (PenI S0 g s1 x2 ∧ Kept S0 g w2 x2) := ⟨hp, HK1.out.2.trans hk⟩
  clear hp hk HK1
  have m0 := (HK2.out.2.cell (b := w.heap.size) (o := 0) (sW.out _ (by omega)) (by omega)).trans (HM.out 0)
  have m1 := (HK2.out.2.cell (b := w.heap.size) (o := 1) (sW.out _ (by omega)) (by omega)).trans (HM.out 1)
  go_wp2_with fail
  refine (HD2 _).out.mono ?_
  rintro r x3 ⟨rfl, hb⟩
  have hk := Kept.of_below (S := S0) (g := g) hb HK2.out.1.bd
  have HK3 : Hid (PenI S0 g s1 x3 ∧ Kept S0 g w2 x3) := ⟨HK2.out.1.keep hb, HK2.out.2.trans hk⟩
  clear hb hk HK2 m0 m1
  go_wp2_with fail
  refine (penText e2 HK3.out.1 (by omega)).mono ?_
  rintro r x4 ⟨rfl, hp, hk⟩
  have HK4 : Hid (PenI S0 g s2 x4 ∧ Kept S0 g w2 x4) := ⟨hp, HK3.out.2.trans hk⟩
  clear hp hk HK3
  have m2 := (HK4.out.2.cell (b := w.heap.size) (o := 2) (sW.out _ (by omega)) (by omega)).trans (HM.out 2)
  go_upto_region 6 with fail
  go_cut [] (fun wx => Hid (PenI S0 g s3 wx ∧ Kept S0 g w2 wx))
  case first =>
    go_region_with (first | (go_at_call 20; refine (gsvseen_any _).mono ?_; rintro r y1 ⟨rfl, hb2⟩; have k2 := Lib.hid (Kept.undrew (Kept.of_below (S := S0) (g := g) hb2 HK4.out.1.bd)); have R2 := Lib.hid (HK4.out.1.keep (w' := y1) (Below.trans (bdrew (Below.refl _ _)) hb2)); have q2 := (k2.out.cell (b := w.heap.size) (o := 2) (sW.out _ (by omega)) (by omega)).trans m2) | (go_at_call 19; refine (penNum e3 R2.out (by omega)).mono ?_; rintro r y3 ⟨rfl, hp3, hk3⟩))
    all_goals go_wp2_with fail
    all_goals go_meet
    all_goals exact Lib.hid ⟨hp3, HK4.out.2.trans (k2.out.trans hk3)⟩
  case rest =>
  have HK5 := hcut
  clear hcut HK4 m2
  have m3 := (HK5.out.2.cell (b := w.heap.size) (o := 3) (sW.out _ (by omega)) (by omega)).trans (HM.out 3)
  go_wp2_with fail
  have HZ2 : Hid (w.heap.size < g) := by show _ < _; omega
  have HI0 : Hid (∃ sk, sk = wrViews (L.take 0) s3 ∧ sk.2.length = 3 + 4 * 0 ∧ PenI S0 g sk _ ∧ Kept S0 g w2 _) := ⟨s3, rfl, l3, HK5.out.1, HK5.out.2⟩
  clear HK5 m3
  go_loopw [37] (fun i wr => ∃ k : Nat, i = .int .i64 (k : Int) ∧ k ≤ n ∧ Hid (∃ sk, sk = wrViews (L.take k) s3 ∧ sk.2.length = 3 + 4 * k ∧ PenI S0 g sk wr ∧ Kept S0 g w2 wr)) (fun i _ => n - (intOf i).toNat)
  case atStart => exact ⟨0, rfl, Nat.zero_le _, HI0⟩
  case round =>
    obtain ⟨k, rfl, hk, hI⟩ := hrel
    obtain ⟨sk, hsk, hlk, hpk, hkk⟩ := hI.out
    by_cases hlt : k < n
    · have hkl : k < L.length := by rw [hn.out]; exact hlt
      obtain ⟨b, off, hAb, hb, hc⟩ := HS2.out k hkl
      have HNX := Lib.hid (wrViews_snoc L k hkl s3)
      rw [← hsk] at HNX
      subst hAb
      generalize L[k] = v at *
      obtain ⟨⟨vb0, vn0⟩, ⟨vb1, vn1⟩, ⟨vb2, vn2⟩, ⟨vb3, vn3⟩⟩ := v
      have hc1 : ∀ (j : Nat) u, (viewC ((vb0, vn0), (vb1, vn1), (vb2, vn2), (vb3, vn3)))[j]? = some u → wr.cell? ⟨b, off + k * 8 + j, none⟩ = some u := fun j u hu => by
        rw [show off + k * 8 + j = off + 8 * k + j from by omega]
        exact (hkk.cell (sW.out _ (by have := HZ2.out; omega)) (by have := HZ2.out; omega)).trans (hc j u hu)
      have x0 : wr.cell? ⟨b, off + k * 8, none⟩ = some (.bool vb0) := hc1 0 _ rfl
      have x1 := hc1 1 _ rfl
      have x2 := hc1 2 _ rfl
      have x3 := hc1 3 _ rfl
      have x4 := hc1 4 _ rfl
      have x5 := hc1 5 _ rfl
      have x6 := hc1 6 _ rfl
      have x7 := hc1 7 _ rfl
      have i3 : (k : Int) < (n : Int) := by omega
      have i4 : (0 : Int) ≤ (k : Int) := by omega
      obtain ⟨q1, f0⟩ : ∃ s, Hid (wrNum 1 3 0 1 255 (vb0, vn0) sk = s) := ⟨_, rfl⟩
      obtain ⟨q2, f1⟩ : ∃ s, Hid (wrNum 1 2 0 0 90 (vb1, vn1) q1 = s) := ⟨_, rfl⟩
      obtain ⟨q3, f2⟩ : ∃ s, Hid (wrNum 1 3 0 0 359 (vb2, vn2) q2 = s) := ⟨_, rfl⟩
      obtain ⟨q4, f3⟩ : ∃ s, Hid (wrNum 1 2 0 0 99 (vb3, vn3) q3 = s) := ⟨_, rfl⟩
      have HQ : Hid (q4 = wrViews (L.take (k + 1)) s3) := by
        show _ = _
        rw [HNX.out]
        unfold wrView
        simp only
        rw [f0.out, f1.out, f2.out, f3.out]
      have lq1 : q1.2.length = 4 + 4 * k := by rw [← f0.out, wrNum_len]; omega
      have lq2 : q2.2.length = 5 + 4 * k := by rw [← f1.out, wrNum_len]; omega
      have lq3 : q3.2.length = 6 + 4 * k := by rw [← f2.out, wrNum_len]; omega
      have lq4 : q4.2.length = 7 + 4 * k := by rw [← f3.out, wrNum_len]; omega
      have hb9 := below_new wr (.cells #[.bool vb0, .int .i64 vn0, .bool vb1, .int .i64 vn1, .bool vb2, .int .i64 vn2, .bool vb3, .int .i64 vn3] 53)
      have hp9 := hpk.also hb9
      have hcv : ∀ o, (wr.alloc (.cells #[.bool vb0, .int .i64 vn0, .bool vb1, .int .i64 vn1, .bool vb2, .int .i64 vn2, .bool vb3, .int .i64 vn3] 53)).cell? ⟨wr.heap.size, o, none⟩ = (#[Value.bool vb0, .int .i64 vn0, .bool vb1, .int .i64 vn1, .bool vb2, .int .i64 vn2, .bool vb3, .int .i64 vn3] : Array Value)[o]? := fun o => World.cell?_alloc_at _ _ _ _ rfl
      have hk9 : Kept S0 g wr (wr.alloc (.cells #[.bool vb0, .int .i64 vn0, .bool vb1, .int .i64 vn1, .bool vb2, .int .i64 vn2, .bool vb3, .int .i64 vn3] 53)) := Kept.of_below hb9 hpk.bd
      have hsv : Also S0 wr (wr.alloc (.cells #[.bool vb0, .int .i64 vn0, .bool vb1, .int .i64 vn1, .bool vb2, .int .i64 vn2, .bool vb3, .int .i64 vn3] 53)) wr.heap.size := .inr ⟨Nat.le_refl _, by simp⟩
      have hgr : g < wr.heap.size := hpk.choose_spec.1.2.2.2.2.1
      have HKK := Lib.hid (hkk.trans hk9)
      have HLS : Hid (∀ k, S0 k → Also S0 wr (wr.alloc (.cells #[.bool vb0, .int .i64 vn0, .bool vb1, .int .i64 vn1, .bool vb2, .int .i64 vn2, .bool vb3, .int .i64 vn3] 53)) k) := fun k hk => .inl hk
      have HCV := Lib.hid hcv
      have HSV := Lib.hid hsv
      have HGR : Hid (wr.heap.size ≠ g) := by show _ ≠ _; omega
      have HP9 := Lib.hid hp9
      clear hc hc1 hb9 hp9 hcv hk9 hsv hgr hpk hkk hI HI0 hsk
      go_upto_region 10 with fail
      generalize hS1 : Also S0 wr (wr.alloc (.cells #[.bool vb0, .int .i64 vn0, .bool vb1, .int .i64 vn1, .bool vb2, .int .i64 vn2, .bool vb3, .int .i64 vn3] 53)) = S1 at *
      generalize hW9 : wr.alloc (.cells #[.bool vb0, .int .i64 vn0, .bool vb1, .int .i64 vn1, .bool vb2, .int .i64 vn2, .bool vb3, .int .i64 vn3] 53) = W9 at *
      generalize hV : wr.heap.size = V at *
      clear x0 x1 x2 x3 x4 x5 x6 x7 hS1 hW9
      have HK0 : Hid (PenI S1 g sk W9 ∧ Kept S1 g W9 W9) := ⟨HP9.out, Kept.refl _ _ _⟩
      clear HP9
      have m0 := (HK0.out.2.cell (b := V) (o := 0) HSV.out HGR.out).trans (HCV.out 0)
      have m1 := (HK0.out.2.cell (b := V) (o := 1) HSV.out HGR.out).trans (HCV.out 1)
      go_cut [] (fun wx => Hid (PenI S1 g q1 wx ∧ Kept S1 g W9 wx))
      case first =>
        go_region_with (first | (go_at_call 21; refine (gsvid_any _).mono ?_; rintro r y1 ⟨rfl, hb2⟩; have k2 := Lib.hid (Kept.undrew (Kept.of_below (S := S1) (g := g) hb2 HK0.out.1.bd)); have R2 := Lib.hid (HK0.out.1.keep (w' := y1) (Below.trans (bdrew (Below.refl _ _)) hb2)); have z0 := (k2.out.cell (b := V) (o := 0) HSV.out HGR.out).trans m0; have z1 := (k2.out.cell (b := V) (o := 1) HSV.out HGR.out).trans m1) | (go_at_call 19; refine (penNum f0 R2.out (by omega)).mono ?_; rintro r y3 ⟨rfl, hp3, hk3⟩))
        all_goals go_wp2_with fail
        all_goals go_meet
        all_goals exact Lib.hid ⟨hp3, HK0.out.2.trans (k2.out.trans hk3)⟩
      case rest =>
      have HK1 := hcut
      clear hcut HK0 m0 m1
      go_upto_region 11 with fail
      have HK0 := HK1
      clear HK1
      have m0 := (HK0.out.2.cell (b := V) (o := 2) HSV.out HGR.out).trans (HCV.out 2)
      have m1 := (HK0.out.2.cell (b := V) (o := 3) HSV.out HGR.out).trans (HCV.out 3)
      go_cut [] (fun wx => Hid (PenI S1 g q2 wx ∧ Kept S1 g W9 wx))
      case first =>
        go_region_with (first | (go_at_call 22; refine (gsvelev_any _).mono ?_; rintro r y1 ⟨rfl, hb2⟩; have k2 := Lib.hid (Kept.undrew (Kept.of_below (S := S1) (g := g) hb2 HK0.out.1.bd)); have R2 := Lib.hid (HK0.out.1.keep (w' := y1) (Below.trans (bdrew (Below.refl _ _)) hb2)); have z0 := (k2.out.cell (b := V) (o := 2) HSV.out HGR.out).trans m0; have z1 := (k2.out.cell (b := V) (o := 3) HSV.out HGR.out).trans m1) | (go_at_call 19; refine (penNum f1 R2.out (by omega)).mono ?_; rintro r y3 ⟨rfl, hp3, hk3⟩))
        all_goals go_wp2_with fail
        all_goals go_meet
        all_goals exact Lib.hid ⟨hp3, HK0.out.2.trans (k2.out.trans hk3)⟩
      case rest =>
      have HK1 := hcut
      clear hcut HK0 m0 m1
      go_upto_region 12 with fail
      have HK0 := HK1
      clear HK1
      have m0 := (HK0.out.2.cell (b := V) (o := 4) HSV.out HGR.out).trans (HCV.out 4)
      have m1 := (HK0.out.2.cell (b := V) (o := 5) HSV.out HGR.out).trans (HCV.out 5)
      go_cut [] (fun wx => Hid (PenI S1 g q3 wx ∧ Kept S1 g W9 wx))
      case first =>
        go_region_with (first | (go_at_call 23; refine (gsvazim_any _).mono ?_; rintro r y1 ⟨rfl, hb2⟩; have k2 := Lib.hid (Kept.undrew (Kept.of_below (S := S1) (g := g) hb2 HK0.out.1.bd)); have R2 := Lib.hid (HK0.out.1.keep (w' := y1) (Below.trans (bdrew (Below.refl _ _)) hb2)); have z0 := (k2.out.cell (b := V) (o := 4) HSV.out HGR.out).trans m0; have z1 := (k2.out.cell (b := V) (o := 5) HSV.out HGR.out).trans m1) | (go_at_call 19; refine (penNum f2 R2.out (by omega)).mono ?_; rintro r y3 ⟨rfl, hp3, hk3⟩))
        all_goals go_wp2_with fail
        all_goals go_meet
        all_goals exact Lib.hid ⟨hp3, HK0.out.2.trans (k2.out.trans hk3)⟩
      case rest =>
      have HK1 := hcut
      clear hcut HK0 m0 m1
      go_upto_region 13 with fail
      have HK0 := HK1
      clear HK1
      have m0 := (HK0.out.2.cell (b := V) (o := 6) HSV.out HGR.out).trans (HCV.out 6)
      have m1 := (HK0.out.2.cell (b := V) (o := 7) HSV.out HGR.out).trans (HCV.out 7)
      go_region_with (first | (go_at_call 24; refine (gsvlevel_any _).mono ?_; rintro r y1 ⟨rfl, hb2⟩; have k2 := Lib.hid (Kept.undrew (Kept.of_below (S := S1) (g := g) hb2 HK0.out.1.bd)); have R2 := Lib.hid (HK0.out.1.keep (w' := y1) (Below.trans (bdrew (Below.refl _ _)) hb2)); have z0 := (k2.out.cell (b := V) (o := 6) HSV.out HGR.out).trans m0; have z1 := (k2.out.cell (b := V) (o := 7) HSV.out HGR.out).trans m1) | (go_at_call 19; refine (penNum f3 R2.out (by omega)).mono ?_; rintro r y3 ⟨rfl, hp3, hk3⟩))
      all_goals go_wp2_with fail
      all_goals have HK1 := Lib.hid (show PenI S1 g q4 _ ∧ Kept S1 g W9 _ from ⟨hp3, HK0.out.2.trans (k2.out.trans hk3)⟩)
      all_goals go_roundw
      all_goals first | exact ⟨k + 1, by go_num, by omega, Lib.hid ⟨q4, HQ.out, by omega, HK1.out.1.less HLS.out, HKK.out.trans (HK1.out.2.less HLS.out)⟩⟩ | (simp [intOf]; omega)
    · have i3 : (n : Int) ≤ (k : Int) := by omega
      have hkn : k = n := by omega
      have hX2 : wrDone sk = X := by
        rw [hsk, List.take_of_length_le (by rw [hn.out]; omega)]
        exact HX.out
      have HX2 := Lib.hid hX2
      have HB6 : Hid (Below w.heap.size w wr) := Below.trans HB2.out (hkk.below (by have := HZ2.out; omega) (fun k hk => sW.out k (by have := HZ2.out; omega)))
      have HD := Lib.hid (penDone hpk (by omega))
      clear hI HI0 hsk hpk hkk hX2 hlk
      go_wp2_with fail
      refine HD.out.mono ?_
      intro r w7 h7
      have h8 := DonePost.put HB6.out h7
      rw [HX2.out] at h8
      obtain ⟨v, rfl, h9⟩ := h8
      clear h7
      have H9 := Lib.hid h9
      clear h9
      go_wp2_with fail
      go_ret2
      exact ⟨v, rfl, H9.out⟩
theorem gsvPut_any (T N S : Int) (A : Option Addr) (c : Nat) (L : List V4) (w : World) (hs : Vws w w.heap.size A L) (hm : L.length ≤ 1000000) : Calls Tryd.prog 11 #[gsvV T N S A L.length c] w (PutPost (putGsv ⟨T, N, S, L⟩) w) := by
  by_cases h : 4 < L.length
  · have : putGsv ⟨T, N, S, L⟩ = ([], 7) := if_pos h
    rw [this]
    exact gsvPut_long T N S A L.length c w (by omega) hm
  · exact gsvPut_ok T N S A L.length c L w rfl hs (by omega)
end Go.Proofs.YteofmahbimkggaaDoor
