/- The contract of sentence.Take. -/
import Derived.Test.YtleebikcakndnaaFormed
import Derived.Test.YtleebikcakndnaaFields
import Derived.Deep.RegionWith
namespace Go.Proofs.Ytleebikcakndnaa
set_option linter.unusedVariables false
open Go.RowKit

/-- The sentence that a text begins with, its size, and the error's number. -/
def takeS (t : ByteArray) : (ByteArray × ByteArray × List ByteArray) × Nat × Int :=
  if t.size = 0 then ((ByteArray.empty, ByteArray.empty, []), 0, 2)
  else if t.data.toList[0]? ≠ some 36 then ((ByteArray.empty, ByteArray.empty, []), 0, 3)
  else if (endE t).2 ≠ 0 then ((ByteArray.empty, ByteArray.empty, []), 0, (endE t).2)
  else if t.size < (endE t).1 + 2 then ((ByteArray.empty, ByteArray.empty, []), 0, 2)
  else if t.data.toList[(endE t).1 + 1]? ≠ some 10 ∨ formedB (lineB t) = false then ((ByteArray.empty, ByteArray.empty, []), 0, 3)
  else match openB (lineB t) with
    | none => ((ByteArray.empty, ByteArray.empty, []), 0, 4)
    | some b => ((b.extract 0 2, b.extract 2 5, if 5 < b.size then splitB (b.extract 6 b.size) else []), (endE t).1 + 2, 0)

def SenPost (r : (ByteArray × ByteArray × List ByteArray) × Nat × Int) (w : World) (e : Ending) (w' : World) : Prop :=
  ∃ A c, e = .returned (.tuple #[.agg #[.string r.1.1, .string r.1.2.1, .slice A r.1.2.2.length c], .int .i64 (r.2.1 : Int), .int .i64 r.2.2]) ∧ Strs w' w'.heap.size A r.1.2.2 ∧ FreshA w.heap.size A ∧ Below w.heap.size w w'
theorem SenPost.err (n : Int) {w w' : World} (hb : Below w.heap.size w w') : SenPost ((ByteArray.empty, ByteArray.empty, []), 0, n) w (.returned (.tuple #[.agg #[.string ⟨#[]⟩, .string ⟨#[]⟩, .slice none 0 0], .int .i64 0, .int .i64 n])) w' :=
  ⟨none, 0, rfl, fun k hk => absurd hk (by simp), FreshA.none_, hb⟩

theorem scanE_spec (t : ByteArray) : ∀ f i j : Nat, scanE t f i = (j, 0) → i ≤ j ∧ j < i + f ∧ j < t.size := by
  intro f
  induction f with
  | zero => intro i j h; simp [scanE] at h
  | succ f ih =>
    intro i j h
    unfold scanE at h
    by_cases hi : i < t.size
    · rw [dif_pos hi] at h
      by_cases h13 : (t[i].toNat : Int) = 13
      · rw [if_pos h13] at h
        have : i = j := by injection h
        omega
      · rw [if_neg h13] at h
        by_cases ho : okC (t[i].toNat : Int) = true
        · rw [if_pos ho] at h
          have := ih _ _ h
          omega
        · rw [if_neg ho] at h
          simp at h
    · rw [dif_neg hi] at h
      simp at h

theorem three_cells (w : World) (g : Nat) (p : Addr) (hp : p.block ≠ g) (x v0 v1 v2 o0 o1 o2 : Value) (h0 : w.cell? ⟨g, 0, none⟩ = some o0) (h1 : w.cell? ⟨g, 1, none⟩ = some o1) (h2 : w.cell? ⟨g, 2, none⟩ = some o2) :
    ((((w.setCell p x).setCell ⟨g, 0, none⟩ v0).setCell ⟨g, 1, none⟩ v1).setCell ⟨g, 2, none⟩ v2).cell? ⟨g, 0, none⟩ = some v0 ∧
    ((((w.setCell p x).setCell ⟨g, 0, none⟩ v0).setCell ⟨g, 1, none⟩ v1).setCell ⟨g, 2, none⟩ v2).cell? ⟨g, 1, none⟩ = some v1 ∧
    ((((w.setCell p x).setCell ⟨g, 0, none⟩ v0).setCell ⟨g, 1, none⟩ v1).setCell ⟨g, 2, none⟩ v2).cell? ⟨g, 2, none⟩ = some v2 := by
  have k : ∀ j, (w.setCell p x).cell? ⟨g, j, none⟩ = w.cell? ⟨g, j, none⟩ := fun j => World.cell?_setCell_other w p _ x (fun e => by subst e; exact hp rfl)
  have n01 : (⟨g, 1, none⟩ : Addr) ≠ ⟨g, 0, none⟩ := by simp
  have n02 : (⟨g, 2, none⟩ : Addr) ≠ ⟨g, 0, none⟩ := by simp
  have n12 : (⟨g, 2, none⟩ : Addr) ≠ ⟨g, 1, none⟩ := by simp
  have n10 : (⟨g, 0, none⟩ : Addr) ≠ ⟨g, 1, none⟩ := by simp
  refine ⟨?_, ?_, ?_⟩
  · rw [World.cell?_setCell_other _ _ _ _ n02, World.cell?_setCell_other _ _ _ _ n01]
    exact World.cell?_setCell_same _ _ _ ((k 0).trans h0)
  · rw [World.cell?_setCell_other _ _ _ _ n12]
    exact World.cell?_setCell_same _ _ _ ((World.cell?_setCell_other _ _ _ _ n10).trans ((k 1).trans h1))
  · refine World.cell?_setCell_same _ _ _ (((World.cell?_setCell_other _ _ _ _ (fun e => n12 e.symm)).trans ((World.cell?_setCell_other _ _ _ _ (fun e => n02 e.symm)).trans ((k 2).trans h2))))

theorem bytes_empty {s : ByteArray} (h : s.size = 0) : s = ByteArray.empty := by
  obtain ⟨⟨l⟩⟩ := s
  cases l with
  | nil => rfl
  | cons a l => simp [ByteArray.size] at h

set_option maxHeartbeats 1000000 in
theorem Take_empty (w : World) : Calls Try.prog 12 #[.string ByteArray.empty] w (SenPost ((ByteArray.empty, ByteArray.empty, []), 0, 2) w) := by
  go_enter Try.func12, Try.ntmps12
  go_wp2
  exact bodyPost_ret (v := .tuple #[.agg #[.string ⟨#[]⟩, .string ⟨#[]⟩, .slice none 0 0], .int .i64 0, .int .i64 2]) (by simp [results, Try.results12, go_sem]) rfl (SenPost.err 2 (below_new _ _))

set_option maxHeartbeats 1000000 in
theorem Take_first (t : ByteArray) (w : World) (hz : 0 < t.size) (h1 : t.toList.isEmpty = false) (h2 : (t.toList == []) = false) (hc : (((t[0]'hz).toNat : Int) != 36) = true) : Calls Try.prog 12 #[.string t] w (SenPost ((ByteArray.empty, ByteArray.empty, []), 0, 3) w) := by
  go_enter Try.func12, Try.ntmps12
  go_wp2
  exact bodyPost_ret (v := .tuple #[.agg #[.string ⟨#[]⟩, .string ⟨#[]⟩, .slice none 0 0], .int .i64 0, .int .i64 3]) (by simp [results, Try.results12, go_sem]) rfl (SenPost.err 3 (below_new _ _))

set_option maxHeartbeats 1000000 in
theorem Take_line (t : ByteArray) (n : Int) (w : World) (hm : t.size ≤ 1000000) (hz : 0 < t.size) (h1 : t.toList.isEmpty = false) (h2 : (t.toList == []) = false) (hc : (((t[0]'hz).toNat : Int) != 36) = false) (he : Hid ((endE t).2 = n)) (hn : (n != 0) = true) :
    Calls Try.prog 12 #[.string t] w (SenPost ((ByteArray.empty, ByteArray.empty, []), 0, n) w) := by
  go_enter Try.func12, Try.ntmps12
  go_wp2_with fail
  refine (line_any t _ hm).mono ?_
  rintro e w' ⟨rfl, rfl⟩
  rw [he.out]
  go_wp2_with fail
  exact bodyPost_ret (v := .tuple #[.agg #[.string ⟨#[]⟩, .string ⟨#[]⟩, .slice none 0 0], .int .i64 0, .int .i64 n]) (by simp [results, Try.results12, go_sem]) rfl (SenPost.err n (below_new _ _))


set_option maxHeartbeats 1000000 in
theorem Take_short (t L : ByteArray) (i : Nat) (w : World) (hm : t.size ≤ 1000000) (hz : 0 < t.size) (h1 : t.toList.isEmpty = false) (h2 : (t.toList == []) = false) (hc : (((t[0]'hz).toNat : Int) != 36) = false) (he : Hid ((endE t).2 = 0)) (hL : Hid (lineB t = L))
    (hi : 1 ≤ i) (hl0 : L.size + 1 ≤ i) (hl1 : i ≤ L.size + 1) (hs : t.size < i + 2) (hi80 : i ≤ 80) :
    Calls Try.prog 12 #[.string t] w (SenPost ((ByteArray.empty, ByteArray.empty, []), 0, 2) w) := by
  go_enter Try.func12, Try.ntmps12
  go_wp2_with fail
  refine (line_any t _ hm).mono ?_
  rintro e w' ⟨rfl, rfl⟩
  rw [he.out, hL.out]
  go_wp2_with fail
  exact bodyPost_ret (v := .tuple #[.agg #[.string ⟨#[]⟩, .string ⟨#[]⟩, .slice none 0 0], .int .i64 0, .int .i64 2]) (by simp [results, Try.results12, go_sem]) rfl (SenPost.err 2 (below_new _ _))

set_option maxHeartbeats 1000000 in
theorem Take_ten (t L : ByteArray) (i : Nat) (w : World) (hm : t.size ≤ 1000000) (hz : 0 < t.size) (h1 : t.toList.isEmpty = false) (h2 : (t.toList == []) = false) (hc : (((t[0]'hz).toNat : Int) != 36) = false) (he : Hid ((endE t).2 = 0)) (hL : Hid (lineB t = L))
    (hi : 1 ≤ i) (hl0 : L.size + 1 ≤ i) (hl1 : i ≤ L.size + 1) (hs : i + 2 ≤ t.size) (hi80 : i ≤ 80) (e1 : 1 + (L.size : Int) + 2 - 1 = ((i + 1 : Nat) : Int)) (ht : (((t[i + 1]'(by omega)).toNat : Int) != 10) = true) :
    Calls Try.prog 12 #[.string t] w (SenPost ((ByteArray.empty, ByteArray.empty, []), 0, 3) w) := by
  go_enter Try.func12, Try.ntmps12
  go_wp2_with fail
  refine (line_any t _ hm).mono ?_
  rintro e w' ⟨rfl, rfl⟩
  rw [he.out, hL.out]
  go_wp2_with fail
  exact bodyPost_ret (v := .tuple #[.agg #[.string ⟨#[]⟩, .string ⟨#[]⟩, .slice none 0 0], .int .i64 0, .int .i64 3]) (by simp [results, Try.results12, go_sem]) rfl (SenPost.err 3 (below_new _ _))


set_option maxHeartbeats 1000000 in
theorem Take_formed (t L : ByteArray) (i : Nat) (w : World) (hm : t.size ≤ 1000000) (hz : 0 < t.size) (h1 : t.toList.isEmpty = false) (h2 : (t.toList == []) = false) (hc : (((t[0]'hz).toNat : Int) != 36) = false) (he : Hid ((endE t).2 = 0)) (hL : Hid (lineB t = L))
    (hi : 1 ≤ i) (hl0 : L.size + 1 ≤ i) (hl1 : i ≤ L.size + 1) (hs : i + 2 ≤ t.size) (hi80 : i ≤ 80) (e1 : 1 + (L.size : Int) + 2 - 1 = ((i + 1 : Nat) : Int)) (ht : (((t[i + 1]'(by omega)).toNat : Int) != 10) = false) (hf : Hid (formedB L = false)) :
    Calls Try.prog 12 #[.string t] w (SenPost ((ByteArray.empty, ByteArray.empty, []), 0, 3) w) := by
  go_enter Try.func12, Try.ntmps12
  go_wp2_with fail
  refine (line_any t _ hm).mono ?_
  rintro e w' ⟨rfl, rfl⟩
  rw [he.out, hL.out]
  go_wp2_with fail
  refine (formed_any L _ (by omega)).mono ?_
  rintro e w1 ⟨rfl, hb1⟩
  rw [hf.out]
  obtain ⟨c1, f1⟩ := bcell hb1
  have hz1 := hb1.size
  simp at hz1
  have hz2 : w.heap.size < w1.heap.size := by omega
  go_wp2_with fail
  refine bodyPost_ret (v := .tuple #[.agg #[.string ⟨#[]⟩, .string ⟨#[]⟩, .slice none 0 0], .int .i64 0, .int .i64 3]) (by simp [results, Try.results12, go_sem, c1]) rfl (SenPost.err 3 ?_)
  exact (((bthen (below_new _ _) hb1).setCell (p := ⟨w.heap.size, 0, none⟩) (Nat.le_refl _) _).setCell (p := ⟨w.heap.size, 1, none⟩) (Nat.le_refl _) _).setCell (p := ⟨w.heap.size, 2, none⟩) (Nat.le_refl _) _

set_option maxHeartbeats 1000000 in
theorem Take_open (t L : ByteArray) (i : Nat) (w : World) (hm : t.size ≤ 1000000) (hz : 0 < t.size) (h1 : t.toList.isEmpty = false) (h2 : (t.toList == []) = false) (hc : (((t[0]'hz).toNat : Int) != 36) = false) (he : Hid ((endE t).2 = 0)) (hL : Hid (lineB t = L))
    (hi : 1 ≤ i) (hl0 : L.size + 1 ≤ i) (hl1 : i ≤ L.size + 1) (hs : i + 2 ≤ t.size) (hi80 : i ≤ 80) (e1 : 1 + (L.size : Int) + 2 - 1 = ((i + 1 : Nat) : Int)) (ht : (((t[i + 1]'(by omega)).toNat : Int) != 10) = false) (hf : Hid (formedB L = true)) (ho : Hid (openB L = none)) :
    Calls Try.prog 12 #[.string t] w (SenPost ((ByteArray.empty, ByteArray.empty, []), 0, 4) w) := by
  go_enter Try.func12, Try.ntmps12
  go_wp2_with fail
  refine (line_any t _ hm).mono ?_
  rintro e w' ⟨rfl, rfl⟩
  rw [he.out, hL.out]
  go_wp2_with fail
  refine (formed_any L _ (by omega)).mono ?_
  rintro e w1 ⟨rfl, hb1⟩
  rw [hf.out]
  go_wp2_with fail
  refine (Open_any L _ (by omega)).mono ?_
  rintro e w2 ⟨rfl, hb2⟩
  rw [ho.out]
  have hb12 := bthen hb1 hb2
  obtain ⟨c1, f1⟩ := bcell hb12
  have hz1 := hb12.size
  simp at hz1
  have hz2 : w.heap.size < w2.heap.size := by omega
  go_wp2_with fail
  refine bodyPost_ret (v := .tuple #[.agg #[.string ⟨#[]⟩, .string ⟨#[]⟩, .slice none 0 0], .int .i64 0, .int .i64 4]) (by simp [results, Try.results12, go_sem, c1]) rfl (SenPost.err 4 ?_)
  exact (((bthen (below_new _ _) hb12).setCell (p := ⟨w.heap.size, 0, none⟩) (Nat.le_refl _) _).setCell (p := ⟨w.heap.size, 1, none⟩) (Nat.le_refl _) _).setCell (p := ⟨w.heap.size, 2, none⟩) (Nat.le_refl _) _

set_option maxHeartbeats 2000000 in
theorem Take_five (t L b : ByteArray) (i : Nat) (w : World) (hm : t.size ≤ 1000000) (hz : 0 < t.size) (h1 : t.toList.isEmpty = false) (h2 : (t.toList == []) = false) (hc : (((t[0]'hz).toNat : Int) != 36) = false) (he : Hid ((endE t).2 = 0)) (hL : Hid (lineB t = L))
    (hi : 1 ≤ i) (hl0 : L.size + 1 ≤ i) (hl1 : i ≤ L.size + 1) (hs : i + 2 ≤ t.size) (hi80 : i ≤ 80) (e1 : 1 + (L.size : Int) + 2 - 1 = ((i + 1 : Nat) : Int)) (ht : (((t[i + 1]'(by omega)).toNat : Int) != 10) = false) (hf : Hid (formedB L = true)) (ho : Hid (openB L = some b)) (hb5 : b.size ≤ 5) (hb6 : 5 ≤ b.size) :
    Calls Try.prog 12 #[.string t] w (SenPost ((b.extract 0 2, b.extract 2 5, []), i + 2, 0) w) := by
  have i1 : (2 : Int) ≤ (b.size : Int) := by omega
  have i2 : (5 : Int) ≤ (b.size : Int) := by omega
  go_enter Try.func12, Try.ntmps12
  go_wp2_with fail
  refine (line_any t _ hm).mono ?_
  rintro e w' ⟨rfl, rfl⟩
  rw [he.out, hL.out]
  go_wp2_with fail
  refine (formed_any L _ (by omega)).mono ?_
  rintro e w1 ⟨rfl, hb1⟩
  rw [hf.out]
  go_wp2_with fail
  refine (Open_any L _ (by omega)).mono ?_
  rintro e w2 ⟨rfl, hb2⟩
  rw [ho.out]
  have hb12 := bthen hb1 hb2
  obtain ⟨c1, f1⟩ := bcell hb12
  have hz1 := hb12.size
  simp at hz1
  have hz2 : w.heap.size < w2.heap.size := by omega
  go_wp2_with fail
  go_region_with (fail)
  go_wp2_with fail
  refine bodyPost_ret (v := .tuple #[.agg #[.string (b.extract 0 2), .string (b.extract 2 5), .slice none 0 0], .int .i64 (1 + (L.size : Int) + 2), .int .i64 0]) (by simp [results, Try.results12, go_sem, c1, hz2]) rfl ⟨none, 0, ?_, fun k hk => absurd hk (by simp), FreshA.none_, ?_⟩
  · rw [show (1 + (L.size : Int) + 2) = ((i + 2 : Nat) : Int) from by omega]
    rfl
  · exact bdrew (((((bthen (below_new _ _) hb12).setCell (p := ⟨w.heap.size, 0, none⟩) (Nat.le_refl _) _).setCell (p := ⟨w.heap.size, 1, none⟩) (Nat.le_refl _) _).setCell (p := ⟨w.heap.size, 2, none⟩) (Nat.le_refl _) _).alloc (by simp; omega) _)

set_option maxHeartbeats 2000000 in
theorem Take_more (t L b : ByteArray) (i : Nat) (w : World) (hm : t.size ≤ 1000000) (hz : 0 < t.size) (h1 : t.toList.isEmpty = false) (h2 : (t.toList == []) = false) (hc : (((t[0]'hz).toNat : Int) != 36) = false) (he : Hid ((endE t).2 = 0)) (hL : Hid (lineB t = L))
    (hi : 1 ≤ i) (hl0 : L.size + 1 ≤ i) (hl1 : i ≤ L.size + 1) (hs : i + 2 ≤ t.size) (hi80 : i ≤ 80) (e1 : 1 + (L.size : Int) + 2 - 1 = ((i + 1 : Nat) : Int)) (ht : (((t[i + 1]'(by omega)).toNat : Int) != 10) = false) (hf : Hid (formedB L = true)) (ho : Hid (openB L = some b)) (hb6 : 6 ≤ b.size) (hbm : b.size ≤ 1000) :
    Calls Try.prog 12 #[.string t] w (SenPost ((b.extract 0 2, b.extract 2 5, splitB (b.extract 6 b.size)), i + 2, 0) w) := by
  have i1 : (2 : Int) ≤ (b.size : Int) := by omega
  have i2 : (5 : Int) ≤ (b.size : Int) := by omega
  have i3 : (6 : Int) ≤ (b.size : Int) := by omega
  obtain ⟨S, hS⟩ : ∃ S, S = b.extract 6 b.size := ⟨_, rfl⟩
  have hSz : S.size ≤ 1000 := by rw [hS, ByteArray.size_extract]; omega
  rw [← hS]
  have HS := Lib.hid hS
  clear hS
  go_enter Try.func12, Try.ntmps12
  go_wp2_with fail
  refine (line_any t _ hm).mono ?_
  rintro e w' ⟨rfl, rfl⟩
  rw [he.out, hL.out]
  go_wp2_with fail
  refine (formed_any L _ (by omega)).mono ?_
  rintro e w1 ⟨rfl, hb1⟩
  rw [hf.out]
  go_wp2_with fail
  refine (Open_any L _ (by omega)).mono ?_
  rintro e w2 ⟨rfl, hb2⟩
  rw [ho.out]
  have hb12 := bthen hb1 hb2
  obtain ⟨c1, f1⟩ := bcell hb12
  have hz1 := hb12.size
  simp at hz1
  have hz2 : w.heap.size < w2.heap.size := by omega
  go_wp2_with fail
  go_region_with (fail)
  go_wp2_with fail
  rw [← HS.out]
  refine (cut_any S _ (by omega)).mono ?_
  rintro e w3 ⟨A, c, rfl, hst, hfr, hb3⟩
  obtain ⟨c3, f3⟩ := bcell hb3
  have hz3 := hb3.size
  simp at hz3
  have hz4 : w2.heap.size < w3.heap.size := by omega
  have hz5 : w.heap.size < w3.heap.size := by omega
  have HST := Lib.hid hst
  clear hst
  obtain ⟨n, hn⟩ : ∃ n, n = (splitB S).length := ⟨_, rfl⟩
  rw [← hn]
  have HN := Lib.hid hn
  clear hn
  have HFR := Lib.hid hfr
  clear hfr
  go_wp2_with fail
  have k2 : ∀ o, w3.cell? ⟨w.heap.size, o, none⟩ = (w.alloc (.cells #[.string ⟨#[]⟩, .string ⟨#[]⟩, .slice none 0 0] 24)).cell? ⟨w.heap.size, o, none⟩ := fun o => by
    rw [c3 w.heap.size o (by simp; omega)]
    show (w2.alloc _).cell? _ = _
    rw [World.cell?_alloc_lt w2 _ ⟨w.heap.size, o, none⟩ hz2]
    exact c1 w.heap.size o (by simp)
  obtain ⟨q0, q1, q2⟩ := three_cells w3 w.heap.size ⟨w2.heap.size, 2, none⟩ (by show w2.heap.size ≠ _; omega) (.slice A n c) (.string (b.extract 0 2)) (.string (b.extract 2 5)) (.slice A n c) (.string ⟨#[]⟩) (.string ⟨#[]⟩) (.slice none 0 0)
    ((k2 0).trans (by rw [World.cell?_alloc_new]; rfl)) ((k2 1).trans (by rw [World.cell?_alloc_new]; rfl)) ((k2 2).trans (by rw [World.cell?_alloc_new]; rfl))
  have hfr2 : FreshA (w2.heap.size + 1) A := by have := HFR.out; simpa using this
  have hst2 : Strs _ w3.heap.size A (splitB S) := (((HST.out.setCell hfr2 (p := ⟨w2.heap.size, 2, none⟩) (Nat.lt_succ_self _) (.slice A n c)).setCell hfr2 (p := ⟨w.heap.size, 0, none⟩) (by show w.heap.size < _; omega) (.string (b.extract 0 2))).setCell hfr2 (p := ⟨w.heap.size, 1, none⟩) (by show w.heap.size < _; omega) (.string (b.extract 2 5))).setCell hfr2 (p := ⟨w.heap.size, 2, none⟩) (by show w.heap.size < _; omega) (.slice A n c)
  refine bodyPost_ret (v := .tuple #[.agg #[.string (b.extract 0 2), .string (b.extract 2 5), .slice A n c], .int .i64 (1 + (L.size : Int) + 2), .int .i64 0]) (by simp [results, Try.results12, go_sem, q0, q1, q2]) rfl ⟨A, c, ?_, by simpa using hst2, hfr2.less (by omega), ?_⟩
  · rw [show (1 + (L.size : Int) + 2) = ((i + 2 : Nat) : Int) from by omega, HN.out]
  · have hb0 : Below w.heap.size w w3 := (bdrew ((bthen (below_new _ _) hb12).alloc (by omega) _)).trans (hb3.mono (by simp; omega))
    exact (((hb0.setCell (p := ⟨w2.heap.size, 2, none⟩) (by show w.heap.size ≤ w2.heap.size; omega) _).setCell (p := ⟨w.heap.size, 0, none⟩) (Nat.le_refl _) _).setCell (p := ⟨w.heap.size, 1, none⟩) (Nat.le_refl _) _).setCell (p := ⟨w.heap.size, 2, none⟩) (Nat.le_refl _) _

end Go.Proofs.Ytleebikcakndnaa
