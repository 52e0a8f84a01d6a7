/- The contract of sentence.Put. -/
import Derived.Test.YtleebikcakndnaaSen2
namespace Go.Proofs.Ytleebikcakndnaa
set_option linter.unusedVariables false
open Go.RowKit

/-- What stands in a sentence ahead of its sum. -/
def bodyL (t y : ByteArray) (fs : List ByteArray) : List UInt8 := t.data.toList ++ y.data.toList ++ fs.flatMap fun f => 44 :: f.data.toList
theorem bodyL_snoc (t y : ByteArray) (fs : List ByteArray) (f : ByteArray) : bodyL t y (fs ++ [f]) = bodyL t y fs ++ (44 :: f.data.toList) := by simp [bodyL]
theorem bodyL_take (t y : ByteArray) (fs : List ByteArray) (k : Nat) : (bodyL t y (fs.take k)).length ≤ (bodyL t y fs).length := by
  have : bodyL t y fs = bodyL t y (fs.take k) ++ (fs.drop k).flatMap fun f => 44 :: f.data.toList := by
    simp only [bodyL, List.append_assoc]
    rw [← List.flatMap_append, List.take_append_drop]
  rw [this, List.length_append]
  omega
theorem bodyL_succ (t y : ByteArray) (fs : List ByteArray) (k : Nat) (h : k < fs.length) : bodyL t y (fs.take (k + 1)) = bodyL t y (fs.take k) ++ (44 :: fs[k].data.toList) := by
  rw [List.take_succ_eq_append_getElem h, bodyL_snoc]
theorem byteCells_append (a b : List UInt8) : Lib.byteCells (a ++ b) = Lib.byteCells a ++ Lib.byteCells b := by simp [Lib.byteCells]

def textS (t y : ByteArray) (fs : List ByteArray) : ByteArray := ⟨#[36]⟩ ++ sealB ⟨(bodyL t y fs).toArray⟩ ++ ⟨#[13, 10]⟩
/-- The text of a sentence, and the error's number. -/
def putS (t y : ByteArray) (fs : List ByteArray) : ByteArray × Int :=
  if (signsP t 2 && signsP y 3 && fs.all (allB fieldP)) = false then (ByteArray.empty, 1)
  else if 82 < (textS t y fs).size then (ByteArray.empty, 7) else (textS t y fs, 0)

theorem putS_t {t y : ByteArray} {fs : List ByteArray} (h : signsP t 2 = false) : putS t y fs = (ByteArray.empty, 1) := by simp [putS, h]
theorem putS_y {t y : ByteArray} {fs : List ByteArray} (h : signsP y 3 = false) : putS t y fs = (ByteArray.empty, 1) := by simp [putS, h]
theorem putS_f {t y : ByteArray} {fs : List ByteArray} (k : Nat) (hk : k < fs.length) (h : allB fieldP fs[k] = false) : putS t y fs = (ByteArray.empty, 1) := by
  have : fs.all (allB fieldP) = false := by rw [List.all_eq_false]; exact ⟨fs[k], List.getElem_mem hk, by rw [h]; simp⟩
  simp [putS, this]
theorem putS_ok {t y : ByteArray} {fs : List ByteArray} (h1 : signsP t 2 = true) (h2 : signsP y 3 = true) (h3 : ∀ k (hk : k < fs.length), allB fieldP (fs[k]'hk) = true) :
    putS t y fs = if 82 < (textS t y fs).size then (ByteArray.empty, 7) else (textS t y fs, 0) := by
  have : fs.all (allB fieldP) = true := by
    rw [List.all_eq_true]
    intro x hx
    obtain ⟨j, hj, rfl⟩ := List.getElem_of_mem hx
    exact h3 j hj
  simp [putS, h1, h2, this]
theorem textS_size (t y : ByteArray) (fs : List ByteArray) : (textS t y fs).size = (bodyL t y fs).length + 6 := by
  unfold textS sealB
  simp only [ByteArray.size_append]
  have h1 : (ByteArray.mk #[36]).size = 1 := rfl
  have h2 : (ByteArray.mk #[13, 10]).size = 2 := rfl
  have h3 : (ByteArray.mk #[42]).size = 1 := rfl
  have h4 : ∀ x, (ByteArray.mk (hexL x).toArray).size = 2 := fun x => rfl
  have h5 : (ByteArray.mk (bodyL t y fs).toArray).size = (bodyL t y fs).length := by show (bodyL t y fs).toArray.size = _; simp
  rw [h1, h2, h3, h4, h5]
  omega

def PutPost (t y : ByteArray) (fs : List ByteArray) (w : World) (e : Ending) (w' : World) : Prop :=
  e = .returned (.tuple #[.string (putS t y fs).1, .int .i64 (putS t y fs).2]) ∧ Below w.heap.size w w'

set_option maxHeartbeats 1000000 in
theorem Put_t (t y : ByteArray) (A : Option Addr) (n c : Nat) (w : World) (h : Hid (signsP t 2 = false)) :
    Calls Try.prog 9 #[.agg #[.string t, .string y, .slice A n c]] w fun e w' => e = .returned (.tuple #[.string ByteArray.empty, .int .i64 1]) ∧ Below w.heap.size w w' := by
  go_enter Try.func9, Try.ntmps9
  go_wp2_with fail
  refine (signs_any t 2 _).mono ?_
  rintro e w1 ⟨rfl, hb1⟩
  rw [h.out]
  go_wp2_with fail
  go_ret2
  exact ⟨rfl, bthen (below_new _ _) hb1⟩

set_option maxHeartbeats 1000000 in
theorem Put_y (t y : ByteArray) (A : Option Addr) (n c : Nat) (w : World) (h : Hid (signsP t 2 = true)) (h2 : Hid (signsP y 3 = false)) :
    Calls Try.prog 9 #[.agg #[.string t, .string y, .slice A n c]] w fun e w' => e = .returned (.tuple #[.string ByteArray.empty, .int .i64 1]) ∧ Below w.heap.size w w' := by
  go_enter Try.func9, Try.ntmps9
  go_wp2_with fail
  refine (signs_any t 2 _).mono ?_
  rintro e w1 ⟨rfl, hb1⟩
  rw [h.out]
  obtain ⟨c1, _⟩ := bcell hb1
  have hz := hb1.size
  simp at hz
  go_wp2_with fail
  refine (signs_any y 3 _).mono ?_
  rintro e w2 ⟨rfl, hb2⟩
  rw [h2.out]
  go_wp2_with fail
  go_ret2
  exact ⟨rfl, bthen (bthen (below_new _ _) hb1) hb2⟩


set_option maxHeartbeats 2000000 in
theorem Put_loop (t y : ByteArray) (fs : List ByteArray) (A : Option Addr) (n c : Nat) (w : World) (hn : Hid (n = fs.length)) (hn1 : n ≤ 1000) (hlen : (bodyL t y fs).length ≤ 100000) (hne : Hid (bodyL t y [] ≠ []))
    (hs : Hid (Strs w w.heap.size A fs)) (h : Hid (signsP t 2 = true)) (h2 : Hid (signsP y 3 = true)) (ht : t.size ≤ 2) (hy : y.size ≤ 3) :
    Calls Try.prog 9 #[.agg #[.string t, .string y, .slice A n c]] w (PutPost t y fs w) := by
  go_enter Try.func9, Try.ntmps9
  go_wp2_with fail
  refine (signs_any t 2 _).mono ?_
  rintro e w1 ⟨rfl, hb1⟩
  rw [h.out]
  obtain ⟨c1, _⟩ := bcell hb1
  have hz := hb1.size
  simp at hz
  go_wp2_with fail
  refine (signs_any y 3 _).mono ?_
  rintro e w2 ⟨rfl, hb2⟩
  rw [h2.out]
  clear c1
  have hb12 : Below (w.alloc (.cells #[.string t, .string y, .slice A n c] 24)).heap.size (w.alloc (.cells #[.string t, .string y, .slice A n c] 24)) w2 := bthen hb1 hb2
  obtain ⟨c2, _⟩ := bcell hb12
  have hz2 := hb12.size
  simp at hz2
  have hz2' : w.heap.size < w2.heap.size := by omega
  go_wp2_with fail
  obtain ⟨w2', hw2'⟩ : ∃ W, W = w2.alloc (.cells #[.pointer none, .slice none 0 0] 41) := ⟨_, rfl⟩
  have hbld : Lib.IsBuilder 41 5 (w.heap.size + 1) w2.heap.size [] w2' := by
    rw [hw2']
    exact .inl ⟨by omega, .slice none 0 0, heap_alloc_new w2 _, World.ownsRow_nil _ _ _ _, by simp [Value.ownBlock]⟩
  have hbw : Below (w.heap.size + 1) (w.alloc (.cells #[.string t, .string y, .slice A n c] 24)) w2' := by
    rw [hw2']
    exact (hb12.mono (by simp)).alloc (by omega) _
  rw [← hw2']
  have hz3 : w2.heap.size < w2'.heap.size := by rw [hw2']; simp
  clear hw2' c2
  have hsz : (t ++ y).size ≤ 5 := by rw [ByteArray.size_append]; omega
  refine (WriteString_any (w.heap.size + 1) w2.heap.size [] (t ++ y) _ hbld (by simp; omega) (by omega)).mono ?_
  rintro e w3 ⟨rfl, hbl3, hb3⟩
  have hb13 := hbw.trans hb3
  obtain ⟨c3, _⟩ := bcell hb13
  go_wp2_with fail
  clear c3 hbw hb3 hbld hb12 hb1 hb2 hsz
  obtain ⟨W0, hW0⟩ : ∃ W, W = w.alloc (.cells #[.string t, .string y, .slice A n c] 24) := ⟨_, rfl⟩
  have hbl3' : Hid (Lib.BuilderAt 41 5 (w.heap.size + 1) w2.heap.size (.pointer (some ⟨w2.heap.size, 0, none⟩)) (Lib.byteCells (bodyL t y (fs.take 0))) w3) := by
    have : [] ++ Lib.strCells (t ++ y) = Lib.byteCells (bodyL t y (fs.take 0)) := by simp [Lib.strCells, Lib.byteCells, bodyL, ByteArray.data_append]
    rw [← this]
    exact hbl3
  clear hbl3
  have hs0 : Hid (Strs W0 w.heap.size A fs) := by rw [hW0]; exact hs.out.below (below_new w _) (Nat.le_refl _)
  have hfin : Hid (Below w.heap.size w W0) := by rw [hW0]; exact below_new w _
  rw [← hW0] at hb13
  clear hW0
  go_loopw [27] (fun i wr => ∃ k : Nat, k ≤ n ∧ i = .int .i64 k ∧ Hid (Lib.BuilderAt 41 5 (w.heap.size + 1) w2.heap.size (.pointer (some ⟨w2.heap.size, 0, none⟩)) (Lib.byteCells (bodyL t y (fs.take k))) wr) ∧ Below (w.heap.size + 1) W0 wr ∧
      Hid (∀ j (hj : j < fs.length), j < k → allB fieldP (fs[j]'hj) = true)) (fun i _ => n - (intOf i).toNat)
  case atStart => exact ⟨0, Nat.zero_le _, rfl, hbl3', hb13, fun j _ h => absurd h (Nat.not_lt_zero _)⟩
  case round =>
    obtain ⟨k, hk, rfl, hbl, hbr, hall⟩ := hrel
    by_cases hlt : k < n
    · have hkf : k < fs.length := by rw [← hn.out]; exact hlt
      obtain ⟨ab, ao, hA, hab, hcell⟩ := hs0.out k hkf
      subst hA
      have hc := (hbr.cell (p := ⟨ab, ao + k, none⟩) (by show ab < _; omega)).trans hcell
      clear hcell
      have HK := Lib.hid (bodyL_succ t y fs k hkf)
      have HL := Lib.hid (bodyL_take t y fs (k + 1))
      have hfs : fs[k].size + (bodyL t y (fs.take k)).length + 1 ≤ 100000 := by
        have h1 := HK.out
        have h2 := HL.out
        rw [h1, List.length_append, List.length_cons] at h2
        have h3 : fs[k].data.toList.length = fs[k].size := by simp
        omega
      obtain ⟨f, hf⟩ : ∃ f, f = fs[k] := ⟨_, rfl⟩
      rw [← hf] at hc hfs HK
      cases hfp : allB fieldP f with
      | false =>
        have HN := Lib.hid (putS_f (t := t) (y := y) k hkf (by rw [← hf]; exact hfp))
        have HF := Lib.hid hfp
        clear hfp hf
        go_wp2_with fail
        refine (field_any f _).mono ?_
        rintro e w4 ⟨rfl, hb4⟩
        rw [HF.out]
        go_wp2_with fail
        go_ret2
        exact ⟨by rw [HN.out]; rfl, hfin.out.trans ((hbr.mono (by omega)).trans (hb4.mono (by have := hbr.size; have := hfin.out.size; omega)))⟩
      | true =>
        have HF := Lib.hid hfp
        have HFK := Lib.hid hf
        clear hfp hf
        go_wp2_with fail
        refine (field_any f _).mono ?_
        rintro e w4 ⟨rfl, hb4⟩
        rw [HF.out]
        have hbl4 := bld_below hbl.out hb4
        have hz4 := hb4.size
        have hzr := hbr.size
        have hz0 := hfin.out.size
        have hl4 : (Lib.byteCells (bodyL t y (fs.take k))).length ≤ 100000 := by rw [Lib.byteCells_length]; omega
        go_wp2_with fail
        refine (WriteByte_any (w.heap.size + 1) w2.heap.size _ 44 _ (.inr hbl4) (by omega) (by have := hbl.out.lt; omega)).mono ?_
        rintro e w5 ⟨rfl, hbl5, hb5⟩
        clear hbl4
        have hz5 := hb5.size
        have hlw : w2.heap.size < wr.heap.size := hbl.out.lt
        have hbs : w.heap.size + 1 ≤ wr.heap.size := by omega
        go_wp2_with fail
        refine (WriteString_any (w.heap.size + 1) w2.heap.size _ f _ (.inr hbl5) (by rw [List.length_append]; simp; omega) (by omega)).mono ?_
        rintro e w6 ⟨rfl, hbl6, hb6⟩
        clear hbl5
        have HB6 := Lib.hid hbl6
        clear hbl6
        go_wp2_with fail
        go_roundw
        case rel =>
          refine ⟨k + 1, by omega, by go_num, ?_, ((hbr.trans (hb4.mono (by omega))).trans hb5).trans hb6, ?_⟩
          · have e1 : Lib.byteCells (bodyL t y (fs.take (k + 1))) = Lib.byteCells (bodyL t y (fs.take k)) ++ [.int .u8 44] ++ Lib.strCells f := by
              rw [HK.out, Lib.byteCells_append, Lib.strCells_eq]
              simp [Lib.byteCells]
            rw [e1]
            exact HB6.out
          · intro j hj hjk
            rcases Nat.lt_or_ge j k with h | h
            · exact hall.out j hj h
            · obtain rfl : j = k := by omega
              rw [← HFK.out]
              exact HF.out
        case measure => simp [intOf]; omega
    · have hkn : k = fs.length := by have := hn.out; omega
      have hall' : ∀ j (hj : j < fs.length), allB fieldP (fs[j]'hj) = true := fun j hj => hall.out j hj (by omega)
      have HP := Lib.hid (putS_ok h.out h2.out hall')
      have hbl' : Hid (Lib.IsBuilder 41 5 (w.heap.size + 1) w2.heap.size (Lib.byteCells (bodyL t y fs)) wr) := by
        have e1 : fs.take k = fs := List.take_of_length_le (by omega)
        have := hbl.out
        rw [e1] at this
        exact .inr this
      have hne' : Hid (bodyL t y fs ≠ []) := by
        intro h0
        have h1 := hne.out
        apply h1
        have h2 : bodyL t y fs = bodyL t y [] ++ fs.flatMap fun f => 44 :: f.data.toList := by simp [bodyL]
        rw [h2] at h0
        exact (List.append_eq_nil_iff.1 h0).1
      clear hkn hall' hbl hall
      have hzr := hbr.size
      have hz0 := hfin.out.size
      obtain ⟨S, hS⟩ : ∃ S : ByteArray, S = ⟨(bodyL t y fs).toArray⟩ := ⟨_, rfl⟩
      have hSz : S.size ≤ 100000 := by rw [hS]; show (bodyL t y fs).toArray.size ≤ _; simpa using hlen
      have HS := Lib.hid hS
      clear hS
      have hT : Hid (textS t y fs = ⟨#[36]⟩ ++ sealB S ++ ⟨#[13, 10]⟩) := by unfold textS; rw [HS.out]; exact rfl
      have hszT : (sealB S).size = S.size + 3 := by
        unfold sealB
        simp only [ByteArray.size_append]
        rfl
      go_wp2_with fail
      refine (String_any (w.heap.size + 1) w2.heap.size (bodyL t y fs) _ hbl'.out hne'.out).mono ?_
      rintro e w4 ⟨rfl, hb4⟩
      rw [← HS.out]
      have hz4 := hb4.size
      go_wp2_with fail
      refine (Seal_any S _ (by omega)).mono ?_
      rintro e w5 ⟨rfl, hb5⟩
      have hbb : Hid (Below w.heap.size w w5) := hfin.out.trans (((hbr.mono (by omega)).trans (hb4.mono (by omega))).trans (hb5.mono (by omega)))
      obtain ⟨Q, hQ⟩ : ∃ Q, Q = sealB S := ⟨_, rfl⟩
      rw [← hQ] at hszT hT ⊢
      clear hQ
      have hq0 : Q.size ≤ S.size + 3 := by omega
      have hq1 : S.size + 3 ≤ Q.size := by omega
      clear hszT
      have hU : (textS t y fs).size = Q.size + 3 := by
        rw [hT.out]
        simp only [ByteArray.size_append]
        have h1 : (ByteArray.mk #[36]).size = 1 := rfl
        have h2 : (ByteArray.mk #[13, 10]).size = 2 := rfl
        rw [h1, h2]
        omega
      by_cases h82 : 82 < (textS t y fs).size
      · have HP2 : Hid (putS t y fs = (ByteArray.empty, 7)) := by rw [HP.out, if_pos h82]; exact rfl
        have h82' : (79 : Int) < (Q.size : Int) := by omega
        clear h82 hU HP
        go_wp2_with fail
        go_ret2
        exact ⟨by rw [HP2.out]; rfl, hbb.out⟩
      · have HP2 : Hid (putS t y fs = (textS t y fs, 0)) := by rw [HP.out, if_neg h82]; exact rfl
        have h82' : (Q.size : Int) ≤ 79 := by omega
        clear h82 hU HP
        go_wp2_with fail
        go_ret2
        exact ⟨by rw [HP2.out, hT.out]; rfl, hbb.out⟩


theorem signsP_size {s : ByteArray} {n : Nat} (h : signsP s n = true) : s.size = n := by
  have := h
  simp [signsP] at this
  exact this.1

/-- Put: the text of any sentence, or why there is none. -/
theorem Put_any (t y : ByteArray) (fs : List ByteArray) (A : Option Addr) (c : Nat) (w : World) (hn1 : fs.length ≤ 1000) (hlen : (bodyL t y fs).length ≤ 100000)
    (hs : Strs w w.heap.size A fs) : Calls Try.prog 9 #[.agg #[.string t, .string y, .slice A fs.length c]] w (PutPost t y fs w) := by
  cases h1 : signsP t 2 with
  | false =>
    unfold PutPost
    rw [putS_t h1]
    exact Put_t t y A _ c w h1
  | true =>
    cases h2 : signsP y 3 with
    | false =>
      unfold PutPost
      rw [putS_y h2]
      exact Put_y t y A _ c w h1 h2
    | true =>
      have ht := signsP_size h1
      have hy := signsP_size h2
      refine Put_loop t y fs A _ c w rfl hn1 hlen ?_ hs h1 h2 (by omega) (by omega)
      intro h0
      have : (bodyL t y []).length = 5 := by simp [bodyL]; omega
      rw [h0] at this
      simp at this

end Go.Proofs.Ytleebikcakndnaa
