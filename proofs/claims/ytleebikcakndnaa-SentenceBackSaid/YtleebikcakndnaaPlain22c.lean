/- The plain law of layer 22: what is put is taken; what is taken is put; what is told stays. -/
import Derived.Test.YtleebikcakndnaaPlain22b
namespace Go.Proofs.Ytleebikcakndnaa
set_option linter.unusedVariables false
open Go.RowKit

theorem B_toList (t : ByteArray) : toB t.data.toList = t := toB_data t

theorem unhex_two {l : List UInt8} {v : Int} (h : unhexL l = some v) : ∃ x y, l = [x, y] := by
  unfold unhexL at h
  split at h
  · rename_i a b; exact ⟨a, b, rfl⟩
  · cases h

theorem takeS_zero {t : ByteArray} (h : (takeS t).2.2 = 0) : t.data.toList[0]? = some 36 ∧ (endE t).2 = 0 ∧ ¬ t.size < (endE t).1 + 2 ∧ t.data.toList[(endE t).1 + 1]? = some 10 ∧ formedB (lineB t) = true ∧ (openB (lineB t)).isSome = true := by
  by_cases h0 : t.size = 0
  · rw [takeS_0 h0] at h; cases h
  by_cases h1 : t.data.toList[0]? = some 36
  · by_cases h2 : (endE t).2 = 0
    · by_cases h3 : t.size < (endE t).1 + 2
      · rw [takeS_3 h0 h1 h2 h3] at h; cases h
      · by_cases h4 : t.data.toList[(endE t).1 + 1]? ≠ some 10 ∨ formedB (lineB t) = false
        · rw [takeS_4 h0 h1 h2 h3 h4] at h; cases h
        · have h5 : t.data.toList[(endE t).1 + 1]? = some 10 := Classical.not_not.1 fun k => h4 (.inl k)
          have h6 : formedB (lineB t) = true := by cases hf : formedB (lineB t) with
            | true => rfl
            | false => exact absurd (.inr hf) h4
          refine ⟨h1, h2, h3, h5, h6, ?_⟩
          rw [takeS_5 h0 h1 h2 h3 h5 h6] at h
          cases ho : openB (lineB t) with
          | none => rw [ho] at h; cases h
          | some b => rfl
    · rw [takeS_2 h0 h1 h2] at h; exact absurd h h2
  · rw [takeS_1 h0 h1] at h; cases h

theorem takeS_err {t : ByteArray} (h : (takeS t).2.2 ≠ 0) : takeS t = ((ByteArray.empty, ByteArray.empty, []), 0, (takeS t).2.2) := by
  by_cases h0 : t.size = 0
  · rw [takeS_0 h0]
  by_cases h1 : t.data.toList[0]? = some 36
  · by_cases h2 : (endE t).2 = 0
    · by_cases h3 : t.size < (endE t).1 + 2
      · rw [takeS_3 h0 h1 h2 h3]
      · by_cases h4 : t.data.toList[(endE t).1 + 1]? ≠ some 10 ∨ formedB (lineB t) = false
        · rw [takeS_4 h0 h1 h2 h3 h4]
        · have h5 : t.data.toList[(endE t).1 + 1]? = some 10 := Classical.not_not.1 fun k => h4 (.inl k)
          have h6 : formedB (lineB t) = true := by cases hf : formedB (lineB t) with
            | true => rfl
            | false => exact absurd (.inr hf) h4
          rw [takeS_5 h0 h1 h2 h3 h5 h6] at h ⊢
          cases ho : openB (lineB t) with
          | none => rfl
          | some b => rw [ho] at h; exact absurd rfl h
    · rw [takeS_2 h0 h1 h2]
  · rw [takeS_1 h0 h1]

theorem getElem?_B (t : ByteArray) (j : Nat) (h : j < t.size) : t.data.toList[j]? = some t[j] := by
  rw [List.getElem?_eq_getElem (by rw [size_list]; exact h)]
  rfl

theorem take_is {t : ByteArray} (h : (takeS t).2.2 = 0) : ∃ P x y M, t = toB (wholeL P x y M) ∧ BodyOk P ∧ unhexL [x, y] = some ((xorL P).toNat : Int) := by
  obtain ⟨h1, h2, h3, h4, h5, h6⟩ := takeS_zero h
  obtain ⟨i, hi⟩ : ∃ i, endE t = (i, 0) := ⟨(endE t).1, by rw [← h2]⟩
  obtain ⟨b1, b2, b3⟩ := scanE_spec t 80 1 i hi
  obtain ⟨s1, s2, s3⟩ := scanE_all t 80 1 i hi
  rw [hi] at h3 h4
  have hL := lineB_ok hi
  rw [hL] at h5 h6
  have hlist : (t.extract 1 i).data.toList = (t.data.toList.drop 1).take (i - 1) := by rw [data_extract]
  obtain ⟨L, hLe⟩ : ∃ L, t.extract 1 i = L := ⟨_, rfl⟩
  have hls : L.size = i - 1 := by rw [← hLe, ByteArray.size_extract]; omega
  rw [hLe] at h5 h6 hlist
  unfold formedB at h5
  rw [Bool.and_eq_true, Bool.and_eq_true, Bool.and_eq_true, Bool.and_eq_true] at h5
  obtain ⟨⟨⟨⟨q1, q2⟩, q3⟩, q4⟩, q5⟩ := h5
  have k1 := of_decide_eq_true q1
  obtain ⟨n, hn⟩ : ∃ n, L.size = n + 3 := ⟨L.size - 3, by omega⟩
  have hix : Lib.indexByte L.data.toList 42 = (n : Int) := by have := of_decide_eq_true q2; unfold cutI at this; omega
  obtain ⟨i1, i2, i3⟩ := index_at _ _ n hix
  obtain ⟨b, hb⟩ := Option.isSome_iff_exists.1 h6
  unfold openB at hb
  rw [if_neg (by omega)] at hb
  split at hb
  · rename_i hc
    obtain ⟨_, hu⟩ := hc
    rw [show L.size - 3 = n from by omega, last_two] at hu
    obtain ⟨x, y, hxy⟩ := unhex_two hu
    have hPl : (L.data.toList.take n).length = n := by rw [List.length_take]; omega
    have hP : (L.extract 0 n).data.toList = L.data.toList.take n := by rw [data_extract]; rfl
    have hsum : sumI (L.extract 0 n) = ((xorL (L.data.toList.take n)).toNat : Int) := by unfold sumI; rw [hP]
    have hall : ∀ c ∈ L.data.toList, okC (c.toNat : Int) = true := by
      intro c hc
      rw [hlist] at hc
      obtain ⟨j, hj, rfl⟩ := List.getElem_of_mem hc
      rw [List.length_take, List.length_drop] at hj
      obtain ⟨g, ok, _⟩ := s1 (j + 1) (by omega) (by omega)
      have e : ((t.data.toList.drop 1).take (i - 1))[j]'(by rw [List.length_take, List.length_drop]; exact hj) = t[j + 1] := by
        rw [List.getElem_take, List.getElem_drop]
        have := getElem?_B t (j + 1) g
        rw [List.getElem?_eq_getElem (by rw [size_list]; exact g)] at this
        injection this with this
        rw [← this]
        congr 1
        omega
      rw [e]
      exact ok
    refine ⟨L.data.toList.take n, x, y, t.data.toList.drop (i + 2), ?_, ⟨by omega, by omega, ?_, ?_, ?_⟩, by rw [← hxy, hu, hsum]⟩
    · have e1 : t.data.toList = t.data.toList.take i ++ t.data.toList.drop i := (List.take_append_drop _ _).symm
      have e2 : t.data.toList.drop i = 13 :: 10 :: t.data.toList.drop (i + 2) := by
        have g1 : i < t.data.toList.length := by rw [size_list]; omega
        have g2 : i + 1 < t.data.toList.length := by rw [size_list]; omega
        rw [List.drop_eq_getElem_cons g1, List.drop_eq_getElem_cons g2]
        have v2 : t.data.toList[i + 1] = 10 := by rw [List.getElem?_eq_getElem g2] at h4; injection h4
        have v1 : t.data.toList[i] = 13 := by
          have := (byte_at t i (by omega) 13).2 (by rw [s3]; rfl)
          rw [List.getElem?_eq_getElem g1] at this; injection this
        rw [v1, v2]
      have e3 : t.data.toList.take i = 36 :: L.data.toList := by
        rw [hlist]
        cases hd : t.data.toList with
        | nil => rw [hd] at h1; cases h1
        | cons a l =>
          rw [hd] at h1
          have : a = 36 := by simpa using h1
          subst this
          obtain ⟨i, rfl⟩ : ∃ j, i = j + 1 := ⟨i - 1, by omega⟩
          rfl
      refine (B_toList t).symm.trans (congrArg toB (e1.trans ?_))
      rw [e2, e3]
      have i2' := i2
      rw [hxy] at i2'
      generalize L.data.toList.take n = Q at i2' ⊢
      rw [i2']
      simp [wholeL]
    · intro c hc
      rw [List.take_take, Nat.min_eq_left (by omega)] at hc
      unfold signsP allB at q3
      rw [Bool.and_eq_true, data_extract, List.all_eq_true] at q3
      exact q3.2 c hc
    · intro c hc
      refine letter_of (hall c (List.mem_of_mem_take hc)) ?_
      intro h42
      exact i3 c hc (UInt8.toNat_inj.1 (by have e : (42 : UInt8).toNat = 42 := rfl; omega))
    · intro h
      rw [hPl] at h
      rw [Bool.or_eq_true, decide_eq_true_eq, decide_eq_true_eq] at q5
      rw [List.getElem?_take_of_lt h]
      exact q5.resolve_left (by omega)
  · cases hb

theorem splitC_join (l : List UInt8) : ((splitC l).flatMap fun f => 44 :: f) = 44 :: l := by
  induction l with
  | nil => rfl
  | cons b l ih =>
    by_cases hb : b = 44
    · rw [hb, splitC_comma, List.flatMap_cons, ih]; rfl
    · rw [splitC_cons b l hb]
      cases hs : splitC l with
      | nil => exact absurd hs (splitC_ne l)
      | cons h r =>
        rw [hs, List.flatMap_cons] at ih
        have ih' : h ++ (r.flatMap fun f => 44 :: f) = l := by simpa using ih
        show (44 :: ([b] ++ h)) ++ (r.flatMap fun f => 44 :: f) = 44 :: b :: l
        rw [← ih']
        simp
theorem splitC_mem (l : List UInt8) : ∀ g ∈ splitC l, ∀ c ∈ g, c ≠ 44 ∧ c ∈ l := by
  induction l with
  | nil => intro g hg c hc; simp [splitC] at hg; rw [hg] at hc; simp at hc
  | cons b l ih =>
    intro g hg c hc
    by_cases hb : b = 44
    · rw [hb, splitC_comma] at hg
      rcases List.mem_cons.1 hg with rfl | hg
      · simp at hc
      · have := ih g hg c hc; exact ⟨this.1, List.mem_cons_of_mem _ this.2⟩
    · rw [splitC_cons b l hb] at hg
      cases hs : splitC l with
      | nil => exact absurd hs (splitC_ne l)
      | cons h r =>
        rw [hs] at hg ih
        rcases List.mem_cons.1 hg with rfl | hg
        · rcases List.mem_append.1 hc with hc | hc
          · have : c = b := by simpa using hc
            subst this
            exact ⟨hb, by simp⟩
          · have := ih h (by simp) c hc; exact ⟨this.1, List.mem_cons_of_mem _ this.2⟩
        · have := ih g (by simp [hg]) c hc; exact ⟨this.1, List.mem_cons_of_mem _ this.2⟩
theorem splitC_flat (gs : List (List UInt8)) : ∀ f : List UInt8, (∀ c ∈ f, c ≠ 44) → (∀ g ∈ gs, ∀ c ∈ g, c ≠ 44) → splitC (f ++ gs.flatMap fun g => 44 :: g) = f :: gs := by
  induction gs with
  | nil => intro f h _; rw [List.flatMap_nil, List.append_nil, splitC_none _ h]
  | cons g gs ih =>
    intro f h hg
    rw [List.flatMap_cons, List.cons_append, splitC_at _ _ h, ih g (hg g (by simp)) (fun q hq => hg q (by simp [hq]))]

section
variable {P : List UInt8} (hP : BodyOk P)
include hP

theorem body_parts : bodyL (partsL P).1 (partsL P).2.1 (partsL P).2.2 = P := by
  obtain ⟨p1, p2, p3, p4, p5⟩ := hP
  unfold bodyL partsL
  rw [toList_B, toList_B]
  have e : P = P.take 2 ++ (P.drop 2).take 3 ++ P.drop 5 := by
    conv => lhs; rw [← List.take_append_drop 5 P, show (5 : Nat) = 2 + 3 from rfl, List.take_add]
  by_cases h : 5 < P.length
  · have hd : P.drop 5 = 44 :: P.drop 6 := by
      rw [List.drop_eq_getElem_cons h]
      have := p5 h
      rw [List.getElem?_eq_getElem h] at this
      injection this with this
      rw [this]
    show _ ++ _ ++ List.flatMap _ (if 5 < P.length then _ else _) = P
    rw [if_pos h]
    conv => rhs; rw [e, hd, ← splitC_join]
    rw [List.flatMap_map]
    simp only [toList_B]
  · show _ ++ _ ++ List.flatMap _ (if 5 < P.length then _ else _) = P
    rw [if_neg h, List.flatMap_nil]
    have e5 : P.drop 5 = [] := List.drop_eq_nil_of_le (by omega)
    rw [e5] at e
    exact e.symm

theorem parts_ok : signsP (partsL P).1 2 = true ∧ signsP (partsL P).2.1 3 = true ∧ ∀ k (hk : k < (partsL P).2.2.length), allB fieldP ((partsL P).2.2[k]'hk) = true := by
  obtain ⟨p1, p2, p3, p4, p5⟩ := hP
  refine ⟨?_, ?_, ?_⟩
  · unfold signsP allB partsL
    rw [Bool.and_eq_true, decide_eq_true_eq, size_B, List.length_take, toList_B, List.all_eq_true]
    refine ⟨by omega, fun c hc => p3 c ?_⟩
    rw [show (5 : Nat) = 2 + 3 from rfl, List.take_add]
    exact List.mem_append_left _ hc
  · unfold signsP allB partsL
    show (decide ((toB ((P.drop 2).take 3)).size = 3) && _) = true
    rw [Bool.and_eq_true, decide_eq_true_eq, size_B, List.length_take, List.length_drop, List.all_eq_true]
    refine ⟨by omega, fun c hc => p3 c ?_⟩
    rw [toList_B] at hc
    rw [show (5 : Nat) = 2 + 3 from rfl, List.take_add]
    exact List.mem_append_right _ hc
  · intro k hk
    have hm := List.getElem_mem hk
    revert hm
    generalize (partsL P).2.2[k] = f
    intro hm
    unfold partsL at hm
    dsimp only at hm
    split at hm
    · obtain ⟨g, hg, rfl⟩ := List.mem_map.1 hm
      unfold allB
      rw [toList_B, List.all_eq_true]
      intro c hc
      obtain ⟨c1, c2⟩ := splitC_mem _ g hg c hc
      unfold fieldP
      rw [Bool.and_eq_true, decide_eq_true_eq]
      refine ⟨p4 c (List.mem_of_mem_drop c2), fun h44 => c1 (UInt8.toNat_inj.1 (by have e : (44 : UInt8).toNat = 44 := rfl; omega))⟩
    · cases hm
end

theorem toB_append (a b : List UInt8) : toB a ++ toB b = toB (a ++ b) := by
  apply ByteArray.ext
  simp [toB, ByteArray.data_append]

theorem textS_form (T Y : ByteArray) (fs : List ByteArray) : ∃ x y, unhexL [x, y] = some ((xorL (bodyL T Y fs)).toNat : Int) ∧ ∀ M, textS T Y fs ++ toB M = toB (wholeL (bodyL T Y fs) x y M) := by
  have hs : sumI ⟨(bodyL T Y fs).toArray⟩ = ((xorL (bodyL T Y fs)).toNat : Int) := by simp [sumI]
  have hb := sumI_bd ⟨(bodyL T Y fs).toArray⟩
  have h := unhex_hexL (sumI ⟨(bodyL T Y fs).toArray⟩) hb.1 hb.2
  refine ⟨_, _, by rw [← hs]; exact h, fun M => ?_⟩
  unfold textS
  rw [sealB_form]
  show toB [36] ++ toB _ ++ toB [13, 10] ++ toB M = _
  rw [toB_append, toB_append, toB_append]
  congr 1
  simp [wholeL]

/-- What is taken, put: a text as long, that is taken as that. -/
theorem put_parts {P : List UInt8} (hP : BodyOk P) : ∃ x y, unhexL [x, y] = some ((xorL P).toNat : Int) ∧ putS (partsL P).1 (partsL P).2.1 (partsL P).2.2 = (toB (wholeL P x y []), 0) := by
  obtain ⟨x, y, hu, ht⟩ := textS_form (partsL P).1 (partsL P).2.1 (partsL P).2.2
  have hb := body_parts hP
  obtain ⟨o1, o2, o3⟩ := parts_ok hP
  rw [hb] at hu ht
  refine ⟨x, y, hu, ?_⟩
  have hz := textS_size (partsL P).1 (partsL P).2.1 (partsL P).2.2
  rw [hb] at hz
  rw [putS_ok o1 o2 o3, if_neg (by have := hP.2.1; omega)]
  have := ht []
  rw [← this]
  have e : ∀ s : ByteArray, s ++ toB [] = s := fun s => by apply ByteArray.ext; simp [toB, ByteArray.data_append]
  rw [e]

/-- What is put is taken, whatever stands behind it. -/
theorem take_put {T Y : ByteArray} {fs : List ByteArray} {M : ByteArray} (h : (putS T Y fs).2 = 0) : (putS T Y fs).1.size ≤ 82 ∧ takeS ((putS T Y fs).1 ++ M) = ((T, Y, fs), (putS T Y fs).1.size, 0) := by
  obtain ⟨o, hz, he⟩ : (signsP T 2 && signsP Y 3 && fs.all (allB fieldP)) = true ∧ (textS T Y fs).size ≤ 82 ∧ putS T Y fs = (textS T Y fs, 0) := by
    unfold putS at h ⊢
    split at h
    · cases h
    · rename_i h1
      split at h
      · cases h
      · rename_i h2
        exact ⟨by cases hh : (signsP T 2 && signsP Y 3 && fs.all (allB fieldP)) with | true => rfl | false => exact absurd hh h1, by omega, by rw [if_neg h1, if_neg h2]⟩
  rw [he]
  refine ⟨hz, ?_⟩
  obtain ⟨x, y, hu, ht⟩ := textS_form T Y fs
  have hts := textS_size T Y fs
  rw [Bool.and_eq_true, Bool.and_eq_true] at o
  obtain ⟨⟨o1, o2⟩, o3⟩ := o
  unfold signsP at o1 o2
  rw [Bool.and_eq_true, decide_eq_true_eq] at o1 o2
  have z1 := size_list T
  have z2 := size_list Y
  have a1 : ∀ c ∈ T.data.toList, signP (c.toNat : Int) = true := by have := o1.2; unfold allB at this; rw [List.all_eq_true] at this; exact this
  have a2 : ∀ c ∈ Y.data.toList, signP (c.toNat : Int) = true := by have := o2.2; unfold allB at this; rw [List.all_eq_true] at this; exact this
  have a3 : ∀ f ∈ fs, ∀ c ∈ f.data.toList, fieldP (c.toNat : Int) = true := by
    intro f hf
    rw [List.all_eq_true] at o3
    have := o3 f hf
    unfold allB at this; rw [List.all_eq_true] at this; exact this
  have l1 : (T.data.toList ++ Y.data.toList).length = 5 := by rw [List.length_append]; omega
  have ht5 : (bodyL T Y fs).take 5 = T.data.toList ++ Y.data.toList := by unfold bodyL; rw [List.take_left' l1]
  have hd5 : (bodyL T Y fs).drop 5 = fs.flatMap fun f => 44 :: f.data.toList := by unfold bodyL; rw [List.drop_left' l1]
  have sl : ∀ c : Int, signP c = true → letterP c = true := by
    intro c h
    have := of_decide_eq_true h
    unfold letterP
    rw [decide_eq_true_eq]
    omega
  have hlen : (bodyL T Y fs).length = 5 + (fs.flatMap fun f => 44 :: f.data.toList).length := by unfold bodyL; rw [List.length_append, l1]
  have hP : BodyOk (bodyL T Y fs) := by
    refine ⟨by omega, by omega, ?_, ?_, ?_⟩
    · rw [ht5]
      intro c hc
      exact (List.mem_append.1 hc).elim (a1 c) (a2 c)
    · intro c hc
      unfold bodyL at hc
      rcases List.mem_append.1 hc with hc | hc
      · exact sl _ ((List.mem_append.1 hc).elim (a1 c) (a2 c))
      · obtain ⟨f, hf, hc⟩ := List.mem_flatMap.1 hc
        rcases List.mem_cons.1 hc with rfl | hc
        · decide
        · have := a3 f hf c hc
          unfold fieldP at this
          rw [Bool.and_eq_true] at this
          exact this.1
    · intro h
      have : (bodyL T Y fs)[5]? = ((bodyL T Y fs).drop 5)[0]? := by rw [List.getElem?_drop]
      rw [this, hd5]
      cases fs with
      | nil => rw [hlen] at h; simp at h
      | cons f gs => rfl
  have key : partsL (bodyL T Y fs) = (T, Y, fs) := by
    have k1 : (bodyL T Y fs).take 2 = T.data.toList := by
      have : (bodyL T Y fs).take 2 = ((bodyL T Y fs).take 5).take 2 := by rw [List.take_take]; rfl
      rw [this, ht5, List.take_left' (by omega)]
    have k2 : ((bodyL T Y fs).drop 2).take 3 = Y.data.toList := by
      have : ((bodyL T Y fs).drop 2).take 3 = ((bodyL T Y fs).take 5).drop 2 := by rw [List.drop_take]
      rw [this, ht5, List.drop_left' (by omega)]
    have k3 : (if 5 < (bodyL T Y fs).length then (splitC ((bodyL T Y fs).drop 6)).map toB else []) = fs := by
      cases fs with
      | nil => rw [if_neg (by rw [hlen]; simp)]
      | cons f gs =>
        have d6 : (bodyL T Y (f :: gs)).drop 6 = f.data.toList ++ (gs.map fun g => g.data.toList).flatMap fun g => 44 :: g := by
          have : (bodyL T Y (f :: gs)).drop 6 = ((bodyL T Y (f :: gs)).drop 5).drop 1 := by rw [List.drop_drop]
          rw [this, hd5, List.flatMap_cons, List.flatMap_map]
          rfl
        have noc : ∀ g ∈ f :: gs, ∀ c ∈ g.data.toList, c ≠ 44 := by
          intro g hg c hc h44
          have := a3 g hg c hc
          rw [h44] at this
          exact absurd this (by decide)
        rw [if_pos (by rw [hlen, List.flatMap_cons, List.length_append, List.length_cons]; omega), d6, splitC_flat _ _ (noc f (by simp)) (by
          intro q hq c hc
          obtain ⟨g, hg, rfl⟩ := List.mem_map.1 hq
          exact noc g (by simp [hg]) c hc), List.map_cons, List.map_map, B_toList]
        congr 1
        exact (List.map_congr_left (fun g _ => B_toList g)).trans (List.map_id gs)
    unfold partsL
    rw [k1, k2, k3, B_toList, B_toList]
  show takeS (textS T Y fs ++ M) = ((T, Y, fs), (textS T Y fs).size, 0)
  have hm := ht M.data.toList
  rw [B_toList] at hm
  rw [hm, take_form hP hu, key, hts]

theorem scanE_more (l m : List UInt8) : ∀ f i, (scanE (toB l) f i).2 ≠ 2 → scanE (toB (l ++ m)) f i = scanE (toB l) f i := by
  intro f
  induction f with
  | zero => intro i _; rfl
  | succ f ih =>
    intro i h
    by_cases hi : i < (toB l).size
    · have hi' : i < (toB (l ++ m)).size := by rw [size_B] at hi ⊢; rw [List.length_append]; omega
      have e : (toB (l ++ m))[i] = (toB l)[i] := by
        rw [get_B _ _ hi, get_B _ _ hi', List.getElem_append_left]
      unfold scanE at h ⊢
      rw [dif_pos hi] at h ⊢
      rw [dif_pos hi', e]
      split
      · rfl
      · rename_i h13
        rw [if_neg h13] at h
        split
        · rename_i ho
          rw [if_pos ho] at h
          exact ih _ h
        · rfl
    · unfold scanE at h
      rw [dif_neg hi] at h
      exact absurd rfl h

/-- What is told stays, when more bytes come, but that there were too few. -/
theorem take_more (l m : List UInt8) (h : (takeS (toB l)).2.2 ≠ 2) : takeS (toB (l ++ m)) = takeS (toB l) := by
  by_cases h0 : (toB l).size = 0
  · rw [takeS_0 h0] at h; exact absurd rfl h
  have h0' : ¬ (toB (l ++ m)).size = 0 := by rw [size_B] at h0 ⊢; rw [List.length_append]; omega
  have get : ∀ j, j < l.length → (toB (l ++ m)).data.toList[j]? = (toB l).data.toList[j]? := fun j hj => by rw [toList_B, toList_B, List.getElem?_append_left hj]
  have hz : (toB l).size = l.length := size_B l
  by_cases h1 : (toB l).data.toList[0]? = some 36
  · have h1' : (toB (l ++ m)).data.toList[0]? = some 36 := by rw [get 0 (by omega)]; exact h1
    by_cases h2 : (endE (toB l)).2 = 0
    · have hE : endE (toB (l ++ m)) = endE (toB l) := scanE_more l m 80 1 (by show (endE (toB l)).2 ≠ 2; omega)
      have h2' : (endE (toB (l ++ m))).2 = 0 := by rw [hE]; exact h2
      by_cases h3 : (toB l).size < (endE (toB l)).1 + 2
      · rw [takeS_3 h0 h1 h2 h3] at h; exact absurd rfl h
      · have h3' : ¬ (toB (l ++ m)).size < (endE (toB (l ++ m))).1 + 2 := by rw [hE]; rw [size_B] at h3 ⊢; rw [List.length_append]; omega
        obtain ⟨i, hi⟩ : ∃ i, endE (toB l) = (i, 0) := ⟨(endE (toB l)).1, by rw [← h2]⟩
        have hi' : endE (toB (l ++ m)) = (i, 0) := by rw [hE]; exact hi
        have hLn : lineB (toB (l ++ m)) = lineB (toB l) := by
          rw [lineB_ok hi, lineB_ok hi', extract_list, extract_list, toList_B, toList_B]
          rw [hi] at h3
          have b1 := (scanE_spec (toB l) 80 1 i hi).1
          congr 1
          rw [List.drop_append_of_le_length (by omega), List.take_append_of_le_length (by rw [List.length_drop]; omega)]
        have g4 : (toB (l ++ m)).data.toList[(endE (toB l)).1 + 1]? = (toB l).data.toList[(endE (toB l)).1 + 1]? := get _ (by omega)
        rw [← hE] at g4
        by_cases h4 : (toB l).data.toList[(endE (toB l)).1 + 1]? ≠ some 10 ∨ formedB (lineB (toB l)) = false
        · rw [takeS_4 h0 h1 h2 h3 h4, takeS_4 h0' h1' h2' h3' (by rw [g4, hE, hLn]; exact h4)]
        · have h5 : (toB l).data.toList[(endE (toB l)).1 + 1]? = some 10 := Classical.not_not.1 fun k => h4 (.inl k)
          have h6 : formedB (lineB (toB l)) = true := by cases hf : formedB (lineB (toB l)) with
            | true => rfl
            | false => exact absurd (.inr hf) h4
          rw [takeS_5 h0 h1 h2 h3 h5 h6, takeS_5 h0' h1' h2' h3' (by rw [g4, hE]; exact h5) (by rw [hLn]; exact h6), hLn, hE]
    · have hE : endE (toB (l ++ m)) = endE (toB l) := scanE_more l m 80 1 (by
        show (endE (toB l)).2 ≠ 2
        rw [takeS_2 h0 h1 h2] at h; exact h)
      rw [takeS_2 h0 h1 h2, takeS_2 h0' h1' (by rw [hE]; exact h2), hE]
  · have h1' : ¬ (toB (l ++ m)).data.toList[0]? = some 36 := by rw [get 0 (by omega)]; exact h1
    rw [takeS_1 h0 h1, takeS_1 h0' h1']

end Go.Proofs.Ytleebikcakndnaa
