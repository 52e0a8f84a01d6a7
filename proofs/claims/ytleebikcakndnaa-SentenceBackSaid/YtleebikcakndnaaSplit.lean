/- A text parted at its commas: the plain law; the contracts of sentence.cut and of the reference's fields. -/
import Derived.Test.YtleebikcakndnaaCut
namespace Go.Proofs.Ytleebikcakndnaa
set_option linter.unusedVariables false
open Go.RowKit

def splitC : List UInt8 → List (List UInt8)
  | [] => [[]]
  | b :: l => if b = 44 then [] :: splitC l else match splitC l with
    | [] => [[b]]
    | h :: r => (b :: h) :: r
theorem splitC_ne (l : List UInt8) : splitC l ≠ [] := by
  cases l with
  | nil => simp [splitC]
  | cons b l =>
    unfold splitC
    split
    · simp
    · split <;> simp
/-- p ahead of the first part. -/
def headC (p : List UInt8) : List (List UInt8) → List (List UInt8)
  | [] => [p]
  | h :: r => (p ++ h) :: r
theorem splitC_cons (b : UInt8) (l : List UInt8) (h : b ≠ 44) : splitC (b :: l) = headC [b] (splitC l) := by
  rw [splitC, if_neg h]
  cases hs : splitC l with
  | nil => exact absurd hs (splitC_ne l)
  | cons x r => rfl
theorem splitC_comma (l : List UInt8) : splitC (44 :: l) = [] :: splitC l := by rw [splitC, if_pos rfl]
theorem headC_headC (p q : List UInt8) (x : List (List UInt8)) (hx : x ≠ []) : headC p (headC q x) = headC (p ++ q) x := by
  cases x with
  | nil => exact absurd rfl hx
  | cons h r => simp [headC]
theorem headC_nil (x : List (List UInt8)) (hx : x ≠ []) : headC [] x = x := by
  cases x with
  | nil => exact absurd rfl hx
  | cons h r => simp [headC]
theorem splitC_append (p q : List UInt8) (h : ∀ c ∈ p, c ≠ 44) : splitC (p ++ q) = headC p (splitC q) := by
  induction p with
  | nil => rw [List.nil_append, headC_nil _ (splitC_ne q)]
  | cons b p ih =>
    rw [List.cons_append, splitC_cons b _ (h b (by simp)), ih (fun c hc => h c (by simp [hc])), headC_headC _ _ _ (splitC_ne q)]
    rfl
theorem splitC_none (p : List UInt8) (h : ∀ c ∈ p, c ≠ 44) : splitC p = [p] := by
  have := splitC_append p [] h
  rw [List.append_nil] at this
  rw [this]
  simp [splitC, headC]
theorem splitC_at (p q : List UInt8) (h : ∀ c ∈ p, c ≠ 44) : splitC (p ++ 44 :: q) = p :: splitC q := by
  rw [splitC_append p _ h, splitC_comma]
  simp [headC]

theorem index_neg (l : List UInt8) (c : UInt8) (h : Lib.indexByte l c < 0) : ∀ x ∈ l, x ≠ c := by
  induction l with
  | nil => intro x hx; simp at hx
  | cons b l ih =>
    unfold Lib.indexByte at h
    by_cases hb : b == c
    · rw [if_pos hb] at h; omega
    · rw [if_neg hb] at h
      have hge := Lib.indexByte_ge l c
      by_cases hl : Lib.indexByte l c == -1
      · have : Lib.indexByte l c < 0 := by rw [beq_iff_eq] at hl; omega
        intro x hx
        rcases List.mem_cons.1 hx with rfl | hx
        · simpa using hb
        · exact ih this x hx
      · rw [if_neg hl] at h
        rw [beq_iff_eq] at hl
        omega
theorem index_at (l : List UInt8) (c : UInt8) : ∀ i : Nat, Lib.indexByte l c = (i : Int) → i < l.length ∧ l = l.take i ++ c :: l.drop (i + 1) ∧ ∀ x ∈ l.take i, x ≠ c := by
  induction l with
  | nil => intro i h; simp [Lib.indexByte] at h
  | cons b l ih =>
    intro i h
    unfold Lib.indexByte at h
    by_cases hb : b == c
    · rw [if_pos hb] at h
      have : i = 0 := by omega
      subst this
      have : b = c := by simpa using hb
      subst this
      exact ⟨by simp, by simp, fun x hx => by simp at hx⟩
    · rw [if_neg hb] at h
      by_cases hl : Lib.indexByte l c == -1
      · rw [if_pos hl] at h; omega
      · rw [if_neg hl] at h
        have hge := Lib.indexByte_ge l c
        obtain ⟨j, rfl⟩ : ∃ j, i = j + 1 := ⟨i - 1, by rw [beq_iff_eq] at hl; omega⟩
        obtain ⟨h1, h2, h3⟩ := ih j (by omega)
        refine ⟨by simp; omega, ?_, ?_⟩
        · rw [List.take_succ_cons, List.drop_succ_cons, List.cons_append, ← h2]
        · intro x hx
          rw [List.take_succ_cons] at hx
          rcases List.mem_cons.1 hx with rfl | hx
          · simpa using hb
          · exact h3 x hx

def toB (l : List UInt8) : ByteArray := ⟨l.toArray⟩
def splitB (s : ByteArray) : List ByteArray := (splitC s.data.toList).map toB
theorem toB_data (s : ByteArray) : toB s.data.toList = s := by obtain ⟨⟨l⟩⟩ := s; rfl
theorem extract_list (s : ByteArray) (a b : Nat) : s.extract a b = toB ((s.data.toList.drop a).take (b - a)) := by
  obtain ⟨⟨l⟩⟩ := s
  exact ByteArray.extract_mk l a b
theorem splitB_no (s : ByteArray) (h : cutI s 44 < 0) : splitB s = [s] := by
  unfold splitB
  rw [splitC_none _ (index_neg _ _ h), List.map_singleton, toB_data]
theorem splitB_at (s : ByteArray) (i : Nat) (h : cutI s 44 = (i : Int)) : i < s.size ∧ splitB s = s.extract 0 i :: splitB (s.extract (i + 1) s.size) := by
  obtain ⟨h1, h2, h3⟩ := index_at _ _ i h
  have hl : s.data.toList.length = s.size := by simp
  refine ⟨by omega, ?_⟩
  have e1 : s.extract 0 i = toB (s.data.toList.take i) := by rw [extract_list]; simp
  have e2 : s.extract (i + 1) s.size = toB (s.data.toList.drop (i + 1)) := by
    rw [extract_list, List.take_of_length_le (by rw [List.length_drop]; omega)]
  rw [e1, e2]
  unfold splitB
  have e3 : splitC s.data.toList = s.data.toList.take i :: splitC (s.data.toList.drop (i + 1)) := by
    conv => lhs; rw [h2]
    exact splitC_at _ _ h3
  rw [e3]
  rfl

theorem strs_of_own {w : World} {B : Nat} {e : TypeId} {A : Option Addr} {n c : Nat} {fs : List ByteArray} (h : w.ownsRow B e 1 (.slice A n c) n (fs.map Value.string)) : fs.length = n ∧ Strs w w.heap.size A fs ∧ FreshA B A := by
  have hl : fs.length = n := by have := h.1; simpa using this
  refine ⟨hl, ?_, fun a ha => ?_⟩
  · intro k hk
    rcases h.2 with ⟨hv, h0⟩ | ⟨g, cap, cur, hv, _, hg, _⟩
    · omega
    · have hA : A = some ⟨g, 0, none⟩ := by injection hv
      subst hA
      have hc := h.cells (g := g) rfl k (.string fs[k]) (by simp [hk])
      exact ⟨g, 0, rfl, (Array.getElem?_eq_some_iff.1 hg).1, by
        have : (⟨g, 0, none⟩ : Addr).add k = ⟨g, 0 + k, none⟩ := by unfold Addr.add; split <;> simp_all
        rw [← this]; exact hc⟩
  · rcases h.2 with ⟨hv, h0⟩ | ⟨g, cap, cur, hv, hb, hg, _⟩
    · have hA : A = none := by injection hv
      rw [hA] at ha
      cases ha
    · have hA : A = some ⟨g, 0, none⟩ := by injection hv
      rw [hA] at ha
      injection ha with ha
      rw [← ha]
      exact hb

theorem own_below {w w' : World} {B : Nat} {e : TypeId} {size n : Nat} {v : Value} {xs : List Value} (h : w.ownsRow B e size v n xs) (hb : Below w.heap.size w w') : w'.ownsRow B e size v n xs :=
  h.kept (row := none) ⟨hb.os, hb.tape, hb.output, hb.size, fun i hi _ => hb.block i hi⟩ (Classical.em _)
theorem own_form {w : World} {B : Nat} {e : TypeId} {size n : Nat} {v : Value} {xs : List Value} (h : w.ownsRow B e size v n xs) : ∃ A c, v = .slice A n c := by
  rcases h.2 with ⟨hv, h0⟩ | ⟨g, cap, cur, hv, _⟩
  · exact ⟨none, 0, by rw [hv, h0]⟩
  · exact ⟨_, _, hv⟩
def strLenV : Value → Nat
  | .string s => s.size
  | _ => 0
theorem str_info : (Try.prog.info? 9).map (fun i => (i.zero, i.size, i.bytes)) = some (some (.string ByteArray.empty), 1, 16) := by kernel_rfl

def StrsPost (fs : List ByteArray) (w : World) (e : Ending) (w' : World) : Prop :=
  ∃ A c, e = .returned (.slice A fs.length c) ∧ Strs w' w'.heap.size A fs ∧ FreshA w.heap.size A ∧ Below w.heap.size w w'

set_option maxHeartbeats 2000000 in
theorem cut_any (S : ByteArray) (w : World) (hm : S.size ≤ 100000) :
    Calls Try.prog 27 #[.string S] w (StrsPost (splitB S) w) := by
  obtain ⟨i0, hi, hz0, hz1, hz2⟩ := info_parts str_info
  go_enter Try.func27, Try.ntmps27
  go_wp2
  go_step3
  go_wp2
  go_step3
  go_wp2
  have hS0 : Hid (splitB S = [] ++ splitB S) := rfl
  go_loopw [0, 3] (fun sv v wr => ∃ (s : ByteArray) (parts : List ByteArray), sv = .string s ∧ parts.length + s.size ≤ S.size ∧ Hid (wr.ownsRow w.heap.size 9 1 v parts.length (parts.map Value.string)) ∧ Below w.heap.size w wr ∧ Hid (splitB S = parts ++ splitB s)) (fun sv _ _ => strLenV sv)
  case atStart => exact ⟨S, [], rfl, by simp, World.ownsRow_nil _ _ _ _, Below.refl _ _, hS0⟩
  case round =>
    obtain ⟨s, parts, rfl, hlen, hown, hbr, hsp⟩ := hrel
    have hzr := hbr.size
    by_cases hc : cutI s 44 < 0
    · have HN := Lib.hid (splitB_no s hc)
      have HC := Lib.hid hc
      clear hc
      go_wp2_with fail
      refine (Cut_no s 44 _ HC).mono ?_
      rintro e w1 ⟨rfl, hb1⟩
      have hs1 := hb1.size
      have HO := Lib.hid (own_below hown.out hb1)
      go_wp2_with (at_builtin; refine wpList_append_own _ rfl _ _ 22 rfl w.heap.size 9 i0 (.string ByteArray.empty) 1 16 Try.underlying22 hi hz0 hz1 hz2 rfl (by decide) _ _ _ rfl (HO.out.alloc _) ⟨w1.heap.size, 0, none⟩ 1 1 [.string s] rfl rfl ?c1 ?c2 ?c3 ?c4 ?c5 ?_)
      case c1 => exact cell_one_new _ _ _
      case c2 => intro u hu; simp at hu; subst hu; rfl
      case c3 => unfold maxLen; omega
      case c4 => omega
      case c5 => simp; omega
      intro v' w2 hown' hgrow _
      have hbb : Hid (Below w.heap.size w w2) := (((hbr.trans (hb1.mono (by omega))).alloc (by omega) _).grown hgrow (by simp; omega) (fun k hk => (HO.out.lt k hk).1))
      obtain ⟨A, c, hv⟩ := own_form hown'
      have hst : Hid ((splitB S).length = parts.length + 1 ∧ Strs w2 w2.heap.size A (splitB S) ∧ FreshA w.heap.size A) := by
        have e1 : splitB S = parts ++ [s] := by rw [hsp.out, HN.out]
        have h2 : w2.ownsRow w.heap.size 9 1 (.slice A (parts.length + 1) c) (parts.length + 1) ((parts ++ [s]).map Value.string) := by rw [← hv]; simpa using hown'
        rw [e1]
        exact strs_of_own h2
      clear hown' hgrow hsp
      rw [hv]
      go_wp2_with fail
      rw [Exit.noGoto_ret]
      go_ret
      exact ⟨A, c, by rw [hst.out.1]; rfl, hst.out.2.1, hst.out.2.2, hbb.out⟩
    · obtain ⟨i, hci⟩ : ∃ i : Nat, cutI s 44 = (i : Int) := ⟨(cutI s 44).toNat, by omega⟩
      obtain ⟨hil, hsa⟩ := splitB_at s i hci
      have HN := Lib.hid hsa
      have HC := Lib.hid hci
      clear hc hci hsa
      go_wp2_with fail
      refine (Cut_yes s 44 i _ (by omega) hil HC).mono ?_
      rintro e w1 ⟨rfl, hb1⟩
      have hs1 := hb1.size
      have HO := Lib.hid (own_below hown.out hb1)
      go_wp2_with (at_builtin; refine wpList_append_own _ rfl _ _ 22 rfl w.heap.size 9 i0 (.string ByteArray.empty) 1 16 Try.underlying22 hi hz0 hz1 hz2 rfl (by decide) _ _ _ rfl (HO.out.alloc _) ⟨w1.heap.size, 0, none⟩ 1 1 [.string (s.extract 0 i)] rfl rfl ?d1 ?d2 ?d3 ?d4 ?d5 ?_)
      case d1 => exact cell_one_new _ _ _
      case d2 => intro u hu; simp at hu; subst hu; rfl
      case d3 => unfold maxLen; omega
      case d4 => omega
      case d5 => simp; omega
      intro v' w2 hown' hgrow _
      have hbb : Hid (Below w.heap.size w w2) := (((hbr.trans (hb1.mono (by omega))).alloc (by omega) _).grown hgrow (by simp; omega) (fun k hk => (HO.out.lt k hk).1))
      have hown2 : Hid (w2.ownsRow w.heap.size 9 1 v' (parts ++ [s.extract 0 i]).length ((parts ++ [s.extract 0 i]).map Value.string)) := by show w2.ownsRow _ _ _ _ _ _; simpa using hown'
      have hsp2 : Hid (splitB S = (parts ++ [s.extract 0 i]) ++ splitB (s.extract (i + 1) s.size)) := by show _ = _; rw [hsp.out, HN.out]; simp
      clear hown' hgrow hsp
      go_wp2_with fail
      go_roundw
      case rel =>
        refine ⟨s.extract (i + 1) s.size, parts ++ [s.extract 0 i], rfl, ?_, hown2, hbb.out, hsp2⟩
        rw [List.length_append, List.length_singleton, ByteArray.size_extract]
        omega
      case measure =>
        simp only [strLenV, ByteArray.size_extract]
        omega

end Go.Proofs.Ytleebikcakndnaa
