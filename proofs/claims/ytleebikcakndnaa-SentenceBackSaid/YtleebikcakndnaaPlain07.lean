/- The plain law of layer 7: what was sealed is opened, and not any more where one byte was made another one. -/
import Derived.Test.YtleebikcakndnaaPar2
namespace Go.Proofs.Ytleebikcakndnaa
set_option linter.unusedVariables false
open Go.RowKit

theorem xorL_fold (l : List UInt8) : ∀ a : UInt8, l.foldl (fun c b => c ^^^ b) a = a ^^^ xorL l := by
  induction l with
  | nil => intro a; simp [xorL]
  | cons b l ih =>
    intro a
    unfold xorL
    simp only [List.foldl_cons]
    rw [ih (a ^^^ b), ih (0 ^^^ b)]
    simp [UInt8.xor_assoc]
theorem xorL_cons (b : UInt8) (l : List UInt8) : xorL (b :: l) = b ^^^ xorL l := by
  unfold xorL
  simp only [List.foldl_cons]
  rw [xorL_fold]
  unfold xorL
  simp
theorem xorL_append (p q : List UInt8) : xorL (p ++ q) = xorL p ^^^ xorL q := by
  induction p with
  | nil => simp [xorL]
  | cons b p ih => rw [List.cons_append, xorL_cons, xorL_cons, ih, UInt8.xor_assoc]
theorem xor_mid (a c d e : UInt8) : (a ^^^ (c ^^^ e) = a ^^^ (d ^^^ e)) ↔ c = d := by
  constructor
  · intro h
    have h1 : a ^^^ (a ^^^ (c ^^^ e)) = a ^^^ (a ^^^ (d ^^^ e)) := by rw [h]
    have k1 : ∀ x, a ^^^ (a ^^^ x) = x := fun x => by rw [← UInt8.xor_assoc, UInt8.xor_self, UInt8.zero_xor]
    have k2 : ∀ x, (x ^^^ e) ^^^ e = x := fun x => by rw [UInt8.xor_assoc, UInt8.xor_self, UInt8.xor_zero]
    rw [k1, k1] at h1
    have h2 : (c ^^^ e) ^^^ e = (d ^^^ e) ^^^ e := by rw [h1]
    rw [k2, k2] at h2
    exact h2
  · rintro rfl
    rfl

theorem unhex_hexL (n : Int) (h0 : 0 ≤ n) (h1 : n ≤ 255) : unhexL (hexL n) = some n := by
  obtain ⟨k, rfl⟩ := Int.eq_ofNat_of_zero_le h0
  have h : ∀ k : Fin 256, unhexL (hexL ((k.val : Nat) : Int)) = some ((k.val : Nat) : Int) := by decide +kernel
  exact h ⟨k, by omega⟩

theorem openB_form (p : List UInt8) (x y : UInt8) :
    openB ⟨(p ++ [42, x, y]).toArray⟩ = if unhexL [x, y] = some ((xorL p).toNat : Int) then some ⟨p.toArray⟩ else none := by
  have hs : (ByteArray.mk (p ++ [42, x, y]).toArray).size = p.length + 3 := by
    show (p ++ [42, x, y]).toArray.size = _
    simp
  have he : (ByteArray.mk (p ++ [42, x, y]).toArray).extract 0 p.length = ⟨p.toArray⟩ := by
    rw [ByteArray.extract_mk]
    simp
  have hf : (ByteArray.mk (p ++ [42, x, y]).toArray).extract (p.length + 1) (p.length + 3) = ⟨[x, y].toArray⟩ := by
    rw [ByteArray.extract_mk]
    simp [List.drop_append, List.drop_eq_nil_of_le]
  have h42 : (ByteArray.mk (p ++ [42, x, y]).toArray).data.toList[p.length]? = some 42 := by simp
  unfold openB
  rw [hs, if_neg (by omega), show p.length + 3 - 3 = p.length from by omega, he, hf]
  have hsum : sumI ⟨p.toArray⟩ = ((xorL p).toNat : Int) := by simp [sumI]
  rw [hsum]
  by_cases hu : unhexL [x, y] = some ((xorL p).toNat : Int)
  · rw [if_pos ⟨h42, hu⟩, if_pos hu]
  · rw [if_neg (fun h => hu h.2), if_neg hu]

theorem sealB_form (s : ByteArray) : sealB s = ⟨(s.data.toList ++ [42, UInt8.ofNat (dg (sumI s / 16)).toNat, UInt8.ofNat (dg (sumI s % 16)).toNat]).toArray⟩ := by
  obtain ⟨⟨l⟩⟩ := s
  unfold sealB hexL
  apply ByteArray.ext
  simp [ByteArray.data_append]

theorem sealB_size (s : ByteArray) : (sealB s).size = s.size + 3 := by
  rw [sealB_form]
  show (List.toArray _).size = _
  simp

theorem open_seal (s : ByteArray) : openB (sealB s) = some s := by
  rw [sealB_form, openB_form]
  have hb := sumI_bd s
  have h := unhex_hexL (sumI s) hb.1 hb.2
  unfold hexL at h
  rw [if_pos (by rw [h]; rfl)]

/-- One byte of a text made another one. -/
def bend (a : ByteArray) (n : Nat) (b : Int) : ByteArray := a.extract 0 n ++ ⟨#[UInt8.ofNat b.toNat]⟩ ++ a.extract (n + 1) a.size

theorem open_bend (s : ByteArray) (n : Nat) (hn : n < s.size) (b : Int) (h0 : 0 ≤ b) (h1 : b ≤ 255) (hA : n < (sealB s).size) :
    (openB (bend (sealB s) n (((((sealB s)[n]'hA).toNat : Int) + b) % 256))).isSome = (b == 0) := by
  have hat : (sealB s)[n]'hA = s[n] := by
    have h2 : (sealB s).data.toList[n]? = s.data.toList[n]? := by
      rw [sealB_form]
      simp only [List.getElem?_append_left (show n < s.data.toList.length by simpa using hn)]
    rw [at_some _ _ hA, at_some _ _ hn] at h2
    injection h2
  rw [hat]
  have hbd := sumI_bd s
  have hx := unhex_hexL (sumI s) hbd.1 hbd.2
  have hl : n < s.data.toList.length := by simpa using hn
  -- the text parted at n
  obtain ⟨p, c, q, hpq, hp, hc⟩ : ∃ p c q, s.data.toList = p ++ c :: q ∧ p.length = n ∧ c = s[n] := by
    refine ⟨s.data.toList.take n, s.data.toList[n], s.data.toList.drop (n + 1), ?_, by simp; omega, rfl⟩
    rw [List.getElem_cons_drop, List.take_append_drop]
  rw [← hc]
  obtain ⟨d, hd⟩ : ∃ d : UInt8, d = UInt8.ofNat (((c.toNat : Int) + b) % 256).toNat := ⟨_, rfl⟩
  have hform : bend (sealB s) n (((c.toNat : Int) + b) % 256) = ⟨((p ++ d :: q) ++ [42, UInt8.ofNat (dg (sumI s / 16)).toNat, UInt8.ofNat (dg (sumI s % 16)).toNat]).toArray⟩ := by
    unfold bend
    rw [← hd, sealB_form, hpq]
    obtain ⟨z, hz⟩ : ∃ z, z = [42, UInt8.ofNat (dg (sumI s / 16)).toNat, UInt8.ofNat (dg (sumI s % 16)).toNat] := ⟨_, rfl⟩
    rw [← hz, ByteArray.extract_mk, ByteArray.extract_mk]
    have hsz : (ByteArray.mk (p ++ c :: q ++ z).toArray).size = p.length + 1 + (q.length + z.length) := by
      show (p ++ c :: q ++ z).toArray.size = _
      simp
      omega
    rw [hsz, ← hp]
    apply ByteArray.ext
    apply Array.ext'
    simp [ByteArray.data_append, List.drop_append]
    rw [List.drop_eq_nil_of_le (by omega), List.nil_append, List.take_of_length_le (by simp)]
  rw [hform, openB_form]
  unfold hexL at hx
  rw [hx]
  have hs : sumI s = ((xorL (p ++ c :: q)).toNat : Int) := by unfold sumI; rw [hpq]
  rw [hs]
  have hiff : (some ((xorL (p ++ c :: q)).toNat : Int) = some ((xorL (p ++ d :: q)).toNat : Int)) ↔ b = 0 := by
    rw [Option.some_inj, Int.natCast_inj, UInt8.toNat_inj, xorL_append, xorL_append, xorL_cons, xorL_cons, xor_mid]
    have hc' := c.toNat_lt
    constructor
    · intro h
      rw [hd] at h
      have h3 := congrArg UInt8.toNat h
      rw [UInt8.toNat_ofNat'] at h3
      omega
    · rintro rfl
      rw [hd]
      apply UInt8.toNat_inj.1
      rw [UInt8.toNat_ofNat']
      omega
  by_cases hb : b = 0
  · rw [if_pos (hiff.2 hb)]
    simp [hb]
  · rw [if_neg (fun h => hb (hiff.1 h))]
    simp [hb]

end Go.Proofs.Ytleebikcakndnaa
