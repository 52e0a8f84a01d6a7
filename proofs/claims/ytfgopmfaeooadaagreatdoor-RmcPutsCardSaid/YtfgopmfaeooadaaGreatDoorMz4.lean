/- Layer 24: pairs of digits, one by one; six digits; what stands behind a point. -/
import Derived.Test.YtfgopmfaeooadaaGreatDoorMz2
import Derived.Test.YtfgopmfaeooadaaGreatDoorMz0
import Derived.Shelf.Abstract
import Derived.Shelf.RegionOpen
import Derived.Sort.QuietIn
namespace Go.Proofs.YtfgopmfaeooadaaGreatDoor
set_option linter.unusedVariables false
open Go.RowKit Go.Shelf
attribute [local go_sem] Oper.semAt_some

/-- The numbers of pairs, each with whether both are digits. -/
def pairV (a b : UInt8) : Int × Bool := (10 * ((((a.toNat : Int) - 48) % 256)) + (((b.toNat : Int) - 48) % 256), digB a && digB b)
def pairsL : List UInt8 → List (Int × Bool)
  | a :: b :: l => pairV a b :: pairsL l
  | _ => []
def boxLen (w : World) (bx : Nat) : Nat := match w.cell? ⟨bx, 0, none⟩ with | some (.string s) => s.size | _ => 0
theorem boxLen_of {w : World} {bx : Nat} {s : ByteArray} (h : w.cell? ⟨bx, 0, none⟩ = some (.string s)) : boxLen w bx = s.size := by unfold boxLen; rw [h]
theorem pairsL_of {s : ByteArray} (h : 1 < s.size) : pairsL s.data.toList = pairV (s[0]'(by omega)) (s[1]'h) :: pairsL (s.extract 2 s.size).data.toList := by
  obtain ⟨⟨l⟩⟩ := s
  match l, h with
  | a :: b :: l, h =>
    show pairV a b :: pairsL l = pairV a b :: pairsL _
    congr 2
    have hz : ({ data := { toList := a :: b :: l } } : ByteArray).size = l.length + 2 := rfl
    rw [hz]
    simp [ByteArray.extract, ByteArray.copySlice]
  | [a], h => exact absurd h (Nat.lt_irrefl 1)
  | [], h => exact absurd h (Nat.not_lt_zero 1)
theorem pairsL_no {s : ByteArray} (h : s.size ≤ 1) : pairsL s.data.toList = [] := by
  obtain ⟨⟨l⟩⟩ := s
  match l, h with
  | a :: b :: l, h => simp [ByteArray.size] at h
  | [a], h => rfl
  | [], h => rfl
theorem digB_iff (c : UInt8) : digB c = decide (((c.toNat : Int) - 48) % 256 < 10) := by
  have := c.toNat_lt
  unfold digB
  rw [Bool.eq_iff_iff]
  simp only [Bool.and_eq_true, decide_eq_true_eq]
  omega
theorem u8_minus (c : UInt8) : IntKind.u8.wrap ((c.toNat : Int) - 48) = ((c.toNat : Int) - 48) % 256 ∧ 0 ≤ ((c.toNat : Int) - 48) % 256 ∧ ((c.toNat : Int) - 48) % 256 ≤ 255 := by
  refine ⟨?_, by omega, by omega⟩
  rfl

/-- Amid the pairs: what has come, what is left. -/
def PairI (l : List (Int × Bool)) (bx : Nat) (J : List (Int × Bool) → World → Prop) (w : World) : Prop :=
  ∃ pre sr, l = pre ++ pairsL (ByteArray.data sr).toList ∧ J pre w ∧ w.cell? ⟨bx, 0, none⟩ = some (.string sr) ∧ w.frozen? ⟨bx, 0, none⟩ = false ∧ sr.size ≤ 1000000

theorem cpairs_any (s : ByteArray) (w : World) : Calls Tryz.prog 100 #[.string s] w fun e w' => e = .returned (.func (.func 118) #[] #[.pointer (some ⟨w.heap.size, 0, none⟩)]) ∧ w' = w.alloc (.cells #[.string s] 9) := by
  go_enter Tryz.func100, Tryz.ntmps100
  go_wp2
  go_ret
  exact ⟨rfl, rfl⟩
set_option maxRecDepth 100000 in
set_option maxHeartbeats 2000000 in
theorem pairs_stops (m bx : Nat) (hm : 1 ≤ m) (s : ByteArray) (hs : s.size ≤ 1000000) (w : World) (hw : w.cell? ⟨bx, 0, none⟩ = some (.string s)) (hf : w.frozen? ⟨bx, 0, none⟩ = false) (hbx : bx < w.heap.size) :
    BoxStops m Tryz.prog 118 #[.pointer (some ⟨bx, 0, none⟩)] (fun x : Int × Bool => #[.int .i64 x.1, .bool x.2]) bx (fun xs => xs = pairsL s.data.toList) w := by
  intro l J Jx W hW hJ hY h0
  have hbW : W.cell? ⟨bx, 0, none⟩ = some (.string s) := (hW.cell (p := ⟨bx, 0, none⟩) hbx).trans hw
  have hfW : W.frozen? ⟨bx, 0, none⟩ = false := (hW.frozen (p := ⟨bx, 0, none⟩) hbx).trans hf
  have HJ := Lib.hid hJ
  have HY := Lib.hid hY
  have HI0 : Hid (PairI (pairsL s.data.toList) bx J W) := ⟨[], s, rfl, h0, hbW, hfW, hs⟩
  clear hJ hY h0 hW hw hf hbW hfW
  have hmx : Tryz.prog.follows .mixedOrders = true := by kernel_rfl
  refine callsIn_of_wp Tryz.func118 rfl trivial ?_ rfl
  simp only [Tryz.ntmps118, List.size_toArray, List.length_cons, List.length_nil, Nat.reduceAdd, Nat.reduceSub, Array.replicate_succ, Array.replicate_zero, List.push_toArray, List.append_toArray, List.nil_append, List.cons_append]
  gi_wp2
  gi_loopw [] (fun wr => Hid (PairI (pairsL s.data.toList) bx J wr)) (fun wr => boxLen wr bx)
  case atStart => exact HI0
  case round =>
    clear HI0
    obtain ⟨pre, sr, he, hj, hc, hf, hz⟩ := hrel.out
    have hbl := boxLen_of hc
    by_cases h1 : 1 < sr.size
    · have hp := pairsL_of h1
      rw [hp] at he
      clear hp
      have hi1 : (1 : Int) < (sr.size : Int) := by omega
      have h0 : 0 < sr.size := by omega
      obtain ⟨wa, a0, a1⟩ := u8_minus sr[0]
      obtain ⟨wb, b0, b1⟩ := u8_minus sr[1]
      have hd1 := digB_iff sr[0]
      have hd2 := digB_iff sr[1]
      have HPV : Hid (pairV sr[0] sr[1] = (10 * (((sr[0].toNat : Int) - 48) % 256) + (((sr[1].toNat : Int) - 48) % 256), decide (((sr[0].toNat : Int) - 48) % 256 < 10) && decide (((sr[1].toNat : Int) - 48) % 256 < 10))) := by
        show _ = _
        rw [← hd1, ← hd2]
        rfl
      rw [HPV.out] at he
      clear hd1 hd2 HPV
      have HNX : Hid (pairsL (sr.extract 2 sr.size).data.toList = pairsL (sr.extract 2 sr.size).data.toList) := Lib.hid rfl
      have hx2 : (sr.extract 2 sr.size).size = sr.size - 2 := by rw [ByteArray.size_extract]; omega
      have HX2 := Lib.hid hx2
      clear HNX hx2
      generalize ((sr[0].toNat : Int) - 48) % 256 = A at *
      generalize ((sr[1].toNat : Int) - 48) % 256 = B at *
      have HE := Lib.hid he
      have HJ2 := Lib.hid hj
      have HB := Lib.hid hbl
      clear he hj hrel hbl
      gi_wp2
      gi_quiet (fail)
      have hj2 := HJ.out pre wr (wr.drewN nq) HJ2.out ⟨rfl, rfl, rfl, Nat.le_refl _, fun _ _ _ => rfl⟩
      have hc2 : (wr.drewN nq).cell? ⟨bx, 0, none⟩ = some (.string sr) := hc
      have hf2 : (wr.drewN nq).frozen? ⟨bx, 0, none⟩ = false := hf
      clear hc hf
      generalize wr.drewN nq = wq at *
      obtain ⟨x2, hx, hw⟩ : ∃ x2 : Bool, (decide (A < 10) && decide (B < 10)) = x2 ∧ (A < 10 ∧ decide (B < 10) = true ∧ x2 = true ∨ A < 10 ∧ decide (B < 10) = false ∧ x2 = false ∨ 10 ≤ A ∧ True ∧ x2 = false) := by
        by_cases p1 : A < 10
        · by_cases p2 : B < 10
          · exact ⟨true, by rw [decide_eq_true p1, decide_eq_true p2]; rfl, .inl ⟨p1, decide_eq_true p2, rfl⟩⟩
          · exact ⟨false, by rw [decide_eq_false p2, Bool.and_false], .inr (.inl ⟨p1, decide_eq_false p2, rfl⟩)⟩
        · exact ⟨false, by rw [decide_eq_false p1]; rfl, .inr (.inr ⟨by omega, trivial, rfl⟩)⟩
      have he2 := HE.out
      rw [hx] at he2
      have HE2 := Lib.hid he2
      obtain ⟨fn, tmps, assign, body, hy, hR⟩ := HY.out pre (10 * A + B, x2) _ hj2 ⟨_, he2.symm⟩
      dsimp only at hy
      have HR := Lib.hid hR
      clear hR hj2 he2 hx HE HJ2
      rcases hw with ⟨p1, p2, rfl⟩ | ⟨p1, p2, rfl⟩ | ⟨p1, p2, rfl⟩
      all_goals
        gi_wp2
        refine HR.out.mono ?_
        rintro e V' (⟨rfl, hJ3, hb3⟩ | ⟨rfl, hJ3⟩)
        · have hc3 : V'.cell? ⟨bx, 0, none⟩ = some (.string sr) := (World.cell?_of_block (a := ⟨bx, 0, none⟩) hb3).trans hc2
          have hf3 : V'.frozen? ⟨bx, 0, none⟩ = false := (World.frozen?_of_block (a := ⟨bx, 0, none⟩) hb3).trans hf2
          have HJ3 := Lib.hid hJ3
          have hj4 := HJ.out _ V' (V'.setCell ⟨bx, 0, none⟩ (.string (sr.extract 2 sr.size))) hJ3 (grownBy_setCell' V' bx _)
          have hc4 : (V'.setCell ⟨bx, 0, none⟩ (.string (sr.extract 2 sr.size))).cell? ⟨bx, 0, none⟩ = some (.string (sr.extract 2 sr.size)) := World.cell?_setCell_same' _ _ _ (by rw [hc3]; rfl)
          have hf4 : (V'.setCell ⟨bx, 0, none⟩ (.string (sr.extract 2 sr.size))).frozen? ⟨bx, 0, none⟩ = false := by rw [World.frozen?_setCell]; exact hf3
          have HL4 := Lib.hid (boxLen_of hc4)
          have HFIN : Hid (PairI (pairsL s.data.toList) bx J (V'.setCell ⟨bx, 0, none⟩ (.string (sr.extract 2 sr.size)))) := ⟨_, sr.extract 2 sr.size, by rw [HE2.out, List.append_assoc]; rfl, hj4, hc4, hf4, by rw [HX2.out]; omega⟩
          clear hJ3 hj4 hc4 hf4 hb3 hc2 hf2 HJ3
          gi_wp2
          go_roundw
          case rel => exact HFIN
          case measure => rw [HL4.out, HB.out, HX2.out]; omega
        · have HJ3 := Lib.hid hJ3
          clear hJ3
          gi_wp2
          refine bodyPost_ret (results_none rfl _ _ _) rfl ?_
          exact ⟨⟨_, rfl⟩, .inr ⟨_, ⟨pairsL (sr.extract 2 sr.size).data.toList, by rw [HE2.out, List.append_assoc]; rfl⟩, HJ3.out⟩⟩
    · have hi1 : (sr.size : Int) ≤ 1 := by omega
      rw [pairsL_no (s := sr) (by omega), List.append_nil] at he
      have HE := Lib.hid he
      have HJ2 := Lib.hid hj
      clear he hj hrel hbl hf
      gi_wp2
      go_end0
      exact ⟨⟨_, rfl⟩, .inl ⟨_, HE.out.symm, HJ2.out⟩⟩
end Go.Proofs.YtfgopmfaeooadaaGreatDoor
