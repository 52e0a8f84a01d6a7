/- Layers 38, 40: Proto; a decoder in memory; New, there, Rest, skip. -/
import Derived.Test.YtafkadhijljmkaaGreatWin2
import Derived.Deep.LoopGhost
import Derived.WalkMore
import Derived.ScopeJumps
namespace Go.Proofs.YtafkadhijljmkaaGreat
set_option linter.unusedVariables false
open Go.RowKit

def protoOf (c : UInt8) : Int := if c.toNat = 181 then 1 else if c.toNat = 36 then 2 else if c.toNat = 254 then 3 else 0
theorem proto_any (c : UInt8) (w : World) : Calls Tryz.prog 15 #[bV c] w fun e w' => e = .returned (.int .i64 (protoOf c)) ∧ w = w' := by
  unfold bV protoOf
  generalize c.toNat = n
  by_cases h1 : n = 181
  · subst h1
    go_enter Tryz.func15, Tryz.ntmps15
    go_wp2
    go_ret
    exact ⟨rfl, rfl⟩
  by_cases h2 : n = 36
  · subst h2
    go_enter Tryz.func15, Tryz.ntmps15
    go_wp2
    go_ret
    exact ⟨rfl, rfl⟩
  by_cases h3 : n = 254
  · subst h3
    go_enter Tryz.func15, Tryz.ntmps15
    go_wp2
    go_ret
    exact ⟨rfl, rfl⟩
  have b1 : ((n : Int) == 181) = false := by rw [beq_eq_false_iff_ne]; omega
  have b2 : ((n : Int) == 36) = false := by rw [beq_eq_false_iff_ne]; omega
  have b3 : ((n : Int) == 254) = false := by rw [beq_eq_false_iff_ne]; omega
  rw [if_neg h1, if_neg h2, if_neg h3]
  clear h1 h2 h3
  go_enter Tryz.func15, Tryz.ntmps15
  go_wp2
  go_ret
  exact ⟨rfl, rfl⟩
/-- A decoder's cells: its window, and counts: In, four of Good, Odd, Bad. -/
def decL (b : Nat) (C : List Int) : List Value := .pointer (some ⟨b, 0, none⟩) :: C.map (Value.int .i64)
/-- A decoder in block g, its window in block b, which holds l. -/
structure DecI (W : World) (g b : Nat) (C : List Int) (l : List UInt8) : Prop where
  blk : Blk W g (decL b C)
  len : C.length = 13
  win : WinI W b l
  ne : b ≠ g
theorem DecI.on {W W' : World} {g b : Nat} {C : List Int} {l : List UInt8} (h : DecI W g b C l) (hb : Below W.heap.size W W') : DecI W' g b C l := ⟨h.blk.on hb, h.len, h.win.on hb, h.ne⟩
theorem DecI.c0 {W : World} {g b : Nat} {C : List Int} {l : List UInt8} (h : DecI W g b C l) : W.cell? ⟨g, 0, none⟩ = some (.pointer (some ⟨b, 0, none⟩)) := h.blk.cell 0 rfl
theorem DecI.ck {W : World} {g b : Nat} {C : List Int} {l : List UInt8} (h : DecI W g b C l) (k : Nat) (hk : k < C.length) : W.cell? ⟨g, k + 1, none⟩ = some (.int .i64 C[k]) := h.blk.cell (k + 1) (by
  unfold decL
  rw [List.getElem?_cons_succ, List.getElem?_map, List.getElem?_eq_getElem hk]; rfl)
theorem decL_len (b : Nat) (C : List Int) : (decL b C).length = C.length + 1 := by unfold decL; simp
/-- The window has changed. -/
theorem DecI.moved {W W' : World} {g b : Nat} {C : List Int} {l l' : List UInt8} (h : DecI W g b C l) (hw : WinI W' b l') (hk : KeptS (fun j => j ≠ b) W W') : DecI W' g b C l' :=
  ⟨h.blk.kept (hk.block g (fun e => h.ne e.symm)) hk.size, h.len, hw, h.ne⟩
/-- A count has changed. -/
theorem DecI.set {W : World} {g b : Nat} {C : List Int} {l : List UInt8} (h : DecI W g b C l) (k : Nat) (v : Int) (hk : k < 13) : DecI (W.setCell ⟨g, k + 1, none⟩ (.int .i64 v)) g b (C.set k v) l := by
  have hlen := h.len
  have hs : Stored W (W.setCell ⟨g, k + 1, none⟩ (.int .i64 v)) g (k + 1) [.int .i64 v] := stored_setCell (h.blk.there (k + 1) 1 (by rw [decL_len]; omega))
  refine ⟨?_, by rw [List.length_set]; exact hlen, h.win.kept (hs.far b h.ne) (Nat.le_of_eq hs.sz.symm), h.ne⟩
  have e1 : ∀ x, decL b (C.set k x) = (.pointer (some ⟨b, 0, none⟩) :: (C.take k).map (Value.int .i64)) ++ [.int .i64 x] ++ (C.drop (k + 1)).map (Value.int .i64) := fun x => by
    unfold decL
    rw [List.set_eq_take_append_cons_drop, if_pos (by omega)]
    simp
  have e2 : C.set k (C[k]'(by omega)) = C := List.set_getElem_self _
  have h1 := h.blk
  rw [← e2, e1] at h1
  rw [e1]
  exact h1.put hs (by simp; omega) rfl
theorem DecI.keptS {W : World} {g b : Nat} {C : List Int} {l : List UInt8} (h : DecI W g b C l) (k : Nat) (v : Int) : KeptS (fun j => j ≠ b ∧ j ≠ g) W (W.setCell ⟨g, k + 1, none⟩ (.int .i64 v)) :=
  (KeptS.refl _ _).set (fun q => q.2 rfl) _ _
theorem build_dec (b : Nat) (w : World) : (Instr.build 76 #[(0, .pointer (some ⟨b, 0, none⟩))]).run Tryz.prog w = .ok (.agg (decL b [0, 0, 0, 0, 0, 0, 0, 0, 0, 0, 0, 0, 0]).toArray) w := by kernel_rfl
theorem rsyNew_any (w : World) : Calls Tryz.prog 22 #[] w fun e w' => e = .returned (.pointer (some ⟨w.heap.size + 1, 0, none⟩)) ∧ DecI w' (w.heap.size + 1) w.heap.size [0, 0, 0, 0, 0, 0, 0, 0, 0, 0, 0, 0, 0] [] ∧ Below w.heap.size w w' ∧ w'.heap.size = w.heap.size + 2 := by
  have HB := fun W => Lib.hid (build_dec w.heap.size W)
  go_enter Tryz.func22, Tryz.ntmps22
  go_wp2_with fail
  refine (winNew_any _).mono ?_
  rintro e w1 ⟨rfl, hw, hb, hs⟩
  have HW := Lib.hid hw
  have HB1 := Lib.hid hb
  have HS := Lib.hid hs
  clear hw hb hs
  go_wp2_with (first
    | refine wpList_build1 (u := .pointer (some ⟨w.heap.size, 0, none⟩)) rfl 76 0 _ rfl rfl (HB _).out ?_
    | (refine wpList_box_new rfl _ _ rfl (decL w.heap.size [0, 0, 0, 0, 0, 0, 0, 0, 0, 0, 0, 0, 0]).toArray rfl ?_; intro W1 hW1; have HK1 := Lib.hid (Blk.newL (L := decL w.heap.size [0, 0, 0, 0, 0, 0, 0, 0, 0, 0, 0, 0, 0]) hW1 List.toList_toArray); have HG := Lib.hid hW1; clear hW1))
  go_ret
  have e := HS.out
  refine ⟨by rw [← e]; rfl, ⟨by rw [← e]; exact HK1.out, rfl, HW.out.on HG.out.bel, by omega⟩, bthen HB1.out HG.out.bel, by rw [HG.out.sz, e]⟩
theorem rsyThere_any {W : World} {g b : Nat} {C : List Int} {l : List UInt8} (h : DecI W g b C l) : Calls Tryz.prog 23 #[.pointer (some ⟨g, 0, none⟩)] W fun e w' => e = .returned (.bool true) ∧ W = w' := by
  have c0 := h.c0
  clear h
  go_enter Tryz.func23, Tryz.ntmps23
  go_wp2
  go_ret
  exact ⟨rfl, rfl⟩
theorem rsyRest_any {W : World} {g b : Nat} {C : List Int} {l : List UInt8} (h : DecI W g b C l) : Calls Tryz.prog 11 #[.pointer (some ⟨g, 0, none⟩)] W fun e w' => e = .returned (.slice (some ⟨W.heap.size, 0, none⟩) l.length l.length) ∧ Blk w' W.heap.size (bsV l) ∧ DecI w' g b C l ∧ Below W.heap.size W w' ∧ w'.heap.size = W.heap.size + 1 := by
  have c0 := h.c0
  have H := Lib.hid h
  clear h
  go_enter Tryz.func11, Tryz.ntmps11
  go_wp2_with (refine (rsyThere_any H.out).mono ?_; rintro e w' ⟨rfl, rfl⟩)
  refine (winPeek_any H.out.win).mono ?_
  rintro e w1 ⟨rfl, hk, hw, hb, hs⟩
  have HD := Lib.hid (H.out.on hb)
  have HH := Lib.hid (And.intro hk (And.intro hb hs))
  clear hk hw hb hs H c0
  go_wp2_with fail
  go_ret
  exact ⟨rfl, HH.out.1, HD.out, HH.out.2.1, HH.out.2.2⟩
end Go.Proofs.YtafkadhijljmkaaGreat
