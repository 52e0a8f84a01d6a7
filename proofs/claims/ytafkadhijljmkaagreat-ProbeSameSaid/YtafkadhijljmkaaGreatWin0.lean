/- Layer 39: a window in memory; New, there, Len, Room. -/
import Derived.Test.YtafkadhijljmkaaGreatProg
import Derived.Test.YtafkadhijljmkaaGreatBlk
import Derived.Test.YtafkadhijljmkaaGreatFlt
import Derived.Test.YtafkadhijljmkaaGreatRing
namespace Go.Proofs.YtafkadhijljmkaaGreat
set_option linter.unusedVariables false
open Go.RowKit

/-- A byte as a value. -/
def bV (c : UInt8) : Value := .int .u8 (c.toNat : Int)
def bsV (l : List UInt8) : List Value := l.map bV
theorem bsV_len (l : List UInt8) : (bsV l).length = l.length := List.length_map _
theorem bsV_app (l m : List UInt8) : bsV (l ++ m) = bsV l ++ bsV m := List.map_append
theorem bsV_take (l : List UInt8) (n : Nat) : (bsV l).take n = bsV (l.take n) := (List.map_take ..).symm
theorem bsV_drop (l : List UInt8) (n : Nat) : (bsV l).drop n = bsV (l.drop n) := (List.map_drop ..).symm
theorem bsV_get {l : List UInt8} {k : Nat} (h : k < l.length) : (bsV l)[k]? = some (bV l[k]) := by
  unfold bsV; rw [List.getElem?_map, List.getElem?_eq_getElem h]; rfl
theorem bsV_one (l : List UInt8) : ∀ v ∈ bsV l, v.oneCell' = true := by
  intro v hv
  obtain ⟨c, -, rfl⟩ := List.mem_map.1 hv
  rfl
/-- A window's cells. -/
def winL (D : List UInt8) (at_ n : Int) : List Value := [.bool true] ++ bsV D ++ [.int .i64 at_, .int .i64 n]
theorem winL_len {D : List UInt8} (h : D.length = 1024) (a n : Int) : (winL D a n).length = 1027 := by
  unfold winL; simp [bsV_len, h]
theorem winL_at {D : List UInt8} (h : D.length = 1024) (a n : Int) : (winL D a n)[1025]? = some (.int .i64 a) := by
  unfold winL
  rw [List.getElem?_append_right (by simp [bsV_len, h])]
  simp [bsV_len, h]
theorem winL_n {D : List UInt8} (h : D.length = 1024) (a n : Int) : (winL D a n)[1026]? = some (.int .i64 n) := by
  unfold winL
  rw [List.getElem?_append_right (by simp [bsV_len, h])]
  simp [bsV_len, h]
theorem winL_b {D : List UInt8} (h : D.length = 1024) (a n : Int) {k : Nat} (hk : k < 1024) : (winL D a n)[1 + k]? = some (bV (D[k]'(by omega))) := by
  unfold winL
  rw [List.getElem?_append_left (by simp [bsV_len, h]; omega), List.getElem?_append_right (by simp)]
  rw [show 1 + k - [Value.bool true].length = k from by simp]
  exact bsV_get (by omega)
/-- A window in block b that holds l. -/
structure WinB (W : World) (b : Nat) (D : List UInt8) (a : Nat) (l : List UInt8) : Prop where
  blk : Blk W b (winL D a l.length)
  len : D.length = 1024
  at_ : a < 1024
  max : l.length ≤ 1024
  ring : Ring D a l
def WinI (W : World) (b : Nat) (l : List UInt8) : Prop := ∃ D a, WinB W b D a l
theorem WinB.on {W W' : World} {b : Nat} {D : List UInt8} {a : Nat} {l : List UInt8} (h : WinB W b D a l) (hb : Below W.heap.size W W') : WinB W' b D a l := ⟨h.blk.on hb, h.len, h.at_, h.max, h.ring⟩
theorem WinB.kept {W W' : World} {b : Nat} {D : List UInt8} {a : Nat} {l : List UInt8} (h : WinB W b D a l) (hk : W'.heap[b]? = W.heap[b]?) (hz : W.heap.size ≤ W'.heap.size) : WinB W' b D a l := ⟨h.blk.kept hk hz, h.len, h.at_, h.max, h.ring⟩
theorem WinI.on {W W' : World} {b : Nat} {l : List UInt8} (h : WinI W b l) (hb : Below W.heap.size W W') : WinI W' b l := by
  obtain ⟨D, a, h⟩ := h
  exact ⟨D, a, h.on hb⟩
theorem WinI.kept {W W' : World} {b : Nat} {l : List UInt8} (h : WinI W b l) (hk : W'.heap[b]? = W.heap[b]?) (hz : W.heap.size ≤ W'.heap.size) : WinI W' b l := by
  obtain ⟨D, a, h⟩ := h
  exact ⟨D, a, h.kept hk hz⟩
theorem WinI.lt {W : World} {b : Nat} {l : List UInt8} (h : WinI W b l) : b < W.heap.size := by
  obtain ⟨D, a, h⟩ := h
  exact h.blk.lt
def win0 : List UInt8 := List.replicate 1024 0
def zWin : Array Value := (winL win0 0 0).toArray
theorem zWin_list : zWin.toList = winL win0 0 0 := rfl
set_option maxRecDepth 100000 in
theorem build_win (w : World) : (Instr.build 110 #[(0, .bool true)]).run Tryz.prog w = .ok (.agg zWin) w := by kernel_rfl
theorem winL_zero : winL win0 ((0 : Nat) : Int) ((([] : List UInt8).length : Nat) : Int) = winL win0 0 0 := by rw [List.length_nil, Int.natCast_zero]
theorem winNew_any (w : World) : Calls Tryz.prog 38 #[] w fun e w' => e = .returned (.pointer (some ⟨w.heap.size, 0, none⟩)) ∧ WinI w' w.heap.size [] ∧ Below w.heap.size w w' ∧ w'.heap.size = w.heap.size + 1 := by
  have HB := fun W => Lib.hid (build_win W)
  go_enter Tryz.func38, Tryz.ntmps38
  go_wp2_with (first
    | refine wpList_build1 (u := .bool true) rfl 110 0 _ rfl rfl (HB _).out ?_
    | (refine wpList_box_new rfl _ _ rfl zWin rfl ?_; intro W1 hW1; have HK1 := Lib.hid (Blk.newL (L := winL win0 0 0) hW1 zWin_list); have HB1 := Lib.hid hW1.bel; have HS1 := Lib.hid hW1.sz; clear hW1))
  go_ret
  exact ⟨rfl, ⟨win0, 0, winL_zero ▸ HK1.out, List.length_replicate, by omega, by simp, fun i h => absurd h (Nat.not_lt_zero _)⟩, HB1.out, HS1.out⟩
theorem winThere_any {w : World} {b : Nat} {l : List UInt8} (h : WinI w b l) : Calls Tryz.prog 43 #[.pointer (some ⟨b, 0, none⟩)] w fun e w' => e = .returned (.bool true) ∧ w = w' := by
  obtain ⟨D, a, h⟩ := h
  have c0 := h.blk.cell 0 (v := .bool true) rfl
  clear h
  go_enter Tryz.func43, Tryz.ntmps43
  go_wp2
  go_ret
  exact ⟨rfl, rfl⟩
theorem winLen_any {w : World} {b : Nat} {l : List UInt8} (h : WinI w b l) : Calls Tryz.prog 53 #[.pointer (some ⟨b, 0, none⟩)] w fun e w' => e = .returned (.int .i64 l.length) ∧ w = w' := by
  have H := Lib.hid h
  obtain ⟨D, a, h⟩ := h
  have c3 := h.blk.cell 1026 (winL_n h.len _ _)
  clear h
  go_enter Tryz.func53, Tryz.ntmps53
  go_wp2_with (refine (winThere_any H.out).mono ?_; rintro e w' ⟨rfl, rfl⟩)
  go_ret
  exact ⟨rfl, rfl⟩
theorem winRoom_any {w : World} {b : Nat} {l : List UInt8} (h : WinI w b l) : Calls Tryz.prog 39 #[.pointer (some ⟨b, 0, none⟩)] w fun e w' => e = .returned (.int .i64 (1024 - l.length)) ∧ w = w' := by
  have H := Lib.hid h
  obtain ⟨D, a, h⟩ := h
  have c3 := h.blk.cell 1026 (winL_n h.len _ _)
  have hm := h.max
  clear h
  go_enter Tryz.func39, Tryz.ntmps39
  go_wp2_with (refine (winThere_any H.out).mono ?_; rintro e w' ⟨rfl, rfl⟩)
  go_ret
  exact ⟨rfl, rfl⟩
end Go.Proofs.YtafkadhijljmkaaGreat
