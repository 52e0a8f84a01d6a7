/- Layer 15: begins, fits, Size. -/
import Derived.Test.YtafkadhijljmkaaGreatWin2
import Derived.Stop.BytesEq
namespace Go.Proofs.YtafkadhijljmkaaGreat
set_option linter.unusedVariables false
open Go.RowKit

/-- Do bytes begin as a frame, as far as they are there? -/
def beginsB : List UInt8 → Bool
  | [] => true
  | [x] => decide (x.toNat = 181)
  | x :: y :: _ => decide (x.toNat = 181) && decide (y.toNat = 98)
/-- What is compared. -/
def beg2 : List UInt8 → List UInt8
  | [] => [181, 98]
  | [x] => [x, 98]
  | x :: y :: _ => [x, y]
theorem beg2_len (l : List UInt8) : (beg2 l).length = 2 := by rcases l with _ | ⟨x, _ | ⟨y, l⟩⟩ <;> rfl
theorem beg2_of (l : List UInt8) : ∃ x y, beg2 l = [x, y] ∧ ([x, y] == [181, 98]) = beginsB l := by
  have e : ∀ x y : UInt8, ([x, y] == [181, 98]) = (decide (x.toNat = 181) && decide (y.toNat = 98)) := fun x y => by
    rw [Bool.eq_iff_iff, Bool.and_eq_true, decide_eq_true_iff, decide_eq_true_iff, beq_iff_eq]
    simp only [List.cons.injEq, and_true, ← UInt8.toNat_inj]
    rfl
  rcases l with _ | ⟨x, _ | ⟨y, l⟩⟩
  · exact ⟨181, 98, rfl, rfl⟩
  · refine ⟨x, 98, rfl, ?_⟩
    rw [e]
    show (decide (x.toNat = 181) && true) = _
    rw [Bool.and_true]; rfl
  · exact ⟨x, y, rfl, e x y⟩
theorem eq_arr2 (x y : UInt8) (w : World) : (binOp .eql 184 (.agg #[.int .u8 (x.toNat : Int), .int .u8 (y.toNat : Int)]) (.agg #[.int .u8 181, .int .u8 98])).run Tryz.prog w = .ok (.bool ([x, y] == [181, 98])) w :=
  run_eql_bytes w 184 5 2 Tryz.underlying184 Tryz.underlying5 (fun w => by kernel_rfl) [x, y] [181, 98] rfl rfl
theorem splice_beg (l : List UInt8) : splice [181, 98] 0 (l.take (min l.length 2)) = beg2 l := by
  rcases l with _ | ⟨x, _ | ⟨y, l⟩⟩
  · rfl
  · rfl
  · have : min (x :: y :: l).length 2 = 2 := by simp only [List.length_cons]; omega
    rw [this]; rfl
set_option maxRecDepth 8000 in
set_option maxHeartbeats 400000 in
theorem frmBegins_any {Q : Nat → Prop} {w : World} (A : Option Addr) (c : Nat) (l : List UInt8) (h : FlatQ Q w A (bsV l)) (hm : l.length ≤ maxLen) (hc : l.length ≤ c) :
    Calls Tryz.prog 63 #[.slice A l.length c] w fun e w' => e = .returned (.bool (beginsB l)) ∧ Below w.heap.size w w' := by
  unfold maxLen at hm
  obtain ⟨n, hn, hn2, hn3⟩ : ∃ n : Nat, min (l.length : Int) 2 = (n : Int) ∧ n ≤ 2 ∧ n = min l.length 2 := ⟨min l.length 2, by omega, by omega, rfl⟩
  have hw0 : Below w.heap.size w ((w.alloc (.cells #[.int .u8 181, .int .u8 98] 184)).alloc (.cells #[.int .u8 181, .int .u8 98] 184)) := bthen (below_new _ _) (below_new _ _)
  have hb1 : Blk ((w.alloc (.cells #[.int .u8 181, .int .u8 98] 184)).alloc (.cells #[.int .u8 181, .int .u8 98] 184)) w.heap.size (bsV [181, 98]) := (Blk.newL (grew_alloc w _ _) rfl).on (below_new _ _)
  have hb2 : Blk ((w.alloc (.cells #[.int .u8 181, .int .u8 98] 184)).alloc (.cells #[.int .u8 181, .int .u8 98] 184)) (w.heap.size + 1) (bsV [181, 98]) := by
    have := Blk.newL (L := bsV [181, 98]) (grew_alloc (w.alloc (.cells #[.int .u8 181, .int .u8 98] 184)) #[.int .u8 181, .int .u8 98] 184) rfl
    rwa [show (w.alloc (.cells #[.int .u8 181, .int .u8 98] 184)).heap.size = w.heap.size + 1 from by simp] at this
  have hsz : (bsV (l.take n)).length = n := by rw [bsV_len, List.length_take]; omega
  obtain ⟨W', q1, q2⟩ := run_copy_flat (P := Tryz.prog) (World.drew ((w.alloc (.cells #[.int .u8 181, .int .u8 98] 184)).alloc (.cells #[.int .u8 181, .int .u8 98] 184))) 65 65 3 5 Tryz.underlying65 u8_size (w.heap.size + 1) 0 2 2 A n c (bsV (l.take n)) (by
    rw [← bsV_take]
    exact ((h.lt.below hw0 (fun b q => q.2)).keep (w' := World.drew _) fun _ _ => rfl).first n) hsz (bsV_one _) (by rw [show Nat.min n 2 = n from Nat.min_eq_left hn2]; exact hb2.drew.there 0 n (by rw [bsV_len]; simp; omega))
  rw [show Nat.min n 2 = n from Nat.min_eq_left hn2] at q1 q2
  rw [List.take_of_length_le (by omega)] at q2
  have hk2 := bs_store hb2.drew q2 (by rw [List.length_take]; simp only [List.length_cons, List.length_nil]; omega)
  rw [hn3, splice_beg] at hk2
  obtain ⟨x, y, e1, e2⟩ := beg2_of l
  rw [e1] at hk2
  have hk1 : Blk W' w.heap.size (bsV [181, 98]) := hb1.drew.far q2 (by omega)
  have c1 := hk1.cell 0 (v := .int .u8 181) rfl
  have c2 := hk1.cell 1 (v := .int .u8 98) rfl
  have c3 := hk2.cell 0 (v := .int .u8 (x.toNat : Int)) rfl
  have c4 := hk2.cell 1 (v := .int .u8 (y.toNat : Int)) rfl
  have HB := Lib.hid (And.intro e2 (hw0.drew.trans (q2.below (Nat.le_succ _))))
  have HR := Lib.hid q1
  generalize hL : l.length = L at *
  have f1 : (n : Int) ≤ c := by omega
  clear q1 q2 hk1 hk2 hb1 hb2 hw0 hsz e1 e2 hn3 h hL
  have EQ := fun W => eq_arr2 x y W
  go_enter Tryz.func63, Tryz.ntmps63
  go_wp2_with fail
  go_cut [] (fun wx => wx = W')
  case first =>
    go_region_law ((refine step_copy_known (by kernel_rfl) (.tmp 11) (.tmp 14) 65 65 (by kernel_rfl) (.slice (some ⟨w.heap.size + 1, 0, none⟩) 2 2) (.slice A n c) (goInt n) (by kernel_rfl) (by kernel_rfl) HR.out ?_))
    go_wp2_with fail
    go_meet
    rfl
  case rest =>
  subst hcut
  clear HR
  go_wp2_with fail
  go_ret
  refine ⟨?_, HB.out.2⟩
  rw [← HB.out.1]
  show Ending.returned (.bool (x == 181 && y == 98)) = _
  rw [show ([x, y] == [181, 98]) = (x == 181 && y == 98) from by simp]
end Go.Proofs.YtafkadhijljmkaaGreat
