/- Layer 33: GapsNil. -/
import Derived.Test.YtloebedipfppeaaGapD
namespace Go.Proofs.Ytloebedipfppeaa
set_option linter.unusedVariables false
open Go.RowKit

set_option maxHeartbeats 4000000 in
theorem gapsNil_any (q s c : Int) (w : World) : Calls Try.prog 5 #[.agg #[.int .i64 q, .int .i64 s, .int .i64 c]] w fun e w' => e = .returned (.bool true) ∧ Below w.heap.size w w' := by
  have HB0 := Lib.hid (below_new w (.cells #[.int .i64 q, .int .i64 s, .int .i64 c] 30))
  have HZ : Hid (w.heap.size < (w.alloc (.cells #[.int .i64 q, .int .i64 s, .int .i64 c] 30)).heap.size) := by show _ < _; simp
  have m0 : (w.alloc (.cells #[.int .i64 q, .int .i64 s, .int .i64 c] 30)).cell? ⟨w.heap.size, 0, none⟩ = some (.int .i64 q) := World.cell?_alloc_at _ _ _ _ rfl
  have m1 : (w.alloc (.cells #[.int .i64 q, .int .i64 s, .int .i64 c] 30)).cell? ⟨w.heap.size, 1, none⟩ = some (.int .i64 s) := World.cell?_alloc_at _ _ _ _ rfl
  have m2 : (w.alloc (.cells #[.int .i64 q, .int .i64 s, .int .i64 c] 30)).cell? ⟨w.heap.size, 2, none⟩ = some (.int .i64 c) := World.cell?_alloc_at _ _ _ _ rfl
  go_enter Try.func5, Try.ntmps5
  go_upto_region 1 with fail
  generalize hW : w.alloc (.cells #[.int .i64 q, .int .i64 s, .int .i64 c] 30) = W at *
  generalize hB : w.heap.size = B at *
  have HBE := Lib.hid hB
  clear hB
  clear hW
  go_wp2_with fail
  refine wp_loop_rounds 3 ?_
  rw [rounds_succ]
  go_wp2_with fail
  refine (hear_no (.inl rfl) q s c).mono ?_
  rintro e w1 ⟨rfl, hb1⟩
  have HC1 := Lib.hid ((bcell hb1).1)
  have HB1 := Lib.hid (HB0.out.trans (hb1.mono (Nat.le_of_lt HZ.out)))
  have HZ1 : Hid (B < w1.heap.size) := Nat.lt_of_lt_of_le HZ.out hb1.size
  have n0 := (HC1.out B 0 HZ.out).trans m0
  have n1 := (HC1.out B 1 HZ.out).trans m1
  have n2 := (HC1.out B 2 HZ.out).trans m2
  clear hb1 m0 m1 m2 HB0 HZ HC1
  go_wp2_with fail
  refine (sums_no (.inl rfl)).mono ?_
  rintro e w2 ⟨rfl, hb1⟩
  have HC1 := Lib.hid ((bcell hb1).1)
  have HB2 := Lib.hid (HB1.out.trans (hb1.mono (Nat.le_of_lt HZ1.out)))
  have HZ2 : Hid (B < w2.heap.size) := Nat.lt_of_lt_of_le HZ1.out hb1.size
  have m0 := (HC1.out B 0 HZ1.out).trans n0
  have m1 := (HC1.out B 1 HZ1.out).trans n1
  have m2 := (HC1.out B 2 HZ1.out).trans n2
  clear hb1 n0 n1 n2 HB1 HZ1 HC1
  go_wp2_with fail
  refine (all_no (.inl rfl)).mono ?_
  rintro e w3 ⟨rfl, hb1⟩
  have hb3 := hb1.trans ((below_new w3 (.cells #[.map none] 47)).mono hb1.size)
  have HC1 := Lib.hid ((bcell hb3).1)
  have HB3 := Lib.hid (HB2.out.trans (hb3.mono (Nat.le_of_lt HZ2.out)))
  have HZ3 : Hid (B < (w3.alloc (.cells #[.map none] 47)).heap.size) := Nat.lt_of_lt_of_le HZ2.out hb3.size
  have n0 := (HC1.out B 0 HZ2.out).trans m0
  have n1 := (HC1.out B 1 HZ2.out).trans m1
  have n2 := (HC1.out B 2 HZ2.out).trans m2
  have HNB : Hid (NoBook (.pointer (some ⟨w3.heap.size, 0, none⟩)) (w3.alloc (.cells #[.map none] 47))) := .inr ⟨_, rfl, World.cell?_alloc_at _ _ _ _ rfl⟩
  clear hb1 hb3 m0 m1 m2 HB2 HZ2 HC1
  go_upto_region 4 with fail
  generalize w3.alloc (.cells #[.map none] 47) = V at *
  generalize w3.heap.size = g at *
  go_wp2_with fail
  rw [rounds_succ]
  go_wp2_with fail
  refine (hear_no HNB.out q s c).mono ?_
  rintro e w4 ⟨rfl, hb1⟩
  have HB4 := Lib.hid (HB3.out.trans (hb1.mono (Nat.le_of_lt HZ3.out)))
  have HZ4 : Hid (B < w4.heap.size) := Nat.lt_of_lt_of_le HZ3.out hb1.size
  have HN4 := Lib.hid (HNB.out.keep hb1)
  clear hb1 n0 n1 n2 HB3 HZ3 HNB
  go_wp2_with fail
  refine (sums_no HN4.out).mono ?_
  rintro e w5 ⟨rfl, hb1⟩
  have HB5 := Lib.hid (HB4.out.trans (hb1.mono (Nat.le_of_lt HZ4.out)))
  have HZ5 : Hid (B < w5.heap.size) := Nat.lt_of_lt_of_le HZ4.out hb1.size
  have HN5 := Lib.hid (HN4.out.keep hb1)
  clear hb1 HB4 HZ4 HN4
  go_wp2_with fail
  refine (all_no HN5.out).mono ?_
  rintro e w6 ⟨rfl, hb1⟩
  have HB6 := Lib.hid (HB5.out.trans (hb1.mono (Nat.le_of_lt HZ5.out)))
  have HZ6 : Hid (B < w6.heap.size) := Nat.lt_of_lt_of_le HZ5.out hb1.size
  clear hb1 HB5 HZ5 HN5
  go_upto_region 4 with fail
  have HB7 := Lib.hid (HB6.out.trans ((below_new w6 (.cells #[.map none] 47)).mono (Nat.le_of_lt HZ6.out)))
  have HZ7 : Hid (B ≤ (w6.alloc (.cells #[.map none] 47)).heap.size) := by show _ ≤ _; have := HZ6.out; simp; omega
  generalize w6.alloc (.cells #[.map none] 47) = V2 at *
  go_wp2_with fail
  rw [rounds_succ]
  go_wp2_with fail
  refine (knows33_any _).mono ?_
  rintro e w7 ⟨rfl, hb1⟩
  have HB8 := Lib.hid (HB7.out.trans (hb1.mono HZ7.out))
  clear hb1
  go_wp2_with fail
  go_ret
  exact ⟨rfl, by rw [HBE.out]; exact HB8.out⟩
end Go.Proofs.Ytloebedipfppeaa
