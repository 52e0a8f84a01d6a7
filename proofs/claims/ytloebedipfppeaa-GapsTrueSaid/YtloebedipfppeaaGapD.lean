/- Layer 33: what is none; what the laws know. -/
import Derived.Test.YtloebedipfppeaaGapC
import Derived.Deep.QuietTactic
import Derived.Laws.IdiomRangeMap
namespace Go.Proofs.Ytloebedipfppeaa
set_option linter.unusedVariables false
open Go.RowKit Go.Shelf Go.Sort

/-- A book that there is not, or that New did not make. -/
def NoBook (v : Value) (w : World) : Prop := v = .pointer none ∨ ∃ g, v = .pointer (some ⟨g, 0, none⟩) ∧ w.cell? ⟨g, 0, none⟩ = some (.map none)
theorem NoBook.keep {v : Value} {w w' : World} (h : NoBook v w) (hb : Below w.heap.size w w') : NoBook v w' := by
  rcases h with h | ⟨g, h1, h2⟩
  · exact .inl h
  · exact .inr ⟨g, h1, ((bcell hb).1 g 0 (cell_lt h2)).trans h2⟩
theorem hear_no {v : Value} {w : World} (h : NoBook v w) (q s c : Int) : Calls Try.prog 8 #[v, .int .i64 q, .int .i64 s, .int .i64 c] w fun e w' => e = .returned (.tuple #[.int .i64 0, .bool false]) ∧ Below w.heap.size w w' := by
  rcases h with rfl | ⟨g, rfl, h2⟩
  · exact hear_nil q s c w
  · exact hear_none g q s c w h2
set_option maxHeartbeats 1000000 in
theorem all_no {v : Value} {w : World} (h : NoBook v w) : Calls Try.prog 9 #[v] w fun e w' => e = .returned (.slice none 0 0) ∧ Below w.heap.size w w' := by
  rcases h with rfl | ⟨g, rfl, h2⟩
  · go_enter Try.func9, Try.ntmps9
    go_wp2_with fail
    go_ret
    exact ⟨rfl, Below.refl _ _⟩
  · have hr := run_range_nilMap (P := Try.prog) w 45 _ _ Try.underlying45
    have hn := fun ty => run_next_nilMap (P := Try.prog) w ty 0 0 #[]
    have HB := Lib.hid (below_new w (.mapIter none 0 #[] 0))
    have HS := fun W => Lib.hid (AnyF.slices_SortFunc_none gapSortL none 0 (.func (.func 17) #[] #[]) W)
    go_enter Try.func9, Try.ntmps9
    go_wp2_with fail
    refine wp_loop_rounds 1 ?_
    rw [rounds_succ]
    go_wp2_with fail
    refine (HS _).out.mono ?_
    rintro e w' ⟨rfl, rfl⟩
    go_wp2_with fail
    go_ret
    exact ⟨rfl, HB.out⟩
set_option maxHeartbeats 1000000 in
theorem sums_no {v : Value} {w : World} (h : NoBook v w) : Calls Try.prog 13 #[v] w fun e w' => e = .returned (.tuple #[.int .i64 0, .int .i64 0]) ∧ Below w.heap.size w w' := by
  have HA := Lib.hid (all_no h)
  clear h
  go_enter Try.func13, Try.ntmps13
  go_wp2_with fail
  refine HA.out.mono ?_
  rintro e w1 ⟨rfl, hb⟩
  have HB := Lib.hid hb
  clear hb HA
  go_wp2_with fail
  refine wp_loop_rounds 1 ?_
  rw [rounds_succ]
  go_wp2_with fail
  go_ret2
  exact ⟨rfl, HB.out⟩
theorem know1 : hearL [] 5 1 1 = ([(1, 1, 5, 1, 0)], 0, true) := by decide +kernel
theorem know2 : hearL [(1, 1, 5, 1, 0)] 7 1 1 = ([(1, 1, 7, 2, 1)], 1, true) := by decide +kernel
theorem know3 : hearL [(1, 1, 7, 2, 1)] 7 1 1 = ([(1, 1, 7, 3, 256)], 255, true) := by decide +kernel
/-- A new book. -/
theorem new_any (w : World) : Calls Try.prog 7 #[] w fun e w' => ∃ g, e = .returned (.pointer (some ⟨g, 0, none⟩)) ∧ BookOf (fun k => k < w.heap.size) g [] w' ∧ Below w.heap.size w w' := by
  refine (gapsNew_any w).mono ?_
  rintro e w' ⟨g, rfl, h1, h2⟩
  exact ⟨g, rfl, ⟨List.Pairwise.nil, Nat.zero_le _, [], h2, List.Perm.refl _⟩, h1⟩
set_option maxHeartbeats 2000000 in
theorem knows33_any (w : World) : Calls Try.prog 6 #[] w fun e w' => e = .returned (.bool true) ∧ Below w.heap.size w w' := by
  go_enter Try.func6, Try.ntmps6
  go_wp2_with fail
  refine (new_any _).mono ?_
  rintro e w1 ⟨g, rfl, hk, hb⟩
  have HK := Lib.hid hk
  have HB := Lib.hid hb
  clear hk hb
  go_wp2_with fail
  refine (hear_any HK.out 5 1 1).mono ?_
  rw [know1]
  rintro e w2 ⟨rfl, hk, hb⟩
  have HK2 := Lib.hid hk
  have HB2 := Lib.hid (HB.out.trans (hb.below fun k hk => hk))
  clear hk hb HK HB
  go_wp2_with fail
  refine (hear_any HK2.out 7 1 1).mono ?_
  rw [know2]
  rintro e w3 ⟨rfl, hk, hb⟩
  have HK3 := Lib.hid hk
  have HB3 := Lib.hid (HB2.out.trans (hb.below fun k hk => hk))
  clear hk hb HK2 HB2
  go_wp2_with fail
  refine (hear_any HK3.out 7 1 1).mono ?_
  rw [know3]
  rintro e w4 ⟨rfl, hk, hb⟩
  have HB4 := Lib.hid (HB3.out.trans (hb.below fun k hk => hk))
  clear hk hb HK3 HB3
  go_wp2_with fail
  go_ret
  exact ⟨rfl, HB4.out⟩
end Go.Proofs.Ytloebedipfppeaa
