/- Layer 43: knows; queues that New did not make; the law DueNil, walked. -/
import Derived.Test.YtcageojgfnihpaaDueD
namespace Go.Proofs.Ytcageojgfnihpaa
set_option linter.unusedVariables false
open Go.RowKit

theorem least_one (x : Tr) : Least x [x] := ⟨List.mem_cons_self, fun y hy => by rw [List.mem_singleton.1 hy, befR_no]; omega⟩
set_option maxRecDepth 8000 in
set_option maxHeartbeats 1000000 in
theorem knows43_any (w : World) : Calls Try.prog 6 #[] w fun e w' => e = .returned (.bool true) ∧ Below w.heap.size w w' := by
  have hb3 : setB 3 5 10 = true := by decide
  have HS : Hid (∀ q W, QueI (fun k => k < w.heap.size) q 0 [] W → Calls Try.prog 8 #[.pointer (some ⟨q, 0, none⟩), .int .i64 3, .int .i64 5, .int .i64 10] W fun e w' => e = .returned (.bool true) ∧ QueI (fun k => k < w.heap.size) q 1 [(3, 5, 10)] w' ∧ KeptS (fun k => k < w.heap.size) W w') := fun q W h => set_ok h hb3 (by omega)
  have HN1 : Hid (∀ q W, QueI (fun k => k < w.heap.size) q 1 [(3, 5, 10)] W → Calls Try.prog 9 #[.pointer (some ⟨q, 0, none⟩), .int .i64 4] W fun e w' => e = .returned (.tuple #[.int .i64 0, .int .i64 0, .bool false]) ∧ W = w') := fun q W h => next_late h (least_one _) 4 (by decide)
  have HN2 : Hid (∀ q W, QueI (fun k => k < w.heap.size) q 1 [(3, 5, 10)] W → Calls Try.prog 9 #[.pointer (some ⟨q, 0, none⟩), .int .i64 5] W fun e w' => e = .returned (.tuple #[.int .i64 3, .int .i64 5, .bool true]) ∧ QueI (fun k => k < w.heap.size) q 1 [(3, 15, 10)] w' ∧ KeptS (fun k => k < w.heap.size) W w') := fun q W h => next_again h (least_one _) 5 (by decide) (by decide)
  have HW : Hid (∀ q W, QueI (fun k => k < w.heap.size) q 1 [(3, 15, 10)] W → Calls Try.prog 15 #[.pointer (some ⟨q, 0, none⟩), .int .i64 3] W fun e w' => e = .returned (.tuple #[.int .i64 15, .bool true]) ∧ W = w') := fun q W h => when_hit h (x := (3, 15, 10)) (List.mem_cons_self)
  clear hb3
  go_enter Try.func6, Try.ntmps6
  go_wp2_with fail
  refine (dueNew_any w).mono ?_
  rintro e w1 ⟨q, rfl, hb1, h1⟩
  have HS1 := Lib.hid (HS.out q w1 h1)
  have HB1 := Lib.hid hb1
  clear h1 hb1 HS
  go_wp2_with fail
  refine HS1.out.mono ?_
  rintro e w2 ⟨rfl, h2, hk2⟩
  have HN11 := Lib.hid (HN1.out q w2 h2)
  have HN21 := Lib.hid (HN2.out q w2 h2)
  have HB2 := Lib.hid (Below.trans HB1.out (hk2.below (fun _ h => h)))
  clear h2 hk2 HS1 HN1 HN2
  go_wp2_with fail
  refine HN11.out.mono ?_
  rintro e w' ⟨rfl, rfl⟩
  go_wp2_with fail
  refine HN21.out.mono ?_
  rintro e w3 ⟨rfl, h3, hk3⟩
  have HW1 := Lib.hid (HW.out q w3 h3)
  have HB3 := Lib.hid (Below.trans HB2.out (hk3.below (fun _ h => h)))
  clear h3 hk3 HN11 HN21 HW
  go_wp2_with fail
  refine HW1.out.mono ?_
  rintro e w' ⟨rfl, rfl⟩
  go_wp2_with fail
  go_ret
  exact ⟨rfl, HB3.out⟩

/-- A queue that there is not, or that New did not make. -/
def Dead (v : Value) (w : World) : Prop := v = .pointer none ∨ ∃ q, v = .pointer (some ⟨q, 0, none⟩) ∧ w.cell? ⟨q, 1, none⟩ = some (.map none)
theorem there_dead {v : Value} {w : World} (h : Dead v w) : Calls Try.prog 18 #[v] w fun e w' => e = .returned (.bool false) ∧ w = w' := by
  have hne : ∀ w, (binOp .neq 52 (.map none) (.map none)).run Try.prog w = .ok (.bool false) w := fun w => by kernel_rfl
  rcases h with rfl | ⟨q, rfl, h⟩
  · go_enter Try.func18, Try.ntmps18
    go_wp2
    go_ret
    exact ⟨rfl, rfl⟩
  · go_enter Try.func18, Try.ntmps18
    go_wp2
    go_ret
    exact ⟨rfl, rfl⟩
theorem when_dead {v : Value} {w : World} (h : Dead v w) (id : Int) : Calls Try.prog 15 #[v, .int .i64 id] w fun e w' => e = .returned (.tuple #[.int .i64 0, .bool false]) ∧ w = w' := by
  have H := Lib.hid (there_dead h)
  clear h
  go_enter Try.func15, Try.ntmps15
  go_wp2_with (go_at_call 18; refine H.out.mono ?_; rintro e w' ⟨rfl, rfl⟩)
  go_ret2
  exact ⟨rfl, rfl⟩
theorem len_dead {v : Value} {w : World} (h : Dead v w) : Calls Try.prog 16 #[v] w fun e w' => e = .returned (.int .i64 0) ∧ w = w' := by
  have H := Lib.hid (there_dead h)
  clear h
  go_enter Try.func16, Try.ntmps16
  go_wp2_with (go_at_call 18; refine H.out.mono ?_; rintro e w' ⟨rfl, rfl⟩)
  go_ret
  exact ⟨rfl, rfl⟩
theorem next_dead {v : Value} {w : World} (h : Dead v w) (now : Int) : Calls Try.prog 9 #[v, .int .i64 now] w fun e w' => e = .returned (.tuple #[.int .i64 0, .int .i64 0, .bool false]) ∧ w = w' := by
  have H := Lib.hid (len_dead h)
  clear h
  go_enter Try.func9, Try.ntmps9
  go_wp2_with (go_at_call 16; refine H.out.mono ?_; rintro e w' ⟨rfl, rfl⟩)
  try simp only [Exit.inBlock, Exit.then]
  refine bodyPost_ret (results3 rfl _ _ _) rfl ?_
  exact ⟨rfl, rfl⟩
theorem set_dead {v : Value} {w : World} (h : Dead v w) (a b c : Int) : Calls Try.prog 8 #[v, .int .i64 a, .int .i64 b, .int .i64 c] w fun e w' => e = .returned (.bool false) ∧ w = w' := by
  have H := Lib.hid (there_dead h)
  clear h
  go_enter Try.func8, Try.ntmps8
  go_wp2_with (go_at_call 18; refine H.out.mono ?_; rintro e w' ⟨rfl, rfl⟩)
  go_ret
  exact ⟨rfl, rfl⟩
theorem unset_dead {v : Value} {w : World} (h : Dead v w) (a : Int) : Calls Try.prog 11 #[v, .int .i64 a] w fun e w' => e = .returned (.bool false) ∧ w = w' := by
  have H := Lib.hid (there_dead h)
  clear h
  go_enter Try.func11, Try.ntmps11
  go_wp2_with (go_at_call 18; refine H.out.mono ?_; rintro e w' ⟨rfl, rfl⟩)
  go_ret
  exact ⟨rfl, rfl⟩
theorem all_dead {v : Value} {w : World} (h : Dead v w) : Calls Try.prog 17 #[v] w fun e w' => e = .returned (.slice none 0 0) ∧ w = w' := by
  have H := Lib.hid (there_dead h)
  clear h
  go_enter Try.func17, Try.ntmps17
  go_wp2_with (go_at_call 18; refine H.out.mono ?_; rintro e w' ⟨rfl, rfl⟩)
  go_ret
  exact ⟨rfl, rfl⟩
abbrev opC (k i a e : Int) : Array Value := #[.int .i64 k, .int .i64 i, .int .i64 a, .int .i64 e]
set_option maxRecDepth 8000 in
set_option maxHeartbeats 2000000 in
theorem dueNil_any (k i a e : Int) (w : World) : Calls Try.prog 5 #[.agg (opC k i a e)] w fun r w' => r = .returned (.bool true) ∧ Below w.heap.size w w' := by
  have H1 := fun v W (h : Dead v W) => Lib.hid (when_dead h i)
  have H2 := fun v W (h : Dead v W) => Lib.hid (next_dead h a)
  have H3 := fun v W (h : Dead v W) => Lib.hid (set_dead h i a e)
  have H4 := fun v W (h : Dead v W) => Lib.hid (unset_dead h i)
  have H5 := fun v W (h : Dead v W) => Lib.hid (len_dead h)
  have H6 := fun v W (h : Dead v W) => Lib.hid (all_dead h)
  have HK := fun W => Lib.hid (knows43_any W)
  have HM : Hid (∀ o, (w.alloc (.cells (opC k i a e) 29)).cell? ⟨w.heap.size, o, none⟩ = (opC k i a e)[o]?) := fun o => World.cell?_alloc_at _ _ _ _ rfl
  have HB0 := Lib.hid (below_new w (.cells (opC k i a e) 29))
  have HZ0 : Hid ((w.alloc (.cells (opC k i a e) 29)).heap.size = w.heap.size + 1) := by show _ = _; simp
  go_enter Try.func5, Try.ntmps5
  go_upto_region 1 with fail
  generalize hW0 : w.alloc (.cells (opC k i a e) 29) = W0 at *
  clear hW0
  go_wp2_with fail
  go_loopw [3, 4] (fun v kv wr => ∃ n : Nat, kv = .int .i64 (n : Int) ∧ n ≤ 2 ∧ Hid (Dead v wr ∧ Below W0.heap.size W0 wr)) (fun _ kv _ => 2 - (intOf kv).toNat)
  case atStart => exact ⟨0, rfl, by omega, .inl rfl, Below.refl _ _⟩
  case round =>
    obtain ⟨n, rfl, hn, HW⟩ := hrel
    by_cases hlt : n < 2
    · have hb := HW.out.2
      have c1 := ((bcell hb).1 w.heap.size 1 (by have := HZ0.out; omega)).trans (HM.out 1)
      have c2 := ((bcell hb).1 w.heap.size 2 (by have := HZ0.out; omega)).trans (HM.out 2)
      have c3 := ((bcell hb).1 w.heap.size 3 (by have := HZ0.out; omega)).trans (HM.out 3)
      have G1 := H1 _ _ HW.out.1
      have G2 := H2 _ _ HW.out.1
      have G3 := H3 _ _ HW.out.1
      have G4 := H4 _ _ HW.out.1
      have G5 := H5 _ _ HW.out.1
      have G6 := H6 _ _ HW.out.1
      have HN : Hid (Dead (.pointer (some ⟨wr.heap.size, 0, none⟩)) (wr.alloc (.cells #[.slice none 0 0, .map none] 54)) ∧ Below W0.heap.size W0 (wr.alloc (.cells #[.slice none 0 0, .map none] 54))) :=
        ⟨.inr ⟨_, rfl, World.cell?_alloc_at _ _ _ _ rfl⟩, bthen hb (below_new _ _)⟩
      clear hb H1 H2 H3 H4 H5 H6 HW
      go_wp2_with (first | (go_at_call 15; refine G1.out.mono ?_; rintro e w' ⟨rfl, rfl⟩) | (go_at_call 9; refine G2.out.mono ?_; rintro e w' ⟨rfl, rfl⟩) | (go_at_call 8; refine G3.out.mono ?_; rintro e w' ⟨rfl, rfl⟩) | (go_at_call 11; refine G4.out.mono ?_; rintro e w' ⟨rfl, rfl⟩) | (go_at_call 16; refine G5.out.mono ?_; rintro e w' ⟨rfl, rfl⟩) | (go_at_call 17; refine G6.out.mono ?_; rintro e w' ⟨rfl, rfl⟩))
      go_roundw
      case rel => exact ⟨n + 1, by go_num, by omega, HN⟩
      case measure => simp [intOf]; omega
    · obtain rfl : n = 2 := by omega
      have HB := Lib.hid (bthen HB0.out HW.out.2)
      clear H1 H2 H3 H4 H5 H6
      go_wp2_with fail
      refine (HK _).out.mono ?_
      rintro r w1 ⟨rfl, hb1⟩
      have HB1 := Lib.hid (bthen HB.out hb1)
      clear hb1
      go_wp2_with fail
      go_ret
      exact ⟨rfl, HB1.out⟩
end Go.Proofs.Ytcageojgfnihpaa
