/- Layer 26: the law RmcPuts, walked. Printed by genrmcu.py. -/
import Derived.Test.YtfgopmfaeooadaaGreatDoorMzt
import Derived.Test.YtfgopmfaeooadaaGreatDoorMzy
import Derived.Test.YtfgopmfaeooadaaGreatDoorMzco
import Derived.Test.YtfgopmfaeooadaaGreatDoorMh
namespace Go.Proofs.YtfgopmfaeooadaaGreatDoor
set_option linter.unusedVariables false
open Go.RowKit

theorem putRmc_len {g : RmcT} : (putRmc g).1.length ≤ 11 := by
  by_cases h : (putRmc g).2 = 0
  · exact Nat.le_of_eq (rmc_put_take h).2
  · have : (putRmc g).1 = [] := by unfold putRmc at h ⊢; exact wrDone_none h
    rw [this]; simp
set_option maxRecDepth 8000 in
set_option maxHeartbeats 4000000 in
theorem rmcPuts_any (cb : Bool) (ch : Int) (cm : Int) (cs : Int) (cc : Int) (st : Bool) (lb : Bool) (ln : Int) (ob : Bool) (on : Int) (sb : Bool) (sn : Int) (kb : Bool) (kn : Int) (vb : Bool) (vn : Int) (db : Bool) (dd : Int) (dm : Int) (dy : Int) (w : World) : Calls Tryz.prog 4 #[rmcV cb ch cm cs cc st lb ln ob on sb sn kb kn vb vn db dd dm dy] w fun e w' => e = .returned (.bool true) ∧ Below w.heap.size w w' := by
  obtain ⟨Y, hY⟩ : ∃ Y, putRmc ((cb, ch, cm, cs, cc), st, (lb, ln), (ob, on), (sb, sn), (kb, kn), (db, dd, dm, dy), (vb, vn)) = Y := ⟨_, rfl⟩
  have hlen : Y.1.length ≤ maxLen := by
    have := putRmc_len (g := ((cb, ch, cm, cs, cc), st, (lb, ln), (ob, on), (sb, sn), (kb, kn), (db, dd, dm, dy), (vb, vn)))
    rw [hY] at this
    unfold maxLen; omega
  have HP := fun W => Lib.hid (rmcPut_any cb ch cm cs cc st lb ln ob on sb sn kb kn vb vn db dd dm dy W)
  have HQ := fun W => Lib.hid (r26Put_any cb ch cm cs cc st lb ln ob on sb sn kb kn vb vn db dd dm dy W)
  rw [hY] at HP HQ
  clear hY
  have HW1 := fun W => Lib.hid (rmcWhen_any cb ch cm cs cc st lb ln ob on sb sn kb kn vb vn db dd dm dy W)
  have HW2 := fun W => Lib.hid (r26When_any cb ch cm cs cc st lb ln ob on sb sn kb kn vb vn db dd dm dy W)
  generalize cntI (db, dd, dm, dy) (cb, ch, cm, cs, cc) = X at *
  obtain ⟨xn, xb⟩ := X
  dsimp only at HW1 HW2
  have HK := fun W => Lib.hid (knows26_any W)
  obtain ⟨fs, E⟩ := Y
  have HA0 : Hid (AtC (w.alloc (.cells (rmcC cb ch cm cs cc st lb ln ob on sb sn kb kn vb vn db dd dm dy) 32)) w.heap.size (rmcC cb ch cm cs cc st lb ln ob on sb sn kb kn vb vn db dd dm dy)) := fun o => World.cell?_alloc_at _ _ _ _ rfl
  have HB0 := Lib.hid (below_new w (.cells (rmcC cb ch cm cs cc st lb ln ob on sb sn kb kn vb vn db dd dm dy) 32))
  have HZ0 : Hid (w.heap.size < (w.alloc (.cells (rmcC cb ch cm cs cc st lb ln ob on sb sn kb kn vb vn db dd dm dy) 32)).heap.size) := by show _ < _; simp
  go_enter Tryz.func4, Tryz.ntmps4
  go_upto_region 1 with fail
  generalize hW0 : w.alloc (.cells (rmcC cb ch cm cs cc st lb ln ob on sb sn kb kn vb vn db dd dm dy) 32) = W0 at *
  clear hW0
  try (apply wp_seq_k; intro K2_ HK2_)
  apply wp_region_lit
  refine wpList_load_mid rfl _ _ rfl w.heap.size 0 rfl [.bool cb, .int .i64 ch, .int .i64 cm, .int .i64 cs, .int .i64 cc, .bool st, .bool lb, .int .i64 ln, .bool ob, .int .i64 on, .bool sb, .int .i64 sn, .bool kb, .int .i64 kn, .bool vb, .int .i64 vn, .bool db, .int .i64 dd, .int .i64 dm, .int .i64 dy] _ (range_of HA0.out) Tryz.underlying32 rfl rmc_size ?_
  go_wp2_with fail
  refine (HP _).out.mono ?_
  rintro e w1 ⟨v, rfl, B, d, rfl, hA, hs1, hf, hb1⟩
  have HA1 : Hid (AtC w1 w.heap.size (rmcC cb ch cm cs cc st lb ln ob on sb sn kb kn vb vn db dd dm dy)) := fun o => ((bcell hb1).1 _ o HZ0.out).trans (HA0.out o)
  have HB1 := Lib.hid (bthen HB0.out hb1)
  have HZ1 := Lib.hid (Nat.lt_of_lt_of_le HZ0.out hb1.size)
  have HS1 := Lib.hid hs1
  clear hA hs1 hf hb1 HA0 HB0 HZ0
  go_upto_region 2 with fail
  try (apply wp_seq_k; intro K2_ HK2_)
  apply wp_region_lit
  refine wpList_load_mid rfl _ _ rfl w.heap.size 0 rfl [.bool cb, .int .i64 ch, .int .i64 cm, .int .i64 cs, .int .i64 cc, .bool st, .bool lb, .int .i64 ln, .bool ob, .int .i64 on, .bool sb, .int .i64 sn, .bool kb, .int .i64 kn, .bool vb, .int .i64 vn, .bool db, .int .i64 dd, .int .i64 dm, .int .i64 dy] _ (range_of HA1.out) Tryz.underlying32 rfl rmc_size ?_
  go_wp2_with fail
  refine (HQ _).out.mono ?_
  rintro e w2 ⟨v, rfl, G, f, rfl, hA, hs2, hf, hb2⟩
  have HA2 : Hid (AtC w2 w.heap.size (rmcC cb ch cm cs cc st lb ln ob on sb sn kb kn vb vn db dd dm dy)) := fun o => ((bcell hb2).1 _ o HZ1.out).trans (HA1.out o)
  have HB2 := Lib.hid (bthen HB1.out hb2)
  have HZ2 := Lib.hid (Nat.lt_of_lt_of_le HZ1.out hb2.size)
  have HS2 := Lib.hid ((HS1.out.below hb2 (Nat.le_refl _)).more hb2.size)
  have HS3 := Lib.hid hs2
  clear hA hs2 hf hb2 HA1 HB1 HZ1 HS1
  go_upto_region 3 with fail
  try (apply wp_seq_k; intro K2_ HK2_)
  apply wp_region_lit
  refine wpList_load_mid rfl _ _ rfl w.heap.size 0 rfl [.bool cb, .int .i64 ch, .int .i64 cm, .int .i64 cs, .int .i64 cc, .bool st, .bool lb, .int .i64 ln, .bool ob, .int .i64 on, .bool sb, .int .i64 sn, .bool kb, .int .i64 kn, .bool vb, .int .i64 vn, .bool db, .int .i64 dd, .int .i64 dm, .int .i64 dy] _ (range_of HA2.out) Tryz.underlying32 rfl rmc_size ?_
  go_wp2_with fail
  refine (HW1 _).out.mono ?_
  rintro e w3 ⟨rfl, hb3⟩
  have HA3 : Hid (AtC w3 w.heap.size (rmcC cb ch cm cs cc st lb ln ob on sb sn kb kn vb vn db dd dm dy)) := fun o => ((bcell hb3).1 _ o HZ2.out).trans (HA2.out o)
  have HB3 := Lib.hid (bthen HB2.out hb3)
  have HS4 := Lib.hid ((HS2.out.below hb3 (Nat.le_refl _)).more hb3.size)
  have HS5 := Lib.hid ((HS3.out.below hb3 (Nat.le_refl _)).more hb3.size)
  clear hb3 HA2 HB2 HZ2 HS2 HS3
  go_upto_region 4 with fail
  try (apply wp_seq_k; intro K2_ HK2_)
  apply wp_region_lit
  refine wpList_load_mid rfl _ _ rfl w.heap.size 0 rfl [.bool cb, .int .i64 ch, .int .i64 cm, .int .i64 cs, .int .i64 cc, .bool st, .bool lb, .int .i64 ln, .bool ob, .int .i64 on, .bool sb, .int .i64 sn, .bool kb, .int .i64 kn, .bool vb, .int .i64 vn, .bool db, .int .i64 dd, .int .i64 dm, .int .i64 dy] _ (range_of HA3.out) Tryz.underlying32 rfl rmc_size ?_
  go_wp2_with fail
  refine (HW2 _).out.mono ?_
  rintro e w4 ⟨rfl, hb4⟩
  have HB4 := Lib.hid (bthen HB3.out hb4)
  have HT : Hid (Calls Tryz.prog 14 #[.slice B fs.length d, .slice G fs.length f] w4 fun e w' => e = .returned (.bool true) ∧ Below w4.heap.size w4 w') := by
    have := r22Texts_any B G fs fs d f w4 hlen ((HS4.out.below hb4 (Nat.le_refl _)).more hb4.size) ((HS5.out.below hb4 (Nat.le_refl _)).more hb4.size)
    rw [decide_eq_true rfl] at this
    exact this
  clear hb4 HA3 HB3 HS4 HS5 hlen
  go_wp2_with fail
  refine (HT.out).mono ?_
  rintro e w5 ⟨rfl, hb5⟩
  have HB5 := Lib.hid (bthen HB4.out hb5)
  clear hb5
  go_wp2_with fail
  refine (num26_any _ _).mono ?_
  rintro e w' ⟨rfl, rfl⟩
  go_wp2_with fail
  refine (num26_any _ _).mono ?_
  rintro e w' ⟨rfl, rfl⟩
  go_wp2_with fail
  refine ((HK _).out).mono ?_
  rintro e w6 ⟨rfl, hb6⟩
  have HB6 := Lib.hid (bthen HB5.out hb6)
  clear hb6
  go_wp2_with fail
  go_ret
  exact ⟨by rfl, HB6.out⟩
end Go.Proofs.YtfgopmfaeooadaaGreatDoor
