/- The law RmcTakes, walked. Printed by genrmcl.py. -/
import Derived.Test.YtfgopmfaeooadaaGreatDoorMzw
import Derived.Test.YtfgopmfaeooadaaGreatDoorMzt
import Derived.Test.YtfgopmfaeooadaaGreatDoorMzk
namespace Go.Proofs.YtfgopmfaeooadaaGreatDoor
set_option linter.unusedVariables false
open Go.RowKit

set_option maxRecDepth 8000 in
theorem rmcTakes_many (A : Option Addr) (n c : Nat) (w : World) (HF : Hid (Calls Tryz.prog 5 #[.slice A n c] w fun e w' => e = .returned (.bool false) ∧ w' = w)) :
    Calls Tryz.prog 3 #[.slice A n c] w fun e w' => e = .returned (.bool true) ∧ Below w.heap.size w w' := by
  have HK := fun W => Lib.hid (knows26_any W)
  go_enter Tryz.func3, Tryz.ntmps3
  go_wp2_with fail
  refine (HF.out).mono ?_
  rintro e w' ⟨rfl, rfl⟩
  go_wp2_with fail
  refine ((HK _).out).mono ?_
  rintro e w1 ⟨rfl, hb1⟩
  go_wp2_with fail
  go_ret
  exact ⟨rfl, hb1⟩
set_option maxRecDepth 8000 in
set_option maxHeartbeats 4000000 in
theorem rmcTakes_few (A : Option Addr) (n c : Nat) (w : World) (cb : Bool) (ch : Int) (cm : Int) (cs : Int) (cc : Int) (st : Bool) (lb : Bool) (ln : Int) (ob : Bool) (on : Int) (sb : Bool) (sn : Int) (kb : Bool) (kn : Int) (vb : Bool) (vn : Int) (db : Bool) (dd : Int) (dm : Int) (dy : Int) (E : Int) (HF : Hid (Calls Tryz.prog 5 #[.slice A n c] w fun e w' => e = .returned (.bool true) ∧ w' = w))
    (HT : ∀ W, Below w.heap.size w W → Hid (Calls Tryz.prog 7 #[.slice A n c] W fun r w' => r = .returned (.tuple #[rmcV cb ch cm cs cc st lb ln ob on sb sn kb kn vb vn db dd dm dy, .int .i64 E]) ∧ Below W.heap.size W w'))
    (HR : ∀ W, Below w.heap.size w W → Hid (Calls Tryz.prog 8 #[.slice A n c] W fun r w' => r = .returned (.tuple #[rmcV cb ch cm cs cc st lb ln ob on sb sn kb kn vb vn db dd dm dy, .int .i64 E]) ∧ Below W.heap.size W w')) :
    Calls Tryz.prog 3 #[.slice A n c] w fun e w' => e = .returned (.bool true) ∧ Below w.heap.size w w' := by
  have HK := fun W => Lib.hid (knows26_any W)
  go_enter Tryz.func3, Tryz.ntmps3
  go_wp2_with fail
  refine (HF.out).mono ?_
  rintro e w' ⟨rfl, rfl⟩
  go_wp2_with fail
  refine ((HK _).out).mono ?_
  rintro e w1 ⟨rfl, hb1⟩
  have HB1 := Lib.hid hb1
  clear hb1
  go_wp2_with fail
  refine ((HT w1 HB1.out).out).mono ?_
  rintro e w2 ⟨rfl, hb2⟩
  have HB2 := Lib.hid (bthen HB1.out hb2)
  clear hb2 HK HB1 HT
  dsimp only
  iterate 13 (first | go_step | go_values)
  have HA : Hid (AtC (w2.alloc (.cells (#[.bool false, .int .i64 0, .int .i64 0, .int .i64 0, .int .i64 0, .bool false, .bool false, .int .i64 0, .bool false, .int .i64 0, .bool false, .int .i64 0, .bool false, .int .i64 0, .bool false, .int .i64 0, .bool false, .int .i64 0, .int .i64 0, .int .i64 0]) 32)) w2.heap.size (#[.bool false, .int .i64 0, .int .i64 0, .int .i64 0, .int .i64 0, .bool false, .bool false, .int .i64 0, .bool false, .int .i64 0, .bool false, .int .i64 0, .bool false, .int .i64 0, .bool false, .int .i64 0, .bool false, .int .i64 0, .int .i64 0, .int .i64 0])) := fun o => World.cell?_alloc_at _ _ _ _ rfl
  have HFZ : Hid (∀ o, (w2.alloc (.cells (#[.bool false, .int .i64 0, .int .i64 0, .int .i64 0, .int .i64 0, .bool false, .bool false, .int .i64 0, .bool false, .int .i64 0, .bool false, .int .i64 0, .bool false, .int .i64 0, .bool false, .int .i64 0, .bool false, .int .i64 0, .int .i64 0, .int .i64 0]) 32)).frozen? ⟨w2.heap.size, o, none⟩ = false) := fun o => by rw [frozen?_alloc_cells]; exact frozen_past _ _ _ (Nat.le_refl _)
  have HL : Hid (Below w2.heap.size w2 (w2.alloc (.cells (#[.bool false, .int .i64 0, .int .i64 0, .int .i64 0, .int .i64 0, .bool false, .bool false, .int .i64 0, .bool false, .int .i64 0, .bool false, .int .i64 0, .bool false, .int .i64 0, .bool false, .int .i64 0, .bool false, .int .i64 0, .int .i64 0, .int .i64 0]) 32)) ∧ w2.heap.size < (w2.alloc (.cells (#[.bool false, .int .i64 0, .int .i64 0, .int .i64 0, .int .i64 0, .bool false, .bool false, .int .i64 0, .bool false, .int .i64 0, .bool false, .int .i64 0, .bool false, .int .i64 0, .bool false, .int .i64 0, .bool false, .int .i64 0, .int .i64 0, .int .i64 0]) 32)).heap.size) := ⟨below_new _ _, by simp⟩
  generalize hW : w2.alloc (.cells (#[.bool false, .int .i64 0, .int .i64 0, .int .i64 0, .int .i64 0, .bool false, .bool false, .int .i64 0, .bool false, .int .i64 0, .bool false, .int .i64 0, .bool false, .int .i64 0, .bool false, .int .i64 0, .bool false, .int .i64 0, .int .i64 0, .int .i64 0]) 32) = WA at *
  clear hW
  refine wpList_store_mid rfl _ _ _ rfl w2.heap.size 0 (rmcC cb ch cm cs cc st lb ln ob on sb sn kb kn vb vn db dd dm dy) rfl rfl (there_of HA.out HFZ.out rfl) rmc_size (by simp [Value.oneCell']) ?_
  have hY := World.rangeAt_setCells_same WA w2.heap.size 0 (rmcC cb ch cm cs cc st lb ln ob on sb sn kb kn vb vn db dd dm dy).toList (there_of HA.out HFZ.out rfl)
  have hL5 := below_cells (Nat.le_refl w2.heap.size) (rmcC cb ch cm cs cc st lb ln ob on sb sn kb kn vb vn db dd dm dy).toList 0 WA HL.out.1
  have hz5 : w2.heap.size < (World.setCells WA w2.heap.size 0 (rmcC cb ch cm cs cc st lb ln ob on sb sn kb kn vb vn db dd dm dy).toList).heap.size := Nat.lt_of_lt_of_le HL.out.2 (below_cells (Nat.le_refl w2.heap.size) (rmcC cb ch cm cs cc st lb ln ob on sb sn kb kn vb vn db dd dm dy).toList 0 WA (Below.refl _ WA)).size
  generalize World.setCells WA w2.heap.size 0 (rmcC cb ch cm cs cc st lb ln ob on sb sn kb kn vb vn db dd dm dy).toList = W3 at *
  have HYW3 := Lib.hid hY
  have HZW3 := Lib.hid hz5
  have HB3 := Lib.hid (bthen HB2.out hL5)
  clear hY hz5 hL5 HA HFZ HL HB2
  go_wp2_with fail
  refine ((HR _ HB3.out).out).mono ?_
  rintro e w4 ⟨rfl, hb4⟩
  have HB4 := Lib.hid (bthen HB3.out hb4)
  have HY4 := Lib.hid (range_keep HYW3.out HZW3.out hb4)
  have HZ4 : Hid (w2.heap.size < w4.heap.size) := Nat.lt_of_lt_of_le HZW3.out hb4.size
  clear hb4 HB3 HYW3 HZW3 HR
  dsimp only
  iterate 13 (first | go_step | go_values)
  have HA : Hid (AtC (w4.alloc (.cells (#[.bool false, .int .i64 0, .int .i64 0, .int .i64 0, .int .i64 0, .bool false, .bool false, .int .i64 0, .bool false, .int .i64 0, .bool false, .int .i64 0, .bool false, .int .i64 0, .bool false, .int .i64 0, .bool false, .int .i64 0, .int .i64 0, .int .i64 0]) 32)) w4.heap.size (#[.bool false, .int .i64 0, .int .i64 0, .int .i64 0, .int .i64 0, .bool false, .bool false, .int .i64 0, .bool false, .int .i64 0, .bool false, .int .i64 0, .bool false, .int .i64 0, .bool false, .int .i64 0, .bool false, .int .i64 0, .int .i64 0, .int .i64 0])) := fun o => World.cell?_alloc_at _ _ _ _ rfl
  have HFZ : Hid (∀ o, (w4.alloc (.cells (#[.bool false, .int .i64 0, .int .i64 0, .int .i64 0, .int .i64 0, .bool false, .bool false, .int .i64 0, .bool false, .int .i64 0, .bool false, .int .i64 0, .bool false, .int .i64 0, .bool false, .int .i64 0, .bool false, .int .i64 0, .int .i64 0, .int .i64 0]) 32)).frozen? ⟨w4.heap.size, o, none⟩ = false) := fun o => by rw [frozen?_alloc_cells]; exact frozen_past _ _ _ (Nat.le_refl _)
  have HL : Hid (Below w4.heap.size w4 (w4.alloc (.cells (#[.bool false, .int .i64 0, .int .i64 0, .int .i64 0, .int .i64 0, .bool false, .bool false, .int .i64 0, .bool false, .int .i64 0, .bool false, .int .i64 0, .bool false, .int .i64 0, .bool false, .int .i64 0, .bool false, .int .i64 0, .int .i64 0, .int .i64 0]) 32)) ∧ w4.heap.size < (w4.alloc (.cells (#[.bool false, .int .i64 0, .int .i64 0, .int .i64 0, .int .i64 0, .bool false, .bool false, .int .i64 0, .bool false, .int .i64 0, .bool false, .int .i64 0, .bool false, .int .i64 0, .bool false, .int .i64 0, .bool false, .int .i64 0, .int .i64 0, .int .i64 0]) 32)).heap.size) := ⟨below_new _ _, by simp⟩
  generalize hW : w4.alloc (.cells (#[.bool false, .int .i64 0, .int .i64 0, .int .i64 0, .int .i64 0, .bool false, .bool false, .int .i64 0, .bool false, .int .i64 0, .bool false, .int .i64 0, .bool false, .int .i64 0, .bool false, .int .i64 0, .bool false, .int .i64 0, .int .i64 0, .int .i64 0]) 32) = WA at *
  clear hW
  refine wpList_store_mid rfl _ _ _ rfl w4.heap.size 0 (rmcC cb ch cm cs cc st lb ln ob on sb sn kb kn vb vn db dd dm dy) rfl rfl (there_of HA.out HFZ.out rfl) rmc_size (by simp [Value.oneCell']) ?_
  have hY := World.rangeAt_setCells_same WA w4.heap.size 0 (rmcC cb ch cm cs cc st lb ln ob on sb sn kb kn vb vn db dd dm dy).toList (there_of HA.out HFZ.out rfl)
  have hL5 := below_cells (Nat.le_refl w4.heap.size) (rmcC cb ch cm cs cc st lb ln ob on sb sn kb kn vb vn db dd dm dy).toList 0 WA HL.out.1
  have hz5 : w4.heap.size < (World.setCells WA w4.heap.size 0 (rmcC cb ch cm cs cc st lb ln ob on sb sn kb kn vb vn db dd dm dy).toList).heap.size := Nat.lt_of_lt_of_le HL.out.2 (below_cells (Nat.le_refl w4.heap.size) (rmcC cb ch cm cs cc st lb ln ob on sb sn kb kn vb vn db dd dm dy).toList 0 WA (Below.refl _ WA)).size
  generalize World.setCells WA w4.heap.size 0 (rmcC cb ch cm cs cc st lb ln ob on sb sn kb kn vb vn db dd dm dy).toList = W5 at *
  have HYW5 := Lib.hid hY
  have HZW5 := Lib.hid hz5
  have HB5 := Lib.hid (bthen HB4.out hL5)
  have HY5 := Lib.hid (range_keep HY4.out HZ4.out hL5)
  clear hY hz5 hL5 HA HFZ HL HB4
  go_upto_region 5 with fail
  try (apply wp_seq_k; intro K2_ HK2_)
  apply wp_region_lit
  refine wpList_load_mid rfl _ _ rfl w2.heap.size 0 rfl [.bool cb, .int .i64 ch, .int .i64 cm, .int .i64 cs, .int .i64 cc, .bool st, .bool lb, .int .i64 ln, .bool ob, .int .i64 on, .bool sb, .int .i64 sn, .bool kb, .int .i64 kn, .bool vb, .int .i64 vn, .bool db, .int .i64 dd, .int .i64 dm, .int .i64 dy] _ HY5.out Tryz.underlying32 rfl rmc_size ?_
  refine wpList_load_mid rfl _ _ rfl w4.heap.size 0 rfl [.bool cb, .int .i64 ch, .int .i64 cm, .int .i64 cs, .int .i64 cc, .bool st, .bool lb, .int .i64 ln, .bool ob, .int .i64 on, .bool sb, .int .i64 sn, .bool kb, .int .i64 kn, .bool vb, .int .i64 vn, .bool db, .int .i64 dd, .int .i64 dm, .int .i64 dy] _ HYW5.out Tryz.underlying32 rfl rmc_size ?_
  clear HY5 HYW5 HZ4 HZW5
  go_wp2_with fail
  refine (num26_any _ _).mono ?_
  rintro e w' ⟨rfl, rfl⟩
  go_wp2_with fail
  refine (num26_any _ _).mono ?_
  rintro e w' ⟨rfl, rfl⟩
  go_wp2_with fail
  go_ret
  exact ⟨by rfl, HB5.out⟩
theorem rmcTakes_any (A : Option Addr) (c : Nat) (fs : List ByteArray) (w : World) (hA : A = none → c = 0) (hn : fs.length ≤ maxLen) (hs : Strs w w.heap.size A fs) (hz : ∀ f ∈ fs, f.size ≤ maxLen) :
    Calls Tryz.prog 3 #[.slice A fs.length c] w fun e w' => e = .returned (.bool true) ∧ Below w.heap.size w w' := by
  have hst : ∀ W, Below w.heap.size w W → Strs W W.heap.size A fs := fun W hb => (hs.below hb (Nat.le_refl _)).more hb.size
  have hf : Calls Tryz.prog 5 #[.slice A fs.length c] w fun e w' => e = .returned (.bool (fewL fs)) ∧ w' = w := r25Few_any A fs.length c fs w rfl hs hz hn
  cases hfew : fewL fs with
  | false =>
    rw [hfew] at hf
    exact rmcTakes_many A fs.length c w hf
  | true =>
    rw [hfew] at hf
    obtain ⟨h40, h100⟩ := (fewL_iff fs).1 hfew
    obtain ⟨⟨⟨⟨xcb, xch, xcm, xcs, xcc⟩, xst, ⟨xlb, xln⟩, ⟨xob, xon⟩, ⟨xsb, xsn⟩, ⟨xkb, xkn⟩, ⟨xdb, xdd, xdm, xdy⟩, ⟨xvb, xvn⟩⟩, F⟩, hX⟩ : ∃ x, takeRmc fs = x := ⟨_, rfl⟩
    refine rmcTakes_few A fs.length c w xcb xch xcm xcs xcc xst xlb xln xob xon xsb xsn xkb xkn xvb xvn xdb xdd xdm xdy F hf (fun W hb => ?_) (fun W hb => ?_)
    · have := rmcTake_any A fs c W hA (hst W hb) (fun t ht => Nat.le_trans (h100 t ht) (by omega))
      rw [hX] at this
      exact this
    · have := r26Take_any A fs c W (hst W hb) (fun t ht => Nat.le_trans (h100 t ht) (by omega))
      rw [hX] at this
      exact this
end Go.Proofs.YtfgopmfaeooadaaGreatDoor
