/- Layer 40: knows: the beginning. -/
import Derived.Test.YtafkadhijljmkaaGreatRsy4
namespace Go.Proofs.YtafkadhijljmkaaGreat
set_option linter.unusedVariables false
open Go.RowKit

/-- What 181, 98 begins with: one must wait. -/
theorem at_two (W : World) (d : Nat) (h : Blk W d (bsV [181, 98])) : Calls Tryz.prog 14 #[.slice (some ⟨d, 0, none⟩) [181, 98].length [181, 98].length] W (AtPost 0 1 0 0 W) := by
  have hf : ∀ W', Below W.heap.size W W' → FlatQ (fun _ => True) W' (some ⟨d, 0, none⟩) (bsV [181, 98]) := fun W' hb => (h.on hb).flat trivial
  have := prbAt_no (Q := fun _ => True) (w := W) (some ⟨d, 0, none⟩) 2 181 [98] 1 2 (h.flat trivial) (by decide) (by decide) (by decide) (by unfold maxLen; decide) (fun W1 hb1 => Lib.hid (prbUbx_no 0 2 fun W2 hb2 => Lib.hid (ubxDecode_no 2 (by decide) 0 fun W3 hb3 => Lib.hid (by
    exact frmTake_short (some ⟨d, 0, none⟩) 2 [181, 98] (hf _ (bthen hb1 (bthen hb2 hb3))) (by decide) (by decide)))))
  exact this
theorem run_empty (W : World) (g b : Nat) (C : List Int) (h : DecI W g b C [0]) (hC : 0 ≤ C.getD 9 0 ∧ C.getD 9 0 ≤ 1000000000) : Calls Tryz.prog 25 #[.pointer (some ⟨g, 0, none⟩)] W (RunPost g b C [0] W) :=
  rsyRun_empty h hC (by decide)
theorem run_two (W : World) (g b : Nat) (C : List Int) (h : DecI W g b C [181, 98]) (hC : 0 ≤ C.getD 9 0 ∧ C.getD 9 0 ≤ 1000000000) : Calls Tryz.prog 25 #[.pointer (some ⟨g, 0, none⟩)] W (RunPost g b C [181, 98] W) :=
  rsyRun_wait (x := 181) (r := [98]) h hC (by decide) 1 fun W' d hk => Lib.hid (at_two W' d hk)
theorem feed_one (W : World) (g b d : Nat) (h : DecI W g b z13 []) (hb : Blk W d (bsV [0])) (hdg : d ≠ g) (hdb : d ≠ b) :
    Calls Tryz.prog 10 #[.pointer (some ⟨g, 0, none⟩), .slice (some ⟨d, 0, none⟩) 1 1] W fun e w' => e = .returned (.slice none 0 0) ∧
      DecI w' g b [1, 0, 0, 0, 0, 0, 0, 0, 0, 1, 0, 0, 0] [] ∧ KeptS (fun j => j < W.heap.size ∧ j ≠ b ∧ j ≠ g) W w' :=
  rsyFeed_no (bs := [0]) h hb hdg hdb (by decide) (by decide) (Lib.hid (by decide)) fun W1 h1 => Lib.hid (run_empty W1 g b _ h1 (by decide))
theorem feed_two (W : World) (g b d : Nat) (h : DecI W g b [1, 0, 0, 0, 0, 0, 0, 0, 0, 1, 0, 0, 0] []) (hb : Blk W d (bsV [181, 98])) (hdg : d ≠ g) (hdb : d ≠ b) :
    Calls Tryz.prog 10 #[.pointer (some ⟨g, 0, none⟩), .slice (some ⟨d, 0, none⟩) 2 2] W fun e w' => e = .returned (.slice none 0 0) ∧
      DecI w' g b [3, 0, 0, 0, 0, 0, 0, 0, 0, 1, 0, 0, 0] [181, 98] ∧ KeptS (fun j => j < W.heap.size ∧ j ≠ b ∧ j ≠ g) W w' :=
  rsyFeed_no (bs := [181, 98]) h hb hdg hdb (by decide) (by decide) (Lib.hid (by decide)) fun W1 h1 => Lib.hid (run_two W1 g b _ h1 (by decide))
theorem conv_two {w : World} {d : Nat} (h : Blk w d (bsV [181, 98])) : (convert 65 9 (.slice (some ⟨d, 0, none⟩) 2 2)).run Tryz.prog w = .ok (.string ⟨#[181, 98]⟩) w :=
  run_conv_row w 65 9 5 ⟨d, 0, none⟩ 2 [181, 98] Tryz.underlying65 Tryz.underlying5 Tryz.underlying9 (fun j hj => by
    rw [addr_addQ]
    have hj2 : j < 2 := by simpa using hj
    have : j = 0 ∨ j = 1 := by omega
    rcases this with rfl | rfl
    · exact h.cell 0 rfl
    · exact h.cell 1 rfl)
end Go.Proofs.YtafkadhijljmkaaGreat
