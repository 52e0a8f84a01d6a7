/- Layer 40: run where nothing is taken. -/
import Derived.Test.YtafkadhijljmkaaGreatRsy1
import Derived.Test.YtafkadhijljmkaaGreatPrb1
namespace Go.Proofs.YtafkadhijljmkaaGreat
set_option linter.unusedVariables false
open Go.RowKit

theorem DecI.kept2 {W W' : World} {g b k o : Nat} {cs : List Value} {C : List Int} {l : List UInt8} (h : DecI W g b C l) (hs : Stored W W' k o cs) (h1 : g ≠ k) (h2 : b ≠ k) : DecI W' g b C l :=
  ⟨h.blk.far hs h1, h.len, h.win.kept (hs.far b h2) (Nat.le_of_eq hs.sz.symm), h.ne⟩
/-- What run does where it takes nothing: it skips. -/
def RunPost (g b : Nat) (C : List Int) (l : List UInt8) (W : World) (e : Ending) (w' : World) : Prop :=
  e = .returned (.slice none 0 0) ∧ DecI w' g b (cntAdd C 9 ((l.length : Int) - ((skipped l).length : Int))) (skipped l) ∧ KeptS (fun j => j < W.heap.size ∧ j ≠ b ∧ j ≠ g) W w'
set_option maxRecDepth 8000 in
set_option maxHeartbeats 400000 in
theorem rsyRun_empty {W : World} {g b : Nat} {C : List Int} {l : List UInt8} (h : DecI W g b C l) (hC : Hid (0 ≤ C.getD 9 0 ∧ C.getD 9 0 ≤ 1000000000)) (hl : skipped l = []) : Calls Tryz.prog 25 #[.pointer (some ⟨g, 0, none⟩)] W (RunPost g b C l W) := by
  have HS : Hid (Calls Tryz.prog 40 #[.pointer (some ⟨g, 0, none⟩)] W fun e w' => e = .returned (.bool false) ∧ DecI w' g b (cntAdd C 9 ((l.length : Int) - ((skipped l).length : Int))) (skipped l) ∧ KeptS (fun j => j ≠ b ∧ j ≠ g) W w') := Lib.hid (by
    have := rsySkip_any h hC
    unfold SkipPost at this
    rw [hl] at this ⊢
    exact this)
  clear h hC hl
  go_enter Tryz.func25, Tryz.ntmps25
  go_wp2_with fail
  go_step3
  go_wp2_with fail
  go_step3
  go_wp2_with fail
  refine HS.out.mono ?_
  rintro e w1 ⟨rfl, hd, hk⟩
  have HD := Lib.hid (And.intro hd hk)
  clear hd hk HS
  go_wp2_with fail
  rw [Exit.noGoto_ret]
  go_ret
  exact ⟨rfl, HD.out.1, HD.out.2.less fun j q => q.2⟩
set_option maxRecDepth 8000 in
set_option maxHeartbeats 1000000 in
theorem rsyRun_wait {W : World} {g b : Nat} {C : List Int} {l r : List UInt8} {x : UInt8} (h : DecI W g b C l) (hC : Hid (0 ≤ C.getD 9 0 ∧ C.getD 9 0 ≤ 1000000000)) (hl : skipped l = x :: r) (p : Int)
    (HA : ∀ W' d, Blk W' d (bsV (x :: r)) → Hid (Calls Tryz.prog 14 #[.slice (some ⟨d, 0, none⟩) (x :: r).length (x :: r).length] W' (AtPost 0 p 0 0 W'))) :
    Calls Tryz.prog 25 #[.pointer (some ⟨g, 0, none⟩)] W (RunPost g b C l W) := by
  have HS : Hid (Calls Tryz.prog 40 #[.pointer (some ⟨g, 0, none⟩)] W fun e w' => e = .returned (.bool true) ∧ DecI w' g b (cntAdd C 9 ((l.length : Int) - ((skipped l).length : Int))) (x :: r) ∧ KeptS (fun j => j ≠ b ∧ j ≠ g) W w') := Lib.hid (by
    have := rsySkip_any h hC
    unfold SkipPost at this
    rw [hl] at this ⊢
    exact this)
  have HL := Lib.hid hl
  have HZ := fun W => Lib.hid (zero_Ve W)
  have hlp : (0 : Int) < ((x :: r).length : Int) := by simp only [List.length_cons]; omega
  clear h hC hl
  go_enter Tryz.func25, Tryz.ntmps25
  go_wp2_with fail
  go_step3
  go_wp2_with fail
  go_step3
  go_wp2_with fail
  refine HS.out.mono ?_
  rintro e w1 ⟨rfl, hd, hk⟩
  have HD := Lib.hid hd
  have HK := Lib.hid hk
  have c0 := hd.c0
  clear hd hk HS
  go_wp2_with fail
  refine (winPeek_any HD.out.win).mono ?_
  rintro e w2 ⟨rfl, hbk, -, hb, -⟩
  have HD2 := Lib.hid (HD.out.on hb)
  have HA2 := Lib.hid (HA _ _ hbk)
  have HK2 : Hid (KeptS (fun j => j < W.heap.size ∧ j ≠ b ∧ j ≠ g) W w2) := Lib.hid ((HK.out.less fun j q => q.2).trans (KeptS.of_below hb fun j q => Nat.lt_of_lt_of_le q.1 HK.out.size))
  clear hbk hb HD HK c0 HA
  generalize (x :: r).length = L at *
  go_wp2_with fail
  go_loopg [3, 4] 1 (fun _ s3 s4 wr => s3 = .slice none 0 0 ∧ s4 = .slice (some ⟨w1.heap.size, 0, none⟩) L L ∧ wr = w2)
  case atStart => exact ⟨rfl, rfl, rfl⟩
  case round =>
    obtain ⟨rfl, rfl, rfl⟩ := hrel
    go_wp2_with fail
    refine HA2.out.out.mono ?_
    rintro e w3 ⟨rfl, hb⟩
    have HD3 := Lib.hid (HD2.out.on hb)
    have HK3 := Lib.hid (HK2.out.trans (KeptS.of_below hb fun j q => Nat.lt_of_lt_of_le q.1 HK2.out.size))
    clear hb HD2 HK2 HA2
    go_upto_region 7 with (first
      | (refine wpList_alloc_new rfl 81 rfl (veA 0 0 0 0) (HZ _).out ?_; intro W4 hW; have HV4 := Lib.hid (Blk.newL (L := veL 0 0 0 0 zItL) hW rfl); have HD4 := Lib.hid (HD3.out.on hW.bel); have HK4 := Lib.hid (HK3.out.trans (KeptS.of_below hW.bel fun j q => Nat.lt_of_lt_of_le q.1 HK3.out.size)); clear hW)
      | (refine wpList_store_in rfl 81 _ _ rfl w3.heap.size 0 (veA 0 p 0 0) rfl rfl (HV4.out.there 0 124 (Nat.le_refl _)) (ve_size _ _ _ _) (ve_ones _ _ _ _) ?_; intro W5 hs; have HV5 := Lib.hid (HV4.out.all hs rfl); have HD5 := Lib.hid (HD4.out.kept2 hs (by have := HD3.out.blk.lt; omega) (by have := HD3.out.win.lt; omega)); have HK5 := Lib.hid (HK4.out.stored hs (fun q => by have := HK3.out.size; omega)); clear hs))
    have v0 := HV5.out.cell 0 (v := .int .i64 0) rfl
    clear HV5 HV4 HD4 HK4
    go_wp2_with fail
    rw [Exit.noGoto_ret]
    go_ret
    refine ⟨rfl, ?_, HK5.out⟩
    rw [HL.out]
    have := HD5.out
    rw [HL.out] at this
    exact this
end Go.Proofs.YtafkadhijljmkaaGreat
