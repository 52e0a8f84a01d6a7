/- Layer 40: Feed where nothing is taken. -/
import Derived.Test.YtafkadhijljmkaaGreatRsy2
import Derived.ChangeKeysEq
namespace Go.Proofs.YtafkadhijljmkaaGreat
set_option linter.unusedVariables false
open Go.RowKit

set_option maxRecDepth 8000 in
set_option maxHeartbeats 1000000 in
theorem rsyFeed_no {W : World} {g b d : Nat} {C : List Int} {l bs : List UInt8} (h : DecI W g b C l) (hb : Blk W d (bsV bs)) (hdg : d ≠ g) (hdb : d ≠ b) (hn : 0 < bs.length) (hf : l.length + bs.length ≤ 1024) (hC : Hid (0 ≤ C.getD 0 0 ∧ C.getD 0 0 ≤ 1000000000))
    (HR : ∀ W1, DecI W1 g b (cntAdd C 0 bs.length) (l ++ bs) → Hid (Calls Tryz.prog 25 #[.pointer (some ⟨g, 0, none⟩)] W1 (RunPost g b (cntAdd C 0 bs.length) (l ++ bs) W1))) :
    Calls Tryz.prog 10 #[.pointer (some ⟨g, 0, none⟩), .slice (some ⟨d, 0, none⟩) bs.length bs.length] W fun e w' => e = .returned (.slice none 0 0) ∧
      DecI w' g b (cntAdd (cntAdd C 0 bs.length) 9 (((l ++ bs).length : Int) - ((skipped (l ++ bs)).length : Int))) (skipped (l ++ bs)) ∧ KeptS (fun j => j < W.heap.size ∧ j ≠ b ∧ j ≠ g) W w' := by
  have c1 : W.cell? ⟨g, 1, none⟩ = some (.int .i64 (C.getD 0 0)) := h.cd 0 (by omega)
  have z1 := h.blk.fz 1
  have HT := Lib.hid h
  have hs : DecI (W.setCell ⟨g, 1, none⟩ (.int .i64 (C.getD 0 0 + bs.length))) g b (cntAdd C 0 bs.length) l := h.set 0 _ (by omega)
  have hst : Stored W (W.setCell ⟨g, 1, none⟩ (.int .i64 (C.getD 0 0 + bs.length))) g 1 [.int .i64 (C.getD 0 0 + bs.length)] := stored_setCell (h.blk.there 1 1 (by rw [decL_len, h.len]; omega))
  have HB := Lib.hid (hb.far hst hdg)
  have HK0 := Lib.hid ((KeptS.refl (fun j => j < W.heap.size ∧ j ≠ b ∧ j ≠ g) W).stored hst (fun q => q.2.2 rfl))
  have hb1 := hC.out.1
  have hb2 := hC.out.2
  generalize C.getD 0 0 = In at *
  have HD := Lib.hid hs
  clear hs hst hb h hC
  have HN := Lib.hid (And.intro hn hf)
  have hn' : (0 : Int) < (bs.length : Int) := by omega
  have hn2 : (bs.length : Int) ≤ 1024 := by omega
  have HP : ∀ w1, DecI w1 g b (cntAdd C 0 bs.length) l → Blk w1 d (bsV bs) → Hid (Calls Tryz.prog 24 #[.pointer (some ⟨b, 0, none⟩), .slice (some ⟨d, 0, none⟩) bs.length bs.length] w1 fun e w' => e = .returned (.int .i64 (bs.length : Nat)) ∧ DecI w' g b (cntAdd C 0 bs.length) (l ++ bs) ∧ KeptS (fun k => k ≠ b) w1 w') := fun w1 h1 h2 => Lib.hid (by
    have := winPut_any (bs := bs) (some ⟨d, 0, none⟩) bs.length h1.win (h2.flat (Q := fun k => k ≠ b) hdb) (by unfold maxLen; omega) (Nat.le_refl _)
    rw [show min bs.length (1024 - l.length) = bs.length from by omega, List.take_length] at this
    refine this.mono ?_
    rintro e w' ⟨rfl, q1, q2⟩
    exact ⟨rfl, h1.moved q1 q2, q2⟩)
  generalize bs.length = n at *
  go_enter Tryz.func10, Tryz.ntmps10
  go_wp2_with (refine (rsyThere_any HT.out).mono ?_; rintro e w' ⟨rfl, rfl⟩)
  generalize hW1 : W.setCell ⟨g, 1, none⟩ (.int .i64 (In + (n : Int))) = W1 at *
  obtain ⟨Fin, hFin⟩ : ∃ F : World → Prop, F = fun w' => DecI w' g b (cntAdd (cntAdd C 0 n) 9 (((l ++ bs).length : Int) - ((skipped (l ++ bs)).length : Int))) (skipped (l ++ bs)) ∧ KeptS (fun j => j < W.heap.size ∧ j ≠ b ∧ j ≠ g) W w' := ⟨_, rfl⟩
  have HFin : Hid (∀ w', Fin w' ↔ DecI w' g b (cntAdd (cntAdd C 0 n) 9 (((l ++ bs).length : Int) - ((skipped (l ++ bs)).length : Int))) (skipped (l ++ bs)) ∧ KeptS (fun j => j < W.heap.size ∧ j ≠ b ∧ j ≠ g) W w') := Lib.hid (by rw [hFin]; exact fun _ => Iff.rfl)
  clear hFin hW1 c1 z1
  obtain ⟨i0, hi⟩ : ∃ i0, Tryz.prog.info? 61 = some i0 := info_of_underlying Tryz.underlying61
  have HAP : ∀ w : World, (Builtin.append_ #[67, 67] 67 #[.slice none 0 0, .slice none 0 0]).run Tryz.prog w = .ok (.slice none 0 0) w := fun w => run_append_nothing (P := Tryz.prog) w 67 67 67 61 i0 Tryz.underlying67 hi none 0 0 (Nat.le_refl _) (.slice none 0 0) ⟨.inl ⟨61, Tryz.underlying67⟩, fun w' => by simp [Builtin.lenOf], by simp [Builtin.firstCells], by simp [Builtin.firstCells], by simp, fun u hu => by cases hu⟩
  have HAPP := fun w => Lib.hid (HAP w)
  clear HAP hi
  go_loopg [1, 5] 1 (fun gk s1 s5 wr => s5 = .slice none 0 0 ∧ ((1 ≤ gk ∧ s1 = .slice (some ⟨d, 0, none⟩) n n ∧ wr = W1) ∨ (s1 = .slice (some ⟨d, 0, none⟩) 0 0 ∧ Hid (Fin wr))))
  case atStart => exact ⟨rfl, .inl ⟨Nat.le_refl _, rfl, rfl⟩⟩
  case round =>
    obtain ⟨rfl, ⟨hg1, rfl, rfl⟩ | ⟨rfl, hF⟩⟩ := hrel
    · have c0 := HD.out.c0
      go_wp2_with fail
      refine (HP _ HD.out HB.out).out.mono ?_
      rintro e w2 ⟨rfl, hd, hk⟩
      have HR2 := Lib.hid (HR _ hd).out
      have HK2 := Lib.hid (HK0.out.trans (hk.less fun j q => q.2.1))
      clear hd hk HD HB HR HP c0
      go_wp2_with fail
      refine HR2.out.mono ?_
      rintro e w3 ⟨rfl, hd, hk⟩
      have hf3 : Fin w3 := (HFin.out w3).2 ⟨hd, HK2.out.trans (hk.less fun j q => ⟨Nat.lt_of_lt_of_le q.1 HK2.out.size, q.2⟩)⟩
      have HF3 := Lib.hid hf3
      clear hd hk hf3
      go_wp2_with (refine wpList_append_known rfl _ _ _ rfl (.slice none 0 0) (.slice none 0 0) (.slice none 0 0) rfl rfl (HAPP _).out ?_)
      go_roundg 0
      case measure => omega
      case rel => exact ⟨rfl, .inr ⟨rfl, HF3⟩⟩
    · go_wp2_with fail
      go_ret
      exact ⟨rfl, ((HFin.out _).1 hF.out).1, ((HFin.out _).1 hF.out).2⟩
end Go.Proofs.YtafkadhijljmkaaGreat
