/- Layer 39: copies as stores; Put. -/
import Derived.Test.YtafkadhijljmkaaGreatWin0
import Derived.Deep.RegionLaw
import Derived.Deep.DeepCutAuto
import Derived.Deep.CutBlock
import Derived.RegionTactic
import Derived.Deep.QuietTactic
import Derived.BigQuiet
import Derived.Lib.SlBuf
import Derived.IntWalk
namespace Go.Proofs.YtafkadhijljmkaaGreat
set_option linter.unusedVariables false
open Go.RowKit

theorem Stored.nil (w : World) (b o : Nat) : Stored w w b o [] :=
  ⟨rfl, rfl, rfl, rfl, fun _ _ => rfl, fun _ => rfl, fun j v hv => by simp at hv, fun _ _ h _ => h, fun _ _ _ h => h⟩
section
variable {P : Program}
/-- 'copy' as a store of what the source holds. -/
theorem run_copy_flat (w : World) (dT sT ty elem : TypeId) (hu : P.underlying dT = some (.slice elem)) (hs : (P.info? elem).map (·.size) = some 1) {R : Nat → Prop} (b o dLen dCap : Nat) (X : Option Addr) (sLen sCap : Nat) (xs : List Value)
    (hx : FlatQ R w X xs) (hl : xs.length = sLen) (h1 : ∀ v ∈ xs, v.oneCell' = true) (ht : w.there b o (Nat.min sLen dLen)) :
    ∃ W, (Builtin.copy_ #[dT, sT] ty #[.slice (some ⟨b, o, none⟩) dLen dCap, .slice X sLen sCap]).run P w = .ok (goInt (Nat.min sLen dLen)) W ∧ Stored w W b o (xs.take (Nat.min sLen dLen)) := by
  by_cases h0 : Nat.min sLen dLen = 0
  · refine ⟨w, ?_, ?_⟩
    · rw [h0]; exact run_copy_none w dT sT ty elem _ _ dLen dCap sLen sCap hu hs h0
    · rw [h0, List.take_zero]; exact Stored.nil w b o
  · have hlen : (xs.take (Nat.min sLen dLen)).length = Nat.min sLen dLen := by
      rw [List.length_take, hl]; exact Nat.min_eq_left (Nat.min_le_left _ _)
    have hpos : 0 < xs.length := by have : Nat.min sLen dLen ≤ sLen := Nat.min_le_left _ _; omega
    obtain ⟨xb, xo, hX, -, -⟩ := hx 0 xs[0] (List.getElem?_eq_getElem hpos)
    subst hX
    have hr := run_copy_cells (P := P) w dT sT ty elem b o dLen dCap ⟨xb, xo, none⟩ sLen sCap (xs.take (Nat.min sLen dLen)) hu hs hlen (fun j v hv => by
        have hj : j < (xs.take (Nat.min sLen dLen)).length := by
          rcases Nat.lt_or_ge j (xs.take (Nat.min sLen dLen)).length with q | q
          · exact q
          · rw [List.getElem?_eq_none q] at hv; cases hv
        rw [List.getElem?_take_of_lt (by omega)] at hv
        obtain ⟨b', off, e1, -, e3⟩ := hx j v hv
        injection e1 with e1
        injection e1 with e1 e2
        subst e1 e2
        rw [addr_addQ]
        exact e3) (fun j hj => by rw [hlen] at hj; exact (ht j hj).1) (fun j hj => by rw [hlen] at hj; exact (ht j hj).2) (fun v hv => h1 v (List.mem_of_mem_take hv))
    rw [hlen] at hr
    exact ⟨_, hr, stored_setCells (by rw [hlen]; exact ht)⟩
theorem step_copy_known {w W : World} {ops : Array Oper} {o : Oper} {a : Act} {K : Act → World → Prop} {Q : Exit → Act → World → Prop} {E : Prop} (hgd : o.guard = none) (d s : Operand) (t t' : TypeId)
    (ho : o.op = .call { callee := .builtin .copy, args := #[d, s], argTypes := #[t, t'] }) (v u r : Value) (hd : a.eval d = v) (hs : a.eval s = u)
    (hr : (Builtin.copy_ #[t, t'] o.type #[v, u]).run P w = .ok r W) (h : K (a.put o.dst r) W) : if Region.wanted o (yielded ops a.tmps) = true then Oper.wp P o a w K Q else E := by
  have hw : Region.wanted o (yielded ops a.tmps) = true := by simp [Region.wanted, hgd]
  rw [if_pos hw]
  exact Lib.wp_copy_run w d s t t' ho v u hd hs hr h
end
theorem u8_size : (Tryz.prog.info? 5).map (·.size) = some 1 := by kernel_rfl
theorem win_store {w W : World} {b o : Nat} {D xs : List UInt8} {a n : Int} (h : Blk w b (winL D a n)) (hs : Stored w W b (1 + o) (bsV xs)) (hD : D.length = 1024) (hf : o + xs.length ≤ 1024) : Blk W b (winL (splice D o xs) a n) := by
  have e1 : winL D a n = ([.bool true] ++ bsV (D.take o)) ++ bsV ((D.drop o).take xs.length) ++ (bsV (D.drop (o + xs.length)) ++ [.int .i64 a, .int .i64 n]) := by
    unfold winL
    have : D = D.take o ++ ((D.drop o).take xs.length ++ D.drop (o + xs.length)) := by
      rw [← List.drop_drop, List.take_append_drop, List.take_append_drop]
    conv => lhs; rw [this]
    rw [bsV_app, bsV_app]
    simp only [List.append_assoc]
  have e2 : winL (splice D o xs) a n = ([.bool true] ++ bsV (D.take o)) ++ bsV xs ++ (bsV (D.drop (o + xs.length)) ++ [.int .i64 a, .int .i64 n]) := by
    unfold winL splice
    rw [bsV_app, bsV_app]
    simp only [List.append_assoc]
  rw [e1] at h
  rw [e2]
  refine h.put hs ?_ ?_
  · rw [List.length_append, bsV_len, List.length_take]; simp only [List.length_cons, List.length_nil]; omega
  · rw [bsV_len, bsV_len, List.length_take, List.length_drop]; omega
theorem win_n {w W : World} {b : Nat} {D : List UInt8} {a n n' : Int} (h : Blk w b (winL D a n)) (hs : Stored w W b 1026 [.int .i64 n']) (hD : D.length = 1024) : Blk W b (winL D a n') := by
  have e : ∀ m : Int, winL D a m = ([.bool true] ++ bsV D ++ [.int .i64 a]) ++ [.int .i64 m] ++ [] := fun m => by unfold winL; simp only [List.append_assoc, List.append_nil]; rfl
  rw [e] at h
  rw [e]
  exact h.put hs (by rw [List.length_append, List.length_append, bsV_len, hD]; rfl) rfl
theorem win_a {w W : World} {b : Nat} {D : List UInt8} {a a' n : Int} (h : Blk w b (winL D a n)) (hs : Stored w W b 1025 [.int .i64 a']) (hD : D.length = 1024) : Blk W b (winL D a' n) := by
  have e : ∀ m : Int, winL D m n = ([.bool true] ++ bsV D) ++ [.int .i64 m] ++ [.int .i64 n] := fun m => by unfold winL; simp only [List.append_assoc]; rfl
  rw [e] at h
  rw [e]
  exact h.put hs (by rw [List.length_append, bsV_len, hD]; rfl) rfl
theorem KeptS.stored {S : Nat → Prop} {w w1 w2 : World} {b o : Nat} {cs : List Value} (h : KeptS S w w1) (hs : Stored w1 w2 b o cs) (hb : ¬ S b) : KeptS S w w2 :=
  h.trans ⟨hs.os, hs.tape, hs.output, by rw [hs.sz]; exact Nat.le_refl _, fun k hk => hs.far k (fun e => hb (e ▸ hk))⟩
theorem FlatQ.part {Q : Nat → Prop} {w : World} {b o : Nat} {xs : List Value} (h : FlatQ Q w (some ⟨b, o, none⟩) xs) (k : Nat) : FlatQ Q w (some ⟨b, o + k, none⟩) (xs.drop k) := fun j u hu => by
  rw [List.getElem?_drop] at hu
  obtain ⟨b', off, e1, e2, e3⟩ := h _ u hu
  injection e1 with e1
  injection e1 with e1 e1'
  subst e1 e1'
  exact ⟨b, o + k, rfl, e2, by rw [Nat.add_assoc]; exact e3⟩
theorem FlatQ.first {Q : Nat → Prop} {w : World} {A : Option Addr} {xs : List Value} (h : FlatQ Q w A xs) (k : Nat) : FlatQ Q w A (xs.take k) := fun j u hu => by
  have hj : j < k := by
    rcases Nat.lt_or_ge j k with q | q
    · exact q
    · rw [List.getElem?_eq_none (by rw [List.length_take]; omega)] at hu; cases hu
  rw [List.getElem?_take_of_lt hj] at hu
  exact h j u hu
theorem winPut_none {w : World} {b : Nat} {l : List UInt8} (A : Option Addr) (m c : Nat) (h : WinI w b l) (h0 : m = 0 ∨ l.length = 1024) (hm : m ≤ maxLen) :
    Calls Tryz.prog 24 #[.pointer (some ⟨b, 0, none⟩), .slice A m c] w fun e w' => e = .returned (.int .i64 0) ∧ w = w' := by
  unfold maxLen at hm
  have H := Lib.hid h
  have hn : l.length ≤ 1024 := by obtain ⟨D, a, h⟩ := h; exact h.max
  clear h
  generalize hN : l.length = N at *
  have hk : min (m : Int) (1024 - (N : Int)) = 0 := by omega
  have HL : ∀ W, Hid (WinI W b l → Calls Tryz.prog 39 #[.pointer (some ⟨b, 0, none⟩)] W fun e w' => e = .returned (.int .i64 (1024 - N)) ∧ W = w') := fun W => Lib.hid (fun q => by have := winRoom_any q; rwa [hN] at this)
  clear hN h0
  go_enter Tryz.func24, Tryz.ntmps24
  go_wp2_with (refine ((HL _).out H.out).mono ?_; rintro e w' ⟨rfl, rfl⟩)
  go_ret
  exact ⟨rfl, rfl⟩
set_option maxRecDepth 8000 in
set_option maxHeartbeats 400000 in
theorem winPut_some {w : World} {b : Nat} {l bs : List UInt8} (b' off m c K : Nat) (h : WinI w b l) (hbs : FlatQ (fun k => k ≠ b) w (some ⟨b', off, none⟩) (bsV bs)) (hl : bs.length = m) (hK : min (m : Int) (1024 - (l.length : Int)) = (K : Int)) (h0 : 0 < K) (hm : m ≤ maxLen) (hc : m ≤ c) :
    Calls Tryz.prog 24 #[.pointer (some ⟨b, 0, none⟩), .slice (some ⟨b', off, none⟩) m c] w fun e w' => e = .returned (.int .i64 K) ∧ WinI w' b (l ++ bs.take K) ∧ KeptS (fun k => k ≠ b) w w' := by
  unfold maxLen at hm
  have H := Lib.hid h
  obtain ⟨D, a, h⟩ := h
  have hn := h.max
  have ha := h.at_
  have HW := Lib.hid h
  have c2 := h.blk.cell 1025 (winL_at h.len _ _)
  have c3 := h.blk.cell 1026 (winL_n h.len _ _)
  generalize hN : l.length = N at *
  have HL : ∀ W, Hid (WinI W b l → Calls Tryz.prog 39 #[.pointer (some ⟨b, 0, none⟩)] W fun e w' => e = .returned (.int .i64 (1024 - N)) ∧ W = w') := fun W => Lib.hid (fun q => by have := winRoom_any q; rwa [hN] at this)
  have HN := Lib.hid hN
  clear h hN
  have hb1 : ((K : Int) == 0) = false := by rw [beq_eq_false_iff_ne]; omega
  have e1 : IntKind.i64.wrap ((a : Int) + (N : Int)) = (a : Int) + (N : Int) := IntWalk.i64_in _ (by omega)
  have e2 : (0 : Int) ≤ (a : Int) + (N : Int) := by omega
  obtain ⟨E, hE, hEl, hEe⟩ : ∃ E : Nat, ((a : Int) + (N : Int)) % 1024 = (E : Int) ∧ E < 1024 ∧ E = (a + N) % 1024 := ⟨(a + N) % 1024, by omega, by omega, rfl⟩
  have f1 : (E : Int) ≤ 1024 := by omega
  have f2 : (K : Int) ≤ c := by omega
  have f3 : (K : Int) ≤ m := by omega
  have hKl : N + K ≤ 1024 := by omega
  have HE := Lib.hid hEe
  clear hEe
  obtain ⟨K1, hK1, k1, k2⟩ : ∃ K1, Nat.min K (1024 - E) = K1 ∧ K1 ≤ K ∧ E + K1 ≤ 1024 := ⟨_, rfl, Nat.min_le_left _ _, by have : Nat.min K (1024 - E) ≤ 1024 - E := Nat.min_le_right _ _; omega⟩
  have HK1 := Lib.hid hK1
  have hxl : (bsV (bs.take K)).length = K := by rw [bsV_len, List.length_take]; omega
  have hsrc : ∀ W, KeptS (fun k => k ≠ b) w W → FlatQ (fun k => k ≠ b) W (some ⟨b', off, none⟩) (bsV (bs.take K)) := fun W hk => by
    rw [← bsV_take]; exact (hbs.kept hk (fun _ q => q)).first K
  have HR1 : ∀ nq, ∃ W, (Builtin.copy_ #[65, 65] 3 #[.slice (some ⟨b, 1 + E, none⟩) (1024 - E) (1024 - E), .slice (some ⟨b', off, none⟩) K c]).run Tryz.prog (w.drewN (nq + 1)) = .ok (goInt K1) W ∧ Stored w W b (1 + E) (bsV ((bs.take K).take K1)) := fun nq => by
    obtain ⟨W, q1, q2⟩ := run_copy_flat (P := Tryz.prog) (w.drewN (nq + 1)) 65 65 3 5 Tryz.underlying65 u8_size b (1 + E) (1024 - E) (1024 - E) (some ⟨b', off, none⟩) K c (bsV (bs.take K)) (hsrc _ ((KeptS.refl _ _).drewN (nq + 1))) hxl (bsV_one _) (by rw [hK1]; exact (HW.out.blk.there (1 + E) K1 (by rw [winL_len HW.out.len]; omega)))
    rw [hK1] at q1 q2
    rw [bsV_take] at q2
    exact ⟨W, q1, ⟨q2.os, q2.tape, q2.output, q2.sz, q2.far, q2.fz, q2.rg, q2.apart, q2.there⟩⟩
  have HSR := Lib.hid hsrc
  have HXL := Lib.hid hxl
  have HBS := Lib.hid hbs
  have HLB := Lib.hid hl
  clear hK1 hsrc hxl hbs hl
  go_enter Tryz.func24, Tryz.ntmps24
  go_wp2_with (refine ((HL _).out H.out).mono ?_; rintro e w' ⟨rfl, rfl⟩)
  go_cut [6] (fun s wx => s = .int .i64 E ∧ ∃ nq, wx = w.drewN nq)
  case first =>
    go_quiet (fail)
    go_wp2_with fail
    go_meet
    exact ⟨by rw [hE], _, rfl⟩
  case rest =>
  obtain ⟨rfl, nq, rfl⟩ := hcut
  clear c2 c3 e1 e2 hK hE hb1 f3
  obtain ⟨W1, hr1, hs1⟩ := HR1 nq
  have HR := Lib.hid hr1
  have HS1 := Lib.hid hs1
  clear hr1 hs1 HR1
  go_wp2_with fail
  go_cut [7] (fun s wx => s = .int .i64 K1 ∧ wx = W1)
  case first =>
    have f4 : ¬ 1024 = E := by omega
    have f5 : ¬ (1024 : Int) = (E : Int) := by omega
    go_region_law ((refine step_copy_known (by kernel_rfl) (.tmp 29) (.tmp 32) 65 65 (by kernel_rfl) (.slice (some ⟨b, 1 + E, none⟩) (1024 - E) (1024 - E)) (.slice (some ⟨b', off, none⟩) K c) (goInt K1) (by kernel_rfl) (by kernel_rfl) HR.out ?_))
    go_wp2_with fail
    go_meet
    exact ⟨rfl, rfl⟩
  case rest =>
  obtain ⟨rfl, rfl⟩ := hcut
  clear HR
  have HB1 : Hid (Blk wc b (winL (splice D E ((bs.take K).take K1)) a N)) := Lib.hid (win_store (by have q := HW.out.blk; rw [HN.out] at q; exact q) HS1.out HW.out.len (by rw [List.length_take, ← bsV_len, HXL.out]; omega))
  have HLS : Hid ((splice D E ((bs.take K).take K1)).length = 1024) := Lib.hid (by rw [splice_len (by rw [List.length_take, ← bsV_len, HXL.out, HW.out.len]; omega)]; exact HW.out.len)
  have HKE : Hid (KeptS (fun k => k ≠ b) w wc) := Lib.hid ((KeptS.refl _ w).stored HS1.out (fun q => q rfl))
  have HR2 : Hid (∀ X c', FlatQ (fun k => k ≠ b) wc X (bsV ((bs.take K).drop K1)) → ∃ W, (Builtin.copy_ #[65, 65] 3 #[.slice (some ⟨b, 1, none⟩) 1024 1024, .slice X (K - K1) c']).run Tryz.prog wc.drew = .ok (goInt (K - K1 : Nat)) W ∧ Stored wc W b 1 (bsV ((bs.take K).drop K1))) := Lib.hid fun X c' hX => by
    have hl2 : (bsV ((bs.take K).drop K1)).length = K - K1 := by rw [bsV_len, List.length_drop, ← bsV_len, HXL.out]
    have hmin : Nat.min (K - K1) 1024 = K - K1 := Nat.min_eq_left (by omega)
    obtain ⟨W, q1, q2⟩ := run_copy_flat (P := Tryz.prog) wc.drew 65 65 3 5 Tryz.underlying65 u8_size b 1 1024 1024 X (K - K1) c' (bsV ((bs.take K).drop K1)) (hX.keep fun _ _ => rfl) hl2 (bsV_one _) (by rw [hmin]; exact (HB1.out.there 1 (K - K1) (by rw [winL_len HLS.out]; omega)))
    rw [hmin] at q1 q2
    rw [List.take_of_length_le (by omega)] at q2
    exact ⟨W, q1, ⟨q2.os, q2.tape, q2.output, q2.sz, q2.far, q2.fz, q2.rg, q2.apart, q2.there⟩⟩
  have f6 : (K1 : Int) ≤ K := by omega
  have f7 : (K1 : Int) ≤ c := by omega
  go_upto_region 6 with fail
  go_cut [] (fun wx => Hid (Stored wc wx b 1 (bsV ((bs.take K).drop K1))))
  case first =>
    by_cases hcK : c = K1
    · obtain rfl : K = K1 := by omega
      subst hcK
      obtain ⟨W2, q1, q2⟩ := HR2.out (some ⟨b', off, none⟩) 0 (by rw [List.drop_of_length_le (by rw [← bsV_len, HXL.out]; exact Nat.le_refl _)]; exact FlatQ.nil _ _ _)
      rw [Nat.sub_self] at q1
      have HR := Lib.hid q1
      have HQ := Lib.hid q2
      clear q1 q2 HR2
      go_region_law ((refine step_copy_known (by kernel_rfl) (.tmp 37) (.tmp 41) 65 65 (by kernel_rfl) (.slice (some ⟨b, 1, none⟩) 1024 1024) (.slice (some ⟨b', off, none⟩) 0 0) (goInt (0 : Nat)) (by kernel_rfl) (by kernel_rfl) HR.out ?_))
      go_wp2_with fail
      go_meet
      exact HQ
    · obtain ⟨W2, q1, q2⟩ := HR2.out (some ⟨b', off + K1, none⟩) (c - K1) (by rw [← bsV_drop]; exact (HSR.out _ HKE.out).part K1)
      have HR := Lib.hid q1
      have HQ := Lib.hid q2
      clear q1 q2 HR2
      have hcK' : ¬ (c : Int) = K1 := by omega
      go_region_law ((refine step_copy_known (by kernel_rfl) (.tmp 37) (.tmp 41) 65 65 (by kernel_rfl) (.slice (some ⟨b, 1, none⟩) 1024 1024) (.slice (some ⟨b', off + K1, none⟩) (K - K1) (c - K1)) (goInt (K - K1 : Nat)) (by kernel_rfl) (by kernel_rfl) HR.out ?_))
      go_wp2_with fail
      go_meet
      exact HQ
  case rest =>
  have HXK : Hid ((bs.take K).length = K) := Lib.hid (by rw [← bsV_len, HXL.out])
  have HL2 : Hid ((splice (splice D E ((bs.take K).take K1)) 0 ((bs.take K).drop K1)).length = 1024) := Lib.hid (by rw [splice_len (by rw [List.length_drop, HXK.out, HLS.out]; omega)]; exact HLS.out)
  have HB2 : Hid (Blk wc b (winL (splice (splice D E ((bs.take K).take K1)) 0 ((bs.take K).drop K1)) a N)) := Lib.hid (win_store (o := 0) HB1.out hcut.out HLS.out (by rw [List.length_drop, HXK.out]; omega))
  have HKF : Hid (KeptS (fun k => k ≠ b) w wc) := Lib.hid (HKE.out.stored hcut.out (fun q => q rfl))
  have g3 := HB2.out.cell 1026 (winL_n HL2.out _ _)
  have z3 := HB2.out.fz 1026
  have HF : Hid (WinI (wc.setCell ⟨b, 1026, none⟩ (.int .i64 ((N : Int) + (K : Int)))) b (l ++ bs.take K) ∧ KeptS (fun k => k ≠ b) w (wc.setCell ⟨b, 1026, none⟩ (.int .i64 ((N : Int) + (K : Int))))) := Lib.hid (by
    have hst : Stored wc (wc.setCell ⟨b, 1026, none⟩ (.int .i64 ((N : Int) + (K : Int)))) b 1026 [.int .i64 ((N : Int) + (K : Int))] := stored_setCell (HB2.out.there 1026 1 (by rw [winL_len HL2.out]; omega))
    have e : (((l ++ bs.take K).length : Nat) : Int) = (N : Int) + (K : Int) := by rw [List.length_append, HXK.out, HN.out]; omega
    refine ⟨⟨_, a, by rw [e]; exact win_n HB2.out hst HL2.out, HL2.out, ha, by rw [List.length_append, HXK.out, HN.out]; omega, ?_⟩, HKF.out.stored hst (fun q => q rfl)⟩
    exact ring_put HW.out.ring HW.out.len ha (by rw [HXK.out, HN.out]; omega) (by rw [HN.out]; exact HE.out) (by rw [HXK.out]; exact HK1.out.symm))
  clear hcut HB2 HKF HL2 HXK HR2 HB1 HLS HKE HS1
  go_wp2_with fail
  go_ret
  exact ⟨rfl, HF.out.1, HF.out.2⟩
theorem winPut_any {w : World} {b : Nat} {l bs : List UInt8} (A : Option Addr) (c : Nat) (h : WinI w b l) (hbs : FlatQ (fun k => k ≠ b) w A (bsV bs)) (hm : bs.length ≤ maxLen) (hc : bs.length ≤ c) :
    Calls Tryz.prog 24 #[.pointer (some ⟨b, 0, none⟩), .slice A bs.length c] w fun e w' => e = .returned (.int .i64 (min bs.length (1024 - l.length) : Nat)) ∧ WinI w' b (l ++ bs.take (min bs.length (1024 - l.length))) ∧ KeptS (fun k => k ≠ b) w w' := by
  have hmx : l.length ≤ 1024 := by obtain ⟨D, a, h⟩ := h; exact h.max
  by_cases h0 : bs.length = 0 ∨ l.length = 1024
  · have e : min bs.length (1024 - l.length) = 0 := by omega
    rw [e]
    refine (winPut_none A _ c h h0 hm).mono ?_
    rintro e w' ⟨rfl, rfl⟩
    exact ⟨rfl, by rw [List.take_zero, List.append_nil]; exact h, KeptS.refl _ _⟩
  · have hp : 0 < (bsV bs).length := by rw [bsV_len]; omega
    obtain ⟨b', off, rfl, -, -⟩ := hbs 0 _ (List.getElem?_eq_getElem hp)
    exact winPut_some b' off bs.length c (min bs.length (1024 - l.length)) h hbs rfl (by omega) (by omega) hm hc
theorem winFirst_none {w : World} {b : Nat} (h : WinI w b []) : Calls Tryz.prog 52 #[.pointer (some ⟨b, 0, none⟩)] w fun e w' => e = .returned (.tuple #[.int .u8 0, .bool false]) ∧ w = w' := by
  have H := Lib.hid h
  clear h
  have HL : ∀ W, Hid (WinI W b [] → Calls Tryz.prog 53 #[.pointer (some ⟨b, 0, none⟩)] W fun e w' => e = .returned (.int .i64 0) ∧ W = w') := fun W => Lib.hid fun q => winLen_any q
  go_enter Tryz.func52, Tryz.ntmps52
  go_wp2_with (refine ((HL _).out H.out).mono ?_; rintro e w' ⟨rfl, rfl⟩)
  go_ret2
  exact ⟨rfl, rfl⟩
set_option maxHeartbeats 400000 in
theorem winFirst_some {w : World} {b : Nat} {c : UInt8} {l : List UInt8} (h : WinI w b (c :: l)) : Calls Tryz.prog 52 #[.pointer (some ⟨b, 0, none⟩)] w fun e w' => e = .returned (.tuple #[bV c, .bool true]) ∧ ∃ n, w' = w.drewN n := by
  have H := Lib.hid h
  obtain ⟨D, a, h⟩ := h
  have hn : ((c :: l).length : Int) ≤ 1024 := by have := h.max; omega
  have hp : (0 : Int) < ((c :: l).length : Int) := by simp only [List.length_cons]; omega
  have ha := h.at_
  have c2 := h.blk.cell 1025 (winL_at h.len _ _)
  have c1 : w.cell? ⟨b, 1 + a, none⟩ = some (bV c) := h.blk.cell (1 + a) (by
    rw [winL_b h.len _ _ ha]
    have := h.ring 0 (by simp only [List.length_cons]; omega)
    rw [Nat.add_zero, Nat.mod_eq_of_lt ha, List.getElem?_eq_getElem (by rw [h.len]; exact ha)] at this
    rw [Option.some.inj this]; rfl)
  clear h
  have HL : ∀ W, Hid (WinI W b (c :: l) → Calls Tryz.prog 53 #[.pointer (some ⟨b, 0, none⟩)] W fun e w' => e = .returned (.int .i64 (c :: l).length) ∧ W = w') := fun W => Lib.hid fun q => winLen_any q
  generalize ((c :: l).length : Int) = n at *
  have hb1 : (n == 0) = false := by rw [beq_eq_false_iff_ne]; omega
  have f1 : (0 : Int) ≤ (a : Int) := Int.natCast_nonneg _
  have f2 : (a : Int) < 1024 := by omega
  unfold bV at *
  go_enter Tryz.func52, Tryz.ntmps52
  go_wp2_with (refine ((HL _).out H.out).mono ?_; rintro e w' ⟨rfl, rfl⟩)
  go_quiet (fail)
  go_wp2_with fail
  go_ret2
  exact ⟨rfl, _, rfl⟩
end Go.Proofs.YtafkadhijljmkaaGreat
