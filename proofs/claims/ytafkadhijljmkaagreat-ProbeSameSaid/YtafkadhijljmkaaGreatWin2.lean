/- Layer 39: Drop, Peek. -/
import Derived.Test.YtafkadhijljmkaaGreatWin1
import Derived.OwnWalk
namespace Go.Proofs.YtafkadhijljmkaaGreat
set_option linter.unusedVariables false
open Go.RowKit

theorem winDrop_none {w : World} {b : Nat} {l : List UInt8} (n : Int) (h : WinI w b l) (h0 : n ≤ 0 ∨ l = []) (hn : -9223372036854775808 ≤ n ∧ n ≤ 9223372036854775807) :
    Calls Tryz.prog 41 #[.pointer (some ⟨b, 0, none⟩), .int .i64 n] w fun e w' => e = .returned (.int .i64 0) ∧ w = w' := by
  have H := Lib.hid h
  have hm : l.length ≤ 1024 := by obtain ⟨D, a, h⟩ := h; exact h.max
  clear h
  have h0' : n ≤ 0 ∨ l.length = 0 := h0.imp id fun q => by rw [q]; rfl
  clear h0
  generalize hN : l.length = N at *
  have hk : max 0 (min n (N : Int)) = 0 := by omega
  have HL : ∀ W, Hid (WinI W b l → Calls Tryz.prog 53 #[.pointer (some ⟨b, 0, none⟩)] W fun e w' => e = .returned (.int .i64 N) ∧ W = w') := fun W => Lib.hid (fun q => by have := winLen_any q; rwa [hN] at this)
  clear hN h0'
  go_enter Tryz.func41, Tryz.ntmps41
  go_wp2_with (refine ((HL _).out H.out).mono ?_; rintro e w' ⟨rfl, rfl⟩)
  go_ret
  exact ⟨rfl, rfl⟩
set_option maxHeartbeats 400000 in
theorem winDrop_some {w : World} {b : Nat} {l : List UInt8} (n : Int) (k : Nat) (h : WinI w b l) (hk : max 0 (min n (l.length : Int)) = (k : Int)) (h0 : 0 < k) (hn : -9223372036854775808 ≤ n ∧ n ≤ 9223372036854775807) :
    Calls Tryz.prog 41 #[.pointer (some ⟨b, 0, none⟩), .int .i64 n] w fun e w' => e = .returned (.int .i64 k) ∧ WinI w' b (l.drop k) ∧ KeptS (fun j => j ≠ b) w w' := by
  have H := Lib.hid h
  obtain ⟨D, a, h⟩ := h
  have hm := h.max
  have ha := h.at_
  have HW := Lib.hid h
  have c2 := h.blk.cell 1025 (winL_at h.len _ _)
  have c3 := h.blk.cell 1026 (winL_n h.len _ _)
  have z2 := h.blk.fz 1025
  have z3 := h.blk.fz 1026
  have hkl : k ≤ l.length := by omega
  have HF : Hid (WinI ((w.setCell ⟨b, 1025, none⟩ (.int .i64 (((a : Int) + (k : Int)) % 1024))).setCell ⟨b, 1026, none⟩ (.int .i64 ((l.length : Int) - (k : Int)))) b (l.drop k) ∧ KeptS (fun j => j ≠ b) w ((w.setCell ⟨b, 1025, none⟩ (.int .i64 (((a : Int) + (k : Int)) % 1024))).setCell ⟨b, 1026, none⟩ (.int .i64 ((l.length : Int) - (k : Int))))) := Lib.hid (by
    have s1 : Stored w (w.setCell ⟨b, 1025, none⟩ (.int .i64 (((a : Int) + (k : Int)) % 1024))) b 1025 [.int .i64 (((a : Int) + (k : Int)) % 1024)] := stored_setCell (h.blk.there 1025 1 (by rw [winL_len h.len]; omega))
    have b1 := win_a h.blk s1 h.len
    have s2 : Stored _ ((w.setCell ⟨b, 1025, none⟩ (.int .i64 (((a : Int) + (k : Int)) % 1024))).setCell ⟨b, 1026, none⟩ (.int .i64 ((l.length : Int) - (k : Int)))) b 1026 [.int .i64 ((l.length : Int) - (k : Int))] := stored_setCell (b1.there 1026 1 (by rw [winL_len h.len]; omega))
    have b2 := win_n b1 s2 h.len
    refine ⟨⟨D, (a + k) % 1024, ?_, h.len, by omega, by rw [List.length_drop]; omega, ring_drop h.ring hkl⟩, ((KeptS.refl _ w).stored s1 (fun q => q rfl)).stored s2 (fun q => q rfl)⟩
    have e1 : (((a + k) % 1024 : Nat) : Int) = ((a : Int) + (k : Int)) % 1024 := by omega
    have e2 : (((l.drop k).length : Nat) : Int) = (l.length : Int) - (k : Int) := by rw [List.length_drop]; omega
    rw [e1, e2]; exact b2)
  clear h
  generalize hN : l.length = N at *
  have HL : ∀ W, Hid (WinI W b l → Calls Tryz.prog 53 #[.pointer (some ⟨b, 0, none⟩)] W fun e w' => e = .returned (.int .i64 N) ∧ W = w') := fun W => Lib.hid (fun q => by have := winLen_any q; rwa [hN] at this)
  clear hN
  have hb : ¬ (k : Int) ≤ 0 := by omega
  have hb1 : (0 : Int) < (k : Int) := by omega
  go_enter Tryz.func41, Tryz.ntmps41
  go_wp2_with (refine ((HL _).out H.out).mono ?_; rintro e w' ⟨rfl, rfl⟩)
  go_ret
  exact ⟨rfl, HF.out.1, HF.out.2⟩
theorem winDrop_any {w : World} {b : Nat} {l : List UInt8} (n : Int) (h : WinI w b l) (hn : -9223372036854775808 ≤ n ∧ n ≤ 9223372036854775807) :
    Calls Tryz.prog 41 #[.pointer (some ⟨b, 0, none⟩), .int .i64 n] w fun e w' => e = .returned (.int .i64 ((max 0 (min n (l.length : Int))).toNat : Nat)) ∧ WinI w' b (l.drop (max 0 (min n (l.length : Int))).toNat) ∧ KeptS (fun j => j ≠ b) w w' := by
  by_cases h0 : n ≤ 0 ∨ l = []
  · have e : (max 0 (min n (l.length : Int))).toNat = 0 := by
      rcases h0 with q | rfl
      · omega
      · rw [List.length_nil]; omega
    rw [e]
    refine (winDrop_none n h h0 hn).mono ?_
    rintro e w' ⟨rfl, rfl⟩
    exact ⟨rfl, h, KeptS.refl _ _⟩
  · have hl : 0 < l.length := List.length_pos_iff.2 (fun q => h0 (.inr q))
    exact winDrop_some n _ h (by omega) (by omega) hn
section
variable {P : Program} {ops : Array Oper} {rest : List Oper} {o : Oper} {a : Act} {w : World} {Q : Exit → Act → World → Prop}
/-- 'make' of n elements: a new block. -/
theorem wpList_make_grew (hgd : o.guard = none) (l c : Operand) (t e : TypeId) (ho : o.op = .makeSlice t l c) (i : TypeInfo) (z : Value) (ht : P.underlying t = some (.slice e)) (hi : P.info? e = some i) (hz : i.zero = some z)
    (kl kc : IntKind) (n : Nat) (hl : a.eval l = .int kl (n : Int)) (hc : a.eval c = .int kc (n : Int)) (hb : i.bytes * n ≤ 281474976710656) (h63 : (n : Int) ≤ 9223372036854775807)
    (h : ∀ W, Grew w W (madeCells z.cells (n * i.size)) → wpList P ops Q rest (a.put o.dst (.slice (some ⟨w.heap.size, 0, none⟩) n n)) W) : wpList P ops Q (o :: rest) a w :=
  wpList_exec hgd (W := w.alloc (.cells (madeCells z.cells (n * i.size)) e)) (by
    have hb' : ((i.bytes * n : Nat) : Int) ≤ 281474976710656 := by omega
    rw [Int.natCast_mul] at hb'
    have hr := run_make (P := P) w t e i z ht hi hz kl kc (n : Int) (n : Int) (by omega) (Int.le_refl _) hb' h63
    unfold execOp
    rw [ho]
    simp only [hl, hc]
    simp only [Int.toNat_natCast] at hr
    rw [Sem.run_bind, hr]
    rfl) (h _ (grew_alloc w _ e))
end
theorem u8_infoW : (Tryz.prog.info? 5).map (fun i => (i.zero, i.size, i.bytes)) = some (some (.int .u8 0), 1, 1) := by kernel_rfl
theorem bsV_rep (n : Nat) : (madeCells (Value.int .u8 0).cells (n * 1)).toList = bsV (List.replicate n 0) := by
  rw [Nat.mul_one]
  show (madeCells #[Value.int .u8 0] n).toList = _
  rw [toList_madeCells_one]
  unfold bsV
  rw [List.map_replicate]
  rfl
theorem bs_store {w W : World} {b o : Nat} {D xs : List UInt8} (h : Blk w b (bsV D)) (hs : Stored w W b o (bsV xs)) (hf : o + xs.length ≤ D.length) : Blk W b (bsV (splice D o xs)) := by
  have e1 : bsV D = bsV (D.take o) ++ bsV ((D.drop o).take xs.length) ++ bsV (D.drop (o + xs.length)) := by
    have : D = D.take o ++ ((D.drop o).take xs.length ++ D.drop (o + xs.length)) := by
      rw [← List.drop_drop, List.take_append_drop, List.take_append_drop]
    conv => lhs; rw [this]
    rw [bsV_app, bsV_app, List.append_assoc]
  have e2 : bsV (splice D o xs) = bsV (D.take o) ++ bsV xs ++ bsV (D.drop (o + xs.length)) := by
    unfold splice
    rw [bsV_app, bsV_app]
  rw [e1] at h
  rw [e2]
  refine h.put hs ?_ ?_
  · rw [bsV_len, List.length_take]; omega
  · rw [bsV_len, bsV_len, List.length_take, List.length_drop]; omega
theorem splice_nil {α : Type} (D : List α) (o : Nat) : splice D o [] = D := by
  unfold splice
  rw [List.append_nil, List.length_nil, Nat.add_zero, List.take_append_drop]
theorem Blk.flat {w : World} {b : Nat} {L : List Value} (h : Blk w b L) {Q : Nat → Prop} (hq : Q b) : FlatQ Q w (some ⟨b, 0, none⟩) L := fun j u hu => ⟨b, 0, rfl, hq, h.cell (0 + j) (by rw [Nat.zero_add]; exact hu)⟩
theorem win_flat {w : World} {b : Nat} {D : List UInt8} {a n : Int} (h : Blk w b (winL D a n)) {Q : Nat → Prop} (hq : Q b) : FlatQ Q w (some ⟨b, 1, none⟩) (bsV D) := fun j u hu => ⟨b, 1, rfl, hq, h.cell (1 + j) (by
  have hj : j < (bsV D).length := by
    rcases Nat.lt_or_ge j (bsV D).length with q | q
    · exact q
    · rw [List.getElem?_eq_none q] at hu; cases hu
  unfold winL
  rw [List.getElem?_append_left (by rw [List.length_append]; simp only [List.length_cons, List.length_nil]; omega), List.getElem?_append_right (by simp)]
  rw [show 1 + j - [Value.bool true].length = j from by simp]
  exact hu)⟩
set_option maxRecDepth 8000 in
set_option maxHeartbeats 400000 in
theorem winPeek_any {w : World} {b : Nat} {l : List UInt8} (h : WinI w b l) :
    Calls Tryz.prog 26 #[.pointer (some ⟨b, 0, none⟩)] w fun e w' => e = .returned (.slice (some ⟨w.heap.size, 0, none⟩) l.length l.length) ∧ Blk w' w.heap.size (bsV l) ∧ WinI w' b l ∧ Below w.heap.size w w' ∧ w'.heap.size = w.heap.size + 1 := by
  have H := Lib.hid h
  obtain ⟨D, a, h⟩ := h
  have hm := h.max
  have ha := h.at_
  have HW := Lib.hid h
  have c2 := h.blk.cell 1025 (winL_at h.len _ _)
  have c3 := h.blk.cell 1026 (winL_n h.len _ _)
  have hblt := h.blk.lt
  clear h
  generalize hN : l.length = N at *
  have HN := Lib.hid hN
  clear hN
  obtain ⟨i0, hi, hz0, hz1, hz2⟩ := info_parts u8_infoW
  have HI := Lib.hid hi
  have HZ := Lib.hid (And.intro hz0 (And.intro hz1 hz2))
  clear hi hz0 hz1 hz2
  go_enter Tryz.func26, Tryz.ntmps26
  go_upto_region 4 with (first
    | (refine (winThere_any H.out).mono ?_; rintro e w' ⟨rfl, rfl⟩)
    | (refine wpList_make_grew rfl _ _ 65 5 rfl i0 _ Tryz.underlying65 HI.out HZ.out.1 .i64 .i64 N rfl rfl (by rw [HZ.out.2.2]; omega) (by omega) ?_; intro W1 hG; have HG := Lib.hid hG; clear hG))
  have e0 : (madeCells (Value.int .u8 0).cells (N * i0.size)).toList = bsV (List.replicate N 0) := by rw [HZ.out.2.1]; exact bsV_rep N
  have HS1 := Lib.hid HG.out.sz
  have HK1 : Hid (Blk W1 w.heap.size (bsV (List.replicate N 0))) := Lib.hid (Blk.newL HG.out e0)
  have HW1 : Hid (WinB W1 b D a l) := Lib.hid (HW.out.on HG.out.bel)
  have HB1 := Lib.hid HG.out.bel
  clear HG HI HZ e0 c2 c3
  have c2 := HW1.out.blk.cell 1025 (winL_at HW1.out.len _ _)
  obtain ⟨K1, hK1, k1, k2⟩ : ∃ K1, K1 = min N (1024 - a) ∧ K1 ≤ N ∧ a + K1 ≤ 1024 := ⟨_, rfl, by omega, by omega⟩
  have hm1 : Nat.min (1024 - a) N = K1 := by show min (1024 - a) N = K1; omega
  have HD1 : Hid (Blk W1.drew b (winL D a (l.length : Int))) := Lib.hid HW1.out.blk.drew
  obtain ⟨W2, q1, q2⟩ := run_copy_flat (P := Tryz.prog) W1.drew 65 65 3 5 Tryz.underlying65 u8_size w.heap.size 0 N N (some ⟨b, 1 + a, none⟩) (1024 - a) (1024 - a) (bsV (D.drop a)) (by
    have := (win_flat HD1.out (Q := fun _ => True) trivial).part a
    rwa [bsV_drop] at this) (by rw [bsV_len, List.length_drop, HW1.out.len]) (bsV_one _) (by rw [hm1]; exact (HK1.out.drew.there 0 K1 (by rw [bsV_len, List.length_replicate]; omega)))
  rw [hm1, bsV_take] at q2
  rw [hm1] at q1
  have q2' : Stored W1 W2 w.heap.size 0 (bsV ((D.drop a).take K1)) := ⟨q2.os, q2.tape, q2.output, q2.sz, q2.far, q2.fz, q2.rg, q2.apart, q2.there⟩
  have hlx : ((D.drop a).take K1).length = K1 := by rw [List.length_take, List.length_drop, HW1.out.len]; omega
  have HK2 : Hid (Blk W2 w.heap.size (bsV (splice (List.replicate N 0) 0 ((D.drop a).take K1)))) := Lib.hid (bs_store HK1.out q2' (by rw [hlx, List.length_replicate]; omega))
  have HW2 : Hid (WinB W2 b D a l) := Lib.hid (HW1.out.kept (q2'.far b (by omega)) (Nat.le_of_eq q2'.sz.symm))
  have HB2 : Hid (Below w.heap.size w W2) := Lib.hid (HB1.out.trans (q2'.below (Nat.le_refl _)))
  have HS2 : Hid (W2.heap.size = w.heap.size + 1) := Lib.hid (q2'.sz.trans HS1.out)
  have hls : (splice (List.replicate N (0 : UInt8)) 0 ((D.drop a).take K1)).length = N := by rw [splice_len (by rw [hlx, List.length_replicate]; omega), List.length_replicate]
  have HR := Lib.hid q1
  have HLX := Lib.hid hlx
  have HLS := Lib.hid hls
  have HKE := Lib.hid hK1
  clear q1 q2 q2' hlx hls hm1 hK1 HD1
  have f1 : ¬ (1024 : Nat) = a := by omega
  have f2 : ¬ (1024 : Int) = (a : Int) := by omega
  have f3 : (a : Int) ≤ 1024 := by omega
  go_cut [4] (fun s wx => s = .int .i64 K1 ∧ wx = W2)
  case first =>
    go_region_law ((refine step_copy_known (by kernel_rfl) (.tmp 13) (.tmp 21) 65 65 (by kernel_rfl) (.slice (some ⟨w.heap.size, 0, none⟩) N N) (.slice (some ⟨b, 1 + a, none⟩) (1024 - a) (1024 - a)) (goInt K1) (by kernel_rfl) (by kernel_rfl) HR.out ?_))
    go_wp2_with fail
    go_meet
    exact ⟨rfl, rfl⟩
  case rest =>
  obtain ⟨rfl, rfl⟩ := hcut
  clear HR
  have HPE : Hid (splice (splice (List.replicate N (0 : UInt8)) 0 ((D.drop a).take K1)) K1 (D.take (N - K1)) = l) := Lib.hid (by
    have e := ring_peek (K1 := K1) HW.out.ring HW.out.len ha (by rw [HN.out]; exact hm) (by rw [HN.out]; exact HKE.out)
    rw [HN.out] at e
    have l2 : (D.take (N - K1)).length = N - K1 := by rw [List.length_take, HW.out.len]; omega
    have e1 : splice (List.replicate N (0 : UInt8)) 0 ((D.drop a).take K1) = (D.drop a).take K1 ++ List.replicate (N - K1) 0 := by
      unfold splice
      rw [List.take_zero, List.nil_append, Nat.zero_add, HLX.out, List.drop_replicate]
    conv => rhs; rw [← e]
    rw [e1]
    unfold splice
    rw [List.take_left' HLX.out, l2, show K1 + (N - K1) = N from by omega, show (((D.drop a).take K1 ++ List.replicate (N - K1) (0 : UInt8)).drop N) = [] from List.drop_of_length_le (by rw [List.length_append, HLX.out, List.length_replicate]; omega), List.append_nil])
  have hm2 : Nat.min 1024 (N - K1) = N - K1 := by show min 1024 (N - K1) = N - K1; omega
  have HR2 : Hid (∀ o, o = K1 ∨ (o = 0 ∧ N - K1 = 0) → ∃ W, (Builtin.copy_ #[65, 65] 3 #[.slice (some ⟨w.heap.size, o, none⟩) (N - K1) (N - K1), .slice (some ⟨b, 1, none⟩) 1024 1024]).run Tryz.prog wc.drew = .ok (goInt (N - K1 : Nat)) W ∧ Blk W w.heap.size (bsV l) ∧ WinI W b l ∧ Below w.heap.size w W ∧ W.heap.size = w.heap.size + 1) := Lib.hid fun o ho => by
    have hth : wc.drew.there w.heap.size o (Nat.min 1024 (N - K1)) := by
      rw [hm2]
      rcases ho with rfl | ⟨rfl, h0⟩
      · exact HK2.out.drew.there o (N - o) (by rw [bsV_len, HLS.out]; omega)
      · rw [h0]; intro j hj; exact absurd hj (Nat.not_lt_zero _)
    obtain ⟨W, q1, q2⟩ := run_copy_flat (P := Tryz.prog) wc.drew 65 65 3 5 Tryz.underlying65 u8_size w.heap.size o (N - K1) (N - K1) (some ⟨b, 1, none⟩) 1024 1024 (bsV D) (win_flat HW2.out.blk.drew (Q := fun _ => True) trivial) (by rw [bsV_len, HW2.out.len]) (bsV_one _) hth
    rw [hm2, bsV_take] at q2
    rw [hm2] at q1
    have q2' : Stored wc W w.heap.size o (bsV (D.take (N - K1))) := ⟨q2.os, q2.tape, q2.output, q2.sz, q2.far, q2.fz, q2.rg, q2.apart, q2.there⟩
    refine ⟨W, q1, ?_, ⟨D, a, HW2.out.kept (q2'.far b (by omega)) (Nat.le_of_eq q2'.sz.symm)⟩, HB2.out.trans (q2'.below (Nat.le_refl _)), q2'.sz.trans HS2.out⟩
    have l2 : (D.take (N - K1)).length = N - K1 := by rw [List.length_take, HW.out.len]; omega
    rcases ho with rfl | ⟨rfl, h0⟩
    · have := bs_store HK2.out q2' (by rw [l2, HLS.out]; omega)
      rwa [HPE.out] at this
    · have e2 := HPE.out
      rw [h0, List.take_zero, splice_nil] at e2
      rw [h0, List.take_zero] at q2'
      have := bs_store (xs := []) HK2.out q2' (by rw [List.length_nil]; omega)
      rw [splice_nil, e2] at this
      exact this
  have HNN := Lib.hid (And.intro HN.out hm2)
  clear hm2
  go_upto_region 5 with fail
  go_cut [] (fun wx => Hid (Blk wx w.heap.size (bsV l) ∧ WinI wx b l ∧ Below w.heap.size w wx ∧ wx.heap.size = w.heap.size + 1))
  case first =>
    by_cases hcK : N = K1
    · subst hcK
      obtain ⟨W, q1, q2⟩ := HR2.out 0 (.inr ⟨rfl, Nat.sub_self _⟩)
      rw [Nat.sub_self] at q1
      have HR := Lib.hid q1
      have HQ := Lib.hid q2
      clear q1 q2 HR2
      go_region_law ((refine step_copy_known (by kernel_rfl) (.tmp 25) (.tmp 29) 65 65 (by kernel_rfl) (.slice (some ⟨w.heap.size, 0, none⟩) 0 0) (.slice (some ⟨b, 1, none⟩) 1024 1024) (goInt (0 : Nat)) (by kernel_rfl) (by kernel_rfl) HR.out ?_))
      go_wp2_with fail
      go_meet
      exact HQ
    · obtain ⟨W, q1, q2⟩ := HR2.out K1 (.inl rfl)
      have HR := Lib.hid q1
      have HQ := Lib.hid q2
      clear q1 q2 HR2
      have hcK' : ¬ (N : Int) = K1 := by omega
      have f6 : (K1 : Int) ≤ N := by omega
      go_region_law ((refine step_copy_known (by kernel_rfl) (.tmp 25) (.tmp 29) 65 65 (by kernel_rfl) (.slice (some ⟨w.heap.size, K1, none⟩) (N - K1) (N - K1)) (.slice (some ⟨b, 1, none⟩) 1024 1024) (goInt (N - K1 : Nat)) (by kernel_rfl) (by kernel_rfl) HR.out ?_))
      go_wp2_with fail
      go_meet
      exact HQ
  case rest =>
  clear HR2 HW2 HK2 HB2 HS2
  go_wp2_with fail
  go_ret
  exact ⟨rfl, hcut.out.1, hcut.out.2.1, hcut.out.2.2.1, hcut.out.2.2.2⟩
end Go.Proofs.YtafkadhijljmkaaGreat
