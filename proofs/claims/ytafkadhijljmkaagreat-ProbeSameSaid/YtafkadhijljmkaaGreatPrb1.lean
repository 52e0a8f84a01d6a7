/- Layer 38: At where there is no message. -/
import Derived.Test.YtafkadhijljmkaaGreatPrb0
namespace Go.Proofs.YtafkadhijljmkaaGreat
set_option linter.unusedVariables false
open Go.RowKit

theorem wpList_build3 {P : Program} {ops : Array Oper} {rest : List Oper} {o : Oper} {a : Act} {w : World} {Q : Exit → Act → World → Prop} (hgd : o.guard = none) (t : TypeId) (i j k : Nat) (x y z : Operand) (ho : o.op = .build t #[(i, x), (j, y), (k, z)]) {u u' u'' v : Value} (hx : a.eval x = u) (hy : a.eval y = u') (hz : a.eval z = u'') (hr : (Instr.build t #[(i, u), (j, u'), (k, u'')]).run P w = .ok v w)
    (h : wpList P ops Q rest (a.put o.dst v) w) : wpList P ops Q (o :: rest) a w := wpList_build hgd t _ ho #[(i, u), (j, u'), (k, u'')] (by simp [hx, hy, hz]) hr h
theorem build_Itz (w : World) : (Instr.build 61 #[(2, .agg zUbxA)]).run Tryz.prog w = .ok (.agg zItA) w := by kernel_rfl
theorem it_ones : zItA.all (·.oneCell') = true := by decide +kernel
theorem it_size : (Tryz.prog.info? 61).map (·.size) = some zItA.size := by kernel_rfl
set_option maxRecDepth 8000 in
set_option maxHeartbeats 400000 in
theorem prbUbx_no {w : World} {V : Value} (n E : Int) (HF : ∀ W, Below w.heap.size w W → Hid (Calls Tryz.prog 45 #[V] W fun e w' => e = .returned (.tuple #[.agg zUbxA, .int .i64 n, .int .i64 E]) ∧ Below W.heap.size W w')) :
    Calls Tryz.prog 44 #[V] w fun e w' => e = .returned (.tuple #[.agg zItA, .int .i64 n, .int .i64 E]) ∧ Below w.heap.size w w' := by
  have HZ := fun W => Lib.hid (zero_It W)
  have HZU := fun W => Lib.hid (zero_Ubx W)
  have HB0 := fun W => Lib.hid (build_Itz W)
  go_enter Tryz.func44, Tryz.ntmps44
  go_wp2_with (refine wpList_alloc_new rfl 61 rfl zItA (HZ _).out ?_; intro W1 hW1; have HK1 := Lib.hid (Blk.newL (L := zItL) hW1 rfl); have HB1 := Lib.hid hW1.bel; clear hW1)
  refine (HF _ HB1.out).out.mono ?_
  rintro e w1 ⟨rfl, hb⟩
  have HK2 := Lib.hid (HK1.out.on hb)
  have HB2 := Lib.hid (bthen HB1.out hb)
  clear hb HB1 HK1 HF
  go_wp2_with (first
    | (refine wpList_alloc_new rfl 35 rfl zUbxA (HZU _).out ?_; intro W2 hW2; have HU2 := Lib.hid (Blk.newL (L := zUbxL) hW2 rfl); have HK3 := Lib.hid (HK2.out.on hW2.bel); have HB3 := Lib.hid (bthen HB2.out hW2.bel); have HL2 := Lib.hid (hW2.sz); clear hW2)
    | (refine wpList_store_in rfl 35 _ _ rfl w1.heap.size 0 zUbxA rfl rfl (HU2.out.there 0 48 (Nat.le_refl _)) (by kernel_rfl) (by decide +kernel) ?_; intro W3 hs; have HU3 := Lib.hid (HU2.out.all hs rfl); have HK4 := Lib.hid (HK3.out.far hs (by have := HK2.out.lt; omega)); have HB4 := Lib.hid (HB3.out.trans (hs.below HB2.out.size)); clear hs)
    | refine wpList_load_mid rfl 35 _ rfl w1.heap.size 0 rfl zUbxL _ HU3.out.rg Tryz.underlying35 rfl (by kernel_rfl) ?_
    | refine wpList_build1 (u := .agg zUbxA) rfl 61 2 _ rfl rfl (HB0 _).out ?_
    | (refine wpList_store_in rfl 61 _ _ rfl w.heap.size 0 zItA rfl rfl (HK4.out.there 0 120 (Nat.le_refl _)) it_size it_ones ?_; intro W5 hs; have HK5 := Lib.hid (HK4.out.all hs rfl); have HB5 := Lib.hid (HB4.out.trans (hs.below (Nat.le_refl _))); clear hs))
  have HLD := Lib.hid (run_loadVar_mid (P := Tryz.prog) W5 w.heap.size 0 61 zItA.toList _ HK5.out.rg Tryz.underlying61 rfl (by kernel_rfl))
  refine bodyPost_ret (v := .tuple #[.agg zItA, .int .i64 n, .int .i64 E]) (by rw [results_c2 rfl]; simp [asAddr, Result.andThen, HLD.out]) rfl ⟨rfl, HB5.out⟩
theorem field_dec (F : Nat) (W : World) : (Instr.field 93 (.agg #[.func (Fn.func F) #[] #[]]) 0).run Tryz.prog W = .ok (.func (Fn.func F) #[] #[]) W := by kernel_rfl
theorem cal_of (p : Int) (x : Value) (W : World) : (callFunc (ofFn p) #[x]).run Tryz.prog W = .ok (.enter (ofFn p) #[x]) W := by
  unfold ofFn
  split
  · kernel_rfl
  split
  · kernel_rfl
  · kernel_rfl
def AtPost (d p n e : Int) (w : World) (r : Ending) (w' : World) : Prop := r = .returned (.agg (veA d p n e)) ∧ Below w.heap.size w w'
set_option maxRecDepth 8000 in
set_option maxHeartbeats 400000 in
theorem prbAt_nil (A : Option Addr) (c : Nat) (w : World) : Calls Tryz.prog 14 #[.slice A 0 c] w (AtPost 0 0 0 0 w) := by
  have HZ := fun W => Lib.hid (zero_Ve W)
  have HB0 := fun W => Lib.hid (build_Ve0 W)
  go_enter Tryz.func14, Tryz.ntmps14
  go_wp2_with (first
    | (refine wpList_alloc_new rfl 81 rfl (veA 0 0 0 0) (HZ _).out ?_; intro W1 hW1; have HK1 := Lib.hid (Blk.newL (L := veL 0 0 0 0 zItL) hW1 rfl); have HB1 := Lib.hid hW1.bel; clear hW1)
    | refine wpList_build0 rfl 81 rfl (HB0 _).out ?_
    | (refine wpList_store_in rfl 81 _ _ rfl w.heap.size 0 (veA 0 0 0 0) rfl rfl (HK1.out.there 0 124 (Nat.le_refl _)) (ve_size _ _ _ _) (ve_ones _ _ _ _) ?_; intro W5 hs; have HK5 := Lib.hid (HK1.out.all hs rfl); have HB5 := Lib.hid (HB1.out.trans (hs.below (Nat.le_refl _))); clear hs))
  try go_frame
  have HLD := Lib.hid (run_loadVar_mid (P := Tryz.prog) W5 w.heap.size 0 81 (veA 0 0 0 0).toList _ HK5.out.rg Tryz.underlying81 rfl (by kernel_rfl))
  refine bodyPost_ret (v := .agg (veA 0 0 0 0)) (by rw [results_c0 rfl]; simp [asAddr, Result.andThen, HLD.out]) rfl ⟨rfl, HB5.out⟩
set_option maxRecDepth 8000 in
set_option maxHeartbeats 400000 in
theorem prbAt_drop {Q : Nat → Prop} {w : World} (A : Option Addr) (c : Nat) (x : UInt8) (l : List UInt8) (h : FlatQ Q w A (bsV (x :: l))) (hp : protoOf x = 0) (hm : (x :: l).length ≤ maxLen) :
    Calls Tryz.prog 14 #[.slice A (x :: l).length c] w (AtPost 1 0 0 3 w) := by
  unfold maxLen at hm
  have HZ := fun W => Lib.hid (zero_Ve W)
  have HB0 := fun W => Lib.hid (build_Ve13 W)
  have HP : ∀ W, Hid (Calls Tryz.prog 15 #[.int .u8 (x.toNat : Int)] W fun e w' => e = .returned (.int .i64 0) ∧ W = w') := fun W => Lib.hid (by have := proto_any x W; rw [hp] at this; exact this)
  obtain ⟨b, off, rfl, -, hc⟩ := h 0 (bV x) rfl
  have hb := lt_of_cellQ hc
  have HC : ∀ W, Below w.heap.size w W → Hid (W.cell? ⟨b, off, none⟩ = some (.int .u8 (x.toNat : Int))) := fun W hW => Lib.hid ((hW.cell (p := ⟨b, off + 0, none⟩) hb).trans hc)
  have hl : (0 : Int) < ((x :: l).length : Int) := by simp only [List.length_cons]; omega
  generalize (x :: l).length = L at *
  have hl0 : ((L : Int) == 0) = false := by rw [beq_eq_false_iff_ne]; omega
  clear hc hb hp h
  go_enter Tryz.func14, Tryz.ntmps14
  go_upto_region 3 with (refine wpList_alloc_new rfl 81 rfl (veA 0 0 0 0) (HZ _).out ?_; intro W1 hW1; have HK1 := Lib.hid (Blk.newL (L := veL 0 0 0 0 zItL) hW1 rfl); have HB1 := Lib.hid hW1.bel; clear hW1)
  have c0 := (HC _ HB1.out).out
  go_wp2_with (first
    | (refine (HP _).out.mono ?_; rintro e w' ⟨rfl, rfl⟩)
    | refine wpList_build2 (u := .int .i64 1) (u' := .int .i64 3) rfl 81 0 3 _ _ rfl rfl rfl (HB0 _).out ?_
    | (refine wpList_store_in rfl 81 _ _ rfl w.heap.size 0 (veA 1 0 0 3) rfl rfl (HK1.out.there 0 124 (Nat.le_refl _)) (ve_size _ _ _ _) (ve_ones _ _ _ _) ?_; intro W5 hs; have HK5 := Lib.hid (HK1.out.all hs rfl); have HB5 := Lib.hid (HB1.out.trans (hs.below (Nat.le_refl _))); clear hs))
  try go_frame
  have HLD := Lib.hid (run_loadVar_mid (P := Tryz.prog) W5 w.heap.size 0 81 (veA 1 0 0 3).toList _ HK5.out.rg Tryz.underlying81 rfl (by kernel_rfl))
  refine bodyPost_ret (v := .agg (veA 1 0 0 3)) (by rw [results_c0 rfl]; simp [asAddr, Result.andThen, HLD.out]) rfl ⟨rfl, HB5.out⟩
set_option maxRecDepth 8000 in
set_option maxHeartbeats 1000000 in
theorem prbAt_no {Q : Nat → Prop} {w : World} (A : Option Addr) (c : Nat) (x : UInt8) (l : List UInt8) (p E : Int) (h : FlatQ Q w A (bsV (x :: l))) (hp : protoOf x = p) (hp0 : p ≠ 0) (hE : E ≠ 0) (hm : (x :: l).length ≤ maxLen)
    (HF : ∀ W, Below w.heap.size w W → Hid (Calls Tryz.prog (ofFn p) #[.slice A (x :: l).length c] W fun e w' => e = .returned (.tuple #[.agg zItA, .int .i64 0, .int .i64 E]) ∧ Below W.heap.size W w')) :
    Calls Tryz.prog 14 #[.slice A (x :: l).length c] w (AtPost (if E = 2 then 0 else 1) p 0 (if E = 2 then 0 else E) w) := by
  unfold maxLen at hm
  have HZ := fun W => Lib.hid (zero_Ve W)
  have HZI := fun W => Lib.hid (zero_It W)
  have HB1 := fun W => Lib.hid (build_Ve01 0 p W)
  have HB2 := fun W => Lib.hid (build_Ve013 1 p E W)
  have HP : ∀ W, Hid (Calls Tryz.prog 15 #[.int .u8 (x.toNat : Int)] W fun e w' => e = .returned (.int .i64 p) ∧ W = w') := fun W => Lib.hid (by have := proto_any x W; rw [hp] at this; exact this)
  have HO : ∀ W, Hid (Calls Tryz.prog 27 #[.int .i64 p] W fun e w' => e = .returned (.agg #[.func (Fn.func (ofFn p)) #[] #[]]) ∧ Below W.heap.size W w') := fun W => Lib.hid (prbOf_any p W)
  obtain ⟨b, off, rfl, -, hc⟩ := h 0 (bV x) rfl
  have hb := lt_of_cellQ hc
  have HC : ∀ W, Below w.heap.size w W → Hid (W.cell? ⟨b, off, none⟩ = some (.int .u8 (x.toNat : Int))) := fun W hW => Lib.hid ((hW.cell (p := ⟨b, off + 0, none⟩) hb).trans hc)
  have hl : (0 : Int) < ((x :: l).length : Int) := by simp only [List.length_cons]; omega
  generalize (x :: l).length = L at *
  have HCL := fun x W => cal_of p x W
  generalize ofFn p = F at *
  have hl0 : ((L : Int) == 0) = false := by rw [beq_eq_false_iff_ne]; omega
  have hpb : (p == 0) = false := by rw [beq_eq_false_iff_ne]; exact hp0
  have heb : (E == 0) = false := by rw [beq_eq_false_iff_ne]; exact hE
  have heb2 : (E != 0) = true := by rw [bne_iff_ne]; exact hE
  obtain ⟨d, hd⟩ : ∃ d : Int, (if E = 2 then 0 else 1) = d := ⟨_, rfl⟩
  obtain ⟨f, hf⟩ : ∃ f : Int, (if E = 2 then 0 else E) = f := ⟨_, rfl⟩
  rw [hd, hf]
  have HDF := Lib.hid (And.intro hd hf)
  clear hc hb hp h hp0 hE hd hf
  have HFD := fun W => field_dec F W
  go_enter Tryz.func14, Tryz.ntmps14
  go_upto_region 3 with (refine wpList_alloc_new rfl 81 rfl (veA 0 0 0 0) (HZ _).out ?_; intro W1 hW1; have HK1 := Lib.hid (Blk.newL (L := veL 0 0 0 0 zItL) hW1 rfl); have HBB1 := Lib.hid hW1.bel; clear hW1)
  have c0 := (HC _ HBB1.out).out
  go_wp2_with (refine (HP _).out.mono ?_; rintro e w' ⟨rfl, rfl⟩)
  refine (HO _).out.mono ?_
  rintro e w2 ⟨rfl, hb⟩
  have HK2 := Lib.hid (HK1.out.on hb)
  have HBB2 := Lib.hid (bthen HBB1.out hb)
  clear hb HK1 HBB1 c0 HO
  go_wp2_with fail
  refine (HF _ HBB2.out).out.mono ?_
  rintro e w3 ⟨rfl, hb⟩
  have HK3 := Lib.hid (HK2.out.on hb)
  have HBB3 := Lib.hid (bthen HBB2.out hb)
  clear hb HK2 HBB2 HF
  go_upto_region 7 with (first
    | (refine wpList_alloc_new rfl 61 rfl zItA (HZI _).out ?_; intro W4 hW; have HI4 := Lib.hid (Blk.newL (L := zItL) hW rfl); have HK4 := Lib.hid (HK3.out.on hW.bel); have HBB4 := Lib.hid (bthen HBB3.out hW.bel); clear hW)
    | (refine wpList_store_in rfl 61 _ _ rfl w3.heap.size 0 zItA rfl rfl (HI4.out.there 0 120 (Nat.le_refl _)) it_size it_ones ?_; intro W5 hs; have HI5 := Lib.hid (HI4.out.all hs rfl); have HK5 := Lib.hid (HK4.out.far hs (by have := HK3.out.lt; omega)); have HBB5 := Lib.hid (HBB4.out.trans (hs.below HBB3.out.size)); clear hs))
  have i0 := HI5.out.cell 0 (v := .int .i64 0) rfl
  have j0 := HI5.out.fz 0
  have hst : Stored W5 (W5.setCell ⟨w3.heap.size, 0, none⟩ (.int .i64 p)) w3.heap.size 0 [.int .i64 p] := stored_setCell (HI5.out.there 0 1 (by decide))
  have HK6 : Hid (Blk (W5.setCell ⟨w3.heap.size, 0, none⟩ (.int .i64 p)) w.heap.size (veL 0 0 0 0 zItL)) := Lib.hid (HK5.out.far hst (by have := HK3.out.lt; omega))
  have HBB6 : Hid (Below w.heap.size w (W5.setCell ⟨w3.heap.size, 0, none⟩ (.int .i64 p))) := Lib.hid (HBB5.out.trans (hst.below HBB3.out.size))
  clear hst HK5 HBB5 HBB4 HK4 HI4
  go_upto_region 8 with fail
  clear i0 j0 HI5
  generalize W5.setCell ⟨w3.heap.size, 0, none⟩ (.int .i64 p) = W6 at *
  by_cases h2 : E = 2
  · subst h2
    obtain ⟨rfl, rfl⟩ := HDF.out
    go_wp2_with (first
      | refine wpList_build2 (u := .int .i64 0) (u' := .int .i64 p) rfl 81 0 1 _ _ rfl rfl rfl (HB1 _).out ?_
      | (refine wpList_store_in rfl 81 _ _ rfl w.heap.size 0 (veA 0 p 0 0) rfl rfl (HK6.out.there 0 124 (Nat.le_refl _)) (ve_size _ _ _ _) (ve_ones _ _ _ _) ?_; intro W7 hs; have HK7 := Lib.hid (HK6.out.all hs rfl); have HB7 := Lib.hid (HBB6.out.trans (hs.below (Nat.le_refl _))); clear hs))
    try go_frame
    have HLD := Lib.hid (run_loadVar_mid (P := Tryz.prog) W7 w.heap.size 0 81 (veA 0 p 0 0).toList _ HK7.out.rg Tryz.underlying81 rfl (by kernel_rfl))
    refine bodyPost_ret (v := .agg (veA 0 p 0 0)) (by rw [results_c0 rfl]; simp [asAddr, Result.andThen, HLD.out]) rfl ⟨rfl, HB7.out⟩
  · have he2 : (E == 2) = false := by rw [beq_eq_false_iff_ne]; exact h2
    have e1 := HDF.out.1
    have e2 := HDF.out.2
    rw [if_neg h2] at e1 e2
    subst e1 e2
    clear h2 HDF
    go_wp2_with (first
      | refine wpList_build3 (u := .int .i64 1) (u' := .int .i64 p) (u'' := .int .i64 E) rfl 81 0 1 3 _ _ _ rfl rfl rfl rfl (HB2 _).out ?_
      | (refine wpList_store_in rfl 81 _ _ rfl w.heap.size 0 (veA 1 p 0 E) rfl rfl (HK6.out.there 0 124 (Nat.le_refl _)) (ve_size _ _ _ _) (ve_ones _ _ _ _) ?_; intro W7 hs; have HK7 := Lib.hid (HK6.out.all hs rfl); have HB7 := Lib.hid (HBB6.out.trans (hs.below (Nat.le_refl _))); clear hs))
    try go_frame
    have HLD := Lib.hid (run_loadVar_mid (P := Tryz.prog) W7 w.heap.size 0 81 (veA 1 p 0 E).toList _ HK7.out.rg Tryz.underlying81 rfl (by kernel_rfl))
    refine bodyPost_ret (v := .agg (veA 1 p 0 E)) (by rw [results_c0 rfl]; simp [asAddr, Result.andThen, HLD.out]) rfl ⟨rfl, HB7.out⟩
end Go.Proofs.YtafkadhijljmkaaGreat
