/- Layers 15, 21, 38: what is too short; of; At where there is no message. Printed by genprb0.py. -/
import Derived.Test.YtafkadhijljmkaaGreatFrm0
import Derived.Test.YtafkadhijljmkaaGreatRsy0
namespace Go.Proofs.YtafkadhijljmkaaGreat
set_option linter.unusedVariables false
open Go.RowKit

theorem run_store_funcW {P : Program} {w : World} {a : Addr} {m : Mode} (f : _) (x : _) (y : _) : (store a (.func f x y) m).run P w = stored P w a (.func f x y) m := run_store P w a _ m rfl
/-- Nothing, of each kind. -/
def zUbxL : List Value := [.int .i64 0, .int .i64 0, .int .i64 0, .int .i64 0, .int .i64 0, .int .i64 0, .int .i64 0, .int .i64 0, .int .i64 0, .int .i64 0, .int .i64 0, .int .i64 0, .int .i64 0, .int .i64 0, .int .i64 0, .int .i64 0, .int .i64 0, .int .i64 0, .int .i64 0, .int .i64 0, .int .i64 0, .int .i64 0, .int .i64 0, .int .i64 0, .int .i64 0, .int .i64 0, .int .i64 0, .int .i64 0, .int .i64 0, .int .i64 0, .int .i64 0, .int .i64 0, .int .i64 0, .int .i64 0, .slice none 0 0, .int .i64 0, .int .i64 0, .int .i64 0, .int .i64 0, .int .i64 0, .int .i64 0, .int .i64 0, .int .i64 0, .bool false, .int .i64 0, .int .i64 0, .int .i64 0, .slice none 0 0]
def zNmeL : List Value := [.int .i64 0, .string ByteArray.empty, .bool false, .int .i64 0, .int .i64 0, .int .i64 0, .int .i64 0, .bool false, .int .i64 0, .bool false, .int .i64 0, .int .i64 0, .bool false, .int .i64 0, .bool false, .int .i64 0, .bool false, .int .i64 0, .bool false, .int .i64 0, .bool false, .int .i64 0, .bool false, .int .i64 0, .bool false, .int .i64 0, .int .i64 0, .int .i64 0, .int .i64 0, .bool false, .bool false, .int .i64 0, .bool false, .int .i64 0, .bool false, .int .i64 0, .bool false, .int .i64 0, .bool false, .int .i64 0, .bool false, .int .i64 0, .int .i64 0, .int .i64 0, .bool false, .int .i64 0, .slice none 0 0, .bool false, .int .i64 0, .bool false, .int .i64 0, .bool false, .int .i64 0, .bool false, .int .i64 0, .bool false, .int .i64 0, .bool false, .int .i64 0, .bool false, .int .i64 0, .int .i64 0, .int .i64 0, .int .i64 0, .slice none 0 0]
def zTlmL : List Value := [.int .i64 0, .int .i64 0, .int .i64 0, .int .i64 0, .slice none 0 0]
/-- An item's cells. -/
def itL (p : Int) (o : Bool) (U N T : List Value) : List Value := .int .i64 p :: .bool o :: (U ++ (N ++ T))
def zItL : List Value := itL 0 false zUbxL zNmeL zTlmL
def zItA : Array Value := zItL.toArray
def zUbxA : Array Value := zUbxL.toArray
theorem zIt_list : zItA.toList = zItL := rfl
theorem zUbx_list : zUbxA.toList = zUbxL := rfl
theorem zIt_len : zItL.length = 120 := rfl
theorem zUbx_len : zUbxL.length = 48 := rfl
/-- A verdict's cells. -/
def veL (d p n e : Int) (L : List Value) : List Value := .int .i64 d :: .int .i64 p :: .int .i64 n :: .int .i64 e :: L
def veA (d p n e : Int) : Array Value := (veL d p n e zItL).toArray
theorem ve_list (d p n e : Int) : (veA d p n e).toList = veL d p n e zItL := rfl
theorem ve_len (d p n e : Int) : (veL d p n e zItL).length = 124 := rfl
set_option maxRecDepth 8000 in
theorem zero_It (w : World) : (zeroValue 61).run Tryz.prog w = .ok (.agg zItA) w := by kernel_rfl
theorem zero_Ubx (w : World) : (zeroValue 35).run Tryz.prog w = .ok (.agg zUbxA) w := by kernel_rfl
theorem zero_Ve (w : World) : (zeroValue 81).run Tryz.prog w = .ok (.agg (veA 0 0 0 0)) w := by kernel_rfl
theorem build_Ubx0 (w : World) : (Instr.build 35 #[]).run Tryz.prog w = .ok (.agg zUbxA) w := by kernel_rfl
theorem build_Ve0 (w : World) : (Instr.build 81 #[]).run Tryz.prog w = .ok (.agg (veA 0 0 0 0)) w := by kernel_rfl
theorem build_Ve13 (w : World) : (Instr.build 81 #[(0, .int .i64 1), (3, .int .i64 3)]).run Tryz.prog w = .ok (.agg (veA 1 0 0 3)) w := by kernel_rfl
theorem build_Ve01 (d p : Int) (w : World) : (Instr.build 81 #[(0, .int .i64 d), (1, .int .i64 p)]).run Tryz.prog w = .ok (.agg (veA d p 0 0)) w := by kernel_rfl
theorem build_Ve013 (d p e : Int) (w : World) : (Instr.build 81 #[(0, .int .i64 d), (1, .int .i64 p), (3, .int .i64 e)]).run Tryz.prog w = .ok (.agg (veA d p 0 e)) w := by kernel_rfl
theorem ve_ones (d p n e : Int) : (veA d p n e).all (·.oneCell') = true := by
  refine toList_all fun v hv => ?_
  rw [ve_list] at hv
  unfold veL at hv
  rcases List.mem_cons.1 hv with rfl | hv
  · rfl
  rcases List.mem_cons.1 hv with rfl | hv
  · rfl
  rcases List.mem_cons.1 hv with rfl | hv
  · rfl
  rcases List.mem_cons.1 hv with rfl | hv
  · rfl
  have h : ∀ v ∈ zItL, v.oneCell' = true := by decide +kernel
  exact h v hv
theorem ve_size (d p n e : Int) : (Tryz.prog.info? 81).map (·.size) = some (veA d p n e).size := by kernel_rfl
def ofFn (p : Int) : Nat := if p = 1 then 44 else if p = 2 then 46 else 48
def ofV (p : Int) : Value := .func (Fn.func (ofFn p)) #[] #[]
set_option maxHeartbeats 400000 in
theorem prbOf_any (p : Int) (w : World) : Calls Tryz.prog 27 #[.int .i64 p] w fun e w' => e = .returned (.agg #[ofV p]) ∧ Below w.heap.size w w' := by
  have hsf := @run_store_funcW Tryz.prog
  unfold ofV ofFn
  by_cases h1 : p = 1
  · subst h1
    go_enter Tryz.func27, Tryz.ntmps27
    go_wp2_with fail
    exact bodyPost_ret (v := .agg #[.func (Fn.func 44) #[] #[]]) (by simp [results, Tryz.results27, go_sem]) rfl ⟨rfl, below_new _ _⟩
  by_cases h2 : p = 2
  · subst h2
    go_enter Tryz.func27, Tryz.ntmps27
    go_wp2_with fail
    exact bodyPost_ret (v := .agg #[.func (Fn.func 46) #[] #[]]) (by simp [results, Tryz.results27, go_sem]) rfl ⟨rfl, below_new _ _⟩
  rw [if_neg h1, if_neg h2]
  have b1 : (p == 1) = false := by rw [beq_eq_false_iff_ne]; exact h1
  have b2 : (p == 2) = false := by rw [beq_eq_false_iff_ne]; exact h2
  clear h1 h2
  go_enter Tryz.func27, Tryz.ntmps27
  go_wp2_with fail
  exact bodyPost_ret (v := .agg #[.func (Fn.func 48) #[] #[]]) (by simp [results, Tryz.results27, go_sem]) rfl ⟨rfl, below_new _ _⟩
def zFrmV : Value := .agg #[.int .i64 0, .int .i64 0, .slice none 0 0]
theorem results_c2 {fn : Func} {p u v : Tmp} {ty : TypeId} (h : fn.results = #[.cell p ty, .tmp u, .tmp v]) (tmps : Array Value) (P : Program) (w : World) :
    (results fn tmps).run P w =
      ((asAddr (tmps.getD p undef)).run P w).andThen fun a w₁ => ((loadVar ty a).run P w₁).andThen fun v' w₂ => .ok (.tuple #[v', tmps.getD u undef, tmps.getD v undef]) w₂ := by
  simp only [results, h]
  simp [Sem.run_bind, Result.andThen]
theorem results_c0 {fn : Func} {p : Tmp} {ty : TypeId} (h : fn.results = #[.cell p ty]) (tmps : Array Value) (P : Program) (w : World) :
    (results fn tmps).run P w = ((asAddr (tmps.getD p undef)).run P w).andThen fun a w₁ => (loadVar ty a).run P w₁ := by
  simp only [results, h]
  simp [Sem.run_bind, Result.andThen]
/-- A frame as a result. -/
theorem frm_res {w1 : World} {b : Nat} {x y z : Value} (hk : Blk w1 b [x, y, z]) (p q r : Value) : (loadVar 125 ⟨b, 0, none⟩).run Tryz.prog (((w1.setCell ⟨b, 0, none⟩ p).setCell ⟨b, 1, none⟩ q).setCell ⟨b, 2, none⟩ r) = .ok (.agg #[p, q, r]) (((w1.setCell ⟨b, 0, none⟩ p).setCell ⟨b, 1, none⟩ q).setCell ⟨b, 2, none⟩ r) ∧ Below b w1 (((w1.setCell ⟨b, 0, none⟩ p).setCell ⟨b, 1, none⟩ q).setCell ⟨b, 2, none⟩ r) := by
  have hs : Stored w1 (((w1.setCell ⟨b, 0, none⟩ p).setCell ⟨b, 1, none⟩ q).setCell ⟨b, 2, none⟩ r) b 0 [p, q, r] := stored_setCells (cs := [p, q, r]) (hk.there 0 3 (Nat.le_refl _))
  exact ⟨run_loadVar_mid (P := Tryz.prog) _ b 0 125 [p, q, r] _ (hk.all hs rfl).rg Tryz.underlying125 rfl (by kernel_rfl), hs.below (Nat.le_refl _)⟩
/-- A frame of too few bytes. -/
theorem frmTake_short {Q : Nat → Prop} {w : World} (A : Option Addr) (c : Nat) (l : List UInt8) (h : FlatQ Q w A (bsV l)) (hm : l.length < 6) (hc : l.length ≤ c) :
    Calls Tryz.prog 54 #[.slice A l.length c] w fun e w' => e = .returned (.tuple #[zFrmV, .int .i64 0, .int .i64 (if beginsB l then 2 else 3)]) ∧ Below w.heap.size w w' := by
  have hb := frmBegins_any (w := w.alloc (.cells #[.int .i64 0, .int .i64 0, .slice none 0 0] 125)) A c l (h.lt.below (below_new _ _) (fun b q => q.2)) (by unfold maxLen; omega) hc
  have HB := Lib.hid hb
  have HK := Lib.hid (Blk.newL (L := [.int .i64 0, .int .i64 0, .slice none 0 0]) (grew_alloc w #[.int .i64 0, .int .i64 0, .slice none 0 0] 125) rfl)
  clear hb h
  have hl : (l.length : Int) < 6 := by omega
  generalize l.length = L at *
  cases hbg : beginsB l
  all_goals
    rw [hbg] at HB
    go_enter Tryz.func54, Tryz.ntmps54
    go_wp2_with fail
    refine HB.out.mono ?_
    rintro e w1 ⟨rfl, hb⟩
    have HK1 := Lib.hid (HK.out.on hb)
    have HB1 := Lib.hid (bthen (below_new w _) hb)
    have g0 := HK1.out.cell 0 rfl
    have g1 := HK1.out.cell 1 rfl
    have g2 := HK1.out.cell 2 rfl
    have z0 := HK1.out.fz 0
    have z1 := HK1.out.fz 1
    have z2 := HK1.out.fz 2
    clear hb HB HK
    go_wp2_with fail
    obtain ⟨r1, r2⟩ := frm_res HK1.out (.int .i64 0) (.int .i64 0) (.slice none 0 0)
  · exact bodyPost_ret (v := .tuple #[zFrmV, .int .i64 0, .int .i64 3]) (by rw [results_c2 rfl]; simp [asAddr, Result.andThen, r1, zFrmV]) rfl ⟨rfl, HB1.out.trans r2⟩
  · exact bodyPost_ret (v := .tuple #[zFrmV, .int .i64 0, .int .i64 2]) (by rw [results_c2 rfl]; simp [asAddr, Result.andThen, r1, zFrmV]) rfl ⟨rfl, HB1.out.trans r2⟩
set_option maxRecDepth 8000 in
set_option maxHeartbeats 400000 in
/-- What is no frame is no message. -/
theorem ubxDecode_no {w : World} {V : Value} (E : Int) (hE : E ≠ 0) (n : Int) (HF : ∀ W, Below w.heap.size w W → Hid (Calls Tryz.prog 54 #[V] W fun e w' => e = .returned (.tuple #[zFrmV, .int .i64 n, .int .i64 E]) ∧ Below W.heap.size W w')) :
    Calls Tryz.prog 45 #[V] w fun e w' => e = .returned (.tuple #[.agg zUbxA, .int .i64 0, .int .i64 E]) ∧ Below w.heap.size w w' := by
  have HZ := fun W => Lib.hid (zero_Ubx W)
  have HB0 := fun W => Lib.hid (build_Ubx0 W)
  have hne : (E != 0) = true := by rw [bne_iff_ne]; exact hE
  clear hE
  go_enter Tryz.func45, Tryz.ntmps45
  go_wp2_with (refine wpList_alloc_new rfl 35 rfl zUbxA (HZ _).out ?_; intro W1 hW1; have HK1 := Lib.hid (Blk.newL (L := zUbxL) hW1 rfl); have HB1 := Lib.hid hW1.bel; clear hW1)
  refine (HF _ HB1.out).out.mono ?_
  rintro e w1 ⟨rfl, hb⟩
  have HK2 := Lib.hid (HK1.out.on hb)
  have HB2 := Lib.hid (bthen HB1.out hb)
  have HK3 : Hid (Blk (w1.alloc (.cells #[.int .i64 0, .int .i64 0, .slice none 0 0] 125)) w.heap.size zUbxL) := Lib.hid (HK2.out.on (below_new _ _))
  have HB3 : Hid (Below w.heap.size w (w1.alloc (.cells #[.int .i64 0, .int .i64 0, .slice none 0 0] 125))) := Lib.hid (bthen HB2.out (below_new _ _))
  clear hb HB1 HK1 HF
  unfold zFrmV
  go_wp2_with (first
    | refine wpList_build0 rfl 35 rfl (HB0 _).out ?_
    | (refine wpList_store_in rfl 35 _ _ rfl w.heap.size 0 zUbxA rfl rfl (HK3.out.there 0 48 (Nat.le_refl _)) (by kernel_rfl) (by decide +kernel) ?_; intro W4 hs; have HK4 := Lib.hid (HK3.out.all hs rfl); have HB4 := Lib.hid (HB3.out.trans (hs.below (Nat.le_refl _))); clear hs))
  have HLD := Lib.hid (run_loadVar_mid (P := Tryz.prog) W4 w.heap.size 0 35 zUbxL _ HK4.out.rg Tryz.underlying35 rfl (by kernel_rfl))
  refine bodyPost_ret (v := .tuple #[.agg zUbxA, .int .i64 0, .int .i64 E]) (by rw [results_c2 rfl]; simp [asAddr, Result.andThen, HLD.out]; rfl) rfl ⟨rfl, HB4.out⟩
end Go.Proofs.YtafkadhijljmkaaGreat
