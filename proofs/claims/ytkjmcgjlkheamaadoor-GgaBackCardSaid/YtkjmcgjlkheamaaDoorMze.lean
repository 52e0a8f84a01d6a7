/- Layer 25: values, columns. Printed by genggap.py. -/
import Derived.Test.YtkjmcgjlkheamaaDoorMz6
import Derived.Test.YtkjmcgjlkheamaaDoorMzb
import Derived.Test.YtkjmcgjlkheamaaDoorMzd
import Derived.Test.YtkjmcgjlkheamaaDoorMga
import Derived.Test.YtkjmcgjlkheamaaDoorMva
namespace Go.Proofs.YtkjmcgjlkheamaaDoor
set_option linter.unusedVariables false
open Go.RowKit

abbrev ggaC (cb : Bool) (ch : Int) (cm : Int) (cs : Int) (cc : Int) (lb : Bool) (ln : Int) (ob : Bool) (on : Int) (q : Int) (sb : Bool) (sn : Int) (hb : Bool) (hn : Int) (ab : Bool) (an : Int) (gb : Bool) (gn : Int) (eb : Bool) (en : Int) (tb : Bool) (tn : Int) : Array Value := #[.bool cb, .int .i64 ch, .int .i64 cm, .int .i64 cs, .int .i64 cc, .bool lb, .int .i64 ln, .bool ob, .int .i64 on, .int .i64 q, .bool sb, .int .i64 sn, .bool hb, .int .i64 hn, .bool ab, .int .i64 an, .bool gb, .int .i64 gn, .bool eb, .int .i64 en, .bool tb, .int .i64 tn]
abbrev ggaV (cb : Bool) (ch : Int) (cm : Int) (cs : Int) (cc : Int) (lb : Bool) (ln : Int) (ob : Bool) (on : Int) (q : Int) (sb : Bool) (sn : Int) (hb : Bool) (hn : Int) (ab : Bool) (an : Int) (gb : Bool) (gn : Int) (eb : Bool) (en : Int) (tb : Bool) (tn : Int) : Value := .agg (ggaC cb ch cm cs cc lb ln ob on q sb sn hb hn ab an gb gn eb en tb tn)
theorem colV_neg {M F L : Int} : True := trivial
theorem ggasats_any (w : World) : Calls Tryd.prog 33 #[] w fun e w' => e = .returned (colV 1 2 0 0 99) ∧ Below w.heap.size w w' := by
  go_enter Tryd.func33, Tryd.ntmps33
  go_wp2
  refine bodyPost_ret (v := colV 1 2 0 0 99) (by simp [results, Tryd.results33, go_sem]) rfl ⟨rfl, below_new _ _⟩
theorem ggahdop_any (w : World) : Calls Tryd.prog 34 #[] w fun e w' => e = .returned (colV 1 3 2 0 99999) ∧ Below w.heap.size w w' := by
  go_enter Tryd.func34, Tryd.ntmps34
  go_wp2
  refine bodyPost_ret (v := colV 1 3 2 0 99999) (by simp [results, Tryd.results34, go_sem]) rfl ⟨rfl, below_new _ _⟩
theorem ggaalt_any (w : World) : Calls Tryd.prog 35 #[] w fun e w' => e = .returned (colV 1 6 1 (-9999999) 9999999) ∧ Below w.heap.size w w' := by
  go_enter Tryd.func35, Tryd.ntmps35
  go_wp2
  refine bodyPost_ret (v := colV 1 6 1 (-9999999) 9999999) (by simp [results, Tryd.results35, go_sem]) rfl ⟨rfl, below_new _ _⟩
theorem ggageoid_any (w : World) : Calls Tryd.prog 37 #[] w fun e w' => e = .returned (colV 1 4 1 (-99999) 99999) ∧ Below w.heap.size w w' := by
  go_enter Tryd.func37, Tryd.ntmps37
  go_wp2
  refine bodyPost_ret (v := colV 1 4 1 (-99999) 99999) (by simp [results, Tryd.results37, go_sem]) rfl ⟨rfl, below_new _ _⟩
theorem ggaage_any (w : World) : Calls Tryd.prog 38 #[] w fun e w' => e = .returned (colV 1 4 1 0 99999) ∧ Below w.heap.size w w' := by
  go_enter Tryd.func38, Tryd.ntmps38
  go_wp2
  refine bodyPost_ret (v := colV 1 4 1 0 99999) (by simp [results, Tryd.results38, go_sem]) rfl ⟨rfl, below_new _ _⟩
theorem ggaat_any (w : World) : Calls Tryd.prog 39 #[] w fun e w' => e = .returned (colV 1 4 0 0 1023) ∧ Below w.heap.size w w' := by
  go_enter Tryd.func39, Tryd.ntmps39
  go_wp2
  refine bodyPost_ret (v := colV 1 4 0 0 1023) (by simp [results, Tryd.results39, go_sem]) rfl ⟨rfl, below_new _ _⟩
abbrev colsF : Array Value := #[.int .i64 1, .int .i64 2, .int .i64 0, .int .i64 0, .int .i64 99, .int .i64 1, .int .i64 3, .int .i64 2, .int .i64 0, .int .i64 99999, .int .i64 1, .int .i64 6, .int .i64 1, .int .i64 (-9999999), .int .i64 9999999, .int .i64 1, .int .i64 4, .int .i64 1, .int .i64 (-99999), .int .i64 99999, .int .i64 1, .int .i64 4, .int .i64 1, .int .i64 0, .int .i64 99999, .int .i64 1, .int .i64 4, .int .i64 0, .int .i64 0, .int .i64 1023]
theorem r25Cols_any (w : World) : Calls Tryd.prog 41 #[] w fun e w' => e = .returned (.slice (some ⟨w.heap.size, 0, none⟩) 6 6) ∧ (∀ o, w'.cell? ⟨w.heap.size, o, none⟩ = colsF[o]?) ∧ w'.heap.size = w.heap.size + 1 ∧ Below w.heap.size w w' := by
  go_enter Tryd.func41, Tryd.ntmps41
  go_wp2
  go_ret
  exact ⟨rfl, fun o => World.cell?_alloc_at _ _ _ _ rfl, by simp, below_new _ _⟩
theorem ggaquality_any (n : Int) (w : World) : Calls Tryd.prog 32 #[.int .i64 n] w fun e w' => e = .returned (.tuple #[.string (digS 0 8 n), .int .i64 (digE 0 8 n)]) ∧ Below w.heap.size w w' := by
  by_cases h1 : n < 0
  · have e1 : digS 0 8 n = ByteArray.empty := if_pos (.inl h1)
    have e2 : digE 0 8 n = 5 := if_pos (.inl h1)
    rw [e1, e2]
    clear e1 e2
    go_enter Tryd.func32, Tryd.ntmps32
    go_wp2
    go_ret2
    exact ⟨rfl, Below.refl _ _⟩
  by_cases h2 : 8 < n
  · have e1 : digS 0 8 n = ByteArray.empty := if_pos (.inr h2)
    have e2 : digE 0 8 n = 5 := if_pos (.inr h2)
    rw [e1, e2]
    clear e1 e2
    go_enter Tryd.func32, Tryd.ntmps32
    go_wp2
    go_ret2
    exact ⟨rfl, Below.refl _ _⟩
  · have e1 : digS 0 8 n = digT n := if_neg (by omega)
    have e2 : digE 0 8 n = 0 := if_neg (by omega)
    rw [e1, e2]
    clear e1 e2
    have i1 : 0 ≤ n := by omega
    have i2 : n ≤ 8 := by omega
    have kc := run_conv1 (P := Tryd.prog) 122 9 5 Tryd.underlying122 Tryd.underlying5 Tryd.underlying9
    clear h1 h2
    go_enter Tryd.func32, Tryd.ntmps32
    go_wp2
    all_goals go_ret2
    all_goals exact ⟨rfl, below_new _ _⟩
theorem ggabehind_any (b : Bool) (n : Int) (w : World) : Calls Tryd.prog 36 #[numV b n] w fun e w' => e = .returned (.tuple #[.string (unitT b ⟨#[77]⟩), .int .i64 0]) ∧ Below w.heap.size w w' := by
  cases b
  all_goals
    go_enter Tryd.func36, Tryd.ntmps36
    go_wp2
    go_ret2
    exact ⟨rfl, below_new _ _⟩
theorem r25PutClock_any {S : Nat → Prop} {g : Nat} {s t : Rd} {b : Bool} {h m c e : Int} {w : World} (ht : Hid (wrClk (b, h, m, c, e) s = t)) (hp : RowI S g s w) (hl : s.2.length + 2 ≤ 1000000) :
    Calls Tryd.prog 42 #[.pointer (some ⟨g, 0, none⟩), clkV b h m c e] w (RowStep S g t w) := by
  have HC := fun W => Lib.hid (r24Put_any b h m c e W)
  have HT : ∀ W, Below w.heap.size w W → Hid (Calls Tryd.prog 96 #[.pointer (some ⟨g, 0, none⟩), .string (clkT (b, h, m, c, e)).1, .int .i64 (clkT (b, h, m, c, e)).2] W (RowStep S g t W)) := fun W hb => rowText (S := S) ht (hp.keep hb) hl
  have HBD := Lib.hid hp.bd
  generalize (clkT (b, h, m, c, e)).1 = X at *
  generalize (clkT (b, h, m, c, e)).2 = E at *
  have HB0 := Lib.hid (below_new w (.cells #[.bool b, .int .i64 h, .int .i64 m, .int .i64 c, .int .i64 e] 23))
  clear hp
  go_enter Tryd.func42, Tryd.ntmps42
  go_wp2_with fail
  refine ((HC _).out).mono ?_
  rintro e w1 ⟨rfl, hb1⟩
  have HB1 := Lib.hid (bthen HB0.out hb1)
  clear hb1 HB0
  go_wp2_with fail
  refine ((HT _ HB1.out).out).mono ?_
  rintro e w2 ⟨rfl, hp2, hk2⟩
  have HF : Hid (RowI S g t w2 ∧ Kept S g w w2) := ⟨hp2, (Kept.of_below HB1.out HBD.out).trans hk2⟩
  clear hp2 hk2
  go_wp2_with fail
  go_end0
  exact ⟨rfl, HF.out.1, HF.out.2⟩
end Go.Proofs.YtkjmcgjlkheamaaDoor
