/- Layer 25: values, columns. Printed by genggap.py. -/
import Derived.Test.YtfgopmfaeooadaaDoorMz6
import Derived.Test.YtfgopmfaeooadaaDoorMzb
import Derived.Test.YtfgopmfaeooadaaDoorMzd
import Derived.Test.YtfgopmfaeooadaaDoorMga
import Derived.Test.YtfgopmfaeooadaaDoorMva
namespace Go.Proofs.YtfgopmfaeooadaaDoor
set_option linter.unusedVariables false
open Go.RowKit

abbrev ggaC (cb : Bool) (ch : Int) (cm : Int) (cs : Int) (cc : Int) (lb : Bool) (ln : Int) (ob : Bool) (on : Int) (q : Int) (sb : Bool) (sn : Int) (hb : Bool) (hn : Int) (ab : Bool) (an : Int) (gb : Bool) (gn : Int) (eb : Bool) (en : Int) (tb : Bool) (tn : Int) : Array Value := #[.bool cb, .int .i64 ch, .int .i64 cm, .int .i64 cs, .int .i64 cc, .bool lb, .int .i64 ln, .bool ob, .int .i64 on, .int .i64 q, .bool sb, .int .i64 sn, .bool hb, .int .i64 hn, .bool ab, .int .i64 an, .bool gb, .int .i64 gn, .bool eb, .int .i64 en, .bool tb, .int .i64 tn]
abbrev ggaV (cb : Bool) (ch : Int) (cm : Int) (cs : Int) (cc : Int) (lb : Bool) (ln : Int) (ob : Bool) (on : Int) (q : Int) (sb : Bool) (sn : Int) (hb : Bool) (hn : Int) (ab : Bool) (an : Int) (gb : Bool) (gn : Int) (eb : Bool) (en : Int) (tb : Bool) (tn : Int) : Value := .agg (ggaC cb ch cm cs cc lb ln ob on q sb sn hb hn ab an gb gn eb en tb tn)
theorem colV_neg {M F L : Int} : True := trivial
theorem ggasats_any (w : World) : Calls Tryd.prog 20 #[] w fun e w' => e = .returned (colV 1 2 0 0 99) ∧ Below w.heap.size w w' := by
  go_enter Tryd.func20, Tryd.ntmps20
  go_wp2
  refine bodyPost_ret (v := colV 1 2 0 0 99) (by simp [results, Tryd.results20, go_sem]) rfl ⟨rfl, below_new _ _⟩
theorem ggahdop_any (w : World) : Calls Tryd.prog 21 #[] w fun e w' => e = .returned (colV 1 3 2 0 99999) ∧ Below w.heap.size w w' := by
  go_enter Tryd.func21, Tryd.ntmps21
  go_wp2
  refine bodyPost_ret (v := colV 1 3 2 0 99999) (by simp [results, Tryd.results21, go_sem]) rfl ⟨rfl, below_new _ _⟩
theorem ggaalt_any (w : World) : Calls Tryd.prog 22 #[] w fun e w' => e = .returned (colV 1 6 1 (-9999999) 9999999) ∧ Below w.heap.size w w' := by
  go_enter Tryd.func22, Tryd.ntmps22
  go_wp2
  refine bodyPost_ret (v := colV 1 6 1 (-9999999) 9999999) (by simp [results, Tryd.results22, go_sem]) rfl ⟨rfl, below_new _ _⟩
theorem ggageoid_any (w : World) : Calls Tryd.prog 24 #[] w fun e w' => e = .returned (colV 1 4 1 (-99999) 99999) ∧ Below w.heap.size w w' := by
  go_enter Tryd.func24, Tryd.ntmps24
  go_wp2
  refine bodyPost_ret (v := colV 1 4 1 (-99999) 99999) (by simp [results, Tryd.results24, go_sem]) rfl ⟨rfl, below_new _ _⟩
theorem ggaage_any (w : World) : Calls Tryd.prog 25 #[] w fun e w' => e = .returned (colV 1 4 1 0 99999) ∧ Below w.heap.size w w' := by
  go_enter Tryd.func25, Tryd.ntmps25
  go_wp2
  refine bodyPost_ret (v := colV 1 4 1 0 99999) (by simp [results, Tryd.results25, go_sem]) rfl ⟨rfl, below_new _ _⟩
theorem ggaat_any (w : World) : Calls Tryd.prog 26 #[] w fun e w' => e = .returned (colV 1 4 0 0 1023) ∧ Below w.heap.size w w' := by
  go_enter Tryd.func26, Tryd.ntmps26
  go_wp2
  refine bodyPost_ret (v := colV 1 4 0 0 1023) (by simp [results, Tryd.results26, go_sem]) rfl ⟨rfl, below_new _ _⟩
abbrev colsF : Array Value := #[.int .i64 1, .int .i64 2, .int .i64 0, .int .i64 0, .int .i64 99, .int .i64 1, .int .i64 3, .int .i64 2, .int .i64 0, .int .i64 99999, .int .i64 1, .int .i64 6, .int .i64 1, .int .i64 (-9999999), .int .i64 9999999, .int .i64 1, .int .i64 4, .int .i64 1, .int .i64 (-99999), .int .i64 99999, .int .i64 1, .int .i64 4, .int .i64 1, .int .i64 0, .int .i64 99999, .int .i64 1, .int .i64 4, .int .i64 0, .int .i64 0, .int .i64 1023]
theorem r25Cols_any (w : World) : Calls Tryd.prog 28 #[] w fun e w' => e = .returned (.slice (some ⟨w.heap.size, 0, none⟩) 6 6) ∧ (∀ o, w'.cell? ⟨w.heap.size, o, none⟩ = colsF[o]?) ∧ w'.heap.size = w.heap.size + 1 ∧ Below w.heap.size w w' := by
  go_enter Tryd.func28, Tryd.ntmps28
  go_wp2
  go_ret
  exact ⟨rfl, fun o => World.cell?_alloc_at _ _ _ _ rfl, by simp, below_new _ _⟩
theorem ggaquality_any (n : Int) (w : World) : Calls Tryd.prog 71 #[.int .i64 n] w fun e w' => e = .returned (.tuple #[.string (digS 0 8 n), .int .i64 (digE 0 8 n)]) ∧ Below w.heap.size w w' := by
  by_cases h1 : n < 0
  · have e1 : digS 0 8 n = ByteArray.empty := if_pos (.inl h1)
    have e2 : digE 0 8 n = 5 := if_pos (.inl h1)
    rw [e1, e2]
    clear e1 e2
    go_enter Tryd.func71, Tryd.ntmps71
    go_wp2
    go_ret2
    exact ⟨rfl, Below.refl _ _⟩
  by_cases h2 : 8 < n
  · have e1 : digS 0 8 n = ByteArray.empty := if_pos (.inr h2)
    have e2 : digE 0 8 n = 5 := if_pos (.inr h2)
    rw [e1, e2]
    clear e1 e2
    go_enter Tryd.func71, Tryd.ntmps71
    go_wp2
    go_ret2
    exact ⟨rfl, Below.refl _ _⟩
  · have e1 : digS 0 8 n = digT n := if_neg (by omega)
    have e2 : digE 0 8 n = 0 := if_neg (by omega)
    rw [e1, e2]
    clear e1 e2
    have i1 : 0 ≤ n := by omega
    have i2 : n ≤ 8 := by omega
    have kc := run_conv1 (P := Tryd.prog) 112 9 5 Tryd.underlying112 Tryd.underlying5 Tryd.underlying9
    clear h1 h2
    go_enter Tryd.func71, Tryd.ntmps71
    go_wp2
    all_goals go_ret2
    all_goals exact ⟨rfl, below_new _ _⟩
theorem ggabehind_any (b : Bool) (n : Int) (w : World) : Calls Tryd.prog 72 #[numV b n] w fun e w' => e = .returned (.tuple #[.string (unitT b ⟨#[77]⟩), .int .i64 0]) ∧ Below w.heap.size w w' := by
  cases b
  all_goals
    go_enter Tryd.func72, Tryd.ntmps72
    go_wp2
    go_ret2
    exact ⟨rfl, below_new _ _⟩
end Go.Proofs.YtfgopmfaeooadaaDoor
