/- Layer 25: values, columns. Printed by genggap.py. -/
import Derived.Test.YtfgopmfaeooadaaGreatDoorMz6
import Derived.Test.YtfgopmfaeooadaaGreatDoorMzb
import Derived.Test.YtfgopmfaeooadaaGreatDoorMzd
import Derived.Test.YtfgopmfaeooadaaGreatDoorMga
import Derived.Test.YtfgopmfaeooadaaGreatDoorMva
namespace Go.Proofs.YtfgopmfaeooadaaGreatDoor
set_option linter.unusedVariables false
open Go.RowKit

abbrev ggaC (cb : Bool) (ch : Int) (cm : Int) (cs : Int) (cc : Int) (lb : Bool) (ln : Int) (ob : Bool) (on : Int) (q : Int) (sb : Bool) (sn : Int) (hb : Bool) (hn : Int) (ab : Bool) (an : Int) (gb : Bool) (gn : Int) (eb : Bool) (en : Int) (tb : Bool) (tn : Int) : Array Value := #[.bool cb, .int .i64 ch, .int .i64 cm, .int .i64 cs, .int .i64 cc, .bool lb, .int .i64 ln, .bool ob, .int .i64 on, .int .i64 q, .bool sb, .int .i64 sn, .bool hb, .int .i64 hn, .bool ab, .int .i64 an, .bool gb, .int .i64 gn, .bool eb, .int .i64 en, .bool tb, .int .i64 tn]
abbrev ggaV (cb : Bool) (ch : Int) (cm : Int) (cs : Int) (cc : Int) (lb : Bool) (ln : Int) (ob : Bool) (on : Int) (q : Int) (sb : Bool) (sn : Int) (hb : Bool) (hn : Int) (ab : Bool) (an : Int) (gb : Bool) (gn : Int) (eb : Bool) (en : Int) (tb : Bool) (tn : Int) : Value := .agg (ggaC cb ch cm cs cc lb ln ob on q sb sn hb hn ab an gb gn eb en tb tn)
theorem colV_neg {M F L : Int} : True := trivial
abbrev colsF : Array Value := #[.int .i64 1, .int .i64 2, .int .i64 0, .int .i64 0, .int .i64 99, .int .i64 1, .int .i64 3, .int .i64 2, .int .i64 0, .int .i64 99999, .int .i64 1, .int .i64 6, .int .i64 1, .int .i64 (-9999999), .int .i64 9999999, .int .i64 1, .int .i64 4, .int .i64 1, .int .i64 (-99999), .int .i64 99999, .int .i64 1, .int .i64 4, .int .i64 1, .int .i64 0, .int .i64 99999, .int .i64 1, .int .i64 4, .int .i64 0, .int .i64 0, .int .i64 1023]
theorem r25PutClock_any {S : Nat → Prop} {g : Nat} {s t : Rd} {b : Bool} {h m c e : Int} {w : World} (ht : Hid (wrClk (b, h, m, c, e) s = t)) (hp : RowI S g s w) (hl : s.2.length + 2 ≤ 1000000) :
    Calls Tryz.prog 64 #[.pointer (some ⟨g, 0, none⟩), clkV b h m c e] w (RowStep S g t w) := by
  have HC := fun W => Lib.hid (r24Put_any b h m c e W)
  have HT : ∀ W, Below w.heap.size w W → Hid (Calls Tryz.prog 65 #[.pointer (some ⟨g, 0, none⟩), .string (clkT (b, h, m, c, e)).1, .int .i64 (clkT (b, h, m, c, e)).2] W (RowStep S g t W)) := fun W hb => rowText (S := S) ht (hp.keep hb) hl
  have HBD := Lib.hid hp.bd
  generalize (clkT (b, h, m, c, e)).1 = X at *
  generalize (clkT (b, h, m, c, e)).2 = E at *
  have HB0 := Lib.hid (below_new w (.cells #[.bool b, .int .i64 h, .int .i64 m, .int .i64 c, .int .i64 e] 26))
  clear hp
  go_enter Tryz.func64, Tryz.ntmps64
  go_wp2_with fail
  refine ((HC _).out).mono ?_
  rintro e w1 ⟨rfl, hb1⟩
  have HB1 := Lib.hid (bthen HB0.out hb1)
  clear hb1 HB0
  go_wp2_with fail
  refine ((HT _ HB1.out).out).mono ?_
  rintro e w2 ⟨rfl, hp2, hk2⟩
  have HF : Hid (RowI S g t w2 ∧ Kept S g w w2) := ⟨hp2, (Kept.of_below HB1.out HBD.out).trans hk2⟩
  clear hp2 hk2
  go_wp2_with fail
  go_end0
  exact ⟨rfl, HF.out.1, HF.out.2⟩
end Go.Proofs.YtfgopmfaeooadaaGreatDoor
