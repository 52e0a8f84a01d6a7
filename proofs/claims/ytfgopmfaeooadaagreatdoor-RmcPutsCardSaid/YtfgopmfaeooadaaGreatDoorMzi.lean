/- Layer 25: Take. Printed by genggat.py. -/
import Derived.Test.YtfgopmfaeooadaaGreatDoorMzh
import Derived.Deep.MidRow
namespace Go.Proofs.YtfgopmfaeooadaaGreatDoor
set_option linter.unusedVariables false
open Go.RowKit

abbrev ggaTV (g : GgaT) : Value := ggaV g.1.1 g.1.2.1 g.1.2.2.1 g.1.2.2.2.1 g.1.2.2.2.2 g.2.1.1 g.2.1.2 g.2.2.1.1 g.2.2.1.2 g.2.2.2.1 g.2.2.2.2.1.1 g.2.2.2.2.1.2 g.2.2.2.2.2.1.1 g.2.2.2.2.2.1.2 g.2.2.2.2.2.2.1.1 g.2.2.2.2.2.2.1.2 g.2.2.2.2.2.2.2.1.1 g.2.2.2.2.2.2.2.1.2 g.2.2.2.2.2.2.2.2.1.1 g.2.2.2.2.2.2.2.2.1.2 g.2.2.2.2.2.2.2.2.2.1 g.2.2.2.2.2.2.2.2.2.2
def GgaPost (x : GgaT × Int) (w : World) (r : Ending) (w' : World) : Prop := r = .returned (.tuple #[ggaTV x.1, .int .i64 x.2]) ∧ Below w.heap.size w w'

theorem range_of {w : World} {R : Nat} {C : Array Value} (h : AtC w R C) : w.rangeAt R 0 C.toList := fun j v hv => by rw [Nat.zero_add, h j]; simpa using hv
theorem there_of {w : World} {R : Nat} {C : Array Value} (h : AtC w R C) (hf : ∀ j, w.frozen? ⟨R, j, none⟩ = false) {n : Nat} (hn : n = C.size) : w.there R 0 n := fun j hj => by
  rw [Nat.zero_add, h j, hf j]
  exact ⟨by simp; omega, rfl⟩
theorem below_cells {B R : Nat} {a : World} (hR : B ≤ R) : ∀ (vs : List Value) (o : Nat) (w : World), Below B a w → Below B a (w.setCells R o vs)
  | [], _, _, h => h
  | v :: r, o, w, h => by
    rw [World.setCells]
    exact below_cells hR r (o + 1) _ (below_set h hR)
theorem tke_put {g M : Nat} {s : Rd} {C : Array Value} {W w : World} (h : TkI (EyeI g s) g M C W w) (o : Nat) (u : Value) (ho : o < C.size) : TkI (EyeI g s) g M (C.setIfInBounds o u) W (w.setCell ⟨M, o, none⟩ u) := h.put ho (h.x.far h.gm)
theorem tke_eq {g M : Nat} {s : Rd} {C : Array Value} {W w : World} (h : TkI (EyeI g s) g M C W w) (C' : Array Value) (e : C = C') : Hid (TkI (EyeI g s) g M C' W w) := by subst e; exact h
theorem atc_eq {w : World} {R : Nat} {C : Array Value} (h : AtC w R C) (C' : Array Value) (e : C = C') : AtC w R C' := by subst e; exact h

theorem gga_taken {R : List ByteArray} {cb : Bool} {ch : Int} {cm : Int} {cs : Int} {cc : Int} {lb : Bool} {ln : Int} {ob : Bool} {on : Int} {q : Int} {sb : Bool} {sn : Int} {hb : Bool} {hn : Int} {ab : Bool} {an : Int} {gb : Bool} {gn : Int} {eb : Bool} {en : Int} {tb : Bool} {tn : Int} {r1 r2 r3 r4 r5 r6 r7 r8 r9 r10 r11 r12 : Rd} (hl : R.length = 14) (h1 : Hid (rdClk (0, R) = ((cb, ch, cm, cs, cc), r1))) (h2 : Hid (rdAng true r1 = ((lb, ln), r2))) (h3 : Hid (rdAng false r2 = ((ob, on), r3))) (h4 : Hid (rdDig 0 8 r3 = (q, r4))) (h5 : Hid (rdNum 1 2 0 0 99 r4 = ((sb, sn), r5))) (h6 : Hid (rdNum 1 3 2 0 99999 r5 = ((hb, hn), r6))) (h7 : Hid (rdNum 1 6 1 (-9999999) 9999999 r6 = ((ab, an), r7))) (h8 : Hid (rdUnit ⟨#[77]⟩ ab r7 = r8)) (h9 : Hid (rdNum 1 4 1 (-99999) 99999 r8 = ((gb, gn), r9))) (h10 : Hid (rdUnit ⟨#[77]⟩ gb r9 = r10)) (h11 : Hid (rdNum 1 4 1 0 99999 r10 = ((eb, en), r11))) (h12 : Hid (rdNum 1 4 0 0 1023 r11 = ((tb, tn), r12))) :
    takeGga R = if r12.1 = 0 then (((cb, ch, cm, cs, cc), (lb, ln), (ob, on), q, (sb, sn), (hb, hn), (ab, an), (gb, gn), (eb, en), (tb, tn)), 0) else (zeroF, r12.1) := by
  have c7 : rdCol altK r6 = ((ab, an), r8) := by unfold rdCol altK; simp only; rw [h7.out]; simp only; rw [h8.out]
  have c9 : rdCol geoK r8 = ((gb, gn), r10) := by unfold rdCol geoK; simp only; rw [h9.out]; simp only; rw [h10.out]
  have hR : ggaR (0, R) = (((cb, ch, cm, cs, cc), (lb, ln), (ob, on), q, (sb, sn), (hb, hn), (ab, an), (gb, gn), (eb, en), (tb, tn)), r12) := by
    unfold ggaR
    simp only [seqR, h1.out, h2.out, h3.out, h4.out, h5.out, h6.out, c7, c9, h11.out, h12.out]
  unfold takeGga
  rw [if_neg (fun q => q hl), hR]
end Go.Proofs.YtfgopmfaeooadaaGreatDoor
