/- Layers 25, 26: angles of pens, rows and eyes as plain states. -/
import Derived.Test.YtfgopmfaeooadaaGreatDoorMh
import Derived.Test.YtfgopmfaeooadaaGreatDoorMza
namespace Go.Proofs.YtfgopmfaeooadaaGreatDoor
set_option linter.unusedVariables false
open Go.RowKit

theorem penAng {S : Nat → Prop} {g : Nat} {s t : Rd} {w : World} {lat b : Bool} {n : Int} (ht : Hid (wrAng lat (b, n) s = t)) (hp : PenI S g s w) (hl : s.2.length + 2 ≤ 1000000) :
    Calls Tryz.prog 53 #[.pointer (some ⟨g, 0, none⟩), numV b n, .bool lat] w (PenStep S g t w) := by
  have ht := ht.out
  subst ht
  obtain ⟨v, h1, h3, h4⟩ := hp
  exact (PenAngle_any g s.1 v s.2 b n lat w h1 hl).mono fun r w' h => PenI.post h3 h4 h
theorem rowAng {S : Nat → Prop} {g : Nat} {s t : Rd} {w : World} {lat b : Bool} {n : Int} (ht : Hid (wrAng lat (b, n) s = t)) (hp : RowI S g s w) (hl : s.2.length + 2 ≤ 1000000) :
    Calls Tryz.prog 66 #[.pointer (some ⟨g, 0, none⟩), numV b n, .bool lat] w (RowStep S g t w) := by
  have ht := ht.out
  subst ht
  obtain ⟨v, h1, h3, h4⟩ := hp
  exact (RowAngle_any g s.1 v s.2 b n lat w h1 hl).mono fun r w' h => RowI.post h3 h4 h
theorem eyeAng {g : Nat} {s t : Rd} {w : World} {lat b : Bool} {n : Int} (ht : Hid (rdAng lat s = ((b, n), t))) (hp : EyeI g s w) :
    Calls Tryz.prog 24 #[.pointer (some ⟨g, 0, none⟩), .bool lat] w (EyeStep g (numV b n) t w) := by
  have ht := ht.out
  have hg := hp.lt
  obtain ⟨Q, h1, h2, h3⟩ := hp
  injection ht with e1 e2
  injection e1 with e3 e4
  subst e2 e3 e4
  exact (EyeAngle_any g s.1 s.2 lat w h1 (fun b q => Nat.lt_trans (h2 b q) hg) hg (headD_small h3)).mono fun r w' h => EyeI.post (s := (rdAng lat s).2) h2 (tail_small (tail_small h3)) h
theorem rowTAng {g : Nat} {s t : Rd} {w : World} {lat b : Bool} {n : Int} (ht : Hid (rdAng lat s = ((b, n), t))) (hp : RowRI g s w) :
    Calls Tryz.prog 41 #[.pointer (some ⟨g, 0, none⟩), .bool lat] w (RowRStep g (numV b n) t w) := by
  have ht := ht.out
  have hg := hp.lt
  obtain ⟨Q, h1, h2, h3⟩ := hp
  injection ht with e1 e2
  injection e1 with e3 e4
  subst e2 e3 e4
  exact (RowTAngle_any g s.1 s.2 lat w h1 (fun b q => Nat.lt_trans (h2 b q) hg) hg (headD_small h3)).mono fun r w' h => RowRI.post (s := (rdAng lat s).2) h2 (tail_small (tail_small h3)) h
theorem wrAng_len {lat : Bool} {n : Bool × Int} {s : Rd} : (wrAng lat n s).2.length = s.2.length + 2 := by unfold wrAng; simp
end Go.Proofs.YtfgopmfaeooadaaGreatDoor
