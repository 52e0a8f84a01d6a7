/- Layer 29: columns, digits. -/
import Derived.Test.YtoabkoniegmkaaaGreatH10
import Derived.Test.YtoabkoniegmkaaaGreatH12
namespace Go.Proofs.YtoabkoniegmkaaaGreat
set_option linter.unusedVariables false
open Go.RowKit
theorem gsvseen_any (w:World):Calls Tryz.prog 138 #[] w fun e w'=>e=.returned (colV 1 2 0 0 99)∧Below w.heap.size w w':=by
  go_enter Tryz.func138,Tryz.ntmps138
  go_wp2
  refine bodyPost_ret (v:=colV 1 2 0 0 99) (by simp [results,Tryz.results138,go_sem]) rfl ⟨rfl,below_new _ _⟩
theorem gsvid_any (w:World):Calls Tryz.prog 139 #[] w fun e w'=>e=.returned (colV 1 3 0 1 255)∧Below w.heap.size w w':=by
  go_enter Tryz.func139,Tryz.ntmps139
  go_wp2
  refine bodyPost_ret (v:=colV 1 3 0 1 255) (by simp [results,Tryz.results139,go_sem]) rfl ⟨rfl,below_new _ _⟩
theorem gsvelev_any (w:World):Calls Tryz.prog 140 #[] w fun e w'=>e=.returned (colV 1 2 0 0 90)∧Below w.heap.size w w':=by
  go_enter Tryz.func140,Tryz.ntmps140
  go_wp2
  refine bodyPost_ret (v:=colV 1 2 0 0 90) (by simp [results,Tryz.results140,go_sem]) rfl ⟨rfl,below_new _ _⟩
theorem gsvazim_any (w:World):Calls Tryz.prog 141 #[] w fun e w'=>e=.returned (colV 1 3 0 0 359)∧Below w.heap.size w w':=by
  go_enter Tryz.func141,Tryz.ntmps141
  go_wp2
  refine bodyPost_ret (v:=colV 1 3 0 0 359) (by simp [results,Tryz.results141,go_sem]) rfl ⟨rfl,below_new _ _⟩
theorem gsvlevel_any (w:World):Calls Tryz.prog 142 #[] w fun e w'=>e=.returned (colV 1 2 0 0 99)∧Below w.heap.size w w':=by
  go_enter Tryz.func142,Tryz.ntmps142
  go_wp2
  refine bodyPost_ret (v:=colV 1 2 0 0 99) (by simp [results,Tryz.results142,go_sem]) rfl ⟨rfl,below_new _ _⟩
def digS (lo hi n:Int):ByteArray:=if n < lo∨hi < n then ByteArray.empty else digT n
def digE (lo hi n:Int):Int:=if n < lo∨hi < n then 5 else 0
theorem wrDig_text (lo hi n:Int) (s:Rd):wrDig lo hi n s=wrText (digS lo hi n) (digE lo hi n) s:=by
  unfold wrDig digS digE
  by_cases h:n < lo∨hi < n
  · rw [if_pos h,if_pos h,if_pos h]
  · rw [if_neg h,if_neg h,if_neg h]
set_option maxRecDepth 8000 in
set_option maxHeartbeats 1000000 in
theorem gsvdigit_any (n top:Int) (w:World):Calls Tryz.prog 282 #[.int .i64 n,.int .i64 top] w fun e w'=>e=.returned (.tuple #[.string (digS 1 (min top 9) n),.int .i64 (digE 1 (min top 9) n)])∧Below w.heap.size w w':=by
  by_cases h1:n < 1
  · have e1:digS 1 (min top 9) n=ByteArray.empty:=if_pos (.inl h1)
    have e2:digE 1 (min top 9) n=5:=if_pos (.inl h1)
    rw [e1,e2]
    clear e1 e2
    go_enter Tryz.func282,Tryz.ntmps282
    go_wp2
    go_ret2
    exact⟨rfl,Below.refl _ _⟩
  by_cases h2:min top 9 < n
  · have e1:digS 1 (min top 9) n=ByteArray.empty:=if_pos (.inr h2)
    have e2:digE 1 (min top 9) n=5:=if_pos (.inr h2)
    rw [e1,e2]
    clear e1 e2
    have i1:1≤n:=by omega
    by_cases h3:top≤9
    · have i2:top < n:=by omega
      clear h1 h2
      go_enter Tryz.func282,Tryz.ntmps282
      go_wp2
      all_goals go_ret2
      all_goals exact⟨rfl,Below.refl _ _⟩
    · have i2:9 < n:=by omega
      have i3:9 < top:=by omega
      clear h1 h2 h3
      go_enter Tryz.func282,Tryz.ntmps282
      go_wp2
      all_goals go_ret2
      all_goals exact⟨rfl,Below.refl _ _⟩
  · have e1:digS 1 (min top 9) n=digT n:=if_neg (by omega)
    have e2:digE 1 (min top 9) n=0:=if_neg (by omega)
    rw [e1,e2]
    clear e1 e2
    have i1:1≤n:=by omega
    have i2:n≤top:=by omega
    have i3:n≤9:=by omega
    have kc:=run_conv1 (P:=Tryz.prog) 141 9 5 Tryz.underlying141 Tryz.underlying5 Tryz.underlying9
    clear h1 h2
    by_cases h3:top≤9
    · go_enter Tryz.func282,Tryz.ntmps282
      go_wp2
      all_goals go_ret2
      all_goals exact⟨rfl,below_new _ _⟩
    · have i4:9 < top:=by omega
      clear h3
      go_enter Tryz.func282,Tryz.ntmps282
      go_wp2
      all_goals go_ret2
      all_goals exact⟨rfl,below_new _ _⟩
end Go.Proofs.YtoabkoniegmkaaaGreat
