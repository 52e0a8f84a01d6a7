/- Layer 26: values, columns, sided, the closures of Put. Printed by genrmcp.py. -/
import Derived.Test.YtoabkoniegmkaaaGreatJ18
namespace Go.Proofs.YtoabkoniegmkaaaGreat
set_option linter.unusedVariables false
open Go.RowKit
abbrev rmcC (cb:Bool) (ch:Int) (cm:Int) (cs:Int) (cc:Int) (st:Bool) (lb:Bool) (ln:Int) (ob:Bool) (on:Int) (sb:Bool) (sn:Int) (kb:Bool) (kn:Int) (vb:Bool) (vn:Int) (db:Bool) (dd:Int) (dm:Int) (dy:Int):Array Value:=#[.bool cb,.int .i64 ch,.int .i64 cm,.int .i64 cs,.int .i64 cc,.bool st,.bool lb,.int .i64 ln,.bool ob,.int .i64 on,.bool sb,.int .i64 sn,.bool kb,.int .i64 kn,.bool vb,.int .i64 vn,.bool db,.int .i64 dd,.int .i64 dm,.int .i64 dy]
abbrev rmcV (cb:Bool) (ch:Int) (cm:Int) (cs:Int) (cc:Int) (st:Bool) (lb:Bool) (ln:Int) (ob:Bool) (on:Int) (sb:Bool) (sn:Int) (kb:Bool) (kn:Int) (vb:Bool) (vn:Int) (db:Bool) (dd:Int) (dm:Int) (dy:Int):Value:=.agg (rmcC cb ch cm cs cc st lb ln ob on sb sn kb kn vb vn db dd dm dy)
theorem rmcspeed_any (w:World):Calls Tryz.prog 118 #[] w fun e w'=>e=.returned (colV 1 4 2 0 999999)∧Below w.heap.size w w':=by
  go_enter Tryz.func118,Tryz.ntmps118
  go_wp2
  refine bodyPost_ret (v:=colV 1 4 2 0 999999) (by simp [results,Tryz.results118,go_sem]) rfl ⟨rfl,below_new _ _⟩
theorem rmccourse_any (w:World):Calls Tryz.prog 120 #[] w fun e w'=>e=.returned (colV 1 3 2 0 36000)∧Below w.heap.size w w':=by
  go_enter Tryz.func120,Tryz.ntmps120
  go_wp2
  refine bodyPost_ret (v:=colV 1 3 2 0 36000) (by simp [results,Tryz.results120,go_sem]) rfl ⟨rfl,below_new _ _⟩
theorem rmcvariation_any (w:World):Calls Tryz.prog 176 #[] w fun e w'=>e=.returned (colV 1 3 1 0 1800)∧Below w.heap.size w w':=by
  go_enter Tryz.func176,Tryz.ntmps176
  go_wp2
  refine bodyPost_ret (v:=colV 1 3 1 0 1800) (by simp [results,Tryz.results176,go_sem]) rfl ⟨rfl,below_new _ _⟩
theorem rmcsided_any (b:Bool) (n:Int) (w:World):Calls Tryz.prog 259 #[numV b n] w fun e w'=>e=.returned (.tuple #[numV (farN (b,n)).1 (farN (b,n)).2,.string (sideT (b,n))])∧Below w.heap.size w w':=by
  cases b with
  | false=>
    rw [show farN (false,n)=(false,n) from if_pos (.inl rfl),show sideT (false,n)=ByteArray.empty from if_pos (.inl rfl)]
    go_enter Tryz.func259,Tryz.ntmps259
    go_wp2
    exact bodyPost_ret (v:=.tuple #[numV false n,.string ⟨#[]⟩]) (by simp [results,Tryz.results259,go_sem]) rfl ⟨rfl,bthen (below_new _ _) (below_new _ _)⟩
  | true=>
    by_cases h1:n < -1800
    · rw [show farN (true,n)=(true,n) from if_pos (.inr h1),show sideT (true,n)=ByteArray.empty from if_pos (.inr h1)]
      go_enter Tryz.func259,Tryz.ntmps259
      go_wp2
      exact bodyPost_ret (v:=.tuple #[numV true n,.string ⟨#[]⟩]) (by simp [results,Tryz.results259,go_sem]) rfl ⟨rfl,bthen (below_new _ _) (below_new _ _)⟩
    by_cases h2:n < 0
    · have e1:farN (true,n)=(true,-n):=by unfold farN;rw [if_neg (by simp;omega),if_pos h2]
      have e2:sideT (true,n)=⟨#[87]⟩:=by unfold sideT;rw [if_neg (by simp;omega),if_pos h2];rfl
      rw [e1,e2]
      have i1:decide (n < -1800)=false:=decide_eq_false h1
      have i2:-1800≤n:=by omega
      have hw:IntKind.i64.wrap (-n)=-n:=IntWalk.i64_in _ (by omega)
      clear e1 e2
      go_enter Tryz.func259,Tryz.ntmps259
      go_wp2
      exact bodyPost_ret (v:=.tuple #[numV true (-n),.string ⟨#[87]⟩]) (by simp [results,Tryz.results259,go_sem]) rfl ⟨rfl,bthen (below_new _ _) (below_new _ _)⟩
    · have e1:farN (true,n)=(true,n):=by unfold farN;rw [if_neg (by simp;omega),if_neg h2]
      have e2:sideT (true,n)=⟨#[69]⟩:=by unfold sideT;rw [if_neg (by simp;omega),if_neg h2];rfl
      rw [e1,e2]
      have i1:decide (n < -1800)=false:=decide_eq_false h1
      have i2:decide (n < 0)=false:=decide_eq_false h2
      clear e1 e2
      go_enter Tryz.func259,Tryz.ntmps259
      go_wp2
      exact bodyPost_ret (v:=.tuple #[numV true n,.string ⟨#[69]⟩]) (by simp [results,Tryz.results259,go_sem]) rfl ⟨rfl,bthen (below_new _ _) (below_new _ _)⟩
set_option maxRecDepth 8000 in
set_option maxHeartbeats 4000000 in
theorem rmcPut1_any {S:Nat→Prop} {g P M:Nat} {s t:Rd} {b:Bool} {h:Int} {m:Int} {c:Int} {e:Int} {w:World} (ht:Hid (wrClk (b,h,m,c,e) s=t)) (hp:PenI S g s w) (hl:s.2.length+2≤1000000) (sP:Hid (S P∧P≠g)) (sM:Hid (S M∧M≠g)) (p0:w.cell? ⟨P,0,none⟩=some (.pointer (some ⟨g,0,none⟩)))
    (m0:w.cell? ⟨M,0,none⟩=some (.bool b)) (m1:w.cell? ⟨M,1,none⟩=some (.int .i64 h)) (m2:w.cell? ⟨M,2,none⟩=some (.int .i64 m)) (m3:w.cell? ⟨M,3,none⟩=some (.int .i64 c)) (m4:w.cell? ⟨M,4,none⟩=some (.int .i64 e)):Calls Tryz.prog 260 #[.pointer (some ⟨P,0,none⟩),.pointer (some ⟨M,0,none⟩)] w (PenStep S g t w):=by
  have HP:=Lib.hid hp
  clear hp
  go_enter Tryz.func260,Tryz.ntmps260
  go_region_with (first | (go_at_call 231;refine (clkPut_any _ _ _ _ _ _).mono ?_;rintro r y3 ⟨rfl,hb2⟩;have k2:=Lib.hid (Kept.undrew (Kept.of_below (S:=S) (g:=g) hb2 HP.out.bd));have R2:=Lib.hid (HP.out.keep (w':=y3) (Below.trans (bdrew (Below.refl _ _)) hb2));have zp:=(k2.out.cell (o:=0) sP.out.1 sP.out.2).trans p0;have z0:=(k2.out.cell (o:=0) sM.out.1 sM.out.2).trans m0;have z1:=(k2.out.cell (o:=1) sM.out.1 sM.out.2).trans m1;have z2:=(k2.out.cell (o:=2) sM.out.1 sM.out.2).trans m2;have z3:=(k2.out.cell (o:=3) sM.out.1 sM.out.2).trans m3;have z4:=(k2.out.cell (o:=4) sM.out.1 sM.out.2).trans m4) | (go_at_call 230;refine (penText ht R2.out hl).mono ?_;rintro r y4 ⟨rfl,hp3,hk3⟩))
  all_goals go_wp2_with fail
  all_goals go_end0
  all_goals exact⟨rfl,hp3,k2.out.trans hk3⟩
set_option maxRecDepth 8000 in
set_option maxHeartbeats 4000000 in
theorem rmcPut2_any {S:Nat→Prop} {g P M:Nat} {s t:Rd} {a:ByteArray} {w:World} (ht:Hid (wrText a 0 s=t)) (hp:PenI S g s w) (hl:s.2.length+2≤1000000) (sP:Hid (S P∧P≠g)) (sM:Hid (S M∧M≠g)) (p0:w.cell? ⟨P,0,none⟩=some (.pointer (some ⟨g,0,none⟩)))
    (m0:w.cell? ⟨M,0,none⟩=some (.string a)):Calls Tryz.prog 261 #[.pointer (some ⟨P,0,none⟩),.pointer (some ⟨M,0,none⟩)] w (PenStep S g t w):=by
  have HP:=Lib.hid hp
  clear hp
  go_enter Tryz.func261,Tryz.ntmps261
  go_wp2_with fail
  refine (penText ht HP.out hl).mono ?_
  rintro r x ⟨rfl,hp2,hk2⟩
  have HF:=Lib.hid (And.intro hp2 hk2)
  clear hp2 hk2
  go_wp2_with fail
  go_end0
  exact⟨rfl,HF.out.1,HF.out.2⟩
set_option maxRecDepth 8000 in
set_option maxHeartbeats 4000000 in
theorem rmcPut3_any {S:Nat→Prop} {g P M:Nat} {s t:Rd} {b:Bool} {n:Int} {w:World} (ht:Hid (wrAng true (b,n) s=t)) (hp:PenI S g s w) (hl:s.2.length+2≤1000000) (sP:Hid (S P∧P≠g)) (sM:Hid (S M∧M≠g)) (p0:w.cell? ⟨P,0,none⟩=some (.pointer (some ⟨g,0,none⟩)))
    (m0:w.cell? ⟨M,6,none⟩=some (.bool b)) (m1:w.cell? ⟨M,7,none⟩=some (.int .i64 n)):Calls Tryz.prog 262 #[.pointer (some ⟨P,0,none⟩),.pointer (some ⟨M,0,none⟩)] w (PenStep S g t w):=by
  have HP:=Lib.hid hp
  clear hp
  go_enter Tryz.func262,Tryz.ntmps262
  go_wp2_with fail
  refine (penAng ht HP.out hl).mono ?_
  rintro r x ⟨rfl,hp2,hk2⟩
  have HF:=Lib.hid (And.intro hp2 hk2)
  clear hp2 hk2
  go_wp2_with fail
  go_end0
  exact⟨rfl,HF.out.1,HF.out.2⟩
set_option maxRecDepth 8000 in
set_option maxHeartbeats 4000000 in
theorem rmcPut4_any {S:Nat→Prop} {g P M:Nat} {s t:Rd} {b:Bool} {n:Int} {w:World} (ht:Hid (wrAng false (b,n) s=t)) (hp:PenI S g s w) (hl:s.2.length+2≤1000000) (sP:Hid (S P∧P≠g)) (sM:Hid (S M∧M≠g)) (p0:w.cell? ⟨P,0,none⟩=some (.pointer (some ⟨g,0,none⟩)))
    (m0:w.cell? ⟨M,8,none⟩=some (.bool b)) (m1:w.cell? ⟨M,9,none⟩=some (.int .i64 n)):Calls Tryz.prog 263 #[.pointer (some ⟨P,0,none⟩),.pointer (some ⟨M,0,none⟩)] w (PenStep S g t w):=by
  have HP:=Lib.hid hp
  clear hp
  go_enter Tryz.func263,Tryz.ntmps263
  go_wp2_with fail
  refine (penAng ht HP.out hl).mono ?_
  rintro r x ⟨rfl,hp2,hk2⟩
  have HF:=Lib.hid (And.intro hp2 hk2)
  clear hp2 hk2
  go_wp2_with fail
  go_end0
  exact⟨rfl,HF.out.1,HF.out.2⟩
set_option maxRecDepth 8000 in
set_option maxHeartbeats 4000000 in
theorem rmcPut5_any {S:Nat→Prop} {g P M:Nat} {s t:Rd} {b:Bool} {n:Int} {w:World} (ht:Hid (wrNum 1 4 2 0 999999 (b,n) s=t)) (hp:PenI S g s w) (hl:s.2.length+2≤1000000) (sP:Hid (S P∧P≠g)) (sM:Hid (S M∧M≠g)) (p0:w.cell? ⟨P,0,none⟩=some (.pointer (some ⟨g,0,none⟩)))
    (m0:w.cell? ⟨M,10,none⟩=some (.bool b)) (m1:w.cell? ⟨M,11,none⟩=some (.int .i64 n)):Calls Tryz.prog 264 #[.pointer (some ⟨P,0,none⟩),.pointer (some ⟨M,0,none⟩)] w (PenStep S g t w):=by
  have HP:=Lib.hid hp
  clear hp
  go_enter Tryz.func264,Tryz.ntmps264
  go_region_with (first | (go_at_call 118;refine (rmcspeed_any _).mono ?_;rintro r y3 ⟨rfl,hb2⟩;have k2:=Lib.hid (Kept.undrew (Kept.of_below (S:=S) (g:=g) hb2 HP.out.bd));have R2:=Lib.hid (HP.out.keep (w':=y3) (Below.trans (bdrew (Below.refl _ _)) hb2));have zp:=(k2.out.cell (o:=0) sP.out.1 sP.out.2).trans p0;have z0:=(k2.out.cell (o:=10) sM.out.1 sM.out.2).trans m0;have z1:=(k2.out.cell (o:=11) sM.out.1 sM.out.2).trans m1) | (go_at_call 228;refine (penNum ht R2.out hl).mono ?_;rintro r y4 ⟨rfl,hp3,hk3⟩))
  all_goals go_wp2_with fail
  all_goals go_end0
  all_goals exact⟨rfl,hp3,k2.out.trans hk3⟩
set_option maxRecDepth 8000 in
set_option maxHeartbeats 4000000 in
theorem rmcPut6_any {S:Nat→Prop} {g P M:Nat} {s t:Rd} {b:Bool} {n:Int} {w:World} (ht:Hid (wrNum 1 3 2 0 36000 (b,n) s=t)) (hp:PenI S g s w) (hl:s.2.length+2≤1000000) (sP:Hid (S P∧P≠g)) (sM:Hid (S M∧M≠g)) (p0:w.cell? ⟨P,0,none⟩=some (.pointer (some ⟨g,0,none⟩)))
    (m0:w.cell? ⟨M,12,none⟩=some (.bool b)) (m1:w.cell? ⟨M,13,none⟩=some (.int .i64 n)):Calls Tryz.prog 265 #[.pointer (some ⟨P,0,none⟩),.pointer (some ⟨M,0,none⟩)] w (PenStep S g t w):=by
  have HP:=Lib.hid hp
  clear hp
  go_enter Tryz.func265,Tryz.ntmps265
  go_region_with (first | (go_at_call 120;refine (rmccourse_any _).mono ?_;rintro r y3 ⟨rfl,hb2⟩;have k2:=Lib.hid (Kept.undrew (Kept.of_below (S:=S) (g:=g) hb2 HP.out.bd));have R2:=Lib.hid (HP.out.keep (w':=y3) (Below.trans (bdrew (Below.refl _ _)) hb2));have zp:=(k2.out.cell (o:=0) sP.out.1 sP.out.2).trans p0;have z0:=(k2.out.cell (o:=12) sM.out.1 sM.out.2).trans m0;have z1:=(k2.out.cell (o:=13) sM.out.1 sM.out.2).trans m1) | (go_at_call 228;refine (penNum ht R2.out hl).mono ?_;rintro r y4 ⟨rfl,hp3,hk3⟩))
  all_goals go_wp2_with fail
  all_goals go_end0
  all_goals exact⟨rfl,hp3,k2.out.trans hk3⟩
set_option maxRecDepth 8000 in
set_option maxHeartbeats 4000000 in
theorem rmcPut7_any {S:Nat→Prop} {g P M:Nat} {s t:Rd} {b:Bool} {d:Int} {m:Int} {y:Int} {w:World} (ht:Hid (wrDat (b,d,m,y) s=t)) (hp:PenI S g s w) (hl:s.2.length+2≤1000000) (sP:Hid (S P∧P≠g)) (sM:Hid (S M∧M≠g)) (p0:w.cell? ⟨P,0,none⟩=some (.pointer (some ⟨g,0,none⟩)))
    (m0:w.cell? ⟨M,16,none⟩=some (.bool b)) (m1:w.cell? ⟨M,17,none⟩=some (.int .i64 d)) (m2:w.cell? ⟨M,18,none⟩=some (.int .i64 m)) (m3:w.cell? ⟨M,19,none⟩=some (.int .i64 y)):Calls Tryz.prog 266 #[.pointer (some ⟨P,0,none⟩),.pointer (some ⟨M,0,none⟩)] w (PenStep S g t w):=by
  have HP:=Lib.hid hp
  clear hp
  go_enter Tryz.func266,Tryz.ntmps266
  go_region_with (first | (go_at_call 267;refine (datPut_any _ _ _ _ _).mono ?_;rintro r y3 ⟨rfl,hb2⟩;have k2:=Lib.hid (Kept.undrew (Kept.of_below (S:=S) (g:=g) hb2 HP.out.bd));have R2:=Lib.hid (HP.out.keep (w':=y3) (Below.trans (bdrew (Below.refl _ _)) hb2));have zp:=(k2.out.cell (o:=0) sP.out.1 sP.out.2).trans p0;have z0:=(k2.out.cell (o:=16) sM.out.1 sM.out.2).trans m0;have z1:=(k2.out.cell (o:=17) sM.out.1 sM.out.2).trans m1;have z2:=(k2.out.cell (o:=18) sM.out.1 sM.out.2).trans m2;have z3:=(k2.out.cell (o:=19) sM.out.1 sM.out.2).trans m3) | (go_at_call 230;refine (penText ht R2.out hl).mono ?_;rintro r y4 ⟨rfl,hp3,hk3⟩))
  all_goals go_wp2_with fail
  all_goals go_end0
  all_goals exact⟨rfl,hp3,k2.out.trans hk3⟩
set_option maxRecDepth 8000 in
set_option maxHeartbeats 4000000 in
theorem rmcPut8_any {S:Nat→Prop} {g P M:Nat} {s t:Rd} {b:Bool} {n:Int} {w:World} (ht:Hid (wrNum 1 3 1 0 1800 (b,n) s=t)) (hp:PenI S g s w) (hl:s.2.length+2≤1000000) (sP:Hid (S P∧P≠g)) (sM:Hid (S M∧M≠g)) (p0:w.cell? ⟨P,0,none⟩=some (.pointer (some ⟨g,0,none⟩)))
    (m0:w.cell? ⟨M,0,none⟩=some (.bool b)) (m1:w.cell? ⟨M,1,none⟩=some (.int .i64 n)):Calls Tryz.prog 268 #[.pointer (some ⟨P,0,none⟩),.pointer (some ⟨M,0,none⟩)] w (PenStep S g t w):=by
  have HP:=Lib.hid hp
  clear hp
  go_enter Tryz.func268,Tryz.ntmps268
  go_region_with (first | (go_at_call 176;refine (rmcvariation_any _).mono ?_;rintro r y3 ⟨rfl,hb2⟩;have k2:=Lib.hid (Kept.undrew (Kept.of_below (S:=S) (g:=g) hb2 HP.out.bd));have R2:=Lib.hid (HP.out.keep (w':=y3) (Below.trans (bdrew (Below.refl _ _)) hb2));have zp:=(k2.out.cell (o:=0) sP.out.1 sP.out.2).trans p0;have z0:=(k2.out.cell (o:=0) sM.out.1 sM.out.2).trans m0;have z1:=(k2.out.cell (o:=1) sM.out.1 sM.out.2).trans m1) | (go_at_call 228;refine (penNum ht R2.out hl).mono ?_;rintro r y4 ⟨rfl,hp3,hk3⟩))
  all_goals go_wp2_with fail
  all_goals go_end0
  all_goals exact⟨rfl,hp3,k2.out.trans hk3⟩
set_option maxRecDepth 8000 in
set_option maxHeartbeats 4000000 in
theorem rmcPut9_any {S:Nat→Prop} {g P M:Nat} {s t:Rd} {a:ByteArray} {w:World} (ht:Hid (wrText a 0 s=t)) (hp:PenI S g s w) (hl:s.2.length+2≤1000000) (sP:Hid (S P∧P≠g)) (sM:Hid (S M∧M≠g)) (p0:w.cell? ⟨P,0,none⟩=some (.pointer (some ⟨g,0,none⟩)))
    (m0:w.cell? ⟨M,0,none⟩=some (.string a)):Calls Tryz.prog 269 #[.pointer (some ⟨P,0,none⟩),.pointer (some ⟨M,0,none⟩)] w (PenStep S g t w):=by
  have HP:=Lib.hid hp
  clear hp
  go_enter Tryz.func269,Tryz.ntmps269
  go_wp2_with fail
  refine (penText ht HP.out hl).mono ?_
  rintro r x ⟨rfl,hp2,hk2⟩
  have HF:=Lib.hid (And.intro hp2 hk2)
  clear hp2 hk2
  go_wp2_with fail
  go_end0
  exact⟨rfl,HF.out.1,HF.out.2⟩
end Go.Proofs.YtoabkoniegmkaaaGreat
