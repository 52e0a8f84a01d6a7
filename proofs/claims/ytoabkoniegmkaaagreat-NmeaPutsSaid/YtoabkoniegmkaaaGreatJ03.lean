/- Layer 23: the reference's Angle. -/
import Derived.Test.YtoabkoniegmkaaaGreatJ02
import Derived.Deep.QuietTactic
namespace Go.Proofs.YtoabkoniegmkaaaGreat
set_option linter.unusedVariables false
open Go.RowKit
set_option maxRecDepth 8000 in
set_option maxHeartbeats 2000000 in
theorem r23Angle_far (n:Int) (lat:Bool) (w:World) (h:farI lat < n∨n≤farI lat∧n < -farI lat) :
    Calls Tryz.prog 163 #[numV true n,.bool lat] w fun e w'=>e=.returned (.tuple #[.string ByteArray.empty,.string ByteArray.empty,.int .i64 5])∧Below w.heap.size w w':=by
  have HK:=fun W'=>Lib.hid (r23Far_any lat W')
  have k1:IntKind.i64.wrap (-1080000000)=-1080000000:=IntWalk.i64_in _ (by decide)
  have k2:IntKind.i64.wrap (-540000000)=-540000000:=IntWalk.i64_in _ (by decide)
  cases lat
  all_goals
    unfold farI at h HK
    simp [-Int.neg_le_neg_iff] at h HK
    rcases h with h | ⟨h,h'⟩
  all_goals
    go_enter Tryz.func163,Tryz.ntmps163
    go_wp2_with fail
    go_quiet ((go_at_call 180;exact quiet_eq (HK _).out))
    go_wp2_with fail
    try simp only [Exit.inBlock,Exit.then]
    refine bodyPost_ret (results3 rfl _ _ _) rfl ?_
    exact⟨rfl,bdrewN (below_new w _) _⟩
set_option maxRecDepth 8000 in
set_option maxHeartbeats 2000000 in
theorem r23Angle_bad (n:Int) (lat:Bool) (w:World) (h:(n != 0)=true) :
    Calls Tryz.prog 163 #[numV false n,.bool lat] w fun e w'=>e=.returned (.tuple #[.string ByteArray.empty,.string ByteArray.empty,.int .i64 5])∧Below w.heap.size w w':=by
  have HK:=fun W'=>Lib.hid (r23Far_any lat W')
  have k1:IntKind.i64.wrap (-1080000000)=-1080000000:=IntWalk.i64_in _ (by decide)
  have k2:IntKind.i64.wrap (-540000000)=-540000000:=IntWalk.i64_in _ (by decide)
  go_enter Tryz.func163,Tryz.ntmps163
  go_wp2_with fail
  go_quiet ((go_at_call 180;exact quiet_eq (HK _).out))
  go_wp2_with fail
  try simp only [Exit.inBlock,Exit.then]
  refine bodyPost_ret (results3 rfl _ _ _) rfl ?_
  exact⟨rfl,bdrewN (below_new w _) _⟩
set_option maxRecDepth 8000 in
set_option maxHeartbeats 2000000 in
theorem r23Angle_none (lat:Bool) (w:World) :
    Calls Tryz.prog 163 #[numV false 0,.bool lat] w fun e w'=>e=.returned (.tuple #[.string ByteArray.empty,.string ByteArray.empty,.int .i64 0])∧Below w.heap.size w w':=by
  have HK:=fun W'=>Lib.hid (r23Far_any lat W')
  have k1:IntKind.i64.wrap (-1080000000)=-1080000000:=IntWalk.i64_in _ (by decide)
  have k2:IntKind.i64.wrap (-540000000)=-540000000:=IntWalk.i64_in _ (by decide)
  go_enter Tryz.func163,Tryz.ntmps163
  go_wp2_with fail
  go_quiet ((go_at_call 180;exact quiet_eq (HK _).out))
  go_wp2_with fail
  try simp only [Exit.inBlock,Exit.then]
  refine bodyPost_ret (results3 rfl _ _ _) rfl ?_
  exact⟨rfl,bdrewN (below_new w _) _⟩
set_option maxRecDepth 8000 in
set_option maxHeartbeats 2000000 in
theorem r23Angle_pos (x:Nat) (lat:Bool) (w:World) (h:(x:Int)≤farI lat) :
    Calls Tryz.prog 163 #[numV true x,.bool lat] w fun e w'=>e=.returned (.tuple #[.string (toB (angL x lat)),.string (sideB lat false),.int .i64 0])∧Below w.heap.size w w':=by
  have hx2:(x:Int)≤1080000000:=by unfold farI at h;split at h <;> omega
  have hx0:(0:Int)≤(x:Int):=by omega
  have HK:=fun W'=>Lib.hid (r23Far_any lat W')
  have k1:IntKind.i64.wrap (-1080000000)=-1080000000:=IntWalk.i64_in _ (by decide)
  have k2:IntKind.i64.wrap (-540000000)=-540000000:=IntWalk.i64_in _ (by decide)
  have HW:=fun W'=>Lib.hid (r23sides_any lat W')
  have HD:=fun W'=>Lib.hid (r23Digits_any (x / 6000000) (wideN lat) W' (by omega) (by unfold wideN;split <;> omega))
  have HM:=fun W'=>Lib.hid (r23Digits_any (x % 6000000 / 100000) 2 W' (by omega) (by omega))
  have HP:=fun W'=>Lib.hid (r23behind_any (x % 6000000 % 100000) 5 W' (by omega) (by omega) (by omega))
  have e1:((x / 6000000:Nat):Int)=(x:Int) / 6000000:=by omega
  have e2:((x % 6000000 / 100000:Nat):Int)=(x:Int) % 6000000 / 100000:=by omega
  have e3:((x % 6000000 % 100000:Nat):Int)=(x:Int) % 100000:=by omega
  rw [e1] at HD
  rw [e2] at HM
  rw [e3] at HP
  have HR:Hid (toB (angL x lat)=toB (digL (x / 6000000) (wideN lat))++toB (digL (x % 6000000 / 100000) 2)++toB (tailB (x % 6000000 % 100000) 5)):=by
    show _=_
    rw [toB_append,toB_append,List.append_assoc]
    rfl
  have hA:(toB (digL (x / 6000000) (wideN lat))).size≤20:=by rw [size_B];exact digF_len 20 _ _
  have hA2:(toB (digL (x % 6000000 / 100000) 2)).size≤20:=by rw [size_B];exact digF_len 20 _ _
  have hB:(toB (tailB (x % 6000000 % 100000) 5)).size≤41:=by
    rw [size_B]
    have h2:=pointL_len (x % 6000000 % 100000) 2 5
    unfold pointL at h2
    rw [show (10:Nat) ^ 5=100000 from by decide,Nat.mod_mod,List.length_append] at h2
    omega
  clear e1 e2 e3
  generalize toB (digL (x / 6000000) (wideN lat))=A at *
  generalize toB (digL (x % 6000000 / 100000) 2)=A2 at *
  generalize toB (tailB (x % 6000000 % 100000) 5)=B at *
  generalize toB (angL x lat)=R at *
  have hS:(sidesB lat).size=2:=by cases lat <;> rfl
  have HS:=Lib.hid (sideB_false lat)
  generalize sidesB lat=S at *
  generalize sideB lat false=Y at *
  generalize (x:Int)=n at *
  cases lat
  all_goals
    unfold farI at h HK
    simp [-Int.neg_le_neg_iff] at h HK
    go_enter Tryz.func163,Tryz.ntmps163
    go_wp2_with fail
    go_quiet ((go_at_call 180;exact quiet_eq (HK _).out))
    go_wp2_with fail
    refine (HW _).out.mono ?_
    rintro e w' ⟨rfl,rfl⟩
    go_wp2_with fail
    refine ((HD _).out).mono ?_
    rintro e w2 ⟨rfl,hb2⟩
    replace hb2:=undrewN hb2
    go_wp2_with fail
    refine ((HM _).out).mono ?_
    rintro e w3 ⟨rfl,hb3⟩
    go_wp2_with fail
    refine ((HP _).out).mono ?_
    rintro e w4 ⟨rfl,hb4⟩
    go_wp2_with fail
    try simp only [Exit.inBlock,Exit.then]
    refine bodyPost_ret (results3 rfl _ _ _) rfl ?_
    exact⟨by rw [HR.out,← HS.out];rfl,bthen (bthen (bthen (below_new w _) hb2) hb3) hb4⟩
set_option maxRecDepth 8000 in
set_option maxHeartbeats 2000000 in
theorem r23Angle_neg (x:Nat) (hp:0 < x) (lat:Bool) (w:World) (h:-farI lat≤-(x:Int)) :
    Calls Tryz.prog 163 #[numV true (-(x:Int)),.bool lat] w fun e w'=>e=.returned (.tuple #[.string (toB (angL x lat)),.string (sideB lat true),.int .i64 0])∧Below w.heap.size w w':=by
  have hx2:(x:Int)≤1080000000:=by unfold farI at h;split at h <;> omega
  have hx0:(0:Int) < (x:Int):=by omega
  have HK:=fun W'=>Lib.hid (r23Far_any lat W')
  have k1:IntKind.i64.wrap (-1080000000)=-1080000000:=IntWalk.i64_in _ (by decide)
  have k2:IntKind.i64.wrap (-540000000)=-540000000:=IntWalk.i64_in _ (by decide)
  have HW:=fun W'=>Lib.hid (r23sides_any lat W')
  have HD:=fun W'=>Lib.hid (r23Digits_any (x / 6000000) (wideN lat) W' (by omega) (by unfold wideN;split <;> omega))
  have HM:=fun W'=>Lib.hid (r23Digits_any (x % 6000000 / 100000) 2 W' (by omega) (by omega))
  have HP:=fun W'=>Lib.hid (r23behind_any (x % 6000000 % 100000) 5 W' (by omega) (by omega) (by omega))
  have e1:((x / 6000000:Nat):Int)=(x:Int) / 6000000:=by omega
  have e2:((x % 6000000 / 100000:Nat):Int)=(x:Int) % 6000000 / 100000:=by omega
  have e3:((x % 6000000 % 100000:Nat):Int)=(x:Int) % 100000:=by omega
  rw [e1] at HD
  rw [e2] at HM
  rw [e3] at HP
  have HR:Hid (toB (angL x lat)=toB (digL (x / 6000000) (wideN lat))++toB (digL (x % 6000000 / 100000) 2)++toB (tailB (x % 6000000 % 100000) 5)):=by
    show _=_
    rw [toB_append,toB_append,List.append_assoc]
    rfl
  have hA:(toB (digL (x / 6000000) (wideN lat))).size≤20:=by rw [size_B];exact digF_len 20 _ _
  have hA2:(toB (digL (x % 6000000 / 100000) 2)).size≤20:=by rw [size_B];exact digF_len 20 _ _
  have hB:(toB (tailB (x % 6000000 % 100000) 5)).size≤41:=by
    rw [size_B]
    have h2:=pointL_len (x % 6000000 % 100000) 2 5
    unfold pointL at h2
    rw [show (10:Nat) ^ 5=100000 from by decide,Nat.mod_mod,List.length_append] at h2
    omega
  clear e1 e2 e3
  generalize toB (digL (x / 6000000) (wideN lat))=A at *
  generalize toB (digL (x % 6000000 / 100000) 2)=A2 at *
  generalize toB (tailB (x % 6000000 % 100000) 5)=B at *
  generalize toB (angL x lat)=R at *
  have hS:(sidesB lat).size=2:=by cases lat <;> rfl
  have HS:=Lib.hid (sideB_true lat)
  generalize sidesB lat=S at *
  generalize sideB lat true=Y at *
  generalize (x:Int)=n at *
  cases lat
  · unfold farI at h HK
    simp [-Int.neg_le_neg_iff] at h HK
    have j0:-n < 0:=by omega
    have j3:n≤1080000000:=by omega
    have j1:-n≤1080000000:=by omega
    have j2:-1080000000≤-n:=by omega
    clear h
    go_enter Tryz.func163,Tryz.ntmps163
    go_wp2_with fail
    go_quiet ((go_at_call 180;exact quiet_eq (HK _).out))
    go_wp2_with fail
    refine (HW _).out.mono ?_
    rintro e w' ⟨rfl,rfl⟩
    go_wp2_with fail
    refine ((HW _).out).mono ?_
    rintro e w' ⟨rfl,rfl⟩
    go_wp2_with fail
    refine ((HD _).out).mono ?_
    rintro e w2 ⟨rfl,hb2⟩
    replace hb2:=undrewN hb2
    go_wp2_with fail
    refine ((HM _).out).mono ?_
    rintro e w3 ⟨rfl,hb3⟩
    go_wp2_with fail
    refine ((HP _).out).mono ?_
    rintro e w4 ⟨rfl,hb4⟩
    go_wp2_with fail
    try simp only [Exit.inBlock,Exit.then]
    refine bodyPost_ret (results3 rfl _ _ _) rfl ?_
    exact⟨by rw [HR.out,← HS.out];rfl,bthen (bthen (bthen (below_new w _) hb2) hb3) hb4⟩
  · unfold farI at h HK
    simp [-Int.neg_le_neg_iff] at h HK
    have j0:-n < 0:=by omega
    have j3:n≤1080000000:=by omega
    have j1:-n≤540000000:=by omega
    have j2:-540000000≤-n:=by omega
    clear h
    go_enter Tryz.func163,Tryz.ntmps163
    go_wp2_with fail
    go_quiet ((go_at_call 180;exact quiet_eq (HK _).out))
    go_wp2_with fail
    refine (HW _).out.mono ?_
    rintro e w' ⟨rfl,rfl⟩
    go_wp2_with fail
    refine ((HW _).out).mono ?_
    rintro e w' ⟨rfl,rfl⟩
    go_wp2_with fail
    refine ((HD _).out).mono ?_
    rintro e w2 ⟨rfl,hb2⟩
    replace hb2:=undrewN hb2
    go_wp2_with fail
    refine ((HM _).out).mono ?_
    rintro e w3 ⟨rfl,hb3⟩
    go_wp2_with fail
    refine ((HP _).out).mono ?_
    rintro e w4 ⟨rfl,hb4⟩
    go_wp2_with fail
    try simp only [Exit.inBlock,Exit.then]
    refine bodyPost_ret (results3 rfl _ _ _) rfl ?_
    exact⟨by rw [HR.out,← HS.out];rfl,bthen (bthen (bthen (below_new w _) hb2) hb3) hb4⟩
theorem r23Angle_any (b:Bool) (n:Int) (lat:Bool) (w:World) :
    Calls Tryz.prog 163 #[numV b n,.bool lat] w fun e w'=>e=.returned (.tuple #[.string (angN b n lat).1,.string (angN b n lat).2.1,.int .i64 (angN b n lat).2.2])∧Below w.heap.size w w':=by
  unfold angN
  cases h:fitsB b n (-farI lat) (farI lat) with
  | false=>
    rw [if_pos rfl]
    cases b with
    | false=>
      unfold fitsB at h
      rw [if_neg (by decide)] at h
      exact r23Angle_bad n lat w (by rw [bne_iff_ne];exact of_decide_eq_false h)
    | true=>
      have hf:0≤farI lat:=by unfold farI;split <;> decide
      exact r23Angle_far n lat w (by rcases fitsB_false h with h | h <;> omega)
  | true=>
    rw [if_neg (by decide)]
    cases b with
    | false=>
      rw [if_pos rfl]
      have:n=0:=by unfold fitsB at h;rw [if_neg (by decide)] at h;exact of_decide_eq_true h
      subst this
      exact r23Angle_none lat w
    | true=>
      rw [if_neg (by decide)]
      by_cases hn:n < 0
      · rw [if_pos hn]
        obtain⟨k,hk⟩:=Int.eq_ofNat_of_zero_le (show 0≤-n by omega)
        obtain rfl:n=-(k:Int):=by omega
        rw [show (-(-(k:Int))).toNat=k from by omega]
        exact r23Angle_neg k (by omega) lat w (fitsB_true h).1
      · rw [if_neg hn]
        obtain⟨k,rfl⟩:=Int.eq_ofNat_of_zero_le (show 0≤n by omega)
        exact r23Angle_pos k lat w (fitsB_true h).2
def wide2 (lat:Bool):Nat:=if lat then 4 else 5
set_option maxRecDepth 8000 in
set_option maxHeartbeats 2000000 in
theorem TakeAngle_empty (s d:ByteArray) (lat:Bool) (w:World) (h0:s.size=0) (h1:d.size=0) :
    Calls Tryz.prog 170 #[.string s,.string d,.bool lat] w fun e w'=>e=.returned (.tuple #[numV false (0),.int .i64 0])∧Below w.heap.size w w':=by
  obtain rfl:s=⟨#[]⟩:=ByteArray.ext (Array.eq_empty_of_size_eq_zero h0)
  obtain rfl:d=⟨#[]⟩:=ByteArray.ext (Array.eq_empty_of_size_eq_zero h1)
  have HK:=fun W'=>Lib.hid (kind_any lat W')
  generalize sidesB lat=S at *
  cases lat
  all_goals
    go_enter Tryz.func170,Tryz.ntmps170
    go_wp2_with fail
    refine bodyPost_ret (v:=.tuple #[numV false (0),.int .i64 0]) (by simp [results,Tryz.results170,go_sem,World.cell?_alloc_at]) rfl ⟨rfl,below_new w _⟩
set_option maxRecDepth 8000 in
set_option maxHeartbeats 2000000 in
theorem TakeAngle_form (s d:ByteArray) (lat:Bool) (n:Int) (w:World) (h0:0 < s.size) (HP:∀ W',Hid (Calls Tryz.prog 191 #[.string s,.int .i64 (wide2 lat:Int),.int .i64 (wide2 lat:Int),.int .i64 5] W' fun e w'=>e=.returned (.tuple #[.int .i64 n,.bool false])∧Below W'.heap.size W' w')) :
    Calls Tryz.prog 170 #[.string s,.string d,.bool lat] w fun e w'=>e=.returned (.tuple #[numV false (0),.int .i64 3])∧Below w.heap.size w w':=by
  obtain⟨hne1,hne2⟩:=nonempty_forms h0
  have HK:=fun W'=>Lib.hid (kind_any lat W')
  generalize sidesB lat=S at *
  cases lat
  all_goals
    go_enter Tryz.func170,Tryz.ntmps170
    have q0:(w.alloc (.cells #[.bool false,.int .i64 0] 30)).cell? ⟨w.heap.size,0,none⟩=some (.bool false):=by simp [World.cell?_alloc_at]
    have q1:(w.alloc (.cells #[.bool false,.int .i64 0] 30)).cell? ⟨w.heap.size,1,none⟩=some (.int .i64 0):=by simp [World.cell?_alloc_at]
    go_wp2_with fail
    refine ((HK _).out).mono ?_
    rintro e w' ⟨rfl,rfl⟩
    go_wp2_with fail
    refine ((HP _).out).mono ?_
    rintro e w2 ⟨rfl,hb2⟩
    obtain⟨c2,f2⟩:=bcell hb2
    have hz:=hb2.size
    simp at hz
    have hz1:w.heap.size < w2.heap.size:=by omega
    have b2:=Lib.hid (bthen (below_new w _) hb2)
    replace q0:=(c2 w.heap.size 0 (by simp)).trans q0
    replace q1:=(c2 w.heap.size 1 (by simp)).trans q1
    go_wp2_with fail
    obtain⟨p0,p1⟩:=two_cells w2 w.heap.size (.bool false) (.int .i64 (0)) _ _ q0 q1
    refine bodyPost_ret (v:=.tuple #[numV false (0),.int .i64 3]) (by simp [results,Tryz.results170,go_sem,p0,p1]) rfl ⟨rfl,?_⟩
    exact (Below.setCell (Below.setCell b2.out (p:=⟨w.heap.size,0,none⟩) (Nat.le_refl _) _) (p:=⟨w.heap.size,1,none⟩) (Nat.le_refl _) _)
set_option maxRecDepth 8000 in
set_option maxHeartbeats 2000000 in
theorem TakeAngle_forme (s d:ByteArray) (lat:Bool) (n:Int) (w:World) (h0:s.size=0) (h1:0 < d.size) (HP:∀ W',Hid (Calls Tryz.prog 191 #[.string s,.int .i64 (wide2 lat:Int),.int .i64 (wide2 lat:Int),.int .i64 5] W' fun e w'=>e=.returned (.tuple #[.int .i64 n,.bool false])∧Below W'.heap.size W' w')) :
    Calls Tryz.prog 170 #[.string s,.string d,.bool lat] w fun e w'=>e=.returned (.tuple #[numV false (0),.int .i64 3])∧Below w.heap.size w w':=by
  obtain rfl:s=⟨#[]⟩:=ByteArray.ext (Array.eq_empty_of_size_eq_zero h0)
  obtain⟨hne1,hne2⟩:=nonempty_forms h1
  have HK:=fun W'=>Lib.hid (kind_any lat W')
  generalize sidesB lat=S at *
  cases lat
  all_goals
    go_enter Tryz.func170,Tryz.ntmps170
    have q0:(w.alloc (.cells #[.bool false,.int .i64 0] 30)).cell? ⟨w.heap.size,0,none⟩=some (.bool false):=by simp [World.cell?_alloc_at]
    have q1:(w.alloc (.cells #[.bool false,.int .i64 0] 30)).cell? ⟨w.heap.size,1,none⟩=some (.int .i64 0):=by simp [World.cell?_alloc_at]
    go_wp2_with fail
    refine ((HK _).out).mono ?_
    rintro e w' ⟨rfl,rfl⟩
    go_wp2_with fail
    refine ((HP _).out).mono ?_
    rintro e w2 ⟨rfl,hb2⟩
    obtain⟨c2,f2⟩:=bcell hb2
    have hz:=hb2.size
    simp at hz
    have hz1:w.heap.size < w2.heap.size:=by omega
    have b2:=Lib.hid (bthen (below_new w _) hb2)
    replace q0:=(c2 w.heap.size 0 (by simp)).trans q0
    replace q1:=(c2 w.heap.size 1 (by simp)).trans q1
    go_wp2_with fail
    obtain⟨p0,p1⟩:=two_cells w2 w.heap.size (.bool false) (.int .i64 (0)) _ _ q0 q1
    refine bodyPost_ret (v:=.tuple #[numV false (0),.int .i64 3]) (by simp [results,Tryz.results170,go_sem,p0,p1]) rfl ⟨rfl,?_⟩
    exact (Below.setCell (Below.setCell b2.out (p:=⟨w.heap.size,0,none⟩) (Nat.le_refl _) _) (p:=⟨w.heap.size,1,none⟩) (Nat.le_refl _) _)
set_option maxRecDepth 8000 in
set_option maxHeartbeats 2000000 in
theorem TakeAngle_side (s d:ByteArray) (lat:Bool) (n:Int) (w:World) (h0:0 < s.size) (HP:∀ W',Hid (Calls Tryz.prog 191 #[.string s,.int .i64 (wide2 lat:Int),.int .i64 (wide2 lat:Int),.int .i64 5] W' fun e w'=>e=.returned (.tuple #[.int .i64 n,.bool true])∧Below W'.heap.size W' w')) (k1:(d.toList==((sidesB lat).extract 0 1).toList)=false) (k2:(d.toList==((sidesB lat).extract 1 2).toList)=false) (hn0:0≤n) (hn:n≤2000000000000000000) :
    Calls Tryz.prog 170 #[.string s,.string d,.bool lat] w fun e w'=>e=.returned (.tuple #[numV false (0),.int .i64 3])∧Below w.heap.size w w':=by
  obtain⟨hne1,hne2⟩:=nonempty_forms h0
  have hS:(sidesB lat).size=2:=by cases lat <;> rfl
  have HK:=fun W'=>Lib.hid (kind_any lat W')
  generalize sidesB lat=S at *
  cases lat
  all_goals
    go_enter Tryz.func170,Tryz.ntmps170
    have q0:(w.alloc (.cells #[.bool false,.int .i64 0] 30)).cell? ⟨w.heap.size,0,none⟩=some (.bool false):=by simp [World.cell?_alloc_at]
    have q1:(w.alloc (.cells #[.bool false,.int .i64 0] 30)).cell? ⟨w.heap.size,1,none⟩=some (.int .i64 0):=by simp [World.cell?_alloc_at]
    go_wp2_with fail
    refine ((HK _).out).mono ?_
    rintro e w' ⟨rfl,rfl⟩
    go_wp2_with fail
    refine ((HP _).out).mono ?_
    rintro e w2 ⟨rfl,hb2⟩
    obtain⟨c2,f2⟩:=bcell hb2
    have hz:=hb2.size
    simp at hz
    have hz1:w.heap.size < w2.heap.size:=by omega
    have b2:=Lib.hid (bthen (below_new w _) hb2)
    replace q0:=(c2 w.heap.size 0 (by simp)).trans q0
    replace q1:=(c2 w.heap.size 1 (by simp)).trans q1
    go_wp2_with fail
    obtain⟨p0,p1⟩:=two_cells w2 w.heap.size (.bool false) (.int .i64 (0)) _ _ q0 q1
    refine bodyPost_ret (v:=.tuple #[numV false (0),.int .i64 3]) (by simp [results,Tryz.results170,go_sem,p0,p1]) rfl ⟨rfl,?_⟩
    exact (Below.setCell (Below.setCell b2.out (p:=⟨w.heap.size,0,none⟩) (Nat.le_refl _) _) (p:=⟨w.heap.size,1,none⟩) (Nat.le_refl _) _)
set_option maxRecDepth 8000 in
set_option maxHeartbeats 2000000 in
theorem TakeAngle_m_N (s d:ByteArray) (lat:Bool) (n:Int) (w:World) (h0:0 < s.size) (HP:∀ W',Hid (Calls Tryz.prog 191 #[.string s,.int .i64 (wide2 lat:Int),.int .i64 (wide2 lat:Int),.int .i64 5] W' fun e w'=>e=.returned (.tuple #[.int .i64 n,.bool true])∧Below W'.heap.size W' w')) (k1:(d.toList==((sidesB lat).extract 0 1).toList)=true) (k2:(d.toList==((sidesB lat).extract 1 2).toList)=false) (hn0:0≤n) (hn:n≤2000000000000000000) (g:6000000≤n % 10000000) :
    Calls Tryz.prog 170 #[.string s,.string d,.bool lat] w fun e w'=>e=.returned (.tuple #[numV false (0),.int .i64 5])∧Below w.heap.size w w':=by
  obtain⟨hne1,hne2⟩:=nonempty_forms h0
  have hS:(sidesB lat).size=2:=by cases lat <;> rfl
  have HK:=fun W'=>Lib.hid (kind_any lat W')
  generalize sidesB lat=S at *
  cases lat
  all_goals
    go_enter Tryz.func170,Tryz.ntmps170
    have q0:(w.alloc (.cells #[.bool false,.int .i64 0] 30)).cell? ⟨w.heap.size,0,none⟩=some (.bool false):=by simp [World.cell?_alloc_at]
    have q1:(w.alloc (.cells #[.bool false,.int .i64 0] 30)).cell? ⟨w.heap.size,1,none⟩=some (.int .i64 0):=by simp [World.cell?_alloc_at]
    go_wp2_with fail
    refine ((HK _).out).mono ?_
    rintro e w' ⟨rfl,rfl⟩
    go_wp2_with fail
    refine ((HP _).out).mono ?_
    rintro e w2 ⟨rfl,hb2⟩
    obtain⟨c2,f2⟩:=bcell hb2
    have hz:=hb2.size
    simp at hz
    have hz1:w.heap.size < w2.heap.size:=by omega
    have b2:=Lib.hid (bthen (below_new w _) hb2)
    replace q0:=(c2 w.heap.size 0 (by simp)).trans q0
    replace q1:=(c2 w.heap.size 1 (by simp)).trans q1
    go_wp2_with fail
    obtain⟨p0,p1⟩:=two_cells w2 w.heap.size (.bool false) (.int .i64 (0)) _ _ q0 q1
    refine bodyPost_ret (v:=.tuple #[numV false (0),.int .i64 5]) (by simp [results,Tryz.results170,go_sem,p0,p1]) rfl ⟨rfl,?_⟩
    exact (Below.setCell (Below.setCell b2.out (p:=⟨w.heap.size,0,none⟩) (Nat.le_refl _) _) (p:=⟨w.heap.size,1,none⟩) (Nat.le_refl _) _)
set_option maxRecDepth 8000 in
set_option maxHeartbeats 2000000 in
theorem TakeAngle_m_S (s d:ByteArray) (lat:Bool) (n:Int) (w:World) (h0:0 < s.size) (HP:∀ W',Hid (Calls Tryz.prog 191 #[.string s,.int .i64 (wide2 lat:Int),.int .i64 (wide2 lat:Int),.int .i64 5] W' fun e w'=>e=.returned (.tuple #[.int .i64 n,.bool true])∧Below W'.heap.size W' w')) (k1:(d.toList==((sidesB lat).extract 0 1).toList)=false) (k2:(d.toList==((sidesB lat).extract 1 2).toList)=true) (hn0:0≤n) (hn:n≤2000000000000000000) (g:6000000≤n % 10000000) :
    Calls Tryz.prog 170 #[.string s,.string d,.bool lat] w fun e w'=>e=.returned (.tuple #[numV false (0),.int .i64 5])∧Below w.heap.size w w':=by
  obtain⟨hne1,hne2⟩:=nonempty_forms h0
  have hS:(sidesB lat).size=2:=by cases lat <;> rfl
  have HK:=fun W'=>Lib.hid (kind_any lat W')
  generalize sidesB lat=S at *
  cases lat
  all_goals
    go_enter Tryz.func170,Tryz.ntmps170
    have q0:(w.alloc (.cells #[.bool false,.int .i64 0] 30)).cell? ⟨w.heap.size,0,none⟩=some (.bool false):=by simp [World.cell?_alloc_at]
    have q1:(w.alloc (.cells #[.bool false,.int .i64 0] 30)).cell? ⟨w.heap.size,1,none⟩=some (.int .i64 0):=by simp [World.cell?_alloc_at]
    go_wp2_with fail
    refine ((HK _).out).mono ?_
    rintro e w' ⟨rfl,rfl⟩
    go_wp2_with fail
    refine ((HP _).out).mono ?_
    rintro e w2 ⟨rfl,hb2⟩
    obtain⟨c2,f2⟩:=bcell hb2
    have hz:=hb2.size
    simp at hz
    have hz1:w.heap.size < w2.heap.size:=by omega
    have b2:=Lib.hid (bthen (below_new w _) hb2)
    replace q0:=(c2 w.heap.size 0 (by simp)).trans q0
    replace q1:=(c2 w.heap.size 1 (by simp)).trans q1
    go_wp2_with fail
    obtain⟨p0,p1⟩:=two_cells w2 w.heap.size (.bool false) (.int .i64 (0)) _ _ q0 q1
    refine bodyPost_ret (v:=.tuple #[numV false (0),.int .i64 5]) (by simp [results,Tryz.results170,go_sem,p0,p1]) rfl ⟨rfl,?_⟩
    exact (Below.setCell (Below.setCell b2.out (p:=⟨w.heap.size,0,none⟩) (Nat.le_refl _) _) (p:=⟨w.heap.size,1,none⟩) (Nat.le_refl _) _)
set_option maxRecDepth 8000 in
set_option maxHeartbeats 2000000 in
theorem TakeAngle_x_N (s d:ByteArray) (lat:Bool) (n:Int) (w:World) (h0:0 < s.size) (HP:∀ W',Hid (Calls Tryz.prog 191 #[.string s,.int .i64 (wide2 lat:Int),.int .i64 (wide2 lat:Int),.int .i64 5] W' fun e w'=>e=.returned (.tuple #[.int .i64 n,.bool true])∧Below W'.heap.size W' w')) (k1:(d.toList==((sidesB lat).extract 0 1).toList)=true) (k2:(d.toList==((sidesB lat).extract 1 2).toList)=false) (hn0:0≤n) (hn:n≤2000000000000000000) (g:n % 10000000 < 6000000) (g2:farI lat < n / 10000000 * 6000000+n % 10000000) :
    Calls Tryz.prog 170 #[.string s,.string d,.bool lat] w fun e w'=>e=.returned (.tuple #[numV false (0),.int .i64 5])∧Below w.heap.size w w':=by
  obtain⟨hne1,hne2⟩:=nonempty_forms h0
  have hS:(sidesB lat).size=2:=by cases lat <;> rfl
  have HK:=fun W'=>Lib.hid (kind_any lat W')
  generalize sidesB lat=S at *
  cases lat
  all_goals
    have g2':=g2
    unfold farI at g2'
    simp at g2'
    clear g2
    go_enter Tryz.func170,Tryz.ntmps170
    have q0:(w.alloc (.cells #[.bool false,.int .i64 0] 30)).cell? ⟨w.heap.size,0,none⟩=some (.bool false):=by simp [World.cell?_alloc_at]
    have q1:(w.alloc (.cells #[.bool false,.int .i64 0] 30)).cell? ⟨w.heap.size,1,none⟩=some (.int .i64 0):=by simp [World.cell?_alloc_at]
    go_wp2_with fail
    refine ((HK _).out).mono ?_
    rintro e w' ⟨rfl,rfl⟩
    go_wp2_with fail
    refine ((HP _).out).mono ?_
    rintro e w2 ⟨rfl,hb2⟩
    obtain⟨c2,f2⟩:=bcell hb2
    have hz:=hb2.size
    simp at hz
    have hz1:w.heap.size < w2.heap.size:=by omega
    have b2:=Lib.hid (bthen (below_new w _) hb2)
    replace q0:=(c2 w.heap.size 0 (by simp)).trans q0
    replace q1:=(c2 w.heap.size 1 (by simp)).trans q1
    go_wp2_with fail
    obtain⟨p0,p1⟩:=two_cells w2 w.heap.size (.bool false) (.int .i64 (0)) _ _ q0 q1
    refine bodyPost_ret (v:=.tuple #[numV false (0),.int .i64 5]) (by simp [results,Tryz.results170,go_sem,p0,p1]) rfl ⟨rfl,?_⟩
    exact (Below.setCell (Below.setCell b2.out (p:=⟨w.heap.size,0,none⟩) (Nat.le_refl _) _) (p:=⟨w.heap.size,1,none⟩) (Nat.le_refl _) _)
set_option maxRecDepth 8000 in
set_option maxHeartbeats 2000000 in
theorem TakeAngle_x_S (s d:ByteArray) (lat:Bool) (n:Int) (w:World) (h0:0 < s.size) (HP:∀ W',Hid (Calls Tryz.prog 191 #[.string s,.int .i64 (wide2 lat:Int),.int .i64 (wide2 lat:Int),.int .i64 5] W' fun e w'=>e=.returned (.tuple #[.int .i64 n,.bool true])∧Below W'.heap.size W' w')) (k1:(d.toList==((sidesB lat).extract 0 1).toList)=false) (k2:(d.toList==((sidesB lat).extract 1 2).toList)=true) (hn0:0≤n) (hn:n≤2000000000000000000) (g:n % 10000000 < 6000000) (g2:farI lat < n / 10000000 * 6000000+n % 10000000) :
    Calls Tryz.prog 170 #[.string s,.string d,.bool lat] w fun e w'=>e=.returned (.tuple #[numV false (0),.int .i64 5])∧Below w.heap.size w w':=by
  obtain⟨hne1,hne2⟩:=nonempty_forms h0
  have hS:(sidesB lat).size=2:=by cases lat <;> rfl
  have HK:=fun W'=>Lib.hid (kind_any lat W')
  generalize sidesB lat=S at *
  cases lat
  all_goals
    have g2':=g2
    unfold farI at g2'
    simp at g2'
    clear g2
    go_enter Tryz.func170,Tryz.ntmps170
    have q0:(w.alloc (.cells #[.bool false,.int .i64 0] 30)).cell? ⟨w.heap.size,0,none⟩=some (.bool false):=by simp [World.cell?_alloc_at]
    have q1:(w.alloc (.cells #[.bool false,.int .i64 0] 30)).cell? ⟨w.heap.size,1,none⟩=some (.int .i64 0):=by simp [World.cell?_alloc_at]
    go_wp2_with fail
    refine ((HK _).out).mono ?_
    rintro e w' ⟨rfl,rfl⟩
    go_wp2_with fail
    refine ((HP _).out).mono ?_
    rintro e w2 ⟨rfl,hb2⟩
    obtain⟨c2,f2⟩:=bcell hb2
    have hz:=hb2.size
    simp at hz
    have hz1:w.heap.size < w2.heap.size:=by omega
    have b2:=Lib.hid (bthen (below_new w _) hb2)
    replace q0:=(c2 w.heap.size 0 (by simp)).trans q0
    replace q1:=(c2 w.heap.size 1 (by simp)).trans q1
    go_wp2_with fail
    obtain⟨p0,p1⟩:=two_cells w2 w.heap.size (.bool false) (.int .i64 (0)) _ _ q0 q1
    refine bodyPost_ret (v:=.tuple #[numV false (0),.int .i64 5]) (by simp [results,Tryz.results170,go_sem,p0,p1]) rfl ⟨rfl,?_⟩
    exact (Below.setCell (Below.setCell b2.out (p:=⟨w.heap.size,0,none⟩) (Nat.le_refl _) _) (p:=⟨w.heap.size,1,none⟩) (Nat.le_refl _) _)
set_option maxRecDepth 8000 in
set_option maxHeartbeats 2000000 in
theorem TakeAngle_ok_N (s d:ByteArray) (lat:Bool) (n:Int) (w:World) (h0:0 < s.size) (HP:∀ W',Hid (Calls Tryz.prog 191 #[.string s,.int .i64 (wide2 lat:Int),.int .i64 (wide2 lat:Int),.int .i64 5] W' fun e w'=>e=.returned (.tuple #[.int .i64 n,.bool true])∧Below W'.heap.size W' w')) (k1:(d.toList==((sidesB lat).extract 0 1).toList)=true) (k2:(d.toList==((sidesB lat).extract 1 2).toList)=false) (hn0:0≤n) (hn:n≤2000000000000000000) (g:n % 10000000 < 6000000) (g2:n / 10000000 * 6000000+n % 10000000≤farI lat) :
    Calls Tryz.prog 170 #[.string s,.string d,.bool lat] w fun e w'=>e=.returned (.tuple #[numV true (n / 10000000 * 6000000+n % 10000000),.int .i64 0])∧Below w.heap.size w w':=by
  obtain⟨hne1,hne2⟩:=nonempty_forms h0
  have hS:(sidesB lat).size=2:=by cases lat <;> rfl
  have HK:=fun W'=>Lib.hid (kind_any lat W')
  generalize sidesB lat=S at *
  cases lat
  all_goals
    have g2':=g2
    unfold farI at g2'
    simp at g2'
    clear g2
    go_enter Tryz.func170,Tryz.ntmps170
    have q0:(w.alloc (.cells #[.bool false,.int .i64 0] 30)).cell? ⟨w.heap.size,0,none⟩=some (.bool false):=by simp [World.cell?_alloc_at]
    have q1:(w.alloc (.cells #[.bool false,.int .i64 0] 30)).cell? ⟨w.heap.size,1,none⟩=some (.int .i64 0):=by simp [World.cell?_alloc_at]
    go_wp2_with fail
    refine ((HK _).out).mono ?_
    rintro e w' ⟨rfl,rfl⟩
    go_wp2_with fail
    refine ((HP _).out).mono ?_
    rintro e w2 ⟨rfl,hb2⟩
    obtain⟨c2,f2⟩:=bcell hb2
    have hz:=hb2.size
    simp at hz
    have hz1:w.heap.size < w2.heap.size:=by omega
    have b2:=Lib.hid (bthen (below_new w _) hb2)
    replace q0:=(c2 w.heap.size 0 (by simp)).trans q0
    replace q1:=(c2 w.heap.size 1 (by simp)).trans q1
    go_wp2_with fail
    obtain⟨p0,p1⟩:=two_cells w2 w.heap.size (.bool true) (.int .i64 (n / 10000000 * 6000000+n % 10000000)) _ _ q0 q1
    refine bodyPost_ret (v:=.tuple #[numV true (n / 10000000 * 6000000+n % 10000000),.int .i64 0]) (by simp [results,Tryz.results170,go_sem,p0,p1]) rfl ⟨rfl,?_⟩
    exact (Below.setCell (Below.setCell b2.out (p:=⟨w.heap.size,0,none⟩) (Nat.le_refl _) _) (p:=⟨w.heap.size,1,none⟩) (Nat.le_refl _) _)
set_option maxRecDepth 8000 in
set_option maxHeartbeats 2000000 in
theorem TakeAngle_ok_S (s d:ByteArray) (lat:Bool) (n:Int) (w:World) (h0:0 < s.size) (HP:∀ W',Hid (Calls Tryz.prog 191 #[.string s,.int .i64 (wide2 lat:Int),.int .i64 (wide2 lat:Int),.int .i64 5] W' fun e w'=>e=.returned (.tuple #[.int .i64 n,.bool true])∧Below W'.heap.size W' w')) (k1:(d.toList==((sidesB lat).extract 0 1).toList)=false) (k2:(d.toList==((sidesB lat).extract 1 2).toList)=true) (hn0:0≤n) (hn:n≤2000000000000000000) (g:n % 10000000 < 6000000) (g2:n / 10000000 * 6000000+n % 10000000≤farI lat) :
    Calls Tryz.prog 170 #[.string s,.string d,.bool lat] w fun e w'=>e=.returned (.tuple #[numV true (-(n / 10000000 * 6000000+n % 10000000)),.int .i64 0])∧Below w.heap.size w w':=by
  obtain⟨hne1,hne2⟩:=nonempty_forms h0
  have hS:(sidesB lat).size=2:=by cases lat <;> rfl
  have HK:=fun W'=>Lib.hid (kind_any lat W')
  generalize sidesB lat=S at *
  cases lat
  all_goals
    have g2':=g2
    unfold farI at g2'
    simp at g2'
    clear g2
    go_enter Tryz.func170,Tryz.ntmps170
    have q0:(w.alloc (.cells #[.bool false,.int .i64 0] 30)).cell? ⟨w.heap.size,0,none⟩=some (.bool false):=by simp [World.cell?_alloc_at]
    have q1:(w.alloc (.cells #[.bool false,.int .i64 0] 30)).cell? ⟨w.heap.size,1,none⟩=some (.int .i64 0):=by simp [World.cell?_alloc_at]
    go_wp2_with fail
    refine ((HK _).out).mono ?_
    rintro e w' ⟨rfl,rfl⟩
    go_wp2_with fail
    refine ((HP _).out).mono ?_
    rintro e w2 ⟨rfl,hb2⟩
    obtain⟨c2,f2⟩:=bcell hb2
    have hz:=hb2.size
    simp at hz
    have hz1:w.heap.size < w2.heap.size:=by omega
    have b2:=Lib.hid (bthen (below_new w _) hb2)
    replace q0:=(c2 w.heap.size 0 (by simp)).trans q0
    replace q1:=(c2 w.heap.size 1 (by simp)).trans q1
    go_wp2_with fail
    obtain⟨p0,p1⟩:=two_cells w2 w.heap.size (.bool true) (.int .i64 (-(n / 10000000 * 6000000+n % 10000000))) _ _ q0 q1
    refine bodyPost_ret (v:=.tuple #[numV true (-(n / 10000000 * 6000000+n % 10000000)),.int .i64 0]) (by simp [results,Tryz.results170,go_sem,p0,p1]) rfl ⟨rfl,?_⟩
    exact (Below.setCell (Below.setCell b2.out (p:=⟨w.heap.size,0,none⟩) (Nat.le_refl _) _) (p:=⟨w.heap.size,1,none⟩) (Nat.le_refl _) _)
end Go.Proofs.YtoabkoniegmkaaaGreat
