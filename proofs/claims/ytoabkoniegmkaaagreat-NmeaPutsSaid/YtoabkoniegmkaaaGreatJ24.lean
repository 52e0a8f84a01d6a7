/- Layer 26: Put. Printed by genrmcp.py. -/
import Derived.Test.YtoabkoniegmkaaaGreatJ23
import Derived.Deep.LoopGhost
import Derived.Test.YtoabkoniegmkaaaGreatJ21
import Derived.Test.YtoabkoniegmkaaaGreatJ22
import Derived.Test.YtoabkoniegmkaaaGreatJ20
namespace Go.Proofs.YtoabkoniegmkaaaGreat
set_option linter.unusedVariables false
open Go.RowKit
abbrev penO (g:Nat):Obj:=.cells #[.pointer (some ⟨g,0,none⟩)] 256
abbrev txtO (a:ByteArray):Obj:=.cells #[.string a] 9
abbrev stepsP (P M A F D:Nat):Array Value:=#[.func (.func 260) #[] #[.pointer (some ⟨P,0,none⟩),.pointer (some ⟨M,0,none⟩)],.func (.func 261) #[] #[.pointer (some ⟨P,0,none⟩),.pointer (some ⟨A,0,none⟩)],.func (.func 262) #[] #[.pointer (some ⟨P,0,none⟩),.pointer (some ⟨M,0,none⟩)],.func (.func 263) #[] #[.pointer (some ⟨P,0,none⟩),.pointer (some ⟨M,0,none⟩)],.func (.func 264) #[] #[.pointer (some ⟨P,0,none⟩),.pointer (some ⟨M,0,none⟩)],.func (.func 265) #[] #[.pointer (some ⟨P,0,none⟩),.pointer (some ⟨M,0,none⟩)],.func (.func 266) #[] #[.pointer (some ⟨P,0,none⟩),.pointer (some ⟨M,0,none⟩)],.func (.func 268) #[] #[.pointer (some ⟨P,0,none⟩),.pointer (some ⟨F,0,none⟩)],.func (.func 269) #[] #[.pointer (some ⟨P,0,none⟩),.pointer (some ⟨D,0,none⟩)]]
set_option maxRecDepth 8000 in
set_option maxHeartbeats 16000000 in
theorem rmcPut_any (cb:Bool) (ch:Int) (cm:Int) (cs:Int) (cc:Int) (st:Bool) (lb:Bool) (ln:Int) (ob:Bool) (on:Int) (sb:Bool) (sn:Int) (kb:Bool) (kn:Int) (vb:Bool) (vn:Int) (db:Bool) (dd:Int) (dm:Int) (dy:Int) (w:World):Calls Tryz.prog 258 #[rmcV cb ch cm cs cc st lb ln ob on sb sn kb kn vb vn db dd dm dy] w (PutPost (putRmc ((cb,ch,cm,cs,cc),st,(lb,ln),(ob,on),(sb,sn),(kb,kn),(db,dd,dm,dy),(vb,vn))) w):=by
  obtain⟨fb,fn,hfar⟩:∃ b n,farN (vb,vn)=(b,n):=⟨_,_,rfl⟩
  obtain⟨sd,hsd⟩:∃ x,sideT (vb,vn)=x:=⟨_,rfl⟩
  obtain⟨s1,e1⟩:∃ s,Hid (wrClk (cb,ch,cm,cs,cc) (0,[])=s):=⟨_,rfl⟩
  obtain⟨s2,e2⟩:∃ s,Hid (wrText (stT st) 0 s1=s):=⟨_,rfl⟩
  obtain⟨s3,e3⟩:∃ s,Hid (wrAng true (lb,ln) s2=s):=⟨_,rfl⟩
  obtain⟨s4,e4⟩:∃ s,Hid (wrAng false (ob,on) s3=s):=⟨_,rfl⟩
  obtain⟨s5,e5⟩:∃ s,Hid (wrNum 1 4 2 0 999999 (sb,sn) s4=s):=⟨_,rfl⟩
  obtain⟨s6,e6⟩:∃ s,Hid (wrNum 1 3 2 0 36000 (kb,kn) s5=s):=⟨_,rfl⟩
  obtain⟨s7,e7⟩:∃ s,Hid (wrDat (db,dd,dm,dy) s6=s):=⟨_,rfl⟩
  obtain⟨s8,e8⟩:∃ s,Hid (wrNum 1 3 1 0 1800 (fb,fn) s7=s):=⟨_,rfl⟩
  obtain⟨s9,e9⟩:∃ s,Hid (wrText sd 0 s8=s):=⟨_,rfl⟩
  have HPUT:Hid (putRmc ((cb,ch,cm,cs,cc),st,(lb,ln),(ob,on),(sb,sn),(kb,kn),(db,dd,dm,dy),(vb,vn))=wrDone s9):=by
    show _=_
    unfold putRmc
    show wrDone (wrText (sideT (vb,vn)) 0 (wrNum 1 3 1 0 1800 (farN (vb,vn)) (wrDat (db,dd,dm,dy) (wrNum 1 3 2 0 36000 (kb,kn) (wrNum 1 4 2 0 999999 (sb,sn) (wrAng false (ob,on) (wrAng true (lb,ln) (wrText (stT st) 0 (wrClk (cb,ch,cm,cs,cc) (0,[]))))))))))=_
    rw [hfar,hsd,e1.out,e2.out,e3.out,e4.out,e5.out,e6.out,e7.out,e8.out,e9.out]
  have l1:s1.2.length≤1:=by rw [← e1.out];unfold wrClk;rw [wrText_len];exact Nat.le_refl _
  have l2:s2.2.length≤2:=by rw [← e2.out];rw [wrText_len];omega
  have l3:s3.2.length≤4:=by rw [← e3.out];rw [wrAng_len];omega
  have l4:s4.2.length≤6:=by rw [← e4.out];rw [wrAng_len];omega
  have l5:s5.2.length≤7:=by rw [← e5.out];rw [wrNum_len];omega
  have l6:s6.2.length≤8:=by rw [← e6.out];rw [wrNum_len];omega
  have l7:s7.2.length≤9:=by rw [← e7.out];unfold wrDat;rw [wrText_len];omega
  have l8:s8.2.length≤10:=by rw [← e8.out];rw [wrNum_len];omega
  have l9:s9.2.length≤11:=by rw [← e9.out];rw [wrText_len];omega
  rw [HPUT.out]
  clear HPUT
  obtain⟨X,hX⟩:∃ X,wrDone s9=X:=⟨_,rfl⟩
  have HX:=Lib.hid hX
  rw [hX]
  clear hX
  have HSD:=fun W=>Lib.hid (rmcsided_any vb vn W)
  rw [hfar,hsd] at HSD
  clear hfar hsd
  have HM0:Hid (∀ o,(w.alloc (.cells (rmcC cb ch cm cs cc st lb ln ob on sb sn kb kn vb vn db dd dm dy) 36)).cell? ⟨w.heap.size,o,none⟩=(rmcC cb ch cm cs cc st lb ln ob on sb sn kb kn vb vn db dd dm dy)[o]?):=fun o=>World.cell?_alloc_at _ _ _ _ rfl
  have HB0:=Lib.hid (below_new w (.cells (rmcC cb ch cm cs cc st lb ln ob on sb sn kb kn vb vn db dd dm dy) 36))
  have HZ0:Hid ((w.alloc (.cells (rmcC cb ch cm cs cc st lb ln ob on sb sn kb kn vb vn db dd dm dy) 36)).heap.size=w.heap.size+1):=by show _=_;simp
  go_enter Tryz.func258,Tryz.ntmps258
  go_wp2_with fail
  generalize hW1:w.alloc (.cells (rmcC cb ch cm cs cc st lb ln ob on sb sn kb kn vb vn db dd dm dy) 36)=W1 at *
  clear hW1
  refine penRow.mono ?_
  rintro r w2 ⟨rfl,hp2,hb2,hz2⟩
  have hz0:=HZ0.out
  have HM2:Hid (∀ o,w2.cell? ⟨w.heap.size,o,none⟩=(rmcC cb ch cm cs cc st lb ln ob on sb sn kb kn vb vn db dd dm dy)[o]?):=fun o=>((bcell hb2).1 _ o (by omega)).trans (HM0.out o)
  have HB2:Hid (Below w.heap.size w w2):=Below.trans HB0.out (hb2.mono (by omega))
  have HP2:=Lib.hid hp2
  have HZ2:Hid (W1.heap.size=w.heap.size+1∧w2.heap.size=W1.heap.size+1):=⟨hz0,hz2⟩
  clear hp2 hb2 hz2 HM0 HB0 HZ0 hz0
  generalize W1.heap.size=g at *
  try dsimp only
  repeat (fail_if_success (show Code.wp _ (Code.seq (Code.region 3 _ _) _) _ _ _)
          first | go_values | go_skip | go_guarded | go_step | go_upon | go_back | (simp only [Int.not_lt,Int.not_le] at *;go_simp) | (go_ite <;> go_prune <;> (try go_simp)))
  go_cut [] (fun wx=>Hid (Below w2.heap.size w2 wx∧wx.heap.size=w2.heap.size+2∧wx.cell? ⟨w2.heap.size,0,none⟩=some (.pointer (some ⟨g,0,none⟩))∧wx.cell? ⟨w2.heap.size+1,0,none⟩=some (.string (stT st))))
  case first=>
    have hbA:=below_new w2 (penO g)
    have m5:((w2.alloc (penO g)).alloc (txtO ⟨#[86]⟩)).cell? ⟨w.heap.size,5,none⟩=some (.bool st):=((bcell (bthen hbA (below_new (w2.alloc (penO g)) (txtO ⟨#[86]⟩)))).1 _ 5 (by have:=HZ2.out;omega)).trans (HM2.out 5)
    have hq:(w2.alloc (penO g)).heap.size=w2.heap.size+1:=by simp
    have h00:∀ (x:ByteArray) (_:Nat),((w2.alloc (penO g)).alloc (txtO x)).cell? ⟨w2.heap.size,0,none⟩=some (.pointer (some ⟨g,0,none⟩)):=fun x (_:Nat)=>(World.cell?_alloc_past _ _ _ (by simp)).trans (World.cell?_alloc_at _ _ _ _ rfl)
    have h01:∀ x,((w2.alloc (penO g)).alloc (txtO x)).cell? ⟨w2.heap.size+1,0,none⟩=some (.string x):=fun x=>World.cell?_alloc_at _ _ _ _ (by simp)
    have HV:Hid (Below w2.heap.size w2 ((w2.alloc (penO g)).alloc (txtO ⟨#[86]⟩))∧((w2.alloc (penO g)).alloc (txtO ⟨#[86]⟩)).heap.size=w2.heap.size+2∧((w2.alloc (penO g)).alloc (txtO ⟨#[86]⟩)).cell? ⟨w2.heap.size,0,none⟩=some (.pointer (some ⟨g,0,none⟩))∧((w2.alloc (penO g)).alloc (txtO ⟨#[86]⟩)).cell? ⟨w2.heap.size+1,0,none⟩=some (.string (stT false))):=
      ⟨bthen hbA (below_new _ _),by simp,h00 _ 0,h01 _⟩
    have HA:Hid (Below w2.heap.size w2 ((w2.alloc (penO g)).alloc (txtO ⟨#[65]⟩))∧((w2.alloc (penO g)).alloc (txtO ⟨#[65]⟩)).heap.size=w2.heap.size+2∧((w2.alloc (penO g)).alloc (txtO ⟨#[65]⟩)).cell? ⟨w2.heap.size,0,none⟩=some (.pointer (some ⟨g,0,none⟩))∧((w2.alloc (penO g)).alloc (txtO ⟨#[65]⟩)).cell? ⟨w2.heap.size+1,0,none⟩=some (.string (stT true))):=
      ⟨bthen hbA (below_new _ _),by simp,h00 _ 0,h01 _⟩
    clear hbA hq h00 h01
    cases st
    · go_wp2_with fail
      go_meet
      exact HV
    · go_wp2_with fail
      go_meet
      exact HA
  case rest=>
  have HC3:=hcut
  clear hcut
  have HM3:Hid (∀ o,wc.cell? ⟨w.heap.size,o,none⟩=(rmcC cb ch cm cs cc st lb ln ob on sb sn kb kn vb vn db dd dm dy)[o]?):=fun o=>((bcell HC3.out.1).1 _ o (by have:=HZ2.out;omega)).trans (HM2.out o)
  have m14:=HM3.out 14
  have m15:=HM3.out 15
  go_wp2_with fail
  refine (HSD _).out.mono ?_
  rintro r w4 ⟨rfl,hb4⟩
  have HB4:=Lib.hid hb4
  clear m14 m15 hb4
  have hz4:=HB4.out.size
  have hz3:=HC3.out.2.1
  have hZ2:=HZ2.out
  have hbF:=below_new w4 (numO fb fn)
  have hbD:=below_new (w4.alloc (numO fb fn)) (txtO sd)
  have hbS:=below_new ((w4.alloc (numO fb fn)).alloc (txtO sd)) (.cells (stepsP w2.heap.size w.heap.size (w2.heap.size+1) w4.heap.size (w4.heap.size+1)) 1)
  have hb6:Below w4.heap.size w4 (((w4.alloc (numO fb fn)).alloc (txtO sd)).alloc (.cells (stepsP w2.heap.size w.heap.size (w2.heap.size+1) w4.heap.size (w4.heap.size+1)) 1)):=bthen (bthen hbF hbD) hbS
  have hzF:(w4.alloc (numO fb fn)).heap.size=w4.heap.size+1:=by simp
  have hzD:((w4.alloc (numO fb fn)).alloc (txtO sd)).heap.size=w4.heap.size+1+1:=by simp
  have hz6:(((w4.alloc (numO fb fn)).alloc (txtO sd)).alloc (.cells (stepsP w2.heap.size w.heap.size (w2.heap.size+1) w4.heap.size (w4.heap.size+1)) 1)).heap.size=w4.heap.size+1+1+1:=by simp
  have HCF:Hid (∀ o,(((w4.alloc (numO fb fn)).alloc (txtO sd)).alloc (.cells (stepsP w2.heap.size w.heap.size (w2.heap.size+1) w4.heap.size (w4.heap.size+1)) 1)).cell? ⟨w4.heap.size,o,none⟩=(#[Value.bool fb,.int .i64 fn]:Array Value)[o]?):=fun o=>(World.cell?_alloc_past _ _ _ (by omega)).trans ((World.cell?_alloc_past _ _ _ (by omega)).trans (World.cell?_alloc_at _ _ _ _ rfl))
  have HCD:Hid ((((w4.alloc (numO fb fn)).alloc (txtO sd)).alloc (.cells (stepsP w2.heap.size w.heap.size (w2.heap.size+1) w4.heap.size (w4.heap.size+1)) 1)).cell? ⟨w4.heap.size+1,0,none⟩=some (.string sd)):=(World.cell?_alloc_past _ _ _ (by omega)).trans (World.cell?_alloc_at _ _ _ _ hzF.symm)
  have HCS:Hid (∀ o,(((w4.alloc (numO fb fn)).alloc (txtO sd)).alloc (.cells (stepsP w2.heap.size w.heap.size (w2.heap.size+1) w4.heap.size (w4.heap.size+1)) 1)).cell? ⟨w4.heap.size+1+1,o,none⟩=(stepsP w2.heap.size w.heap.size (w2.heap.size+1) w4.heap.size (w4.heap.size+1))[o]?):=fun o=>World.cell?_alloc_at _ _ _ _ hzD.symm
  have hb34:=bthen HB4.out hb6
  have HCP:Hid ((((w4.alloc (numO fb fn)).alloc (txtO sd)).alloc (.cells (stepsP w2.heap.size w.heap.size (w2.heap.size+1) w4.heap.size (w4.heap.size+1)) 1)).cell? ⟨w2.heap.size,0,none⟩=some (.pointer (some ⟨g,0,none⟩))):=((bcell hb34).1 _ 0 (by omega)).trans HC3.out.2.2.1
  have HCA:Hid ((((w4.alloc (numO fb fn)).alloc (txtO sd)).alloc (.cells (stepsP w2.heap.size w.heap.size (w2.heap.size+1) w4.heap.size (w4.heap.size+1)) 1)).cell? ⟨w2.heap.size+1,0,none⟩=some (.string (stT st))):=((bcell hb34).1 _ 0 (by omega)).trans HC3.out.2.2.2
  have HCM:Hid (∀ o,(((w4.alloc (numO fb fn)).alloc (txtO sd)).alloc (.cells (stepsP w2.heap.size w.heap.size (w2.heap.size+1) w4.heap.size (w4.heap.size+1)) 1)).cell? ⟨w.heap.size,o,none⟩=(rmcC cb ch cm cs cc st lb ln ob on sb sn kb kn vb vn db dd dm dy)[o]?):=fun o=>((bcell hb34).1 _ o (by omega)).trans (HM3.out o)
  have hpen:=((HP2.out.also HC3.out.1).keep HB4.out).also hb6
  have sM:Hid (Also (Also (fun k=>k < g+1) w2 wc) w4 (((w4.alloc (numO fb fn)).alloc (txtO sd)).alloc (.cells (stepsP w2.heap.size w.heap.size (w2.heap.size+1) w4.heap.size (w4.heap.size+1)) 1)) (w.heap.size)∧w.heap.size≠g):=⟨.inl (.inl (by show _ < _;omega)),by omega⟩
  have sP:Hid (Also (Also (fun k=>k < g+1) w2 wc) w4 (((w4.alloc (numO fb fn)).alloc (txtO sd)).alloc (.cells (stepsP w2.heap.size w.heap.size (w2.heap.size+1) w4.heap.size (w4.heap.size+1)) 1)) (w2.heap.size)∧w2.heap.size≠g):=⟨.inl (.inr ⟨Nat.le_refl _,by omega⟩),by omega⟩
  have sA:Hid (Also (Also (fun k=>k < g+1) w2 wc) w4 (((w4.alloc (numO fb fn)).alloc (txtO sd)).alloc (.cells (stepsP w2.heap.size w.heap.size (w2.heap.size+1) w4.heap.size (w4.heap.size+1)) 1)) (w2.heap.size+1)∧w2.heap.size+1≠g):=⟨.inl (.inr ⟨Nat.le_succ _,by omega⟩),by omega⟩
  have sF:Hid (Also (Also (fun k=>k < g+1) w2 wc) w4 (((w4.alloc (numO fb fn)).alloc (txtO sd)).alloc (.cells (stepsP w2.heap.size w.heap.size (w2.heap.size+1) w4.heap.size (w4.heap.size+1)) 1)) (w4.heap.size)∧w4.heap.size≠g):=⟨.inr ⟨Nat.le_refl _,by omega⟩,by omega⟩
  have sD:Hid (Also (Also (fun k=>k < g+1) w2 wc) w4 (((w4.alloc (numO fb fn)).alloc (txtO sd)).alloc (.cells (stepsP w2.heap.size w.heap.size (w2.heap.size+1) w4.heap.size (w4.heap.size+1)) 1)) (w4.heap.size+1)∧w4.heap.size+1≠g):=⟨.inr ⟨Nat.le_succ _,by omega⟩,by omega⟩
  have sB:Hid (Also (Also (fun k=>k < g+1) w2 wc) w4 (((w4.alloc (numO fb fn)).alloc (txtO sd)).alloc (.cells (stepsP w2.heap.size w.heap.size (w2.heap.size+1) w4.heap.size (w4.heap.size+1)) 1)) (w4.heap.size+1+1)∧w4.heap.size+1+1≠g):=⟨.inr ⟨by omega,by omega⟩,by omega⟩
  have sW:Hid (∀ k,k < w.heap.size→Also (Also (fun k=>k < g+1) w2 wc) w4 (((w4.alloc (numO fb fn)).alloc (txtO sd)).alloc (.cells (stepsP w2.heap.size w.heap.size (w2.heap.size+1) w4.heap.size (w4.heap.size+1)) 1)) k):=fun k hk=>.inl (.inl (by show _ < _;omega))
  have HGW:Hid (w.heap.size≤g):=by show _≤_;omega
  have HB6:Hid (Below w.heap.size w (((w4.alloc (numO fb fn)).alloc (txtO sd)).alloc (.cells (stepsP w2.heap.size w.heap.size (w2.heap.size+1) w4.heap.size (w4.heap.size+1)) 1))):=HB2.out.trans ((HC3.out.1.trans (hb34.mono (by omega))).mono (by omega))
  have HK0:Hid (PenI (Also (Also (fun k=>k < g+1) w2 wc) w4 (((w4.alloc (numO fb fn)).alloc (txtO sd)).alloc (.cells (stepsP w2.heap.size w.heap.size (w2.heap.size+1) w4.heap.size (w4.heap.size+1)) 1))) g (0,[]) (((w4.alloc (numO fb fn)).alloc (txtO sd)).alloc (.cells (stepsP w2.heap.size w.heap.size (w2.heap.size+1) w4.heap.size (w4.heap.size+1)) 1))∧Kept (Also (Also (fun k=>k < g+1) w2 wc) w4 (((w4.alloc (numO fb fn)).alloc (txtO sd)).alloc (.cells (stepsP w2.heap.size w.heap.size (w2.heap.size+1) w4.heap.size (w4.heap.size+1)) 1))) g (((w4.alloc (numO fb fn)).alloc (txtO sd)).alloc (.cells (stepsP w2.heap.size w.heap.size (w2.heap.size+1) w4.heap.size (w4.heap.size+1)) 1)) (((w4.alloc (numO fb fn)).alloc (txtO sd)).alloc (.cells (stepsP w2.heap.size w.heap.size (w2.heap.size+1) w4.heap.size (w4.heap.size+1)) 1))):=⟨hpen,Kept.refl _ _ _⟩
  clear hz4 hz3 hZ2 hbF hbD hbS hb6 hzF hzD hz6 hb34 hpen HP2 HB4 HC3 HM3 HM2 HB2 HZ2 HSD
  go_upto_region 7 with fail
  generalize Also (Also (fun k=>k < g+1) w2 wc) w4 (((w4.alloc (numO fb fn)).alloc (txtO sd)).alloc (.cells (stepsP w2.heap.size w.heap.size (w2.heap.size+1) w4.heap.size (w4.heap.size+1)) 1))=S at *
  generalize (((w4.alloc (numO fb fn)).alloc (txtO sd)).alloc (.cells (stepsP w2.heap.size w.heap.size (w2.heap.size+1) w4.heap.size (w4.heap.size+1)) 1))=W6 at *
  go_wp2_with fail
  refine wp_loop_rounds 10 ?_
  rw [rounds_succ]
  have q:=(HK0.out.2.cell (o:=0) sB.out.1 sB.out.2).trans (HCS.out 0)
  have p0:=(HK0.out.2.cell (o:=0) sP.out.1 sP.out.2).trans HCP.out
  have m0:=(HK0.out.2.cell (o:=0) sM.out.1 sM.out.2).trans (HCM.out 0)
  have m1:=(HK0.out.2.cell (o:=1) sM.out.1 sM.out.2).trans (HCM.out 1)
  have m2:=(HK0.out.2.cell (o:=2) sM.out.1 sM.out.2).trans (HCM.out 2)
  have m3:=(HK0.out.2.cell (o:=3) sM.out.1 sM.out.2).trans (HCM.out 3)
  have m4:=(HK0.out.2.cell (o:=4) sM.out.1 sM.out.2).trans (HCM.out 4)
  go_wp2_with fail
  refine (rmcPut1_any e1 HK0.out.1 (by first | omega | simp) sP sM p0 m0 m1 m2 m3 m4).mono ?_
  rintro r x1 ⟨rfl,hp,hk⟩
  have HK1:Hid (PenI S g s1 x1∧Kept S g W6 x1):=⟨hp,HK0.out.2.trans hk⟩
  clear hp hk HK0 q p0 m0 m1 m2 m3 m4
  go_wp2_with fail
  rw [rounds_succ]
  have q:=(HK1.out.2.cell (o:=1) sB.out.1 sB.out.2).trans (HCS.out 1)
  have p0:=(HK1.out.2.cell (o:=0) sP.out.1 sP.out.2).trans HCP.out
  have m0:=(HK1.out.2.cell (o:=0) sA.out.1 sA.out.2).trans (HCA.out)
  go_wp2_with fail
  refine (rmcPut2_any e2 HK1.out.1 (by first | omega | simp) sP sA p0 m0).mono ?_
  rintro r x2 ⟨rfl,hp,hk⟩
  have HK2:Hid (PenI S g s2 x2∧Kept S g W6 x2):=⟨hp,HK1.out.2.trans hk⟩
  clear hp hk HK1 q p0 m0
  go_wp2_with fail
  rw [rounds_succ]
  have q:=(HK2.out.2.cell (o:=2) sB.out.1 sB.out.2).trans (HCS.out 2)
  have p0:=(HK2.out.2.cell (o:=0) sP.out.1 sP.out.2).trans HCP.out
  have m0:=(HK2.out.2.cell (o:=6) sM.out.1 sM.out.2).trans (HCM.out 6)
  have m1:=(HK2.out.2.cell (o:=7) sM.out.1 sM.out.2).trans (HCM.out 7)
  go_wp2_with fail
  refine (rmcPut3_any e3 HK2.out.1 (by first | omega | simp) sP sM p0 m0 m1).mono ?_
  rintro r x3 ⟨rfl,hp,hk⟩
  have HK3:Hid (PenI S g s3 x3∧Kept S g W6 x3):=⟨hp,HK2.out.2.trans hk⟩
  clear hp hk HK2 q p0 m0 m1
  go_wp2_with fail
  rw [rounds_succ]
  have q:=(HK3.out.2.cell (o:=3) sB.out.1 sB.out.2).trans (HCS.out 3)
  have p0:=(HK3.out.2.cell (o:=0) sP.out.1 sP.out.2).trans HCP.out
  have m0:=(HK3.out.2.cell (o:=8) sM.out.1 sM.out.2).trans (HCM.out 8)
  have m1:=(HK3.out.2.cell (o:=9) sM.out.1 sM.out.2).trans (HCM.out 9)
  go_wp2_with fail
  refine (rmcPut4_any e4 HK3.out.1 (by first | omega | simp) sP sM p0 m0 m1).mono ?_
  rintro r x4 ⟨rfl,hp,hk⟩
  have HK4:Hid (PenI S g s4 x4∧Kept S g W6 x4):=⟨hp,HK3.out.2.trans hk⟩
  clear hp hk HK3 q p0 m0 m1
  go_wp2_with fail
  rw [rounds_succ]
  have q:=(HK4.out.2.cell (o:=4) sB.out.1 sB.out.2).trans (HCS.out 4)
  have p0:=(HK4.out.2.cell (o:=0) sP.out.1 sP.out.2).trans HCP.out
  have m0:=(HK4.out.2.cell (o:=10) sM.out.1 sM.out.2).trans (HCM.out 10)
  have m1:=(HK4.out.2.cell (o:=11) sM.out.1 sM.out.2).trans (HCM.out 11)
  go_wp2_with fail
  refine (rmcPut5_any e5 HK4.out.1 (by first | omega | simp) sP sM p0 m0 m1).mono ?_
  rintro r x5 ⟨rfl,hp,hk⟩
  have HK5:Hid (PenI S g s5 x5∧Kept S g W6 x5):=⟨hp,HK4.out.2.trans hk⟩
  clear hp hk HK4 q p0 m0 m1
  go_wp2_with fail
  rw [rounds_succ]
  have q:=(HK5.out.2.cell (o:=5) sB.out.1 sB.out.2).trans (HCS.out 5)
  have p0:=(HK5.out.2.cell (o:=0) sP.out.1 sP.out.2).trans HCP.out
  have m0:=(HK5.out.2.cell (o:=12) sM.out.1 sM.out.2).trans (HCM.out 12)
  have m1:=(HK5.out.2.cell (o:=13) sM.out.1 sM.out.2).trans (HCM.out 13)
  go_wp2_with fail
  refine (rmcPut6_any e6 HK5.out.1 (by first | omega | simp) sP sM p0 m0 m1).mono ?_
  rintro r x6 ⟨rfl,hp,hk⟩
  have HK6:Hid (PenI S g s6 x6∧Kept S g W6 x6):=⟨hp,HK5.out.2.trans hk⟩
  clear hp hk HK5 q p0 m0 m1
  go_wp2_with fail
  rw [rounds_succ]
  have q:=(HK6.out.2.cell (o:=6) sB.out.1 sB.out.2).trans (HCS.out 6)
  have p0:=(HK6.out.2.cell (o:=0) sP.out.1 sP.out.2).trans HCP.out
  have m0:=(HK6.out.2.cell (o:=16) sM.out.1 sM.out.2).trans (HCM.out 16)
  have m1:=(HK6.out.2.cell (o:=17) sM.out.1 sM.out.2).trans (HCM.out 17)
  have m2:=(HK6.out.2.cell (o:=18) sM.out.1 sM.out.2).trans (HCM.out 18)
  have m3:=(HK6.out.2.cell (o:=19) sM.out.1 sM.out.2).trans (HCM.out 19)
  go_wp2_with fail
  refine (rmcPut7_any e7 HK6.out.1 (by first | omega | simp) sP sM p0 m0 m1 m2 m3).mono ?_
  rintro r x7 ⟨rfl,hp,hk⟩
  have HK7:Hid (PenI S g s7 x7∧Kept S g W6 x7):=⟨hp,HK6.out.2.trans hk⟩
  clear hp hk HK6 q p0 m0 m1 m2 m3
  go_wp2_with fail
  rw [rounds_succ]
  have q:=(HK7.out.2.cell (o:=7) sB.out.1 sB.out.2).trans (HCS.out 7)
  have p0:=(HK7.out.2.cell (o:=0) sP.out.1 sP.out.2).trans HCP.out
  have m0:=(HK7.out.2.cell (o:=0) sF.out.1 sF.out.2).trans (HCF.out 0)
  have m1:=(HK7.out.2.cell (o:=1) sF.out.1 sF.out.2).trans (HCF.out 1)
  go_wp2_with fail
  refine (rmcPut8_any e8 HK7.out.1 (by first | omega | simp) sP sF p0 m0 m1).mono ?_
  rintro r x8 ⟨rfl,hp,hk⟩
  have HK8:Hid (PenI S g s8 x8∧Kept S g W6 x8):=⟨hp,HK7.out.2.trans hk⟩
  clear hp hk HK7 q p0 m0 m1
  go_wp2_with fail
  rw [rounds_succ]
  have q:=(HK8.out.2.cell (o:=8) sB.out.1 sB.out.2).trans (HCS.out 8)
  have p0:=(HK8.out.2.cell (o:=0) sP.out.1 sP.out.2).trans HCP.out
  have m0:=(HK8.out.2.cell (o:=0) sD.out.1 sD.out.2).trans (HCD.out)
  go_wp2_with fail
  refine (rmcPut9_any e9 HK8.out.1 (by first | omega | simp) sP sD p0 m0).mono ?_
  rintro r x9 ⟨rfl,hp,hk⟩
  have HK9:Hid (PenI S g s9 x9∧Kept S g W6 x9):=⟨hp,HK8.out.2.trans hk⟩
  clear hp hk HK8 q p0 m0
  go_wp2_with fail
  rw [rounds_succ]
  have p0:=(HK9.out.2.cell (o:=0) sP.out.1 sP.out.2).trans HCP.out
  have HB9:Hid (Below w.heap.size w _):=HB6.out.trans (HK9.out.2.below HGW.out sW.out)
  go_wp2_with fail
  refine (penDone HK9.out.1 (by omega)).mono ?_
  intro r w7 h7
  have h8:=DonePost.put HB9.out h7
  rw [HX.out] at h8
  obtain⟨v,rfl,h9⟩:=h8
  have H9:=Lib.hid h9
  clear h7 h9
  go_wp2_with fail
  go_ret2
  exact⟨v,rfl,H9.out⟩
theorem text_one (t:ByteArray) (c:UInt8):(t.toList==[c])=decide (t=⟨#[c]⟩):=by
  have l:(⟨#[c]⟩:ByteArray).toList=[c]:=by rw [ByteArray.toList_eq]
  rw [← beq_text,l]
theorem takeN_in {l:List UInt8} {W M F L H:Int} (h:(takeN l W M F L H).1=true):fitsB true (takeN l W M F L H).2.1 L H=true:=by
  unfold takeN at h ⊢
  by_cases h1:rightB W M F L H=false
  · rw [if_pos h1] at h;cases h
  · rw [if_neg h1] at h ⊢
    by_cases h2:l=[]
    · rw [if_pos h2] at h;cases h
    · rw [if_neg h2] at h ⊢
      cases hp:parseN (bodyL l) 1 M.toNat F.toNat with
      | none=>rw [hp] at h;cases h
      | some n=>
        rw [hp] at h
        simp only at h ⊢
        generalize (if negL l=true then -(n:Int) else (n:Int))=x at *
        by_cases hq:fitsB true x L H=true
        · rw [if_pos hq];exact hq
        · rw [if_neg hq] at h;exact absurd h (by simp)
theorem rdNum_in {W M F L H:Int} {s t:Rd} {b:Bool} {n:Int} (h:rdNum W M F L H s=((b,n),t)) (h0:L≤0∧0≤H):L≤n∧n≤H:=by
  cases b with
  | false=>rw [rdNum_is h];exact h0
  | true=>
    have h1:(rdNum W M F L H s).1=(true,n):=by rw [h]
    have h2:(takeN (s.2.headD ByteArray.empty).data.toList W M F L H).1=true:=congrArg Prod.fst h1
    have h3:(takeN (s.2.headD ByteArray.empty).data.toList W M F L H).2.1=n:=congrArg Prod.snd h1
    have:=takeN_in h2
    rw [h3] at this
    exact fitsB_true this
set_option maxRecDepth 8000 in
theorem rmcstatus_any {g:Nat} {s t:Rd} {b:Bool} {w:World} (ht:Hid (rdSt s=(b,t))) (hp:EyeI g s w):Calls Tryz.prog 114 #[.pointer (some ⟨g,0,none⟩)] w (EyeStep g (.bool b) t w):=by
  obtain⟨a,s1,ha⟩:∃ a s1,Hid (rdText s=(a,s1)):=⟨_,_,rfl⟩
  have ht:=ht.out
  unfold rdSt at ht
  rw [ha.out] at ht
  injection ht with e1 e2
  simp only at e1 e2
  have HP:=Lib.hid hp
  clear hp
  by_cases hA:a=⟨#[65]⟩
  · rw [decide_eq_true hA] at e1
    rw [if_neg (fun h=>h.1 hA)] at e2
    subst e1 e2
    have b2:(a.toList==[65])=true:=by rw [text_one];exact decide_eq_true hA
    clear hA
    go_enter Tryz.func114,Tryz.ntmps114
    go_wp2_with fail
    refine (eyeText ha HP.out).mono ?_
    rintro r w1 ⟨rfl,hx,hf⟩
    have HX:=Lib.hid hx
    have HF:=Lib.hid hf
    clear hx hf HP
    go_wp2_with fail
    go_ret
    exact⟨rfl,HX.out,HF.out⟩
  · rw [decide_eq_false hA] at e1
    have b2:(a.toList==[65])=false:=by rw [text_one];exact decide_eq_false hA
    by_cases hV:a=⟨#[86]⟩
    · rw [if_neg (fun h=>h.2 hV)] at e2
      subst e1 e2
      have b3:(a.toList==[86])=true:=by rw [text_one];exact decide_eq_true hV
      clear hA hV
      go_enter Tryz.func114,Tryz.ntmps114
      go_wp2_with fail
      refine (eyeText ha HP.out).mono ?_
      rintro r w1 ⟨rfl,hx,hf⟩
      have HX:=Lib.hid hx
      have HF:=Lib.hid hf
      clear hx hf HP
      go_wp2_with fail
      go_ret
      exact⟨rfl,HX.out,HF.out⟩
    · rw [if_pos ⟨hA,hV⟩] at e2
      subst e1 e2
      have b3:(a.toList==[86])=false:=by rw [text_one];exact decide_eq_false hV
      clear hA hV
      go_enter Tryz.func114,Tryz.ntmps114
      go_wp2_with fail
      refine (eyeText ha HP.out).mono ?_
      rintro r w1 ⟨rfl,hx,hf⟩
      have HX:=Lib.hid hx
      have HF:=Lib.hid hf
      clear hx hf HP
      go_wp2_with fail
      refine (eyeFail rfl HX.out).mono ?_
      rintro r w2 ⟨rfl,hx2,hf2⟩
      have HX2:=Lib.hid hx2
      have HF2:=Lib.hid (HF.out.step hf2)
      clear hx2 hf2
      go_wp2_with fail
      go_ret
      exact⟨rfl,HX2.out,HF2.out⟩
set_option maxRecDepth 8000 in
theorem rmcmode_any {g:Nat} {s t:Rd} {w:World} (ht:Hid (rdMode s=t)) (hp:EyeI g s w):Calls Tryz.prog 126 #[.pointer (some ⟨g,0,none⟩)] w (EyeStep g (.tuple #[]) t w):=by
  have ht:=ht.out
  unfold rdMode at ht
  by_cases h0:s.2=[]
  · rw [if_pos h0] at ht
    subst ht
    have HL:=Lib.hid (eyeLeft hp)
    rw [h0] at HL
    have HP:=Lib.hid hp
    clear hp h0
    go_enter Tryz.func126,Tryz.ntmps126
    go_wp2_with fail
    refine HL.out.mono ?_
    rintro r w1 ⟨rfl,rfl⟩
    go_wp2_with fail
    go_end0
    exact⟨rfl,HP.out,Frm.of_below (Below.refl _ _)⟩
  · rw [if_neg h0] at ht
    obtain⟨a,s1,ha⟩:∃ a s1,Hid (rdText s=(a,s1)):=⟨_,_,rfl⟩
    rw [ha.out] at ht
    simp only at ht
    have HL:=Lib.hid (eyeLeft hp)
    have hlen:0 < s.2.length:=List.length_pos_iff.2 h0
    obtain⟨n,hn⟩:∃ n,s.2.length=n:=⟨_,rfl⟩
    rw [hn] at HL hlen
    have b0:((n:Int)==0)=false:=by rw [beq_eq_false_iff_ne];omega
    have HP:=Lib.hid hp
    clear hp h0 hn hlen
    rcases mode_ways a with ⟨h,h',rfl⟩ | ⟨h',hne,⟨h2,hc⟩ | ⟨hz,h1,⟨h2,hc⟩ | ⟨h2,hc⟩ | ⟨h2,h3,hc⟩⟩⟩
    · rw [if_neg (fun q=>q.1 rfl)] at ht
      subst ht
      clear h h'
      go_enter Tryz.func126,Tryz.ntmps126
      go_wp2_with fail
      refine HL.out.mono ?_
      rintro r w1 ⟨rfl,rfl⟩
      go_wp2_with fail
      refine (eyeText ha HP.out).mono ?_
      rintro r w1 ⟨rfl,hx,hf⟩
      have HX:=Lib.hid hx
      have HF:=Lib.hid hf
      clear hx hf HP
      go_wp2_with fail
      go_end0
      exact⟨rfl,HX.out,HF.out⟩
    · rw [if_pos ⟨hne,hc⟩] at ht
      subst ht
      have i1:(1:Int) < (a.size:Int):=by omega
      clear h' hne hc h2
      go_enter Tryz.func126,Tryz.ntmps126
      go_wp2_with fail
      refine HL.out.mono ?_
      rintro r w1 ⟨rfl,rfl⟩
      go_wp2_with fail
      refine (eyeText ha HP.out).mono ?_
      rintro r w1 ⟨rfl,hx,hf⟩
      have HX:=Lib.hid hx
      have HF:=Lib.hid hf
      clear hx hf HP
      go_wp2_with fail
      refine (eyeFail rfl HX.out).mono ?_
      rintro r w2 ⟨rfl,hx2,hf2⟩
      have HX2:=Lib.hid hx2
      have HF2:=Lib.hid (HF.out.step hf2)
      clear hx2 hf2
      go_wp2_with fail
      go_end0
      exact⟨rfl,HX2.out,HF2.out⟩
    · rw [if_pos ⟨hne,hc⟩] at ht
      subst ht
      have i1:(a.size:Int)≤1:=by omega
      have i2:((a[0].toNat:Nat):Int) < 65:=by omega
      clear hne hc h2 h1
      go_enter Tryz.func126,Tryz.ntmps126
      go_wp2_with fail
      refine HL.out.mono ?_
      rintro r w1 ⟨rfl,rfl⟩
      go_wp2_with fail
      refine (eyeText ha HP.out).mono ?_
      rintro r w1 ⟨rfl,hx,hf⟩
      have HX:=Lib.hid hx
      have HF:=Lib.hid hf
      clear hx hf HP
      go_wp2_with fail
      refine (eyeFail rfl HX.out).mono ?_
      rintro r w2 ⟨rfl,hx2,hf2⟩
      have HX2:=Lib.hid hx2
      have HF2:=Lib.hid (HF.out.step hf2)
      clear hx2 hf2
      go_wp2_with fail
      go_end0
      exact⟨rfl,HX2.out,HF2.out⟩
    · rw [if_pos ⟨hne,hc⟩] at ht
      subst ht
      have i1:(a.size:Int)≤1:=by omega
      have i2:(65:Int)≤((a[0].toNat:Nat):Int):=by omega
      have i3:(90:Int) < ((a[0].toNat:Nat):Int):=by omega
      clear hne hc h2 h1
      go_enter Tryz.func126,Tryz.ntmps126
      go_wp2_with fail
      refine HL.out.mono ?_
      rintro r w1 ⟨rfl,rfl⟩
      go_wp2_with fail
      refine (eyeText ha HP.out).mono ?_
      rintro r w1 ⟨rfl,hx,hf⟩
      have HX:=Lib.hid hx
      have HF:=Lib.hid hf
      clear hx hf HP
      go_wp2_with fail
      refine (eyeFail rfl HX.out).mono ?_
      rintro r w2 ⟨rfl,hx2,hf2⟩
      have HX2:=Lib.hid hx2
      have HF2:=Lib.hid (HF.out.step hf2)
      clear hx2 hf2
      go_wp2_with fail
      go_end0
      exact⟨rfl,HX2.out,HF2.out⟩
    · rw [if_neg (fun q=>by rw [hc] at q;exact absurd q.2 (by simp))] at ht
      subst ht
      have i1:(a.size:Int)≤1:=by omega
      have i2:(65:Int)≤((a[0].toNat:Nat):Int):=by omega
      have i3:((a[0].toNat:Nat):Int)≤90:=by omega
      clear hne hc h2 h3 h1
      go_enter Tryz.func126,Tryz.ntmps126
      go_wp2_with fail
      refine HL.out.mono ?_
      rintro r w1 ⟨rfl,rfl⟩
      go_wp2_with fail
      refine (eyeText ha HP.out).mono ?_
      rintro r w1 ⟨rfl,hx,hf⟩
      have HX:=Lib.hid hx
      have HF:=Lib.hid hf
      clear hx hf HP
      go_wp2_with fail
      go_end0
      exact⟨rfl,HX.out,HF.out⟩
set_option maxRecDepth 8000 in
set_option maxHeartbeats 2000000 in
theorem rmcsigned_trueE {g:Nat} {s s1 s2 t:Rd} {n:Int} {d:ByteArray} {w:World} (h1:Hid (rdNum 1 3 1 0 1800 s=((true,n),s1))) (hd:Hid (rdText s1=(d,s2))) (ht:Hid (s2=t)) (b1:(d.toList==[69])=true) (b2:(d.toList==[87])=false) (b3:d.toList.isEmpty=false) (hw:Hid (IntKind.i64.wrap (-n)=-n)) (hp:EyeI g s w) :
    Calls Tryz.prog 124 #[.pointer (some ⟨g,0,none⟩)] w (EyeStep g (numV true n) t w):=by
  have hb0:=below_new w (numO false 0)
  have HX0:=Lib.hid (hp.keep hb0)
  have HF0:Hid (Frm g nilV w (w.alloc (numO false 0))):=Frm.of_below hb0
  have HZ0:Hid (w.heap.size < (w.alloc (numO false 0)).heap.size∧g < w.heap.size):=⟨by simp,hp.lt⟩
  have HR0:Hid (∀ o,(w.alloc (numO false 0)).cell? ⟨w.heap.size,o,none⟩=(#[Value.bool false,.int .i64 0]:Array Value)[o]?):=fun o=>World.cell?_alloc_at _ _ _ _ rfl
  have HRF:Hid (∀ o,(w.alloc (numO false 0)).frozen? ⟨w.heap.size,o,none⟩=false):=fun o=>by rw [frozen?_alloc_cells];exact frozen_past _ _ _ (Nat.le_refl _)
  clear hb0 hp
  go_enter Tryz.func124,Tryz.ntmps124
  go_wp2_with fail
  generalize hW0:w.alloc (numO false 0)=W0 at *
  clear hW0
  refine (rmcvariation_any _).mono ?_
  rintro r w1 ⟨rfl,hb1⟩
  have HX1:=Lib.hid (HX0.out.keep hb1)
  have HF1:Hid (Frm g nilV W0 w1):=Frm.of_below hb1
  clear hb1
  go_wp2_with fail
  refine (eyeNum h1 HX1.out).mono ?_
  rintro r w2 ⟨rfl,hx2,hf2⟩
  have hbn:=below_new w2 (numO true n)
  have HX2:=Lib.hid (hx2.keep hbn)
  have HF2:Hid (Frm g nilV W0 (w2.alloc (numO true n))):=(HF1.out.step hf2).step (Frm.of_below hbn)
  have HZ2:Hid (W0.heap.size≤w2.heap.size∧w2.heap.size < (w2.alloc (numO true n)).heap.size):=⟨(HF1.out.step hf2).size,by simp⟩
  have HN2:Hid (∀ o,(w2.alloc (numO true n)).cell? ⟨w2.heap.size,o,none⟩=(#[Value.bool true,.int .i64 n]:Array Value)[o]?):=fun o=>World.cell?_alloc_at _ _ _ _ rfl
  have HNF:Hid (∀ o,(w2.alloc (numO true n)).frozen? ⟨w2.heap.size,o,none⟩=false):=fun o=>by rw [frozen?_alloc_cells];exact frozen_past _ _ _ (Nat.le_refl _)
  clear hbn hx2 hf2 HX1 HF1 HX0
  go_upto_region 2 with fail
  generalize hV:w2.alloc (numO true n)=V at *
  generalize w2.heap.size=N at *
  clear hV
  go_wp2_with fail
  refine (eyeText hd HX2.out).mono ?_
  rintro r w3 ⟨rfl,hx3,hf3⟩
  have HX3:=Lib.hid hx3
  have HF3:=Lib.hid (HF2.out.step hf3)
  have n3:∀ o,w3.cell? ⟨N,o,none⟩=(#[Value.bool true,.int .i64 n]:Array Value)[o]?:=fun o=>(frm_cells hf3 HZ2.out.2 (by have:=HZ0.out;have:=HZ2.out;omega) o).trans (HN2.out o)
  have f3:∀ o,w3.frozen? ⟨N,o,none⟩=false:=fun o=>(frm_frozen hf3 HZ2.out.2 (by have:=HZ0.out;have:=HZ2.out;omega) o).trans (HNF.out o)
  have HN3:=Lib.hid n3
  have HNF3:=Lib.hid f3
  have n0:=n3 0
  have n1:=n3 1
  have z1:=f3 1
  have HZ3:Hid (N < w3.heap.size):=Nat.lt_of_lt_of_le HZ2.out.2 hf3.size
  clear hx3 hf3 n3 f3 HX2 HF2
  have ht:=ht.out
  subst ht
  have r0:=(frm_cells HF3.out HZ0.out.1 (by have:=HZ0.out;omega) 0).trans (HR0.out 0)
  have r1:=(frm_cells HF3.out HZ0.out.1 (by have:=HZ0.out;omega) 1).trans (HR0.out 1)
  have q0:=(frm_frozen HF3.out HZ0.out.1 (by have:=HZ0.out;omega) 0).trans (HRF.out 0)
  have q1:=(frm_frozen HF3.out HZ0.out.1 (by have:=HZ0.out;omega) 1).trans (HRF.out 1)
  have HP:=Lib.hid (two_cells w3 w.heap.size (.bool true) (.int .i64 n) _ _ r0 r1)
  go_wp2_with fail
  obtain⟨p0,p1⟩:=HP.out
  have hG:g < w.heap.size:=HZ0.out.2
  refine bodyPost_ret (v:=numV true n) (by simp [results,Tryz.results124,go_sem,p0,p1]) rfl ⟨rfl,(HX3.out.far hG).far hG,?_⟩
  exact ((HF0.out.step HF3.out).put (Nat.le_refl _)).put (Nat.le_refl _)
set_option maxRecDepth 8000 in
set_option maxHeartbeats 2000000 in
theorem rmcsigned_trueW {g:Nat} {s s1 s2 t:Rd} {n:Int} {d:ByteArray} {w:World} (h1:Hid (rdNum 1 3 1 0 1800 s=((true,n),s1))) (hd:Hid (rdText s1=(d,s2))) (ht:Hid (s2=t)) (b1:(d.toList==[69])=false) (b2:(d.toList==[87])=true) (b3:d.toList.isEmpty=false) (hw:Hid (IntKind.i64.wrap (-n)=-n)) (hp:EyeI g s w) :
    Calls Tryz.prog 124 #[.pointer (some ⟨g,0,none⟩)] w (EyeStep g (numV true (-n)) t w):=by
  have hb0:=below_new w (numO false 0)
  have HX0:=Lib.hid (hp.keep hb0)
  have HF0:Hid (Frm g nilV w (w.alloc (numO false 0))):=Frm.of_below hb0
  have HZ0:Hid (w.heap.size < (w.alloc (numO false 0)).heap.size∧g < w.heap.size):=⟨by simp,hp.lt⟩
  have HR0:Hid (∀ o,(w.alloc (numO false 0)).cell? ⟨w.heap.size,o,none⟩=(#[Value.bool false,.int .i64 0]:Array Value)[o]?):=fun o=>World.cell?_alloc_at _ _ _ _ rfl
  have HRF:Hid (∀ o,(w.alloc (numO false 0)).frozen? ⟨w.heap.size,o,none⟩=false):=fun o=>by rw [frozen?_alloc_cells];exact frozen_past _ _ _ (Nat.le_refl _)
  clear hb0 hp
  go_enter Tryz.func124,Tryz.ntmps124
  go_wp2_with fail
  generalize hW0:w.alloc (numO false 0)=W0 at *
  clear hW0
  refine (rmcvariation_any _).mono ?_
  rintro r w1 ⟨rfl,hb1⟩
  have HX1:=Lib.hid (HX0.out.keep hb1)
  have HF1:Hid (Frm g nilV W0 w1):=Frm.of_below hb1
  clear hb1
  go_wp2_with fail
  refine (eyeNum h1 HX1.out).mono ?_
  rintro r w2 ⟨rfl,hx2,hf2⟩
  have hbn:=below_new w2 (numO true n)
  have HX2:=Lib.hid (hx2.keep hbn)
  have HF2:Hid (Frm g nilV W0 (w2.alloc (numO true n))):=(HF1.out.step hf2).step (Frm.of_below hbn)
  have HZ2:Hid (W0.heap.size≤w2.heap.size∧w2.heap.size < (w2.alloc (numO true n)).heap.size):=⟨(HF1.out.step hf2).size,by simp⟩
  have HN2:Hid (∀ o,(w2.alloc (numO true n)).cell? ⟨w2.heap.size,o,none⟩=(#[Value.bool true,.int .i64 n]:Array Value)[o]?):=fun o=>World.cell?_alloc_at _ _ _ _ rfl
  have HNF:Hid (∀ o,(w2.alloc (numO true n)).frozen? ⟨w2.heap.size,o,none⟩=false):=fun o=>by rw [frozen?_alloc_cells];exact frozen_past _ _ _ (Nat.le_refl _)
  clear hbn hx2 hf2 HX1 HF1 HX0
  go_upto_region 2 with fail
  generalize hV:w2.alloc (numO true n)=V at *
  generalize w2.heap.size=N at *
  clear hV
  go_wp2_with fail
  refine (eyeText hd HX2.out).mono ?_
  rintro r w3 ⟨rfl,hx3,hf3⟩
  have HX3:=Lib.hid hx3
  have HF3:=Lib.hid (HF2.out.step hf3)
  have n3:∀ o,w3.cell? ⟨N,o,none⟩=(#[Value.bool true,.int .i64 n]:Array Value)[o]?:=fun o=>(frm_cells hf3 HZ2.out.2 (by have:=HZ0.out;have:=HZ2.out;omega) o).trans (HN2.out o)
  have f3:∀ o,w3.frozen? ⟨N,o,none⟩=false:=fun o=>(frm_frozen hf3 HZ2.out.2 (by have:=HZ0.out;have:=HZ2.out;omega) o).trans (HNF.out o)
  have HN3:=Lib.hid n3
  have HNF3:=Lib.hid f3
  have n0:=n3 0
  have n1:=n3 1
  have z1:=f3 1
  have HZ3:Hid (N < w3.heap.size):=Nat.lt_of_lt_of_le HZ2.out.2 hf3.size
  clear hx3 hf3 n3 f3 HX2 HF2
  have ht:=ht.out
  subst ht
  have r0:=(frm_cells HF3.out HZ0.out.1 (by have:=HZ0.out;omega) 0).trans (HR0.out 0)
  have r1:=(frm_cells HF3.out HZ0.out.1 (by have:=HZ0.out;omega) 1).trans (HR0.out 1)
  have q0:=(frm_frozen HF3.out HZ0.out.1 (by have:=HZ0.out;omega) 0).trans (HRF.out 0)
  have q1:=(frm_frozen HF3.out HZ0.out.1 (by have:=HZ0.out;omega) 1).trans (HRF.out 1)
  have hne:N≠w.heap.size:=by have:=HZ0.out;have:=HZ2.out;omega
  have hne':w.heap.size≠N:=fun q=>hne q.symm
  have y0:(w3.setCell ⟨N,1,none⟩ (.int .i64 (-n))).cell? ⟨w.heap.size,0,none⟩=some (.bool false):=(World.cell?_setCell_other _ _ _ _ (fun q=>by injection q with q;exact hne q)).trans r0
  have y1:(w3.setCell ⟨N,1,none⟩ (.int .i64 (-n))).cell? ⟨w.heap.size,1,none⟩=some (.int .i64 0):=(World.cell?_setCell_other _ _ _ _ (fun q=>by injection q with q;exact hne q)).trans r1
  have HP:=Lib.hid (two_cells (w3.setCell ⟨N,1,none⟩ (.int .i64 (-n))) w.heap.size (.bool true) (.int .i64 (-n)) _ _ y0 y1)
  have hw:=hw.out
  go_wp2_with fail
  obtain⟨p0,p1⟩:=HP.out
  have hG:g < w.heap.size:=HZ0.out.2
  have hN:g < N:=by have:=HZ0.out;have:=HZ2.out;omega
  have hwN:w.heap.size≤N:=by have:=HZ0.out;have:=HZ2.out;omega
  refine bodyPost_ret (v:=numV true (-n)) (by simp [results,Tryz.results124,go_sem,p0,p1]) rfl ⟨rfl,((HX3.out.far hN).far hG).far hG,?_⟩
  exact (((HF0.out.step HF3.out).put hwN).put (Nat.le_refl _)).put (Nat.le_refl _)
set_option maxRecDepth 8000 in
set_option maxHeartbeats 2000000 in
theorem rmcsigned_trueZ {g:Nat} {s s1 s2 t:Rd} {n:Int} {d:ByteArray} {w:World} (h1:Hid (rdNum 1 3 1 0 1800 s=((true,n),s1))) (hd:Hid (rdText s1=(d,s2))) (ht:Hid (rdFail 3 s2=t)) (b1:(d.toList==[69])=false) (b2:(d.toList==[87])=false) (b3:d.toList.isEmpty=true) (hw:Hid (IntKind.i64.wrap (-n)=-n)) (hp:EyeI g s w) :
    Calls Tryz.prog 124 #[.pointer (some ⟨g,0,none⟩)] w (EyeStep g (numV true n) t w):=by
  have hb0:=below_new w (numO false 0)
  have HX0:=Lib.hid (hp.keep hb0)
  have HF0:Hid (Frm g nilV w (w.alloc (numO false 0))):=Frm.of_below hb0
  have HZ0:Hid (w.heap.size < (w.alloc (numO false 0)).heap.size∧g < w.heap.size):=⟨by simp,hp.lt⟩
  have HR0:Hid (∀ o,(w.alloc (numO false 0)).cell? ⟨w.heap.size,o,none⟩=(#[Value.bool false,.int .i64 0]:Array Value)[o]?):=fun o=>World.cell?_alloc_at _ _ _ _ rfl
  have HRF:Hid (∀ o,(w.alloc (numO false 0)).frozen? ⟨w.heap.size,o,none⟩=false):=fun o=>by rw [frozen?_alloc_cells];exact frozen_past _ _ _ (Nat.le_refl _)
  clear hb0 hp
  go_enter Tryz.func124,Tryz.ntmps124
  go_wp2_with fail
  generalize hW0:w.alloc (numO false 0)=W0 at *
  clear hW0
  refine (rmcvariation_any _).mono ?_
  rintro r w1 ⟨rfl,hb1⟩
  have HX1:=Lib.hid (HX0.out.keep hb1)
  have HF1:Hid (Frm g nilV W0 w1):=Frm.of_below hb1
  clear hb1
  go_wp2_with fail
  refine (eyeNum h1 HX1.out).mono ?_
  rintro r w2 ⟨rfl,hx2,hf2⟩
  have hbn:=below_new w2 (numO true n)
  have HX2:=Lib.hid (hx2.keep hbn)
  have HF2:Hid (Frm g nilV W0 (w2.alloc (numO true n))):=(HF1.out.step hf2).step (Frm.of_below hbn)
  have HZ2:Hid (W0.heap.size≤w2.heap.size∧w2.heap.size < (w2.alloc (numO true n)).heap.size):=⟨(HF1.out.step hf2).size,by simp⟩
  have HN2:Hid (∀ o,(w2.alloc (numO true n)).cell? ⟨w2.heap.size,o,none⟩=(#[Value.bool true,.int .i64 n]:Array Value)[o]?):=fun o=>World.cell?_alloc_at _ _ _ _ rfl
  have HNF:Hid (∀ o,(w2.alloc (numO true n)).frozen? ⟨w2.heap.size,o,none⟩=false):=fun o=>by rw [frozen?_alloc_cells];exact frozen_past _ _ _ (Nat.le_refl _)
  clear hbn hx2 hf2 HX1 HF1 HX0
  go_upto_region 2 with fail
  generalize hV:w2.alloc (numO true n)=V at *
  generalize w2.heap.size=N at *
  clear hV
  go_wp2_with fail
  refine (eyeText hd HX2.out).mono ?_
  rintro r w3 ⟨rfl,hx3,hf3⟩
  have HX3:=Lib.hid hx3
  have HF3:=Lib.hid (HF2.out.step hf3)
  have n3:∀ o,w3.cell? ⟨N,o,none⟩=(#[Value.bool true,.int .i64 n]:Array Value)[o]?:=fun o=>(frm_cells hf3 HZ2.out.2 (by have:=HZ0.out;have:=HZ2.out;omega) o).trans (HN2.out o)
  have f3:∀ o,w3.frozen? ⟨N,o,none⟩=false:=fun o=>(frm_frozen hf3 HZ2.out.2 (by have:=HZ0.out;have:=HZ2.out;omega) o).trans (HNF.out o)
  have HN3:=Lib.hid n3
  have HNF3:=Lib.hid f3
  have n0:=n3 0
  have n1:=n3 1
  have z1:=f3 1
  have HZ3:Hid (N < w3.heap.size):=Nat.lt_of_lt_of_le HZ2.out.2 hf3.size
  clear hx3 hf3 n3 f3 HX2 HF2
  go_wp2_with fail
  refine (eyeFail ht HX3.out).mono ?_
  rintro r w4 ⟨rfl,hx4,hf4⟩
  have HX4:=Lib.hid hx4
  have HF4:=Lib.hid (HF3.out.step hf4)
  have m0:=(frm_cells hf4 HZ3.out (by have:=HZ0.out;have:=HZ2.out;omega) 0).trans (HN3.out 0)
  have m1:=(frm_cells hf4 HZ3.out (by have:=HZ0.out;have:=HZ2.out;omega) 1).trans (HN3.out 1)
  have r0:=(frm_cells HF4.out HZ0.out.1 (by have:=HZ0.out;omega) 0).trans (HR0.out 0)
  have r1:=(frm_cells HF4.out HZ0.out.1 (by have:=HZ0.out;omega) 1).trans (HR0.out 1)
  have q0:=(frm_frozen HF4.out HZ0.out.1 (by have:=HZ0.out;omega) 0).trans (HRF.out 0)
  have q1:=(frm_frozen HF4.out HZ0.out.1 (by have:=HZ0.out;omega) 1).trans (HRF.out 1)
  clear hx4 hf4 n0 n1 z1
  have HP:=Lib.hid (two_cells w4 w.heap.size (.bool true) (.int .i64 n) _ _ r0 r1)
  go_wp2_with fail
  obtain⟨p0,p1⟩:=HP.out
  have hG:g < w.heap.size:=HZ0.out.2
  refine bodyPost_ret (v:=numV true n) (by simp [results,Tryz.results124,go_sem,p0,p1]) rfl ⟨rfl,(HX4.out.far hG).far hG,?_⟩
  exact ((HF0.out.step HF4.out).put (Nat.le_refl _)).put (Nat.le_refl _)
set_option maxRecDepth 8000 in
set_option maxHeartbeats 2000000 in
theorem rmcsigned_trueO {g:Nat} {s s1 s2 t:Rd} {n:Int} {d:ByteArray} {w:World} (h1:Hid (rdNum 1 3 1 0 1800 s=((true,n),s1))) (hd:Hid (rdText s1=(d,s2))) (ht:Hid (rdFail 3 s2=t)) (b1:(d.toList==[69])=false) (b2:(d.toList==[87])=false) (b3:d.toList.isEmpty=false) (hw:Hid (IntKind.i64.wrap (-n)=-n)) (hp:EyeI g s w) :
    Calls Tryz.prog 124 #[.pointer (some ⟨g,0,none⟩)] w (EyeStep g (numV true n) t w):=by
  have hb0:=below_new w (numO false 0)
  have HX0:=Lib.hid (hp.keep hb0)
  have HF0:Hid (Frm g nilV w (w.alloc (numO false 0))):=Frm.of_below hb0
  have HZ0:Hid (w.heap.size < (w.alloc (numO false 0)).heap.size∧g < w.heap.size):=⟨by simp,hp.lt⟩
  have HR0:Hid (∀ o,(w.alloc (numO false 0)).cell? ⟨w.heap.size,o,none⟩=(#[Value.bool false,.int .i64 0]:Array Value)[o]?):=fun o=>World.cell?_alloc_at _ _ _ _ rfl
  have HRF:Hid (∀ o,(w.alloc (numO false 0)).frozen? ⟨w.heap.size,o,none⟩=false):=fun o=>by rw [frozen?_alloc_cells];exact frozen_past _ _ _ (Nat.le_refl _)
  clear hb0 hp
  go_enter Tryz.func124,Tryz.ntmps124
  go_wp2_with fail
  generalize hW0:w.alloc (numO false 0)=W0 at *
  clear hW0
  refine (rmcvariation_any _).mono ?_
  rintro r w1 ⟨rfl,hb1⟩
  have HX1:=Lib.hid (HX0.out.keep hb1)
  have HF1:Hid (Frm g nilV W0 w1):=Frm.of_below hb1
  clear hb1
  go_wp2_with fail
  refine (eyeNum h1 HX1.out).mono ?_
  rintro r w2 ⟨rfl,hx2,hf2⟩
  have hbn:=below_new w2 (numO true n)
  have HX2:=Lib.hid (hx2.keep hbn)
  have HF2:Hid (Frm g nilV W0 (w2.alloc (numO true n))):=(HF1.out.step hf2).step (Frm.of_below hbn)
  have HZ2:Hid (W0.heap.size≤w2.heap.size∧w2.heap.size < (w2.alloc (numO true n)).heap.size):=⟨(HF1.out.step hf2).size,by simp⟩
  have HN2:Hid (∀ o,(w2.alloc (numO true n)).cell? ⟨w2.heap.size,o,none⟩=(#[Value.bool true,.int .i64 n]:Array Value)[o]?):=fun o=>World.cell?_alloc_at _ _ _ _ rfl
  have HNF:Hid (∀ o,(w2.alloc (numO true n)).frozen? ⟨w2.heap.size,o,none⟩=false):=fun o=>by rw [frozen?_alloc_cells];exact frozen_past _ _ _ (Nat.le_refl _)
  clear hbn hx2 hf2 HX1 HF1 HX0
  go_upto_region 2 with fail
  generalize hV:w2.alloc (numO true n)=V at *
  generalize w2.heap.size=N at *
  clear hV
  go_wp2_with fail
  refine (eyeText hd HX2.out).mono ?_
  rintro r w3 ⟨rfl,hx3,hf3⟩
  have HX3:=Lib.hid hx3
  have HF3:=Lib.hid (HF2.out.step hf3)
  have n3:∀ o,w3.cell? ⟨N,o,none⟩=(#[Value.bool true,.int .i64 n]:Array Value)[o]?:=fun o=>(frm_cells hf3 HZ2.out.2 (by have:=HZ0.out;have:=HZ2.out;omega) o).trans (HN2.out o)
  have f3:∀ o,w3.frozen? ⟨N,o,none⟩=false:=fun o=>(frm_frozen hf3 HZ2.out.2 (by have:=HZ0.out;have:=HZ2.out;omega) o).trans (HNF.out o)
  have HN3:=Lib.hid n3
  have HNF3:=Lib.hid f3
  have n0:=n3 0
  have n1:=n3 1
  have z1:=f3 1
  have HZ3:Hid (N < w3.heap.size):=Nat.lt_of_lt_of_le HZ2.out.2 hf3.size
  clear hx3 hf3 n3 f3 HX2 HF2
  go_wp2_with fail
  refine (eyeFail ht HX3.out).mono ?_
  rintro r w4 ⟨rfl,hx4,hf4⟩
  have HX4:=Lib.hid hx4
  have HF4:=Lib.hid (HF3.out.step hf4)
  have m0:=(frm_cells hf4 HZ3.out (by have:=HZ0.out;have:=HZ2.out;omega) 0).trans (HN3.out 0)
  have m1:=(frm_cells hf4 HZ3.out (by have:=HZ0.out;have:=HZ2.out;omega) 1).trans (HN3.out 1)
  have r0:=(frm_cells HF4.out HZ0.out.1 (by have:=HZ0.out;omega) 0).trans (HR0.out 0)
  have r1:=(frm_cells HF4.out HZ0.out.1 (by have:=HZ0.out;omega) 1).trans (HR0.out 1)
  have q0:=(frm_frozen HF4.out HZ0.out.1 (by have:=HZ0.out;omega) 0).trans (HRF.out 0)
  have q1:=(frm_frozen HF4.out HZ0.out.1 (by have:=HZ0.out;omega) 1).trans (HRF.out 1)
  clear hx4 hf4 n0 n1 z1
  have HP:=Lib.hid (two_cells w4 w.heap.size (.bool true) (.int .i64 n) _ _ r0 r1)
  go_wp2_with fail
  obtain⟨p0,p1⟩:=HP.out
  have hG:g < w.heap.size:=HZ0.out.2
  refine bodyPost_ret (v:=numV true n) (by simp [results,Tryz.results124,go_sem,p0,p1]) rfl ⟨rfl,(HX4.out.far hG).far hG,?_⟩
  exact ((HF0.out.step HF4.out).put (Nat.le_refl _)).put (Nat.le_refl _)
set_option maxRecDepth 8000 in
set_option maxHeartbeats 2000000 in
theorem rmcsigned_falseE {g:Nat} {s s1 s2 t:Rd} {n:Int} {d:ByteArray} {w:World} (h1:Hid (rdNum 1 3 1 0 1800 s=((false,n),s1))) (hd:Hid (rdText s1=(d,s2))) (ht:Hid (rdFail 3 s2=t)) (b1:(d.toList==[69])=true) (b2:(d.toList==[87])=false) (b3:d.toList.isEmpty=false) (hw:Hid (IntKind.i64.wrap (-n)=-n)) (hp:EyeI g s w) :
    Calls Tryz.prog 124 #[.pointer (some ⟨g,0,none⟩)] w (EyeStep g (numV false n) t w):=by
  have hb0:=below_new w (numO false 0)
  have HX0:=Lib.hid (hp.keep hb0)
  have HF0:Hid (Frm g nilV w (w.alloc (numO false 0))):=Frm.of_below hb0
  have HZ0:Hid (w.heap.size < (w.alloc (numO false 0)).heap.size∧g < w.heap.size):=⟨by simp,hp.lt⟩
  have HR0:Hid (∀ o,(w.alloc (numO false 0)).cell? ⟨w.heap.size,o,none⟩=(#[Value.bool false,.int .i64 0]:Array Value)[o]?):=fun o=>World.cell?_alloc_at _ _ _ _ rfl
  have HRF:Hid (∀ o,(w.alloc (numO false 0)).frozen? ⟨w.heap.size,o,none⟩=false):=fun o=>by rw [frozen?_alloc_cells];exact frozen_past _ _ _ (Nat.le_refl _)
  clear hb0 hp
  go_enter Tryz.func124,Tryz.ntmps124
  go_wp2_with fail
  generalize hW0:w.alloc (numO false 0)=W0 at *
  clear hW0
  refine (rmcvariation_any _).mono ?_
  rintro r w1 ⟨rfl,hb1⟩
  have HX1:=Lib.hid (HX0.out.keep hb1)
  have HF1:Hid (Frm g nilV W0 w1):=Frm.of_below hb1
  clear hb1
  go_wp2_with fail
  refine (eyeNum h1 HX1.out).mono ?_
  rintro r w2 ⟨rfl,hx2,hf2⟩
  have hbn:=below_new w2 (numO false n)
  have HX2:=Lib.hid (hx2.keep hbn)
  have HF2:Hid (Frm g nilV W0 (w2.alloc (numO false n))):=(HF1.out.step hf2).step (Frm.of_below hbn)
  have HZ2:Hid (W0.heap.size≤w2.heap.size∧w2.heap.size < (w2.alloc (numO false n)).heap.size):=⟨(HF1.out.step hf2).size,by simp⟩
  have HN2:Hid (∀ o,(w2.alloc (numO false n)).cell? ⟨w2.heap.size,o,none⟩=(#[Value.bool false,.int .i64 n]:Array Value)[o]?):=fun o=>World.cell?_alloc_at _ _ _ _ rfl
  have HNF:Hid (∀ o,(w2.alloc (numO false n)).frozen? ⟨w2.heap.size,o,none⟩=false):=fun o=>by rw [frozen?_alloc_cells];exact frozen_past _ _ _ (Nat.le_refl _)
  clear hbn hx2 hf2 HX1 HF1 HX0
  go_upto_region 2 with fail
  generalize hV:w2.alloc (numO false n)=V at *
  generalize w2.heap.size=N at *
  clear hV
  go_wp2_with fail
  refine (eyeText hd HX2.out).mono ?_
  rintro r w3 ⟨rfl,hx3,hf3⟩
  have HX3:=Lib.hid hx3
  have HF3:=Lib.hid (HF2.out.step hf3)
  have n3:∀ o,w3.cell? ⟨N,o,none⟩=(#[Value.bool false,.int .i64 n]:Array Value)[o]?:=fun o=>(frm_cells hf3 HZ2.out.2 (by have:=HZ0.out;have:=HZ2.out;omega) o).trans (HN2.out o)
  have f3:∀ o,w3.frozen? ⟨N,o,none⟩=false:=fun o=>(frm_frozen hf3 HZ2.out.2 (by have:=HZ0.out;have:=HZ2.out;omega) o).trans (HNF.out o)
  have HN3:=Lib.hid n3
  have HNF3:=Lib.hid f3
  have n0:=n3 0
  have n1:=n3 1
  have z1:=f3 1
  have HZ3:Hid (N < w3.heap.size):=Nat.lt_of_lt_of_le HZ2.out.2 hf3.size
  clear hx3 hf3 n3 f3 HX2 HF2
  go_wp2_with fail
  refine (eyeFail ht HX3.out).mono ?_
  rintro r w4 ⟨rfl,hx4,hf4⟩
  have HX4:=Lib.hid hx4
  have HF4:=Lib.hid (HF3.out.step hf4)
  have m0:=(frm_cells hf4 HZ3.out (by have:=HZ0.out;have:=HZ2.out;omega) 0).trans (HN3.out 0)
  have m1:=(frm_cells hf4 HZ3.out (by have:=HZ0.out;have:=HZ2.out;omega) 1).trans (HN3.out 1)
  have r0:=(frm_cells HF4.out HZ0.out.1 (by have:=HZ0.out;omega) 0).trans (HR0.out 0)
  have r1:=(frm_cells HF4.out HZ0.out.1 (by have:=HZ0.out;omega) 1).trans (HR0.out 1)
  have q0:=(frm_frozen HF4.out HZ0.out.1 (by have:=HZ0.out;omega) 0).trans (HRF.out 0)
  have q1:=(frm_frozen HF4.out HZ0.out.1 (by have:=HZ0.out;omega) 1).trans (HRF.out 1)
  clear hx4 hf4 n0 n1 z1
  have HP:=Lib.hid (two_cells w4 w.heap.size (.bool false) (.int .i64 n) _ _ r0 r1)
  go_wp2_with fail
  obtain⟨p0,p1⟩:=HP.out
  have hG:g < w.heap.size:=HZ0.out.2
  refine bodyPost_ret (v:=numV false n) (by simp [results,Tryz.results124,go_sem,p0,p1]) rfl ⟨rfl,(HX4.out.far hG).far hG,?_⟩
  exact ((HF0.out.step HF4.out).put (Nat.le_refl _)).put (Nat.le_refl _)
set_option maxRecDepth 8000 in
set_option maxHeartbeats 2000000 in
theorem rmcsigned_falseW {g:Nat} {s s1 s2 t:Rd} {n:Int} {d:ByteArray} {w:World} (h1:Hid (rdNum 1 3 1 0 1800 s=((false,n),s1))) (hd:Hid (rdText s1=(d,s2))) (ht:Hid (rdFail 3 s2=t)) (b1:(d.toList==[69])=false) (b2:(d.toList==[87])=true) (b3:d.toList.isEmpty=false) (hw:Hid (IntKind.i64.wrap (-n)=-n)) (hp:EyeI g s w) :
    Calls Tryz.prog 124 #[.pointer (some ⟨g,0,none⟩)] w (EyeStep g (numV false n) t w):=by
  have hb0:=below_new w (numO false 0)
  have HX0:=Lib.hid (hp.keep hb0)
  have HF0:Hid (Frm g nilV w (w.alloc (numO false 0))):=Frm.of_below hb0
  have HZ0:Hid (w.heap.size < (w.alloc (numO false 0)).heap.size∧g < w.heap.size):=⟨by simp,hp.lt⟩
  have HR0:Hid (∀ o,(w.alloc (numO false 0)).cell? ⟨w.heap.size,o,none⟩=(#[Value.bool false,.int .i64 0]:Array Value)[o]?):=fun o=>World.cell?_alloc_at _ _ _ _ rfl
  have HRF:Hid (∀ o,(w.alloc (numO false 0)).frozen? ⟨w.heap.size,o,none⟩=false):=fun o=>by rw [frozen?_alloc_cells];exact frozen_past _ _ _ (Nat.le_refl _)
  clear hb0 hp
  go_enter Tryz.func124,Tryz.ntmps124
  go_wp2_with fail
  generalize hW0:w.alloc (numO false 0)=W0 at *
  clear hW0
  refine (rmcvariation_any _).mono ?_
  rintro r w1 ⟨rfl,hb1⟩
  have HX1:=Lib.hid (HX0.out.keep hb1)
  have HF1:Hid (Frm g nilV W0 w1):=Frm.of_below hb1
  clear hb1
  go_wp2_with fail
  refine (eyeNum h1 HX1.out).mono ?_
  rintro r w2 ⟨rfl,hx2,hf2⟩
  have hbn:=below_new w2 (numO false n)
  have HX2:=Lib.hid (hx2.keep hbn)
  have HF2:Hid (Frm g nilV W0 (w2.alloc (numO false n))):=(HF1.out.step hf2).step (Frm.of_below hbn)
  have HZ2:Hid (W0.heap.size≤w2.heap.size∧w2.heap.size < (w2.alloc (numO false n)).heap.size):=⟨(HF1.out.step hf2).size,by simp⟩
  have HN2:Hid (∀ o,(w2.alloc (numO false n)).cell? ⟨w2.heap.size,o,none⟩=(#[Value.bool false,.int .i64 n]:Array Value)[o]?):=fun o=>World.cell?_alloc_at _ _ _ _ rfl
  have HNF:Hid (∀ o,(w2.alloc (numO false n)).frozen? ⟨w2.heap.size,o,none⟩=false):=fun o=>by rw [frozen?_alloc_cells];exact frozen_past _ _ _ (Nat.le_refl _)
  clear hbn hx2 hf2 HX1 HF1 HX0
  go_upto_region 2 with fail
  generalize hV:w2.alloc (numO false n)=V at *
  generalize w2.heap.size=N at *
  clear hV
  go_wp2_with fail
  refine (eyeText hd HX2.out).mono ?_
  rintro r w3 ⟨rfl,hx3,hf3⟩
  have HX3:=Lib.hid hx3
  have HF3:=Lib.hid (HF2.out.step hf3)
  have n3:∀ o,w3.cell? ⟨N,o,none⟩=(#[Value.bool false,.int .i64 n]:Array Value)[o]?:=fun o=>(frm_cells hf3 HZ2.out.2 (by have:=HZ0.out;have:=HZ2.out;omega) o).trans (HN2.out o)
  have f3:∀ o,w3.frozen? ⟨N,o,none⟩=false:=fun o=>(frm_frozen hf3 HZ2.out.2 (by have:=HZ0.out;have:=HZ2.out;omega) o).trans (HNF.out o)
  have HN3:=Lib.hid n3
  have HNF3:=Lib.hid f3
  have n0:=n3 0
  have n1:=n3 1
  have z1:=f3 1
  have HZ3:Hid (N < w3.heap.size):=Nat.lt_of_lt_of_le HZ2.out.2 hf3.size
  clear hx3 hf3 n3 f3 HX2 HF2
  go_wp2_with fail
  refine (eyeFail ht HX3.out).mono ?_
  rintro r w4 ⟨rfl,hx4,hf4⟩
  have HX4:=Lib.hid hx4
  have HF4:=Lib.hid (HF3.out.step hf4)
  have m0:=(frm_cells hf4 HZ3.out (by have:=HZ0.out;have:=HZ2.out;omega) 0).trans (HN3.out 0)
  have m1:=(frm_cells hf4 HZ3.out (by have:=HZ0.out;have:=HZ2.out;omega) 1).trans (HN3.out 1)
  have r0:=(frm_cells HF4.out HZ0.out.1 (by have:=HZ0.out;omega) 0).trans (HR0.out 0)
  have r1:=(frm_cells HF4.out HZ0.out.1 (by have:=HZ0.out;omega) 1).trans (HR0.out 1)
  have q0:=(frm_frozen HF4.out HZ0.out.1 (by have:=HZ0.out;omega) 0).trans (HRF.out 0)
  have q1:=(frm_frozen HF4.out HZ0.out.1 (by have:=HZ0.out;omega) 1).trans (HRF.out 1)
  clear hx4 hf4 n0 n1 z1
  have HP:=Lib.hid (two_cells w4 w.heap.size (.bool false) (.int .i64 n) _ _ r0 r1)
  go_wp2_with fail
  obtain⟨p0,p1⟩:=HP.out
  have hG:g < w.heap.size:=HZ0.out.2
  refine bodyPost_ret (v:=numV false n) (by simp [results,Tryz.results124,go_sem,p0,p1]) rfl ⟨rfl,(HX4.out.far hG).far hG,?_⟩
  exact ((HF0.out.step HF4.out).put (Nat.le_refl _)).put (Nat.le_refl _)
set_option maxRecDepth 8000 in
set_option maxHeartbeats 2000000 in
theorem rmcsigned_falseZ {g:Nat} {s s1 s2 t:Rd} {n:Int} {d:ByteArray} {w:World} (h1:Hid (rdNum 1 3 1 0 1800 s=((false,n),s1))) (hd:Hid (rdText s1=(d,s2))) (ht:Hid (s2=t)) (b1:(d.toList==[69])=false) (b2:(d.toList==[87])=false) (b3:d.toList.isEmpty=true) (hw:Hid (IntKind.i64.wrap (-n)=-n)) (hp:EyeI g s w) :
    Calls Tryz.prog 124 #[.pointer (some ⟨g,0,none⟩)] w (EyeStep g (numV false n) t w):=by
  have hb0:=below_new w (numO false 0)
  have HX0:=Lib.hid (hp.keep hb0)
  have HF0:Hid (Frm g nilV w (w.alloc (numO false 0))):=Frm.of_below hb0
  have HZ0:Hid (w.heap.size < (w.alloc (numO false 0)).heap.size∧g < w.heap.size):=⟨by simp,hp.lt⟩
  have HR0:Hid (∀ o,(w.alloc (numO false 0)).cell? ⟨w.heap.size,o,none⟩=(#[Value.bool false,.int .i64 0]:Array Value)[o]?):=fun o=>World.cell?_alloc_at _ _ _ _ rfl
  have HRF:Hid (∀ o,(w.alloc (numO false 0)).frozen? ⟨w.heap.size,o,none⟩=false):=fun o=>by rw [frozen?_alloc_cells];exact frozen_past _ _ _ (Nat.le_refl _)
  clear hb0 hp
  go_enter Tryz.func124,Tryz.ntmps124
  go_wp2_with fail
  generalize hW0:w.alloc (numO false 0)=W0 at *
  clear hW0
  refine (rmcvariation_any _).mono ?_
  rintro r w1 ⟨rfl,hb1⟩
  have HX1:=Lib.hid (HX0.out.keep hb1)
  have HF1:Hid (Frm g nilV W0 w1):=Frm.of_below hb1
  clear hb1
  go_wp2_with fail
  refine (eyeNum h1 HX1.out).mono ?_
  rintro r w2 ⟨rfl,hx2,hf2⟩
  have hbn:=below_new w2 (numO false n)
  have HX2:=Lib.hid (hx2.keep hbn)
  have HF2:Hid (Frm g nilV W0 (w2.alloc (numO false n))):=(HF1.out.step hf2).step (Frm.of_below hbn)
  have HZ2:Hid (W0.heap.size≤w2.heap.size∧w2.heap.size < (w2.alloc (numO false n)).heap.size):=⟨(HF1.out.step hf2).size,by simp⟩
  have HN2:Hid (∀ o,(w2.alloc (numO false n)).cell? ⟨w2.heap.size,o,none⟩=(#[Value.bool false,.int .i64 n]:Array Value)[o]?):=fun o=>World.cell?_alloc_at _ _ _ _ rfl
  have HNF:Hid (∀ o,(w2.alloc (numO false n)).frozen? ⟨w2.heap.size,o,none⟩=false):=fun o=>by rw [frozen?_alloc_cells];exact frozen_past _ _ _ (Nat.le_refl _)
  clear hbn hx2 hf2 HX1 HF1 HX0
  go_upto_region 2 with fail
  generalize hV:w2.alloc (numO false n)=V at *
  generalize w2.heap.size=N at *
  clear hV
  go_wp2_with fail
  refine (eyeText hd HX2.out).mono ?_
  rintro r w3 ⟨rfl,hx3,hf3⟩
  have HX3:=Lib.hid hx3
  have HF3:=Lib.hid (HF2.out.step hf3)
  have n3:∀ o,w3.cell? ⟨N,o,none⟩=(#[Value.bool false,.int .i64 n]:Array Value)[o]?:=fun o=>(frm_cells hf3 HZ2.out.2 (by have:=HZ0.out;have:=HZ2.out;omega) o).trans (HN2.out o)
  have f3:∀ o,w3.frozen? ⟨N,o,none⟩=false:=fun o=>(frm_frozen hf3 HZ2.out.2 (by have:=HZ0.out;have:=HZ2.out;omega) o).trans (HNF.out o)
  have HN3:=Lib.hid n3
  have HNF3:=Lib.hid f3
  have n0:=n3 0
  have n1:=n3 1
  have z1:=f3 1
  have HZ3:Hid (N < w3.heap.size):=Nat.lt_of_lt_of_le HZ2.out.2 hf3.size
  clear hx3 hf3 n3 f3 HX2 HF2
  have ht:=ht.out
  subst ht
  have r0:=(frm_cells HF3.out HZ0.out.1 (by have:=HZ0.out;omega) 0).trans (HR0.out 0)
  have r1:=(frm_cells HF3.out HZ0.out.1 (by have:=HZ0.out;omega) 1).trans (HR0.out 1)
  have q0:=(frm_frozen HF3.out HZ0.out.1 (by have:=HZ0.out;omega) 0).trans (HRF.out 0)
  have q1:=(frm_frozen HF3.out HZ0.out.1 (by have:=HZ0.out;omega) 1).trans (HRF.out 1)
  have HP:=Lib.hid (two_cells w3 w.heap.size (.bool false) (.int .i64 n) _ _ r0 r1)
  go_wp2_with fail
  obtain⟨p0,p1⟩:=HP.out
  have hG:g < w.heap.size:=HZ0.out.2
  refine bodyPost_ret (v:=numV false n) (by simp [results,Tryz.results124,go_sem,p0,p1]) rfl ⟨rfl,(HX3.out.far hG).far hG,?_⟩
  exact ((HF0.out.step HF3.out).put (Nat.le_refl _)).put (Nat.le_refl _)
set_option maxRecDepth 8000 in
set_option maxHeartbeats 2000000 in
theorem rmcsigned_falseO {g:Nat} {s s1 s2 t:Rd} {n:Int} {d:ByteArray} {w:World} (h1:Hid (rdNum 1 3 1 0 1800 s=((false,n),s1))) (hd:Hid (rdText s1=(d,s2))) (ht:Hid (rdFail 3 s2=t)) (b1:(d.toList==[69])=false) (b2:(d.toList==[87])=false) (b3:d.toList.isEmpty=false) (hw:Hid (IntKind.i64.wrap (-n)=-n)) (hp:EyeI g s w) :
    Calls Tryz.prog 124 #[.pointer (some ⟨g,0,none⟩)] w (EyeStep g (numV false n) t w):=by
  have hb0:=below_new w (numO false 0)
  have HX0:=Lib.hid (hp.keep hb0)
  have HF0:Hid (Frm g nilV w (w.alloc (numO false 0))):=Frm.of_below hb0
  have HZ0:Hid (w.heap.size < (w.alloc (numO false 0)).heap.size∧g < w.heap.size):=⟨by simp,hp.lt⟩
  have HR0:Hid (∀ o,(w.alloc (numO false 0)).cell? ⟨w.heap.size,o,none⟩=(#[Value.bool false,.int .i64 0]:Array Value)[o]?):=fun o=>World.cell?_alloc_at _ _ _ _ rfl
  have HRF:Hid (∀ o,(w.alloc (numO false 0)).frozen? ⟨w.heap.size,o,none⟩=false):=fun o=>by rw [frozen?_alloc_cells];exact frozen_past _ _ _ (Nat.le_refl _)
  clear hb0 hp
  go_enter Tryz.func124,Tryz.ntmps124
  go_wp2_with fail
  generalize hW0:w.alloc (numO false 0)=W0 at *
  clear hW0
  refine (rmcvariation_any _).mono ?_
  rintro r w1 ⟨rfl,hb1⟩
  have HX1:=Lib.hid (HX0.out.keep hb1)
  have HF1:Hid (Frm g nilV W0 w1):=Frm.of_below hb1
  clear hb1
  go_wp2_with fail
  refine (eyeNum h1 HX1.out).mono ?_
  rintro r w2 ⟨rfl,hx2,hf2⟩
  have hbn:=below_new w2 (numO false n)
  have HX2:=Lib.hid (hx2.keep hbn)
  have HF2:Hid (Frm g nilV W0 (w2.alloc (numO false n))):=(HF1.out.step hf2).step (Frm.of_below hbn)
  have HZ2:Hid (W0.heap.size≤w2.heap.size∧w2.heap.size < (w2.alloc (numO false n)).heap.size):=⟨(HF1.out.step hf2).size,by simp⟩
  have HN2:Hid (∀ o,(w2.alloc (numO false n)).cell? ⟨w2.heap.size,o,none⟩=(#[Value.bool false,.int .i64 n]:Array Value)[o]?):=fun o=>World.cell?_alloc_at _ _ _ _ rfl
  have HNF:Hid (∀ o,(w2.alloc (numO false n)).frozen? ⟨w2.heap.size,o,none⟩=false):=fun o=>by rw [frozen?_alloc_cells];exact frozen_past _ _ _ (Nat.le_refl _)
  clear hbn hx2 hf2 HX1 HF1 HX0
  go_upto_region 2 with fail
  generalize hV:w2.alloc (numO false n)=V at *
  generalize w2.heap.size=N at *
  clear hV
  go_wp2_with fail
  refine (eyeText hd HX2.out).mono ?_
  rintro r w3 ⟨rfl,hx3,hf3⟩
  have HX3:=Lib.hid hx3
  have HF3:=Lib.hid (HF2.out.step hf3)
  have n3:∀ o,w3.cell? ⟨N,o,none⟩=(#[Value.bool false,.int .i64 n]:Array Value)[o]?:=fun o=>(frm_cells hf3 HZ2.out.2 (by have:=HZ0.out;have:=HZ2.out;omega) o).trans (HN2.out o)
  have f3:∀ o,w3.frozen? ⟨N,o,none⟩=false:=fun o=>(frm_frozen hf3 HZ2.out.2 (by have:=HZ0.out;have:=HZ2.out;omega) o).trans (HNF.out o)
  have HN3:=Lib.hid n3
  have HNF3:=Lib.hid f3
  have n0:=n3 0
  have n1:=n3 1
  have z1:=f3 1
  have HZ3:Hid (N < w3.heap.size):=Nat.lt_of_lt_of_le HZ2.out.2 hf3.size
  clear hx3 hf3 n3 f3 HX2 HF2
  go_wp2_with fail
  refine (eyeFail ht HX3.out).mono ?_
  rintro r w4 ⟨rfl,hx4,hf4⟩
  have HX4:=Lib.hid hx4
  have HF4:=Lib.hid (HF3.out.step hf4)
  have m0:=(frm_cells hf4 HZ3.out (by have:=HZ0.out;have:=HZ2.out;omega) 0).trans (HN3.out 0)
  have m1:=(frm_cells hf4 HZ3.out (by have:=HZ0.out;have:=HZ2.out;omega) 1).trans (HN3.out 1)
  have r0:=(frm_cells HF4.out HZ0.out.1 (by have:=HZ0.out;omega) 0).trans (HR0.out 0)
  have r1:=(frm_cells HF4.out HZ0.out.1 (by have:=HZ0.out;omega) 1).trans (HR0.out 1)
  have q0:=(frm_frozen HF4.out HZ0.out.1 (by have:=HZ0.out;omega) 0).trans (HRF.out 0)
  have q1:=(frm_frozen HF4.out HZ0.out.1 (by have:=HZ0.out;omega) 1).trans (HRF.out 1)
  clear hx4 hf4 n0 n1 z1
  have HP:=Lib.hid (two_cells w4 w.heap.size (.bool false) (.int .i64 n) _ _ r0 r1)
  go_wp2_with fail
  obtain⟨p0,p1⟩:=HP.out
  have hG:g < w.heap.size:=HZ0.out.2
  refine bodyPost_ret (v:=numV false n) (by simp [results,Tryz.results124,go_sem,p0,p1]) rfl ⟨rfl,(HX4.out.far hG).far hG,?_⟩
  exact ((HF0.out.step HF4.out).put (Nat.le_refl _)).put (Nat.le_refl _)
set_option linter.unusedSimpArgs false
theorem rmcsigned_any {g:Nat} {s t:Rd} {b:Bool} {n:Int} {w:World} (ht:Hid (rdVar s=((b,n),t))) (hp:EyeI g s w):Calls Tryz.prog 124 #[.pointer (some ⟨g,0,none⟩)] w (EyeStep g (numV b n) t w):=by
  obtain⟨b0,n0,s1,h1⟩:∃ b n u,Hid (rdNum 1 3 1 0 1800 s=((b,n),u)):=⟨_,_,_,rfl⟩
  obtain⟨d,s2,hd⟩:∃ d u,Hid (rdText s1=(d,u)):=⟨_,_,rfl⟩
  have ht:=ht.out
  unfold rdVar at ht
  rw [h1.out] at ht
  simp only at ht
  rw [hd.out] at ht
  simp only at ht
  have hin:=rdNum_in h1.out ⟨by omega,by omega⟩
  have hw:Hid (IntKind.i64.wrap (-n0)=-n0):=IntWalk.i64_in _ (by omega)
  have hE:(d.toList==[69])=decide (d=eT):=text_one d 69
  have hW:(d.toList==[87])=decide (d=wT):=text_one d 87
  have hZ:=isEmpty_text d
  have nEW:¬ eT=wT:=by decide
  have nEZ:¬ eT=ByteArray.empty:=by decide
  have nWZ:¬ wT=ByteArray.empty:=by decide
  have nWE:¬ wT=eT:=by decide
  have nZE:¬ ByteArray.empty=eT:=by decide
  have nZW:¬ ByteArray.empty=wT:=by decide
  unfold sidedR at ht
  by_cases dE:d=eT
  · subst dE
    simp only [nEW,nEZ,decide_true,decide_false] at hE hW hZ
    cases b0
    · rw [if_pos (.inr ⟨rfl,nEZ⟩)] at ht
      injection ht with e1 e2
      injection e1 with e1 e3
      subst e1 e3
      exact rmcsigned_falseE h1 hd e2 hE hW hZ hw hp
    · rw [if_neg (by simp [nEW]),if_neg nEW] at ht
      injection ht with e1 e2
      injection e1 with e1 e3
      subst e1 e3
      exact rmcsigned_trueE h1 hd e2 hE hW hZ hw hp
  by_cases dW:d=wT
  · subst dW
    simp only [nWE,nWZ,decide_true,decide_false] at hE hW hZ
    cases b0
    · rw [if_pos (.inr ⟨rfl,nWZ⟩)] at ht
      injection ht with e1 e2
      injection e1 with e1 e3
      subst e1 e3
      exact rmcsigned_falseW h1 hd e2 hE hW hZ hw hp
    · rw [if_neg (by simp),if_pos rfl] at ht
      injection ht with e1 e2
      injection e1 with e1 e3
      subst e1 e3
      exact rmcsigned_trueW h1 hd e2 hE hW hZ hw hp
  rw [decide_eq_false dE] at hE
  rw [decide_eq_false dW] at hW
  by_cases dZ:d=ByteArray.empty
  · rw [decide_eq_true dZ] at hZ
    cases b0
    · rw [if_neg (by rw [dZ];simp),if_neg dW] at ht
      injection ht with e1 e2
      injection e1 with e1 e3
      subst e1 e3
      exact rmcsigned_falseZ h1 hd e2 hE hW hZ hw hp
    · rw [if_pos (.inl ⟨rfl,dE,dW⟩)] at ht
      injection ht with e1 e2
      injection e1 with e1 e3
      subst e1 e3
      exact rmcsigned_trueZ h1 hd e2 hE hW hZ hw hp
  · rw [decide_eq_false dZ] at hZ
    cases b0
    · rw [if_pos (.inr ⟨rfl,dZ⟩)] at ht
      injection ht with e1 e2
      injection e1 with e1 e3
      subst e1 e3
      exact rmcsigned_falseO h1 hd e2 hE hW hZ hw hp
    · rw [if_pos (.inl ⟨rfl,dE,dW⟩)] at ht
      injection ht with e1 e2
      injection e1 with e1 e3
      subst e1 e3
      exact rmcsigned_trueO h1 hd e2 hE hW hZ hw hp
set_option maxRecDepth 8000 in
theorem rmcnoted_any {g P:Nat} {s t:Rd} {E:Int} {w:World} (ht:Hid (rdFail E s=t)) (hp:EyeI g s w) (p0:w.cell? ⟨P,0,none⟩=some (.pointer (some ⟨g,0,none⟩))):Calls Tryz.prog 108 #[.int .i64 E,.pointer (some ⟨P,0,none⟩)] w (EyeStep g (.tuple #[]) t w):=by
  have HP:=Lib.hid hp
  clear hp
  go_enter Tryz.func108,Tryz.ntmps108
  go_wp2_with fail
  refine (eyeFail ht HP.out).mono ?_
  rintro r w1 ⟨rfl,hx,hf⟩
  have HX:=Lib.hid (And.intro hx hf)
  clear hx hf
  go_wp2_with fail
  go_end0
  exact⟨rfl,HX.out.1,HX.out.2⟩
set_option maxRecDepth 8000 in
theorem rmcTake10_any {g M P:Nat} {C:Array Value} {W w:World} {s t:Rd} (h:Hid (rdMode s=t)) (hT:TkI (EyeI g s) g M C W w) (pW:Hid (W.cell? ⟨P,0,none⟩=some (.pointer (some ⟨g,0,none⟩)))) (sP:Hid (P < W.heap.size∧P≠g∧P≠M)) :
    Calls Tryz.prog 125 #[.pointer (some ⟨P,0,none⟩)] w fun r w'=>r=.returned (.tuple #[])∧TkI (EyeI g t) g M C W w':=by
  have HT:=Lib.hid hT
  have p0:=(hT.cell (o:=0) sP.out.1 sP.out.2.1 sP.out.2.2).trans pW.out
  clear hT
  go_enter Tryz.func125,Tryz.ntmps125
  go_wp2_with fail
  refine (rmcmode_any h HT.out.x).mono ?_
  rintro r x ⟨rfl,hx,hf⟩
  have HT2:=Lib.hid (HT.out.frm hx hf)
  clear hx hf
  go_wp2_with fail
  go_end0
  exact⟨rfl,HT2.out⟩
set_option maxRecDepth 8000 in
set_option maxHeartbeats 4000000 in
theorem rmcTake2_any {g M P N:Nat} {W w:World} {s t:Rd} {cb:Bool} {ch:Int} {cm:Int} {cs:Int} {cc:Int} (h:Hid (rdClk s=((cb,ch,cm,cs,cc),t))) (hT:TkI (EyeI g s) g M (rmcC false 0 0 0 0 false false 0 false 0 false 0 false 0 false 0 false 0 0 0) W w) (pW:Hid (W.cell? ⟨P,0,none⟩=some (.pointer (some ⟨g,0,none⟩)))) (sP:Hid (P < W.heap.size∧P≠g∧P≠M)) (nW:Hid (W.cell? ⟨N,0,none⟩=some (.func (.func 108) #[] #[.pointer (some ⟨P,0,none⟩)]))) (sN:Hid (N < W.heap.size∧N≠g∧N≠M)) :
    Calls Tryz.prog 110 #[.pointer (some ⟨P,0,none⟩),.pointer (some ⟨M,0,none⟩),.pointer (some ⟨N,0,none⟩)] w fun r w'=>r=.returned (.tuple #[])∧TkI (EyeI g t) g M (rmcC cb ch cm cs cc false false 0 false 0 false 0 false 0 false 0 false 0 0 0) W w':=by
  have HT:=Lib.hid hT
  have p0:=(hT.cell (o:=0) sP.out.1 sP.out.2.1 sP.out.2.2).trans pW.out
  clear hT
  obtain⟨a,s1,ha⟩:∃ a s1,Hid (rdText s=(a,s1)):=⟨_,_,rfl⟩
  have hsm:=eye_text_small ha HT.out.x
  obtain⟨E,ht1,ht2⟩:∃ E,Hid (takeClk a.data.toList=((cb,ch,cm,cs,cc),E))∧Hid (rdFail E s1=t):=by
    have q:=h.out
    unfold rdClk at q
    rw [ha.out] at q
    injection q with q1 q2
    exact⟨_,Prod.ext q1 rfl,q2⟩
  go_enter Tryz.func110,Tryz.ntmps110
  go_wp2_with fail
  refine (eyeText ha HT.out.x).mono ?_
  rintro r x1 ⟨rfl,hx,hf⟩
  have HT1:=Lib.hid (HT.out.frm hx hf)
  clear hx hf HT p0
  go_wp2_with fail
  refine (clkTake_any a _ hsm).mono ?_
  rw [ht1.out]
  rintro r x2 ⟨rfl,hb2⟩
  dsimp only
  have hbc:=below_new x2 (clkO cb ch cm cs cc)
  have hb3:=bthen hb2 hbc
  have HT3:=Lib.hid (HT1.out.keep (Y:=EyeI g s1) (HT1.out.x.keep hb3) hb3)
  have HC3:Hid (∀ o,(x2.alloc (clkO cb ch cm cs cc)).cell? ⟨x2.heap.size,o,none⟩=(#[Value.bool cb,.int .i64 ch,.int .i64 cm,.int .i64 cs,.int .i64 cc]:Array Value)[o]?):=fun o=>World.cell?_alloc_at _ _ _ _ rfl
  have HZM:Hid (M < x2.heap.size):=Nat.lt_of_lt_of_le HT1.out.mz hb2.size
  clear hbc hb2 hb3 HT1
  go_upto_region 1 with fail
  generalize hx3:x2.alloc (clkO cb ch cm cs cc)=x3 at *
  generalize x2.heap.size=x2z at *
  clear hx3
  have m0:=HT3.out.c 0
  have z0:=HT3.out.z 0
  have m1:=HT3.out.c 1
  have z1:=HT3.out.z 1
  have m2:=HT3.out.c 2
  have z2:=HT3.out.z 2
  have m3:=HT3.out.c 3
  have z3:=HT3.out.z 3
  have m4:=HT3.out.c 4
  have z4:=HT3.out.z 4
  have c0:x3.cell? ⟨x2z,0,none⟩=some (.bool cb):=HC3.out 0
  have c1:x3.cell? ⟨x2z,1,none⟩=some (.int .i64 ch):=HC3.out 1
  have c2:x3.cell? ⟨x2z,2,none⟩=some (.int .i64 cm):=HC3.out 2
  have c3:x3.cell? ⟨x2z,3,none⟩=some (.int .i64 cs):=HC3.out 3
  have c4:x3.cell? ⟨x2z,4,none⟩=some (.int .i64 cc):=HC3.out 4
  go_upto_region 2 with fail
  have HT4:=tke_eq (tke_put (tke_put (tke_put (tke_put (tke_put HT3.out 0 (.bool cb) (by simp)) 1 (.int .i64 ch) (by simp)) 2 (.int .i64 cm) (by simp)) 3 (.int .i64 cs) (by simp)) 4 (.int .i64 cc) (by simp)) (rmcC cb ch cm cs cc false false 0 false 0 false 0 false 0 false 0 false 0 0 0) rfl
  clear HT3 m0 z0 c0 m1 z1 c1 m2 z2 c2 m3 z3 c3 m4 z4 c4
  generalize (((((x3.setCell ⟨M,0,none⟩ (.bool cb)).setCell ⟨M,1,none⟩ (.int .i64 ch)).setCell ⟨M,2,none⟩ (.int .i64 cm)).setCell ⟨M,3,none⟩ (.int .i64 cs)).setCell ⟨M,4,none⟩ (.int .i64 cc))=y at *
  have p4:=(HT4.out.cell (o:=0) sP.out.1 sP.out.2.1 sP.out.2.2).trans pW.out
  have n4:=(HT4.out.cell (o:=0) sN.out.1 sN.out.2.1 sN.out.2.2).trans nW.out
  go_wp2_with fail
  refine (rmcnoted_any ht2 HT4.out.x p4).mono ?_
  rintro r x5 ⟨rfl,hx,hf⟩
  have HT5:=Lib.hid (HT4.out.frm hx hf)
  clear hx hf HT4 p4 n4
  go_wp2_with fail
  go_end0
  exact⟨rfl,HT5.out⟩
set_option maxRecDepth 8000 in
set_option maxHeartbeats 4000000 in
theorem rmcTake3_any {g M P:Nat} {W w:World} {s t:Rd} {cb:Bool} {ch:Int} {cm:Int} {cs:Int} {cc:Int} {st:Bool} (h:Hid (rdSt s=(st,t))) (hT:TkI (EyeI g s) g M (rmcC cb ch cm cs cc false false 0 false 0 false 0 false 0 false 0 false 0 0 0) W w) (pW:Hid (W.cell? ⟨P,0,none⟩=some (.pointer (some ⟨g,0,none⟩)))) (sP:Hid (P < W.heap.size∧P≠g∧P≠M)) :
    Calls Tryz.prog 113 #[.pointer (some ⟨P,0,none⟩),.pointer (some ⟨M,0,none⟩)] w fun r w'=>r=.returned (.tuple #[])∧TkI (EyeI g t) g M (rmcC cb ch cm cs cc st false 0 false 0 false 0 false 0 false 0 false 0 0 0) W w':=by
  have HT:=Lib.hid hT
  have p0:=(hT.cell (o:=0) sP.out.1 sP.out.2.1 sP.out.2.2).trans pW.out
  clear hT
  go_enter Tryz.func113,Tryz.ntmps113
  go_wp2_with fail
  refine (rmcstatus_any h HT.out.x).mono ?_
  rintro r x ⟨rfl,hx,hf⟩
  have HT2:=Lib.hid (HT.out.frm hx hf)
  clear hx hf HT
  have m0:=HT2.out.c 5
  have z0:=HT2.out.z 5
  go_wp2_with fail
  go_end0
  exact⟨rfl,(tke_eq (tke_put HT2.out 5 (.bool st) (by simp)) (rmcC cb ch cm cs cc st false 0 false 0 false 0 false 0 false 0 false 0 0 0) rfl).out⟩
set_option maxRecDepth 8000 in
set_option maxHeartbeats 4000000 in
theorem rmcTake4_any {g M P:Nat} {W w:World} {s t:Rd} {cb:Bool} {ch:Int} {cm:Int} {cs:Int} {cc:Int} {st:Bool} {lb:Bool} {ln:Int} (h:Hid (rdAng true s=((lb,ln),t))) (hT:TkI (EyeI g s) g M (rmcC cb ch cm cs cc st false 0 false 0 false 0 false 0 false 0 false 0 0 0) W w) (pW:Hid (W.cell? ⟨P,0,none⟩=some (.pointer (some ⟨g,0,none⟩)))) (sP:Hid (P < W.heap.size∧P≠g∧P≠M)) :
    Calls Tryz.prog 115 #[.pointer (some ⟨P,0,none⟩),.pointer (some ⟨M,0,none⟩)] w fun r w'=>r=.returned (.tuple #[])∧TkI (EyeI g t) g M (rmcC cb ch cm cs cc st lb ln false 0 false 0 false 0 false 0 false 0 0 0) W w':=by
  have HT:=Lib.hid hT
  have p0:=(hT.cell (o:=0) sP.out.1 sP.out.2.1 sP.out.2.2).trans pW.out
  clear hT
  go_enter Tryz.func115,Tryz.ntmps115
  go_wp2_with fail
  refine (eyeAng h HT.out.x).mono ?_
  rintro r x ⟨rfl,hx,hf⟩
  have HT2:=Lib.hid (HT.out.frm hx hf)
  clear hx hf HT
  have m0:=HT2.out.c 6
  have z0:=HT2.out.z 6
  have m1:=HT2.out.c 7
  have z1:=HT2.out.z 7
  go_wp2_with fail
  go_end0
  exact⟨rfl,(tke_eq (tke_put (tke_put HT2.out 6 (.bool lb) (by simp)) 7 (.int .i64 ln) (by simp)) (rmcC cb ch cm cs cc st lb ln false 0 false 0 false 0 false 0 false 0 0 0) rfl).out⟩
set_option maxRecDepth 8000 in
set_option maxHeartbeats 4000000 in
theorem rmcTake5_any {g M P:Nat} {W w:World} {s t:Rd} {cb:Bool} {ch:Int} {cm:Int} {cs:Int} {cc:Int} {st:Bool} {lb:Bool} {ln:Int} {ob:Bool} {on:Int} (h:Hid (rdAng false s=((ob,on),t))) (hT:TkI (EyeI g s) g M (rmcC cb ch cm cs cc st lb ln false 0 false 0 false 0 false 0 false 0 0 0) W w) (pW:Hid (W.cell? ⟨P,0,none⟩=some (.pointer (some ⟨g,0,none⟩)))) (sP:Hid (P < W.heap.size∧P≠g∧P≠M)) :
    Calls Tryz.prog 116 #[.pointer (some ⟨P,0,none⟩),.pointer (some ⟨M,0,none⟩)] w fun r w'=>r=.returned (.tuple #[])∧TkI (EyeI g t) g M (rmcC cb ch cm cs cc st lb ln ob on false 0 false 0 false 0 false 0 0 0) W w':=by
  have HT:=Lib.hid hT
  have p0:=(hT.cell (o:=0) sP.out.1 sP.out.2.1 sP.out.2.2).trans pW.out
  clear hT
  go_enter Tryz.func116,Tryz.ntmps116
  go_wp2_with fail
  refine (eyeAng h HT.out.x).mono ?_
  rintro r x ⟨rfl,hx,hf⟩
  have HT2:=Lib.hid (HT.out.frm hx hf)
  clear hx hf HT
  have m0:=HT2.out.c 8
  have z0:=HT2.out.z 8
  have m1:=HT2.out.c 9
  have z1:=HT2.out.z 9
  go_wp2_with fail
  go_end0
  exact⟨rfl,(tke_eq (tke_put (tke_put HT2.out 8 (.bool ob) (by simp)) 9 (.int .i64 on) (by simp)) (rmcC cb ch cm cs cc st lb ln ob on false 0 false 0 false 0 false 0 0 0) rfl).out⟩
set_option maxRecDepth 8000 in
set_option maxHeartbeats 4000000 in
theorem rmcTake6_any {g M P:Nat} {W w:World} {s t:Rd} {cb:Bool} {ch:Int} {cm:Int} {cs:Int} {cc:Int} {st:Bool} {lb:Bool} {ln:Int} {ob:Bool} {on:Int} {sb:Bool} {sn:Int} (h:Hid (rdNum 1 4 2 0 999999 s=((sb,sn),t))) (hT:TkI (EyeI g s) g M (rmcC cb ch cm cs cc st lb ln ob on false 0 false 0 false 0 false 0 0 0) W w) (pW:Hid (W.cell? ⟨P,0,none⟩=some (.pointer (some ⟨g,0,none⟩)))) (sP:Hid (P < W.heap.size∧P≠g∧P≠M)) :
    Calls Tryz.prog 117 #[.pointer (some ⟨P,0,none⟩),.pointer (some ⟨M,0,none⟩)] w fun r w'=>r=.returned (.tuple #[])∧TkI (EyeI g t) g M (rmcC cb ch cm cs cc st lb ln ob on sb sn false 0 false 0 false 0 0 0) W w':=by
  have HT:=Lib.hid hT
  have p0:=(hT.cell (o:=0) sP.out.1 sP.out.2.1 sP.out.2.2).trans pW.out
  clear hT
  go_enter Tryz.func117,Tryz.ntmps117
  go_region_with (first | (go_at_call 118;refine (rmcspeed_any _).mono ?_;rintro r y3 ⟨rfl,hb2⟩;have hbb:=Below.trans (bdrew (Below.refl w.heap.size w)) hb2;have T2:=Lib.hid (HT.out.keep (Y:=EyeI g s) (HT.out.x.keep hbb) hbb);have zp:=(T2.out.cell (o:=0) sP.out.1 sP.out.2.1 sP.out.2.2).trans pW.out;clear hbb hb2) | (go_at_call 96;refine (eyeNum h T2.out.x).mono ?_;rintro r y4 ⟨rfl,hx,hf⟩;have T3:=Lib.hid (T2.out.frm hx hf);have m0:=T3.out.c 10;have m1:=T3.out.c 11;have z0:=T3.out.z 10;have z1:=T3.out.z 11;clear hx hf))
  all_goals go_wp2_with fail
  all_goals go_end0
  all_goals exact⟨rfl,(tke_eq (tke_put (tke_put T3.out 10 (.bool sb) (by simp)) 11 (.int .i64 sn) (by simp)) (rmcC cb ch cm cs cc st lb ln ob on sb sn false 0 false 0 false 0 0 0) rfl).out⟩
set_option maxRecDepth 8000 in
set_option maxHeartbeats 4000000 in
theorem rmcTake7_any {g M P:Nat} {W w:World} {s t:Rd} {cb:Bool} {ch:Int} {cm:Int} {cs:Int} {cc:Int} {st:Bool} {lb:Bool} {ln:Int} {ob:Bool} {on:Int} {sb:Bool} {sn:Int} {kb:Bool} {kn:Int} (h:Hid (rdNum 1 3 2 0 36000 s=((kb,kn),t))) (hT:TkI (EyeI g s) g M (rmcC cb ch cm cs cc st lb ln ob on sb sn false 0 false 0 false 0 0 0) W w) (pW:Hid (W.cell? ⟨P,0,none⟩=some (.pointer (some ⟨g,0,none⟩)))) (sP:Hid (P < W.heap.size∧P≠g∧P≠M)) :
    Calls Tryz.prog 119 #[.pointer (some ⟨P,0,none⟩),.pointer (some ⟨M,0,none⟩)] w fun r w'=>r=.returned (.tuple #[])∧TkI (EyeI g t) g M (rmcC cb ch cm cs cc st lb ln ob on sb sn kb kn false 0 false 0 0 0) W w':=by
  have HT:=Lib.hid hT
  have p0:=(hT.cell (o:=0) sP.out.1 sP.out.2.1 sP.out.2.2).trans pW.out
  clear hT
  go_enter Tryz.func119,Tryz.ntmps119
  go_region_with (first | (go_at_call 120;refine (rmccourse_any _).mono ?_;rintro r y3 ⟨rfl,hb2⟩;have hbb:=Below.trans (bdrew (Below.refl w.heap.size w)) hb2;have T2:=Lib.hid (HT.out.keep (Y:=EyeI g s) (HT.out.x.keep hbb) hbb);have zp:=(T2.out.cell (o:=0) sP.out.1 sP.out.2.1 sP.out.2.2).trans pW.out;clear hbb hb2) | (go_at_call 96;refine (eyeNum h T2.out.x).mono ?_;rintro r y4 ⟨rfl,hx,hf⟩;have T3:=Lib.hid (T2.out.frm hx hf);have m0:=T3.out.c 12;have m1:=T3.out.c 13;have z0:=T3.out.z 12;have z1:=T3.out.z 13;clear hx hf))
  all_goals go_wp2_with fail
  all_goals go_end0
  all_goals exact⟨rfl,(tke_eq (tke_put (tke_put T3.out 12 (.bool kb) (by simp)) 13 (.int .i64 kn) (by simp)) (rmcC cb ch cm cs cc st lb ln ob on sb sn kb kn false 0 false 0 0 0) rfl).out⟩
set_option maxRecDepth 8000 in
set_option maxHeartbeats 4000000 in
theorem rmcTake8_any {g M P N:Nat} {W w:World} {s t:Rd} {cb:Bool} {ch:Int} {cm:Int} {cs:Int} {cc:Int} {st:Bool} {lb:Bool} {ln:Int} {ob:Bool} {on:Int} {sb:Bool} {sn:Int} {kb:Bool} {kn:Int} {db:Bool} {dd:Int} {dm:Int} {dy:Int} (h:Hid (rdDat s=((db,dd,dm,dy),t))) (hT:TkI (EyeI g s) g M (rmcC cb ch cm cs cc st lb ln ob on sb sn kb kn false 0 false 0 0 0) W w) (pW:Hid (W.cell? ⟨P,0,none⟩=some (.pointer (some ⟨g,0,none⟩)))) (sP:Hid (P < W.heap.size∧P≠g∧P≠M)) (nW:Hid (W.cell? ⟨N,0,none⟩=some (.func (.func 108) #[] #[.pointer (some ⟨P,0,none⟩)]))) (sN:Hid (N < W.heap.size∧N≠g∧N≠M)) :
    Calls Tryz.prog 121 #[.pointer (some ⟨P,0,none⟩),.pointer (some ⟨M,0,none⟩),.pointer (some ⟨N,0,none⟩)] w fun r w'=>r=.returned (.tuple #[])∧TkI (EyeI g t) g M (rmcC cb ch cm cs cc st lb ln ob on sb sn kb kn false 0 db dd dm dy) W w':=by
  have HT:=Lib.hid hT
  have p0:=(hT.cell (o:=0) sP.out.1 sP.out.2.1 sP.out.2.2).trans pW.out
  clear hT
  obtain⟨a,s1,ha⟩:∃ a s1,Hid (rdText s=(a,s1)):=⟨_,_,rfl⟩
  have hsm:=eye_text_small ha HT.out.x
  obtain⟨E,ht1,ht2⟩:∃ E,Hid (takeDat a.data.toList=((db,dd,dm,dy),E))∧Hid (rdFail E s1=t):=by
    have q:=h.out
    unfold rdDat at q
    rw [ha.out] at q
    injection q with q1 q2
    exact⟨_,Prod.ext q1 rfl,q2⟩
  go_enter Tryz.func121,Tryz.ntmps121
  go_wp2_with fail
  refine (eyeText ha HT.out.x).mono ?_
  rintro r x1 ⟨rfl,hx,hf⟩
  have HT1:=Lib.hid (HT.out.frm hx hf)
  clear hx hf HT p0
  go_wp2_with fail
  refine (datTake_any a _ hsm).mono ?_
  rw [ht1.out]
  rintro r x2 ⟨rfl,hb2⟩
  dsimp only
  have hbc:=below_new x2 (datO db dd dm dy)
  have hb3:=bthen hb2 hbc
  have HT3:=Lib.hid (HT1.out.keep (Y:=EyeI g s1) (HT1.out.x.keep hb3) hb3)
  have HC3:Hid (∀ o,(x2.alloc (datO db dd dm dy)).cell? ⟨x2.heap.size,o,none⟩=(#[Value.bool db,.int .i64 dd,.int .i64 dm,.int .i64 dy]:Array Value)[o]?):=fun o=>World.cell?_alloc_at _ _ _ _ rfl
  have HZM:Hid (M < x2.heap.size):=Nat.lt_of_lt_of_le HT1.out.mz hb2.size
  clear hbc hb2 hb3 HT1
  go_upto_region 1 with fail
  generalize hx3:x2.alloc (datO db dd dm dy)=x3 at *
  generalize x2.heap.size=x2z at *
  clear hx3
  have m0:=HT3.out.c 16
  have z0:=HT3.out.z 16
  have m1:=HT3.out.c 17
  have z1:=HT3.out.z 17
  have m2:=HT3.out.c 18
  have z2:=HT3.out.z 18
  have m3:=HT3.out.c 19
  have z3:=HT3.out.z 19
  have c0:x3.cell? ⟨x2z,0,none⟩=some (.bool db):=HC3.out 0
  have c1:x3.cell? ⟨x2z,1,none⟩=some (.int .i64 dd):=HC3.out 1
  have c2:x3.cell? ⟨x2z,2,none⟩=some (.int .i64 dm):=HC3.out 2
  have c3:x3.cell? ⟨x2z,3,none⟩=some (.int .i64 dy):=HC3.out 3
  go_upto_region 2 with fail
  have HT4:=tke_eq (tke_put (tke_put (tke_put (tke_put HT3.out 16 (.bool db) (by simp)) 17 (.int .i64 dd) (by simp)) 18 (.int .i64 dm) (by simp)) 19 (.int .i64 dy) (by simp)) (rmcC cb ch cm cs cc st lb ln ob on sb sn kb kn false 0 db dd dm dy) rfl
  clear HT3 m0 z0 c0 m1 z1 c1 m2 z2 c2 m3 z3 c3
  generalize ((((x3.setCell ⟨M,16,none⟩ (.bool db)).setCell ⟨M,17,none⟩ (.int .i64 dd)).setCell ⟨M,18,none⟩ (.int .i64 dm)).setCell ⟨M,19,none⟩ (.int .i64 dy))=y at *
  have p4:=(HT4.out.cell (o:=0) sP.out.1 sP.out.2.1 sP.out.2.2).trans pW.out
  have n4:=(HT4.out.cell (o:=0) sN.out.1 sN.out.2.1 sN.out.2.2).trans nW.out
  go_wp2_with fail
  refine (rmcnoted_any ht2 HT4.out.x p4).mono ?_
  rintro r x5 ⟨rfl,hx,hf⟩
  have HT5:=Lib.hid (HT4.out.frm hx hf)
  clear hx hf HT4 p4 n4
  go_wp2_with fail
  go_end0
  exact⟨rfl,HT5.out⟩
set_option maxRecDepth 8000 in
set_option maxHeartbeats 4000000 in
theorem rmcTake9_any {g M P:Nat} {W w:World} {s t:Rd} {cb:Bool} {ch:Int} {cm:Int} {cs:Int} {cc:Int} {st:Bool} {lb:Bool} {ln:Int} {ob:Bool} {on:Int} {sb:Bool} {sn:Int} {kb:Bool} {kn:Int} {vb:Bool} {vn:Int} {db:Bool} {dd:Int} {dm:Int} {dy:Int} (h:Hid (rdVar s=((vb,vn),t))) (hT:TkI (EyeI g s) g M (rmcC cb ch cm cs cc st lb ln ob on sb sn kb kn false 0 db dd dm dy) W w) (pW:Hid (W.cell? ⟨P,0,none⟩=some (.pointer (some ⟨g,0,none⟩)))) (sP:Hid (P < W.heap.size∧P≠g∧P≠M)) :
    Calls Tryz.prog 123 #[.pointer (some ⟨P,0,none⟩),.pointer (some ⟨M,0,none⟩)] w fun r w'=>r=.returned (.tuple #[])∧TkI (EyeI g t) g M (rmcC cb ch cm cs cc st lb ln ob on sb sn kb kn vb vn db dd dm dy) W w':=by
  have HT:=Lib.hid hT
  have p0:=(hT.cell (o:=0) sP.out.1 sP.out.2.1 sP.out.2.2).trans pW.out
  clear hT
  go_enter Tryz.func123,Tryz.ntmps123
  go_wp2_with fail
  refine (rmcsigned_any h HT.out.x).mono ?_
  rintro r x ⟨rfl,hx,hf⟩
  have HT2:=Lib.hid (HT.out.frm hx hf)
  clear hx hf HT
  have m0:=HT2.out.c 14
  have z0:=HT2.out.z 14
  have m1:=HT2.out.c 15
  have z1:=HT2.out.z 15
  go_wp2_with fail
  go_end0
  exact⟨rfl,(tke_eq (tke_put (tke_put HT2.out 14 (.bool vb) (by simp)) 15 (.int .i64 vn) (by simp)) (rmcC cb ch cm cs cc st lb ln ob on sb sn kb kn vb vn db dd dm dy) rfl).out⟩
end Go.Proofs.YtoabkoniegmkaaaGreat
