/- Layer 26: the reference's Take. Printed by genrmcr.py. -/
import Derived.Test.YtoabkoniegmkaaaGreatG27
import Derived.Test.YtoabkoniegmkaaaGreatG28
import Derived.Test.YtoabkoniegmkaaaGreatG39
import Derived.Test.YtoabkoniegmkaaaGreatG40
import Derived.Deep.RegionHeld3
namespace Go.Proofs.YtoabkoniegmkaaaGreat
set_option linter.unusedVariables false
open Go.RowKit
set_option linter.unusedSimpArgs false
set_option maxRecDepth 8000 in
set_option maxHeartbeats 16000000 in
theorem r26Take_ok (A:Option Addr) (n c:Nat) (R:List ByteArray) (w:World) (hl:R.length=n) (hs:Strs w w.heap.size A R) (hz:∀ t∈R,t.size≤1000000) (hkn:Hid (n=11∨n=12)) :
    Calls Tryz.prog 26 #[.slice A n c] w (RmcPost (takeRmc R) w):=by
  obtain⟨cb,ch,cm,cs,cc,r1,h1⟩:∃ cb ch cm cs cc u,Hid (rdClk (0,R)=((cb,ch,cm,cs,cc),u)):=⟨_,_,_,_,_,_,rfl⟩
  obtain⟨st,r2,h2⟩:∃ st u,Hid (rdSt r1=(st,u)):=⟨_,_,rfl⟩
  obtain⟨lb,ln,r3,h3⟩:∃ lb ln u,Hid (rdAng true r2=((lb,ln),u)):=⟨_,_,_,rfl⟩
  obtain⟨ob,on,r4,h4⟩:∃ ob on u,Hid (rdAng false r3=((ob,on),u)):=⟨_,_,_,rfl⟩
  obtain⟨sb,sn,r5,h5⟩:∃ sb sn u,Hid (rdNum 1 4 2 0 999999 r4=((sb,sn),u)):=⟨_,_,_,rfl⟩
  obtain⟨kb,kn,r6,h6⟩:∃ kb kn u,Hid (rdNum 1 3 2 0 36000 r5=((kb,kn),u)):=⟨_,_,_,rfl⟩
  obtain⟨db,dd,dm,dy,r7,h7⟩:∃ db dd dm dy u,Hid (rdDat r6=((db,dd,dm,dy),u)):=⟨_,_,_,_,_,rfl⟩
  obtain⟨vb,vn,r8,h8⟩:∃ vb vn u,Hid (rdVar r7=((vb,vn),u)):=⟨_,_,_,rfl⟩
  obtain⟨r9,h9⟩:∃ u,Hid (rdMode r8=u):=⟨_,rfl⟩
  obtain⟨X,hX⟩:∃ X,takeRmc R=X:=⟨_,rfl⟩
  have HT:Hid (X=if r9.1=0 then (((cb,ch,cm,cs,cc),st,(lb,ln),(ob,on),(sb,sn),(kb,kn),(db,dd,dm,dy),(vb,vn)),0) else (zeroM,r9.1)):=hX.symm.trans (rmc_taken (by rw [hl];exact hkn.out) h1 h2 h3 h4 h5 h6 h7 h8 h9)
  rw [hX]
  clear hX
  have HLEN:Hid (r8.2.length=n - 11):=by
    show _=_
    have q1:=clk_rest (0,R);rw [h1.out] at q1
    have q2:=st_rest r1;rw [h2.out] at q2
    have q3:=ang_rest true r2;rw [h3.out] at q3
    have q4:=ang_rest false r3;rw [h4.out] at q4
    have q5:=num_rest 1 4 2 0 999999 r4;rw [h5.out] at q5
    have q6:=num_rest 1 3 2 0 36000 r5;rw [h6.out] at q6
    have q7:=dat_rest r6;rw [h7.out] at q7
    have q8:=var_rest r7;rw [h8.out] at q8
    simp only at q1 q2 q3 q4 q5 q6 q7 q8
    rw [q8,q7,q6,q5,q4,q3,q2,q1]
    simp only [List.length_tail,hl]
    omega
  obtain⟨a,p7,ga⟩:∃ a u,Hid (rdText r6=(a,u)):=⟨_,_,rfl⟩
  obtain⟨E7,gd,gf⟩:∃ E,Hid (takeDat a.data.toList=((db,dd,dm,dy),E))∧Hid (rdFail E p7=r7):=by
    have q:=h7.out
    unfold rdDat at q
    rw [ga.out] at q
    injection q with q1 q2
    exact⟨_,Prod.ext q1 rfl,q2⟩
  obtain⟨b0,n0,p8,g1⟩:∃ b m u,Hid (rdNum 1 3 1 0 1800 r7=((b,m),u)):=⟨_,_,_,rfl⟩
  obtain⟨d,q8,g2⟩:∃ d u,Hid (rdText p8=(d,u)):=⟨_,_,rfl⟩
  obtain⟨e1,e2,e3⟩:=var_parts h8.out g1.out g2.out
  subst e1
  have HV:Hid (vn=if d=wT then -n0 else n0):=e2
  have HS:Hid (r8=if sidedB vb d=true then rdFail 3 q8 else q8):=e3
  have hin:=rdNum_in g1.out ⟨by omega,by omega⟩
  have HW:Hid (IntKind.i64.wrap (-n0)=-n0):=IntWalk.i64_in _ (by omega)
  clear e2 e3 hin h8 h7
  have HB0:=Lib.hid (below_new w (.cells (rmcC false 0 0 0 0 false false 0 false 0 false 0 false 0 false 0 false 0 0 0) 36))
  have HR0:Hid (∀ o,(w.alloc (.cells (rmcC false 0 0 0 0 false false 0 false 0 false 0 false 0 false 0 false 0 0 0) 36)).cell? ⟨w.heap.size,o,none⟩=(rmcC false 0 0 0 0 false false 0 false 0 false 0 false 0 false 0 false 0 0 0)[o]?):=fun o=>World.cell?_alloc_at _ _ _ _ rfl
  have HR1:Hid (∀ o,(w.alloc (.cells (rmcC false 0 0 0 0 false false 0 false 0 false 0 false 0 false 0 false 0 0 0) 36)).frozen? ⟨w.heap.size,o,none⟩=false):=fun o=>by rw [frozen?_alloc_cells];exact frozen_past _ _ _ (Nat.le_refl _)
  have HZ0:Hid ((w.alloc (.cells (rmcC false 0 0 0 0 false false 0 false 0 false 0 false 0 false 0 false 0 0 0) 36)).heap.size=w.heap.size+1):=by show _=_;simp
  have HSS:=Lib.hid hs
  have HZZ:=Lib.hid hz
  have HLL:=Lib.hid hl
  clear hs hz hl
  go_enter Tryz.func26,Tryz.ntmps26
  try dsimp only
  repeat (fail_if_success (show Code.wp _ (Code.seq (Code.region 1 _ _) _) _ _ _)
          first | go_values | go_skip | go_guarded | go_step | go_upon | go_back | (simp only [Int.not_lt,Int.not_le] at *;go_simp) | (go_ite <;> go_prune <;> (try go_simp)))
  go_cut [] (fun wx=>wx=w.alloc (.cells (rmcC false 0 0 0 0 false false 0 false 0 false 0 false 0 false 0 false 0 0 0) 36))
  case first=>
    rcases hkn.out with rfl | rfl
    · go_wp2_with fail
      go_meet
      rfl
    · go_wp2_with fail
      go_meet
      rfl
  case rest=>
  subst hcut
  generalize hW0:w.alloc (.cells (rmcC false 0 0 0 0 false false 0 false 0 false 0 false 0 false 0 false 0 0 0) 36)=W0 at *
  clear hW0
  go_wp2_with fail
  refine (r26Cols_any _).mono ?_
  rintro r w1 ⟨rfl,hcc,hz1,hb1⟩
  have HZ1:=Lib.hid hz1
  clear hz1
  have hrow:=rowRNew (c:=c) ((HSS.out.below (bthen HB0.out hb1) (Nat.le_refl _)).more (bthen HB0.out hb1).size) (by have:=HLL.out;have:=hkn.out;omega) HZZ.out
  rw [HLL.out] at hrow
  have hbr:=below_new w1 (.cells #[.slice A n c,.int .i64 0,.int .i64 0] 112)
  have hzr:(w1.alloc (.cells #[.slice A n c,.int .i64 0,.int .i64 0] 112)).heap.size=w1.heap.size+1:=by simp
  have HZR:=Lib.hid hzr
  clear hzr
  go_upto_region 5 with fail
  generalize hWR:w1.alloc (.cells #[.slice A n c,.int .i64 0,.int .i64 0] 112)=WR at *
  clear hWR
  have hz0:=HZ0.out
  have hz1:=HZ1.out
  have hzr:=HZR.out
  have hb3:=below_new WR (.cells (rmcC false 0 0 0 0 false false 0 false 0 false 0 false 0 false 0 false 0 0 0) 36)
  have T0:TkI (RowRI w1.heap.size (0,R)) w1.heap.size WR.heap.size (rmcC false 0 0 0 0 false false 0 false 0 false 0 false 0 false 0 false 0 0 0) (WR.alloc (.cells (rmcC false 0 0 0 0 false false 0 false 0 false 0 false 0 false 0 false 0 0 0) 36)) (WR.alloc (.cells (rmcC false 0 0 0 0 false false 0 false 0 false 0 false 0 false 0 false 0 0 0) 36)):=
    ⟨hrow.keep hb3,fun j=>World.cell?_alloc_at _ _ _ _ rfl,fun j=>by rw [frozen?_alloc_cells];exact frozen_past _ _ _ (by omega),by omega,by simp,rfl,rfl,rfl,Nat.le_refl _,fun _ _ _ _=>rfl⟩
  have hq:(WR.alloc (.cells (rmcC false 0 0 0 0 false false 0 false 0 false 0 false 0 false 0 false 0 0 0) 36)).heap.size=WR.heap.size+1:=by simp
  have HRR:Hid (∀ (Y:World→Prop) C' wr,TkI Y w1.heap.size WR.heap.size C' (WR.alloc (.cells (rmcC false 0 0 0 0 false false 0 false 0 false 0 false 0 false 0 false 0 0 0) 36)) wr→(∀ o,wr.cell? ⟨w.heap.size,o,none⟩=(rmcC false 0 0 0 0 false false 0 false 0 false 0 false 0 false 0 false 0 0 0)[o]?)∧(∀ o,wr.frozen? ⟨w.heap.size,o,none⟩=false)∧Below w.heap.size w wr):=fun Y C' wr hk=>
    have h03:=bthen hb1 (bthen hbr hb3)
    have hs3:=hb1.size
    ⟨fun o=>(hk.cell (by omega) (by omega) (by omega)).trans (((bcell h03).1 _ o (by omega)).trans (HR0.out o)),fun o=>(hk.frozen (by omega) (by omega) (by omega)).trans (((bcell h03).2 _ o (by omega)).trans (HR1.out o)),Below.trans (HB0.out.trans (h03.mono (by omega))) (hk.below (by omega) (by omega))⟩
  have HCC:Hid (∀ (Y:World→Prop) C' wr,TkI Y w1.heap.size WR.heap.size C' (WR.alloc (.cells (rmcC false 0 0 0 0 false false 0 false 0 false 0 false 0 false 0 false 0 0 0) 36)) wr→∀ o,wr.cell? ⟨W0.heap.size,o,none⟩=colsM[o]?):=fun Y C' wr hk o=>
    (hk.cell (by omega) (by omega) (by omega)).trans (((bcell (bthen hbr hb3)).1 _ o (by omega)).trans (hcc o))
  have HLT:Hid (w.heap.size < W0.heap.size∧W0.heap.size < w1.heap.size∧w1.heap.size < WR.heap.size∧WR.heap.size < (WR.alloc (.cells (rmcC false 0 0 0 0 false false 0 false 0 false 0 false 0 false 0 false 0 0 0) 36)).heap.size):=⟨by omega,by omega,by omega,by omega⟩
  have HT1:=Lib.hid T0
  clear T0 hz0 hq hb3 hbr hzr hrow hcc hz1 hb1 HZ1 HZR HR0 HR1 HZ0 HB0 HSS HZZ HLL
  go_upto_region 6 with fail
  generalize hW:WR.alloc (.cells (rmcC false 0 0 0 0 false false 0 false 0 false 0 false 0 false 0 false 0 0 0) 36)=W at *
  clear hW
  generalize WR.heap.size=M at *
  generalize w1.heap.size=g at *
  generalize W0.heap.size=K at *
  go_wp2_with fail
  refine (r25TakeClock_any h1 HT1.out.x).mono ?_
  rintro r x1 ⟨rfl,hx,hf⟩
  have HT2:=Lib.hid (HT1.out.frm hx hf)
  clear hx hf HT1
  have m0:=HT2.out.c 0
  have z0:=HT2.out.z 0
  have m1:=HT2.out.c 1
  have z1:=HT2.out.z 1
  have m2:=HT2.out.c 2
  have z2:=HT2.out.z 2
  have m3:=HT2.out.c 3
  have z3:=HT2.out.z 3
  have m4:=HT2.out.c 4
  have z4:=HT2.out.z 4
  go_upto_region 7 with fail
  have HT1:=tkr_eq (tkr_put (tkr_put (tkr_put (tkr_put (tkr_put HT2.out 0 (.bool cb) (by simp)) 1 (.int .i64 ch) (by simp)) 2 (.int .i64 cm) (by simp)) 3 (.int .i64 cs) (by simp)) 4 (.int .i64 cc) (by simp)) (rmcC cb ch cm cs cc false false 0 false 0 false 0 false 0 false 0 false 0 0 0) rfl
  clear HT2 m0 z0 m1 z1 m2 z2 m3 z3 m4 z4
  generalize (((((x1.setCell ⟨M,0,none⟩ (.bool cb)).setCell ⟨M,1,none⟩ (.int .i64 ch)).setCell ⟨M,2,none⟩ (.int .i64 cm)).setCell ⟨M,3,none⟩ (.int .i64 cs)).setCell ⟨M,4,none⟩ (.int .i64 cc))=y1 at *
  go_wp2_with fail
  refine (r26One_any h2 HT1.out.x).mono ?_
  rintro r x2 ⟨rfl,hx,hf⟩
  have HT2:=Lib.hid (HT1.out.frm hx hf)
  clear hx hf HT1
  have m0:=HT2.out.c 5
  have z0:=HT2.out.z 5
  go_upto_region 8 with fail
  have HT1:=tkr_eq (tkr_put HT2.out 5 (.bool st) (by simp)) (rmcC cb ch cm cs cc st false 0 false 0 false 0 false 0 false 0 false 0 0 0) rfl
  clear HT2 m0 z0
  generalize (x2.setCell ⟨M,5,none⟩ (.bool st))=y2 at *
  go_wp2_with fail
  refine (rowTAng h3 HT1.out.x).mono ?_
  rintro r x3 ⟨rfl,hx,hf⟩
  have HT2:=Lib.hid (HT1.out.frm hx hf)
  clear hx hf HT1
  have m0:=HT2.out.c 6
  have z0:=HT2.out.z 6
  have m1:=HT2.out.c 7
  have z1:=HT2.out.z 7
  go_upto_region 9 with fail
  have HT1:=tkr_eq (tkr_put (tkr_put HT2.out 6 (.bool lb) (by simp)) 7 (.int .i64 ln) (by simp)) (rmcC cb ch cm cs cc st lb ln false 0 false 0 false 0 false 0 false 0 0 0) rfl
  clear HT2 m0 z0 m1 z1
  generalize ((x3.setCell ⟨M,6,none⟩ (.bool lb)).setCell ⟨M,7,none⟩ (.int .i64 ln))=y3 at *
  go_wp2_with fail
  refine (rowTAng h4 HT1.out.x).mono ?_
  rintro r x4 ⟨rfl,hx,hf⟩
  have HT2:=Lib.hid (HT1.out.frm hx hf)
  clear hx hf HT1
  have m0:=HT2.out.c 8
  have z0:=HT2.out.z 8
  have m1:=HT2.out.c 9
  have z1:=HT2.out.z 9
  go_upto_region 10 with fail
  have HT1:=tkr_eq (tkr_put (tkr_put HT2.out 8 (.bool ob) (by simp)) 9 (.int .i64 on) (by simp)) (rmcC cb ch cm cs cc st lb ln ob on false 0 false 0 false 0 false 0 0 0) rfl
  clear HT2 m0 z0 m1 z1
  generalize ((x4.setCell ⟨M,8,none⟩ (.bool ob)).setCell ⟨M,9,none⟩ (.int .i64 on))=y4 at *
  have c0:=HCC.out _ _ _ HT1.out 0
  have c1:=HCC.out _ _ _ HT1.out 1
  have c2:=HCC.out _ _ _ HT1.out 2
  have c3:=HCC.out _ _ _ HT1.out 3
  have c4:=HCC.out _ _ _ HT1.out 4
  go_wp2_with fail
  refine (rowTNum h5 HT1.out.x).mono ?_
  rintro r x5 ⟨rfl,hx,hf⟩
  have HT2:=Lib.hid (HT1.out.frm hx hf)
  clear hx hf HT1
  clear c0 c1 c2 c3 c4
  have m0:=HT2.out.c 10
  have z0:=HT2.out.z 10
  have m1:=HT2.out.c 11
  have z1:=HT2.out.z 11
  go_upto_region 11 with fail
  have HT1:=tkr_eq (tkr_put (tkr_put HT2.out 10 (.bool sb) (by simp)) 11 (.int .i64 sn) (by simp)) (rmcC cb ch cm cs cc st lb ln ob on sb sn false 0 false 0 false 0 0 0) rfl
  clear HT2 m0 z0 m1 z1
  generalize ((x5.setCell ⟨M,10,none⟩ (.bool sb)).setCell ⟨M,11,none⟩ (.int .i64 sn))=y5 at *
  have c0:=HCC.out _ _ _ HT1.out 5
  have c1:=HCC.out _ _ _ HT1.out 6
  have c2:=HCC.out _ _ _ HT1.out 7
  have c3:=HCC.out _ _ _ HT1.out 8
  have c4:=HCC.out _ _ _ HT1.out 9
  go_wp2_with fail
  refine (rowTNum h6 HT1.out.x).mono ?_
  rintro r x6 ⟨rfl,hx,hf⟩
  have HT2:=Lib.hid (HT1.out.frm hx hf)
  clear hx hf HT1
  clear c0 c1 c2 c3 c4
  have m0:=HT2.out.c 12
  have z0:=HT2.out.z 12
  have m1:=HT2.out.c 13
  have z1:=HT2.out.z 13
  go_upto_region 12 with fail
  have HT1:=tkr_eq (tkr_put (tkr_put HT2.out 12 (.bool kb) (by simp)) 13 (.int .i64 kn) (by simp)) (rmcC cb ch cm cs cc st lb ln ob on sb sn kb kn false 0 false 0 0 0) rfl
  clear HT2 m0 z0 m1 z1
  generalize ((x6.setCell ⟨M,12,none⟩ (.bool kb)).setCell ⟨M,13,none⟩ (.int .i64 kn))=y6 at *
  have HSM:=Lib.hid (row_text_small ga HT1.out.x)
  go_wp2_with fail
  refine (rowTText ga HT1.out.x).mono ?_
  rintro r u7 ⟨rfl,hx,hf⟩
  have HT2:=Lib.hid (HT1.out.frm hx hf)
  clear hx hf HT1
  go_wp2_with fail
  refine (r24TakeDate_any a u7 HSM.out).mono ?_
  rw [gd.out]
  rintro r v7 ⟨rfl,hb⟩
  dsimp only
  have hbc:=below_new v7 (datO db dd dm dy)
  have HT3:=Lib.hid (HT2.out.keep ((HT2.out.x.keep hb).keep hbc) (bthen hb hbc))
  have HD3:Hid (∀ o,(v7.alloc (datO db dd dm dy)).cell? ⟨v7.heap.size,o,none⟩=(#[Value.bool db,.int .i64 dd,.int .i64 dm,.int .i64 dy]:Array Value)[o]?):=fun o=>World.cell?_alloc_at _ _ _ _ rfl
  have HZ3:Hid (v7.heap.size < (v7.alloc (datO db dd dm dy)).heap.size∧M < v7.heap.size∧g < v7.heap.size):=⟨by simp,Nat.lt_of_lt_of_le HT2.out.mz hb.size,Nat.lt_of_lt_of_le HT2.out.x.lt hb.size⟩
  clear hbc hb HT2
  go_upto_region 13 with fail
  generalize hW7:v7.alloc (datO db dd dm dy)=W7 at *
  clear hW7
  generalize v7.heap.size=D at *
  go_wp2_with fail
  refine (rowFirst gf HT3.out.x).mono ?_
  rintro r x7 ⟨rfl,hx,hf⟩
  have HT2:=Lib.hid (HT3.out.frm hx hf)
  have hd7:∀ o,x7.cell? ⟨D,o,none⟩=(#[Value.bool db,.int .i64 dd,.int .i64 dm,.int .i64 dy]:Array Value)[o]?:=fun o=>(frm_cells hf HZ3.out.1 (by have:=HZ3.out;omega) o).trans (HD3.out o)
  have d0:=hd7 0
  have d1:=hd7 1
  have d2:=hd7 2
  have d3:=hd7 3
  have m0:=HT2.out.c 16
  have z0:=HT2.out.z 16
  have m1:=HT2.out.c 17
  have z1:=HT2.out.z 17
  have m2:=HT2.out.c 18
  have z2:=HT2.out.z 18
  have m3:=HT2.out.c 19
  have z3:=HT2.out.z 19
  clear hx hf HT3 hd7 HD3 HZ3 HSM
  go_upto_region 15 with fail
  have HT1:=tkr_eq (tkr_put (tkr_put (tkr_put (tkr_put HT2.out 16 (.bool db) (by simp)) 17 (.int .i64 dd) (by simp)) 18 (.int .i64 dm) (by simp)) 19 (.int .i64 dy) (by simp)) (rmcC cb ch cm cs cc st lb ln ob on sb sn kb kn false 0 db dd dm dy) rfl
  clear HT2 d0 d1 d2 d3 m0 z0 m1 z1 m2 z2 m3 z3
  generalize ((((x7.setCell ⟨M,16,none⟩ (.bool db)).setCell ⟨M,17,none⟩ (.int .i64 dd)).setCell ⟨M,18,none⟩ (.int .i64 dm)).setCell ⟨M,19,none⟩ (.int .i64 dy))=y7 at *
  have c0:=HCC.out _ _ _ HT1.out 10
  have c1:=HCC.out _ _ _ HT1.out 11
  have c2:=HCC.out _ _ _ HT1.out 12
  have c3:=HCC.out _ _ _ HT1.out 13
  have c4:=HCC.out _ _ _ HT1.out 14
  go_wp2_with fail
  refine (rowTNum g1 HT1.out.x).mono ?_
  rintro r x8 ⟨rfl,hx,hf⟩
  have HT2:=Lib.hid (HT1.out.frm hx hf)
  clear hx hf HT1
  clear c0 c1 c2 c3 c4
  have m0:=HT2.out.c 14
  have z0:=HT2.out.z 14
  have m1:=HT2.out.c 15
  have z1:=HT2.out.z 15
  go_upto_region 16 with fail
  have HT1:=tkr_eq (tkr_put (tkr_put HT2.out 14 (.bool vb) (by simp)) 15 (.int .i64 n0) (by simp)) (rmcC cb ch cm cs cc st lb ln ob on sb sn kb kn vb n0 db dd dm dy) rfl
  clear HT2 m0 z0 m1 z1
  generalize ((x8.setCell ⟨M,14,none⟩ (.bool vb)).setCell ⟨M,15,none⟩ (.int .i64 n0))=y8 at *
  go_wp2_with fail
  refine (rowTText g2 HT1.out.x).mono ?_
  rintro r x9 ⟨rfl,hx,hf⟩
  have HT2:=Lib.hid (HT1.out.frm hx hf)
  clear hx hf HT1
  try dsimp only
  repeat (fail_if_success (show Code.wp _ (Code.seq (Code.region 17 _ _) _) _ _ _)
          first | go_values | go_skip | go_guarded | go_step | go_upon | go_back | (simp only [Int.not_lt,Int.not_le] at *;go_simp) | (go_ite <;> go_prune <;> (try go_simp)))
  have HE:Hid ((d.toList==[69])=decide (d=eT)):=text_one d 69
  have HWW:Hid ((d.toList==[87])=decide (d=wT)):=text_one d 87
  have HZZ:Hid (d.toList.isEmpty=decide (d=ByteArray.empty)):=isEmpty_text d
  go_cut [] (fun wx=>Hid (TkI (RowRI g r8) g M (rmcC cb ch cm cs cc st lb ln ob on sb sn kb kn vb n0 db dd dm dy) W wx))
  case first=>
    have m14:=HT2.out.c 14
    obtain⟨B1,k1⟩:∃ B,decide (d=eT)=B:=⟨_,rfl⟩
    obtain⟨B2,k2⟩:∃ B,decide (d=wT)=B:=⟨_,rfl⟩
    obtain⟨B3,k3⟩:∃ B,decide (d=ByteArray.empty)=B:=⟨_,rfl⟩
    have t1:=HE.out
    have t2:=HWW.out
    have t3:=HZZ.out
    rw [k1] at t1
    rw [k2] at t2
    rw [k3] at t3
    have HK:Hid (r8=if (if vb then !B1 && !B2 else !B3)=true then rdFail 3 q8 else q8):=by
      have:=HS.out
      unfold sidedB at this
      rw [k1,k2,k3] at this
      exact this
    clear k1 k2 k3 HE HWW HZZ HS HV g1 g2 ga gd gf
    rcases vb with _ | _ <;> rcases B1 with _ | _ <;> rcases B2 with _ | _ <;> rcases B3 with _ | _
    all_goals
      go_wp2_with fail
      first
        | (go_meet
           have hk:=HK.out
           simp at hk
           rw [hk]
           exact HT2)
        | (refine (rowFirst rfl HT2.out.x).mono ?_
           rintro r x ⟨rfl,hx,hf⟩
           have hk:=HK.out
           simp at hk
           have HT3:=Lib.hid (HT2.out.frm (Y:=RowRI g r8) (by rw [hk];exact hx) hf)
           clear hx hf hk
           go_wp2_with fail
           go_meet
           exact HT3)
  case rest=>
  clear HT2
  have HT2:=hcut
  clear hcut
  try dsimp only
  repeat (fail_if_success (show Code.wp _ (Code.seq (Code.region 19 _ _) _) _ _ _)
          first | go_values | go_skip | go_guarded | go_step | go_upon | go_back | (simp only [Int.not_lt,Int.not_le] at *;go_simp) | (go_ite <;> go_prune <;> (try go_simp)))
  go_cut [] (fun wx=>Hid (TkI (RowRI g r8) g M (rmcC cb ch cm cs cc st lb ln ob on sb sn kb kn vb vn db dd dm dy) W wx))
  case first=>
    have t2:=HWW.out
    have hv:=HV.out
    by_cases k2:d=wT
    · rw [decide_eq_true k2] at t2
      rw [if_pos k2] at hv
      have m15:=HT2.out.c 15
      have z15:=HT2.out.z 15
      have hw:=HW.out
      have HVV:=Lib.hid hv
      have HP:=tkr_put HT2.out 15 (.int .i64 (-n0)) (by simp)
      have HP2:=Lib.hid HP
      clear hv k2 HP HE HWW HZZ HS HV g1 g2 ga gd gf
      go_wp2_with fail
      go_meet
      rw [HVV.out]
      exact tkr_eq HP2.out _ rfl
    · rw [decide_eq_false k2] at t2
      rw [if_neg k2] at hv
      have HVV:=Lib.hid hv
      clear hv k2 HE HWW HZZ HS HV g1 g2 ga gd gf
      go_wp2_with fail
      go_meet
      rw [HVV.out]
      exact HT2
  case rest=>
  have HT0:=hcut
  clear hcut HT2 HE HWW HZZ HS HV g1 g2 ga gd gf
  try dsimp only
  repeat (fail_if_success (show Code.wp _ (Code.seq (Code.region 21 _ _) _) _ _ _)
          first | go_values | go_skip | go_guarded | go_step | go_upon | go_back | (simp only [Int.not_lt,Int.not_le] at *;go_simp) | (go_ite <;> go_prune <;> (try go_simp)))
  go_cut [] (fun wx=>Hid (TkI (RowRI g r9) g M (rmcC cb ch cm cs cc st lb ln ob on sb sn kb kn vb vn db dd dm dy) W wx))
  case first=>
    rcases hkn.out with rfl | rfl
    · have E:r9=r8:=by
        rw [← h9.out];unfold rdMode
        rw [if_pos (List.eq_nil_of_length_eq_zero HLEN.out)]
      have HE:=Lib.hid E
      clear E
      go_wp2_with fail
      go_meet
      rw [HE.out]
      exact HT0
    · have hne:r8.2≠[]:=fun q=>by have:=HLEN.out;rw [q] at this;simp at this
      obtain⟨a,s6,ha⟩:∃ a s6,Hid (rdText r8=(a,s6)):=⟨_,_,rfl⟩
      have HW:=Lib.hid (mode3 ha.out hne)
      have HW2:=Lib.hid (mode_ways a)
      clear hne
      go_wp2_with fail
      refine (rowTText ha HT0.out.x).mono ?_
      rintro r w7 ⟨rfl,hx7,hf7⟩
      have HT7:=Lib.hid (HT0.out.frm hx7 hf7)
      clear hx7 hf7
      rcases HW2.out with ⟨q1,q2,q3⟩ | ⟨q2,-,q | ⟨hz7,q1,q | q | q⟩⟩
      · have HE:Hid (r9=s6):=by
          rcases HW.out with ⟨e1,e2⟩ | ⟨e1,-⟩ | ⟨e1,-⟩
          · exact h9.out.symm.trans e2
          · rw [q2] at e1;cases e1
          · rw [q2] at e1;cases e1
        have i1:decide (1 < (a.size:Int))=false:=decide_eq_false (by omega)
        clear HW HW2
        go_wp2_with fail
        go_meet
        rw [HE.out]
        exact HT7
      all_goals obtain⟨q4,q5⟩:=q
      · have HE:Hid (r9=rdFail 3 s6):=by
          rcases HW.out with ⟨e1,-⟩ | ⟨-,e2,-⟩ | ⟨-,-,e2⟩
          · rw [q2] at e1;cases e1
          · rw [q5] at e2;cases e2
          · exact h9.out.symm.trans e2
        have i1:(1:Int) < (a.size:Int):=by omega
        clear HW HW2
        go_wp2_with fail
        refine (rowFirst rfl HT7.out.x).mono ?_
        rintro r w8 ⟨rfl,hx8,hf8⟩
        have HT8:=Lib.hid (HT7.out.frm (Y:=RowRI g r9) (by rw [HE.out];exact hx8) hf8)
        clear hx8 hf8
        go_wp2_with fail
        go_meet
        exact HT8
      · have HE:Hid (r9=rdFail 3 s6):=by
          rcases HW.out with ⟨e1,-⟩ | ⟨-,e2,-⟩ | ⟨-,-,e2⟩
          · rw [q2] at e1;cases e1
          · rw [q5] at e2;cases e2
          · exact h9.out.symm.trans e2
        have i1:decide (1 < (a.size:Int))=false:=decide_eq_false (by omega)
        have i2:((a[0].toNat:Nat):Int) < 65:=by omega
        clear HW HW2
        go_wp2_with fail
        refine (rowFirst rfl HT7.out.x).mono ?_
        rintro r w8 ⟨rfl,hx8,hf8⟩
        have HT8:=Lib.hid (HT7.out.frm (Y:=RowRI g r9) (by rw [HE.out];exact hx8) hf8)
        clear hx8 hf8
        go_wp2_with fail
        go_meet
        exact HT8
      · have HE:Hid (r9=rdFail 3 s6):=by
          rcases HW.out with ⟨e1,-⟩ | ⟨-,e2,-⟩ | ⟨-,-,e2⟩
          · rw [q2] at e1;cases e1
          · rw [q5] at e2;cases e2
          · exact h9.out.symm.trans e2
        have i1:decide (1 < (a.size:Int))=false:=decide_eq_false (by omega)
        have i2:decide (((a[0].toNat:Nat):Int) < 65)=false:=decide_eq_false (by omega)
        have i3:(90:Int) < ((a[0].toNat:Nat):Int):=by omega
        clear HW HW2
        go_wp2_with fail
        refine (rowFirst rfl HT7.out.x).mono ?_
        rintro r w8 ⟨rfl,hx8,hf8⟩
        have HT8:=Lib.hid (HT7.out.frm (Y:=RowRI g r9) (by rw [HE.out];exact hx8) hf8)
        clear hx8 hf8
        go_wp2_with fail
        go_meet
        exact HT8
      · have HE:Hid (r9=s6):=by
          rcases HW.out with ⟨e1,-⟩ | ⟨-,-,e2⟩ | ⟨-,e2,-⟩
          · rw [q2] at e1;cases e1
          · exact h9.out.symm.trans e2
          · rw [q5.2] at e2;cases e2
        have i1:decide (1 < (a.size:Int))=false:=decide_eq_false (by omega)
        have i2:decide (((a[0].toNat:Nat):Int) < 65)=false:=decide_eq_false (by omega)
        have i3:decide ((90:Int) < ((a[0].toNat:Nat):Int))=false:=decide_eq_false (by omega)
        clear HW HW2
        go_wp2_with fail
        go_meet
        rw [HE.out]
        exact HT7
  case rest=>
  have HT1:=hcut
  clear hcut HT0
  generalize wc=y9 at *
  have he:=HT1.out.x.err
  obtain⟨hr,hf,hbel⟩:=HRR.out _ _ _ HT1.out
  have hm:=HT1.out.c
  have HR:=Lib.hid (show AtC y9 w.heap.size (rmcC false 0 0 0 0 false false 0 false 0 false 0 false 0 false 0 false 0 0 0) from hr)
  have HRF:=Lib.hid hf
  have HB9:=Lib.hid hbel
  have HRM:=Lib.hid (range_of (show AtC y9 M (rmcC cb ch cm cs cc st lb ln ob on sb sn kb kn vb vn db dd dm dy) from hm))
  clear HT1 HRR HCC hr hf hbel hm h9 HLEN
  obtain⟨E,hE⟩:∃ E,r9.1=E:=⟨_,rfl⟩
  rw [hE] at he HT
  clear hE
  by_cases hE:E=0
  · subst hE
    have HX2:Hid (X=(((cb,ch,cm,cs,cc),st,(lb,ln),(ob,on),(sb,sn),(kb,kn),(db,dd,dm,dy),(vb,vn)),0)):=HT.out.trans (if_pos rfl)
    clear HT
    go_upto_region 27 with fail
    try (apply wp_seq_k;intro K_ HK_)
    apply wp_region_lit
    refine wpList_load_mid rfl _ _ rfl M 0 rfl (rmcC cb ch cm cs cc st lb ln ob on sb sn kb kn vb vn db dd dm dy).toList _ HRM.out Tryz.underlying36 rfl rmc_size ?_
    refine wpList_store_mid rfl _ _ _ rfl w.heap.size 0 (rmcC cb ch cm cs cc st lb ln ob on sb sn kb kn vb vn db dd dm dy) rfl rfl (there_of HR.out HRF.out rfl) rmc_size (by simp [Value.oneCell']) ?_
    have hY:=World.rangeAt_setCells_same y9 w.heap.size 0 (rmcC cb ch cm cs cc st lb ln ob on sb sn kb kn vb vn db dd dm dy).toList (there_of HR.out HRF.out rfl)
    have HBK:=Lib.hid (below_cells (Nat.le_refl _) (rmcC cb ch cm cs cc st lb ln ob on sb sn kb kn vb vn db dd dm dy).toList 0 y9 HB9.out)
    have hld:=rmc_load (C:=rmcC cb ch cm cs cc st lb ln ob on sb sn kb kn vb vn db dd dm dy) rfl hY
    clear hY HR HRF HB9
    generalize World.setCells y9 w.heap.size 0 (rmcC cb ch cm cs cc st lb ln ob on sb sn kb kn vb vn db dd dm dy).toList=Y at *
    have HLD:=Lib.hid hld
    clear hld
    go_wp2_with fail
    refine bodyPost_ret (v:=.tuple #[rmcV cb ch cm cs cc st lb ln ob on sb sn kb kn vb vn db dd dm dy,.int .i64 0]) (by rw [results_cell_tmp rfl];simp [asAddr,Result.andThen,HLD.out]) rfl ?_
    rw [HX2.out]
    exact⟨rfl,HBK.out⟩
  · have hne:(E != 0)=true:=by rw [bne_iff_ne];exact hE
    have HX2:Hid (X=(zeroM,E)):=HT.out.trans (if_neg hE)
    clear hE HT
    have hu:=Tryz.underlying36
    have hi:(Tryz.prog.info? 36).map (·.size)=some 20:=rmc_size
    have h22:(rmcC false 0 0 0 0 false false 0 false 0 false 0 false 0 false 0 false 0 0 0).toList.length=20:=rfl
    have h1c:∀ v∈(rmcC false 0 0 0 0 false false 0 false 0 false 0 false 0 false 0 false 0 0 0).toList,v.oneCell'=true:=by simp [Value.oneCell']
    have ht:y9.there w.heap.size 0 20:=there_of HR.out HRF.out rfl
    have HFAR:Hid (∀ (W':World) vs,(W'.setCells w.heap.size 0 vs).cell? ⟨g,2,none⟩=W'.cell? ⟨g,2,none⟩):=fun W' vs=>World.cell?_setCells_out _ _ _ _ _ (fun q _=>by have:=HLT.out;have q:g=w.heap.size:=q;omega)
    go_upto_region 26 with fail
    have hS0:y9.drew.cell? ⟨g,2,none⟩=some (.int .i64 E)∧y9.drew.there w.heap.size 0 20:=⟨he,(World.there_drew _ _ _ _).2 ht⟩
    refine wp_region_held_drew (S:=fun w'=>w'.cell? ⟨g,2,none⟩=some (.int .i64 E)∧w'.there w.heap.size 0 20) (by kernel_rfl) hS0 (fun hHeld=>?_)
    refine wpAnyH_take (i:=0) (oi:=_) (v:=?_) rfl (by kernel_rfl) (by kernel_rfl) (by kernel_rfl) (fun _ _ _ h=>h) (Or.inl ⟨by rfl,?_⟩) (by assumption) ?_
    rotate_left
    · intro w hSw
      go_split_ands
      go_simp
      try with_reducible rfl
    try simp only [Act.put,List.setIfInBounds_toArray,List.set_cons_zero,List.set_cons_succ]
    refine wpAnyH_take (i:=1) (oi:=_) (v:=?_) rfl (by kernel_rfl) (by kernel_rfl) (by kernel_rfl) (fun _ _ _ h=>h) (Or.inl ⟨by rfl,?_⟩) (by assumption) ?_
    rotate_left
    · intro w hSw
      go_split_ands
      go_simp
      try with_reducible rfl
    try simp only [Act.put,List.setIfInBounds_toArray,List.set_cons_zero,List.set_cons_succ]
    refine wpAnyH_take (i:=2) (oi:=_) (v:=?_) rfl (by kernel_rfl) (by kernel_rfl) (by kernel_rfl) (fun _ _ _ h=>h) (Or.inl ⟨by rfl,?_⟩) (by assumption) ?_
    rotate_left
    · intro w hSw
      go_split_ands
      go_simp
      try with_reducible rfl
    try simp only [Act.put,List.setIfInBounds_toArray,List.set_cons_zero,List.set_cons_succ]
    refine wpAnyH_take (i:=3) (oi:=_) (v:=?_) rfl (by kernel_rfl) (by kernel_rfl) (by kernel_rfl) (fun _ _ _ h=>h) (Or.inl ⟨by rfl,?_⟩) (by assumption) ?_
    rotate_left
    · intro w hSw
      go_split_ands
      go_simp
      try with_reducible rfl
    try simp only [Act.put,List.setIfInBounds_toArray,List.set_cons_zero,List.set_cons_succ]
    refine wpAnyH_take (i:=4) (oi:=_) (v:=?_) rfl (by kernel_rfl) (by kernel_rfl) (by kernel_rfl) (fun _ _ _ h=>h) (Or.inl ⟨by rfl,?_⟩) (by assumption) ?_
    rotate_left
    · intro w hSw
      go_split_ands
      go_simp
      try with_reducible rfl
    try simp only [Act.put,List.setIfInBounds_toArray,List.set_cons_zero,List.set_cons_succ]
    refine wpAnyH_ready (rs:=[5]) (by kernel_rfl) (by simp) ?_
    refine AllReadyH.cons (o:=_) rfl (fun K hK=>?_) ?_
    · rw [if_pos (by rfl)]
      refine wp_store_mid _ _ _ rfl w.heap.size 0 (rmcC false 0 0 0 0 false false 0 false 0 false 0 false 0 false 0 false 0 0 0) rfl rfl hHeld.2 rmc_size (by simp [Value.oneCell']) ?_
      have hY:=World.rangeAt_setCells_same y9.drew w.heap.size 0 (rmcC false 0 0 0 0 false false 0 false 0 false 0 false 0 false 0 false 0 0 0).toList hHeld.2
      have hfar:=(HFAR.out y9.drew (rmcC false 0 0 0 0 false false 0 false 0 false 0 false 0 false 0 false 0 0 0).toList).trans hHeld.1
      have hth:=World.there_setCells hHeld.2 w.heap.size 0 (rmcC false 0 0 0 0 false false 0 false 0 false 0 false 0 false 0 false 0 0 0).toList
      have HBK:=Lib.hid (below_cells (Nat.le_refl _) (rmcC false 0 0 0 0 false false 0 false 0 false 0 false 0 false 0 false 0 0 0).toList 0 y9.drew (bdrew HB9.out))
      have HLD:=Lib.hid (rmc_load (C:=rmcC false 0 0 0 0 false false 0 false 0 false 0 false 0 false 0 false 0 0 0) rfl hY)
      clear hY HR HRF HB9 hS0 hHeld ht he
      generalize World.setCells y9.drew w.heap.size 0 (rmcC false 0 0 0 0 false false 0 false 0 false 0 false 0 false 0 false 0 0 0).toList=Y at *
      refine hK.out _ _ ⟨hfar,hth⟩ (fun hHeld=>?_)
      clear hK K
      try simp only [Act.put,List.setIfInBounds_toArray,List.set_cons_zero,List.set_cons_succ]
      refine wpAnyH_ready (rs:=[6]) (by kernel_rfl) (by simp) ?_
      refine AllReadyH.cons (o:=_) rfl (fun K hK=>?_) ?_
      · go_simp
        refine hK.out _ _ ⟨hfar,hth⟩ (fun hHeld2=>?_)
        clear hK K
        try simp only [Act.put,List.setIfInBounds_toArray,List.set_cons_zero,List.set_cons_succ]
        refine wpAnyH_done (by kernel_rfl) ?_ _
        clear hfar hth hHeld hHeld2 hu hi h22 h1c HFAR
        go_wp2_with fail
        refine bodyPost_ret (v:=.tuple #[rmcV false 0 0 0 0 false false 0 false 0 false 0 false 0 false 0 false 0 0 0,.int .i64 E]) (by rw [results_cell_tmp rfl];simp [asAddr,Result.andThen,HLD.out]) rfl ?_
        rw [HX2.out]
        exact⟨rfl,HBK.out⟩
      · exact AllReadyH.nil
    · exact AllReadyH.nil
set_option maxRecDepth 8000 in
set_option maxHeartbeats 4000000 in
theorem r26Take_bad (A:Option Addr) (n c:Nat) (w:World) (h:((n:Int) != 11)=true) (h2:((n:Int) != 12)=true):Calls Tryz.prog 26 #[.slice A n c] w (RmcPost (zeroM,3) w):=by
  have HB9:=Lib.hid (below_new w (.cells (rmcC false 0 0 0 0 false false 0 false 0 false 0 false 0 false 0 false 0 0 0) 36))
  have HR:Hid (AtC (w.alloc (.cells (rmcC false 0 0 0 0 false false 0 false 0 false 0 false 0 false 0 false 0 0 0) 36)) w.heap.size (rmcC false 0 0 0 0 false false 0 false 0 false 0 false 0 false 0 false 0 0 0)):=fun o=>World.cell?_alloc_at _ _ _ _ rfl
  have HRF:Hid (∀ o,(w.alloc (.cells (rmcC false 0 0 0 0 false false 0 false 0 false 0 false 0 false 0 false 0 0 0) 36)).frozen? ⟨w.heap.size,o,none⟩=false):=fun o=>by rw [frozen?_alloc_cells];exact frozen_past _ _ _ (Nat.le_refl _)
  go_enter Tryz.func26,Tryz.ntmps26
  try dsimp only
  repeat (fail_if_success (show Code.wp _ (Code.seq (Code.region 1 _ _) _) _ _ _)
          first | go_values | go_skip | go_guarded | go_step | go_upon | go_back | (simp only [Int.not_lt,Int.not_le] at *;go_simp) | (go_ite <;> go_prune <;> (try go_simp)))
  generalize hW0:w.alloc (.cells (rmcC false 0 0 0 0 false false 0 false 0 false 0 false 0 false 0 false 0 0 0) 36)=W0 at *
  clear hW0
  go_upto_region 2 with fail
  try (apply wp_seq_k;intro K_ HK_)
  apply wp_region_lit
  go_step
  go_step
  go_step
  refine wpList_store_mid rfl _ _ _ rfl w.heap.size 0 (rmcC false 0 0 0 0 false false 0 false 0 false 0 false 0 false 0 false 0 0 0) rfl rfl (there_of HR.out HRF.out rfl) rmc_size (by simp [Value.oneCell']) ?_
  have hY:=World.rangeAt_setCells_same W0 w.heap.size 0 (rmcC false 0 0 0 0 false false 0 false 0 false 0 false 0 false 0 false 0 0 0).toList (there_of HR.out HRF.out rfl)
  have HBK:=Lib.hid (below_cells (Nat.le_refl _) (rmcC false 0 0 0 0 false false 0 false 0 false 0 false 0 false 0 false 0 0 0).toList 0 W0 HB9.out)
  have hld:=rmc_load (C:=rmcC false 0 0 0 0 false false 0 false 0 false 0 false 0 false 0 false 0 0 0) rfl hY
  clear hY HR HRF HB9
  generalize World.setCells W0 w.heap.size 0 (rmcC false 0 0 0 0 false false 0 false 0 false 0 false 0 false 0 false 0 0 0).toList=Y at *
  have HLD:=Lib.hid hld
  clear hld
  go_wp2_with fail
  refine bodyPost_ret (v:=.tuple #[rmcV false 0 0 0 0 false false 0 false 0 false 0 false 0 false 0 false 0 0 0,.int .i64 3]) (by rw [results_cell_tmp rfl];simp [asAddr,Result.andThen,HLD.out]) rfl ?_
  exact⟨rfl,HBK.out⟩
theorem r26Take_any (A:Option Addr) (R:List ByteArray) (c:Nat) (w:World) (hs:Strs w w.heap.size A R) (hz:∀ t∈R,t.size≤1000000):Calls Tryz.prog 26 #[.slice A R.length c] w (RmcPost (takeRmc R) w):=by
  by_cases h:R.length≠11∧R.length≠12
  · rw [show takeRmc R=(zeroM,3) from if_pos h]
    exact r26Take_bad A R.length c w (by rw [bne_iff_ne];omega) (by rw [bne_iff_ne];omega)
  · exact r26Take_ok A R.length c R w rfl hs hz (by show _∨_;omega)
end Go.Proofs.YtoabkoniegmkaaaGreat
