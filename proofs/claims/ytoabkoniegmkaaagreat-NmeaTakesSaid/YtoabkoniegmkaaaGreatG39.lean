/- Layer 25: the reference's Take. Printed by genggaq.py. -/
import Derived.Test.YtoabkoniegmkaaaGreatG25
import Derived.Test.YtoabkoniegmkaaaGreatG38
import Derived.Test.YtoabkoniegmkaaaGreatG14
import Derived.Deep.RegionHeld3
namespace Go.Proofs.YtoabkoniegmkaaaGreat
set_option linter.unusedVariables false
open Go.RowKit
set_option linter.unusedSimpArgs false
theorem tkr_put {g M:Nat} {s:Rd} {C:Array Value} {W w:World} (h:TkI (RowRI g s) g M C W w) (o:Nat) (u:Value) (ho:o < C.size):TkI (RowRI g s) g M (C.setIfInBounds o u) W (w.setCell ⟨M,o,none⟩ u):=h.put ho (h.x.far h.gm)
theorem tkr_eq {g M:Nat} {s:Rd} {C:Array Value} {W w:World} (h:TkI (RowRI g s) g M C W w) (C':Array Value) (e:C=C'):Hid (TkI (RowRI g s) g M C' W w):=by subst e;exact h
theorem row_text_small {g:Nat} {s t:Rd} {a:ByteArray} {w:World} (ha:Hid (rdText s=(a,t))) (hp:RowRI g s w):a.size≤1000000:=by
  have:=ha.out
  unfold rdText at this
  injection this with e _
  rw [← e]
  exact headD_small hp.choose_spec.2.2
set_option maxRecDepth 8000 in
set_option maxHeartbeats 4000000 in
theorem r25TakeClock_any {g:Nat} {s t:Rd} {b:Bool} {h m c e:Int} {w:World} (ht:Hid (rdClk s=((b,h,m,c,e),t))) (hp:RowRI g s w):Calls Tryz.prog 51 #[.pointer (some ⟨g,0,none⟩)] w (RowRStep g (clkV b h m c e) t w):=by
  obtain⟨a,s1,ha⟩:∃ a s1,Hid (rdText s=(a,s1)):=⟨_,_,rfl⟩
  have hsm:=row_text_small ha hp
  obtain⟨E,ht1,ht2⟩:∃ E,Hid (takeClk a.data.toList=((b,h,m,c,e),E))∧Hid (rdFail E s1=t):=by
    have q:=ht.out
    unfold rdClk at q
    rw [ha.out] at q
    injection q with q1 q2
    exact⟨_,Prod.ext q1 rfl,q2⟩
  have hgl:=hp.lt
  have hb1:=below_new w (clkO false 0 0 0 0)
  have HX0:=Lib.hid (hp.keep hb1)
  have HF0:Hid (Frm g nilV w (w.alloc (clkO false 0 0 0 0))):=Frm.of_below hb1
  have HR0:Hid (∀ o,(w.alloc (clkO false 0 0 0 0)).cell? ⟨w.heap.size,o,none⟩=(#[Value.bool false,.int .i64 0,.int .i64 0,.int .i64 0,.int .i64 0]:Array Value)[o]?):=fun o=>World.cell?_alloc_at _ _ _ _ rfl
  have HRF:Hid (∀ o,(w.alloc (clkO false 0 0 0 0)).frozen? ⟨w.heap.size,o,none⟩=false):=fun o=>by rw [frozen?_alloc_cells];exact frozen_past _ _ _ (by omega)
  have HZ:Hid (w.heap.size < (w.alloc (clkO false 0 0 0 0)).heap.size∧g < w.heap.size):=⟨by simp,hgl⟩
  clear hb1 hp hgl ht
  go_enter Tryz.func51,Tryz.ntmps51
  go_wp2_with fail
  generalize hW0:w.alloc (clkO false 0 0 0 0)=W0 at *
  refine (rowTText ha HX0.out).mono ?_
  rintro r w1 ⟨rfl,hx1,hf1⟩
  have HX1:=Lib.hid hx1
  have HF1:=Lib.hid hf1
  clear hx1 hf1 hW0 HX0
  go_wp2_with fail
  refine (r24Take_any a w1 hsm).mono ?_
  rw [ht1.out]
  rintro r w2 ⟨rfl,hb2⟩
  dsimp only
  have hbc:=below_new w2 (clkO b h m c e)
  have HX3:Hid (RowRI g s1 (w2.alloc (clkO b h m c e))):=(HX1.out.keep hb2).keep hbc
  have HF3:Hid (Frm g nilV W0 (w2.alloc (clkO b h m c e))):=HF1.out.step (Frm.of_below (bthen hb2 hbc))
  have HC3:Hid (∀ o,(w2.alloc (clkO b h m c e)).cell? ⟨w2.heap.size,o,none⟩=(#[Value.bool b,.int .i64 h,.int .i64 m,.int .i64 c,.int .i64 e]:Array Value)[o]?):=fun o=>World.cell?_alloc_at _ _ _ _ rfl
  have HZ3:Hid (w2.heap.size < (w2.alloc (clkO b h m c e)).heap.size∧W0.heap.size≤w2.heap.size):=⟨by simp,by have:=HF1.out.size;have:=hb2.size;omega⟩
  clear hbc hb2 HX1 HF1
  go_wp2_with fail
  generalize hW3:w2.alloc (clkO b h m c e)=W3 at *
  clear hW3
  refine (rowFirst ht2 HX3.out).mono ?_
  rintro r w4 ⟨rfl,hx4,hf4⟩
  have HX4:=Lib.hid hx4
  have HF4:=Lib.hid (HF3.out.step hf4)
  have hc4:∀ o,w4.cell? ⟨w2.heap.size,o,none⟩=(#[Value.bool b,.int .i64 h,.int .i64 m,.int .i64 c,.int .i64 e]:Array Value)[o]?:=fun o=>(frm_cells hf4 HZ3.out.1 (by have:=HZ.out;have:=HZ3.out;omega) o).trans (HC3.out o)
  have hr4:∀ o,w4.cell? ⟨w.heap.size,o,none⟩=(#[Value.bool false,.int .i64 0,.int .i64 0,.int .i64 0,.int .i64 0]:Array Value)[o]?:=fun o=>(frm_cells HF4.out HZ.out.1 (by have:=HZ.out;omega) o).trans (HR0.out o)
  have fz:∀ o,w4.frozen? ⟨w.heap.size,o,none⟩=false:=fun o=>(frm_frozen HF4.out HZ.out.1 (by have:=HZ.out;omega) o).trans (HRF.out o)
  have HF5:=Lib.hid (HF0.out.step HF4.out)
  have c0:=hc4 0
  have c1:=hc4 1
  have c2:=hc4 2
  have c3:=hc4 3
  have c4:=hc4 4
  have r0:=hr4 0
  have r1:=hr4 1
  have r2:=hr4 2
  have r3:=hr4 3
  have r4:=hr4 4
  have HOLD:Hid (∀ o,o < 5→∃ v,w4.cell? ⟨w.heap.size,o,none⟩=some v):=fun o ho=>by rw [hr4 o];rcases (by omega:o=0∨o=1∨o=2∨o=3∨o=4) with rfl | rfl | rfl | rfl | rfl <;> exact⟨_,rfl⟩
  clear hx4 hf4 hc4 hr4 HC3 HR0 HRF HF3 HX3 HF0 HF4
  go_wp2_with fail
  have hd:=set5 (W:=w4) (g:=w.heap.size) (a:=.bool b) (b:=.int .i64 h) (c:=.int .i64 m) (d:=.int .i64 c) (e:=.int .i64 e) HOLD.out
  have d0:=hd 0 (by omega)
  have d1:=hd 1 (by omega)
  have d2:=hd 2 (by omega)
  have d3:=hd 3 (by omega)
  have d4:=hd 4 (by omega)
  simp at d0 d1 d2 d3 d4
  have hG:g < w.heap.size:=by have:=HZ.out.2;omega
  refine bodyPost_ret (v:=clkV b h m c e) (by simp [results,Tryz.results51,go_sem,d0,d1,d2,d3,d4]) rfl ⟨rfl,?_,?_⟩
  · exact ((((HX4.out.far hG).far hG).far hG).far hG).far hG
  · exact ((((HF5.out.put (Nat.le_refl _)).put (Nat.le_refl _)).put (Nat.le_refl _)).put (Nat.le_refl _)).put (Nat.le_refl _)
set_option maxRecDepth 8000 in
set_option maxHeartbeats 16000000 in
theorem r25Take_ok (A:Option Addr) (n c:Nat) (R:List ByteArray) (w:World) (hl:R.length=n) (hs:Strs w w.heap.size A R) (hz:∀ t∈R,t.size≤1000000) (hkn:Hid (n=14)) :
    Calls Tryz.prog 25 #[.slice A n c] w (GgaPost (takeGga R) w):=by
  obtain⟨cb,ch,cm,cs,cc,r1,h1⟩:∃ cb ch cm cs cc u,Hid (rdClk (0,R)=((cb,ch,cm,cs,cc),u)):=⟨_,_,_,_,_,_,rfl⟩
  obtain⟨lb,ln,r2,h2⟩:∃ lb ln u,Hid (rdAng true r1=((lb,ln),u)):=⟨_,_,_,rfl⟩
  obtain⟨ob,on,r3,h3⟩:∃ ob on u,Hid (rdAng false r2=((ob,on),u)):=⟨_,_,_,rfl⟩
  obtain⟨q,r4,h4⟩:∃ q u,Hid (rdDig 0 8 r3=(q,u)):=⟨_,_,rfl⟩
  obtain⟨sb,sn,r5,h5⟩:∃ sb sn u,Hid (rdNum 1 2 0 0 99 r4=((sb,sn),u)):=⟨_,_,_,rfl⟩
  obtain⟨hb,hn,r6,h6⟩:∃ hb hn u,Hid (rdNum 1 3 2 0 99999 r5=((hb,hn),u)):=⟨_,_,_,rfl⟩
  obtain⟨ab,an,r7,h7⟩:∃ ab an u,Hid (rdNum 1 6 1 (-9999999) 9999999 r6=((ab,an),u)):=⟨_,_,_,rfl⟩
  obtain⟨r8,h8⟩:∃ u,Hid (rdUnit ⟨#[77]⟩ ab r7=u):=⟨_,rfl⟩
  obtain⟨gb,gn,r9,h9⟩:∃ gb gn u,Hid (rdNum 1 4 1 (-99999) 99999 r8=((gb,gn),u)):=⟨_,_,_,rfl⟩
  obtain⟨r10,h10⟩:∃ u,Hid (rdUnit ⟨#[77]⟩ gb r9=u):=⟨_,rfl⟩
  obtain⟨eb,en,r11,h11⟩:∃ eb en u,Hid (rdNum 1 4 1 0 99999 r10=((eb,en),u)):=⟨_,_,_,rfl⟩
  obtain⟨tb,tn,r12,h12⟩:∃ tb tn u,Hid (rdNum 1 4 0 0 1023 r11=((tb,tn),u)):=⟨_,_,_,rfl⟩
  obtain⟨X,hX⟩:∃ X,takeGga R=X:=⟨_,rfl⟩
  have HT:Hid (X=if r12.1=0 then (((cb,ch,cm,cs,cc),(lb,ln),(ob,on),q,(sb,sn),(hb,hn),(ab,an),(gb,gn),(eb,en),(tb,tn)),0) else (zeroF,r12.1)):=hX.symm.trans (gga_taken (by rw [hl];exact hkn.out) h1 h2 h3 h4 h5 h6 h7 h8 h9 h10 h11 h12)
  rw [hX]
  clear hX
  have HB0:=Lib.hid (below_new w (.cells (ggaC false 0 0 0 0 false 0 false 0 0 false 0 false 0 false 0 false 0 false 0 false 0) 32))
  have HR0:Hid (∀ o,(w.alloc (.cells (ggaC false 0 0 0 0 false 0 false 0 0 false 0 false 0 false 0 false 0 false 0 false 0) 32)).cell? ⟨w.heap.size,o,none⟩=(ggaC false 0 0 0 0 false 0 false 0 0 false 0 false 0 false 0 false 0 false 0 false 0)[o]?):=fun o=>World.cell?_alloc_at _ _ _ _ rfl
  have HR1:Hid (∀ o,(w.alloc (.cells (ggaC false 0 0 0 0 false 0 false 0 0 false 0 false 0 false 0 false 0 false 0 false 0) 32)).frozen? ⟨w.heap.size,o,none⟩=false):=fun o=>by rw [frozen?_alloc_cells];exact frozen_past _ _ _ (Nat.le_refl _)
  have HZ0:Hid ((w.alloc (.cells (ggaC false 0 0 0 0 false 0 false 0 0 false 0 false 0 false 0 false 0 false 0 false 0) 32)).heap.size=w.heap.size+1):=by show _=_;simp
  have HSS:=Lib.hid hs
  have HZZ:=Lib.hid hz
  have HLL:=Lib.hid hl
  have i14:((n:Int) != 14)=false:=by have:=hkn.out;rw [bne_eq_false_iff_eq];omega
  clear hs hz hl
  go_enter Tryz.func25,Tryz.ntmps25
  try dsimp only
  repeat (fail_if_success (show Code.wp _ (Code.seq (Code.region 1 _ _) _) _ _ _)
          first | go_values | go_skip | go_guarded | go_step | go_upon | go_back | (simp only [Int.not_lt,Int.not_le] at *;go_simp) | (go_ite <;> go_prune <;> (try go_simp)))
  go_cut [] (fun wx=>wx=w.alloc (.cells (ggaC false 0 0 0 0 false 0 false 0 0 false 0 false 0 false 0 false 0 false 0 false 0) 32))
  case first=>
    go_wp2_with fail
    go_meet
    rfl
  case rest=>
  subst hcut
  generalize hW0:w.alloc (.cells (ggaC false 0 0 0 0 false 0 false 0 0 false 0 false 0 false 0 false 0 false 0 false 0) 32)=W0 at *
  clear hW0
  go_wp2_with fail
  refine (r25Cols_any _).mono ?_
  rintro r w1 ⟨rfl,hcc,hz1,hb1⟩
  have HZ1:=Lib.hid hz1
  clear hz1
  have hrow:=rowRNew (c:=c) ((HSS.out.below (bthen HB0.out hb1) (Nat.le_refl _)).more (bthen HB0.out hb1).size) (by have:=HLL.out;have:=hkn.out;omega) HZZ.out
  rw [HLL.out] at hrow
  have hbr:=below_new w1 (.cells #[.slice A n c,.int .i64 0,.int .i64 0] 112)
  have hzr:(w1.alloc (.cells #[.slice A n c,.int .i64 0,.int .i64 0] 112)).heap.size=w1.heap.size+1:=by simp
  have HZR:=Lib.hid hzr
  clear hzr
  go_upto_region 5 with fail
  generalize hWR:w1.alloc (.cells #[.slice A n c,.int .i64 0,.int .i64 0] 112)=WR at *
  clear hWR
  have hz0:=HZ0.out
  have hz1:=HZ1.out
  have hzr:=HZR.out
  have hb3:=below_new WR (.cells (ggaC false 0 0 0 0 false 0 false 0 0 false 0 false 0 false 0 false 0 false 0 false 0) 32)
  have T0:TkI (RowRI w1.heap.size (0,R)) w1.heap.size WR.heap.size (ggaC false 0 0 0 0 false 0 false 0 0 false 0 false 0 false 0 false 0 false 0 false 0) (WR.alloc (.cells (ggaC false 0 0 0 0 false 0 false 0 0 false 0 false 0 false 0 false 0 false 0 false 0) 32)) (WR.alloc (.cells (ggaC false 0 0 0 0 false 0 false 0 0 false 0 false 0 false 0 false 0 false 0 false 0) 32)):=
    ⟨hrow.keep hb3,fun j=>World.cell?_alloc_at _ _ _ _ rfl,fun j=>by rw [frozen?_alloc_cells];exact frozen_past _ _ _ (by omega),by omega,by simp,rfl,rfl,rfl,Nat.le_refl _,fun _ _ _ _=>rfl⟩
  have hq:(WR.alloc (.cells (ggaC false 0 0 0 0 false 0 false 0 0 false 0 false 0 false 0 false 0 false 0 false 0) 32)).heap.size=WR.heap.size+1:=by simp
  have HRR:Hid (∀ (Y:World→Prop) C' wr,TkI Y w1.heap.size WR.heap.size C' (WR.alloc (.cells (ggaC false 0 0 0 0 false 0 false 0 0 false 0 false 0 false 0 false 0 false 0 false 0) 32)) wr→(∀ o,wr.cell? ⟨w.heap.size,o,none⟩=(ggaC false 0 0 0 0 false 0 false 0 0 false 0 false 0 false 0 false 0 false 0 false 0)[o]?)∧(∀ o,wr.frozen? ⟨w.heap.size,o,none⟩=false)∧Below w.heap.size w wr):=fun Y C' wr hk=>
    have h03:=bthen hb1 (bthen hbr hb3)
    have hs3:=hb1.size
    ⟨fun o=>(hk.cell (by omega) (by omega) (by omega)).trans (((bcell h03).1 _ o (by omega)).trans (HR0.out o)),fun o=>(hk.frozen (by omega) (by omega) (by omega)).trans (((bcell h03).2 _ o (by omega)).trans (HR1.out o)),Below.trans (HB0.out.trans (h03.mono (by omega))) (hk.below (by omega) (by omega))⟩
  have HCC:Hid (∀ (Y:World→Prop) C' wr,TkI Y w1.heap.size WR.heap.size C' (WR.alloc (.cells (ggaC false 0 0 0 0 false 0 false 0 0 false 0 false 0 false 0 false 0 false 0 false 0) 32)) wr→∀ o,wr.cell? ⟨W0.heap.size,o,none⟩=colsF[o]?):=fun Y C' wr hk o=>
    (hk.cell (by omega) (by omega) (by omega)).trans (((bcell (bthen hbr hb3)).1 _ o (by omega)).trans (hcc o))
  have HLT:Hid (w.heap.size < W0.heap.size∧W0.heap.size < w1.heap.size∧w1.heap.size < WR.heap.size∧WR.heap.size < (WR.alloc (.cells (ggaC false 0 0 0 0 false 0 false 0 0 false 0 false 0 false 0 false 0 false 0 false 0) 32)).heap.size):=⟨by omega,by omega,by omega,by omega⟩
  have HT1:=Lib.hid T0
  clear T0 hz0 hq hb3 hbr hzr hrow hcc hz1 hb1 HZ1 HZR HR0 HR1 HZ0 HB0 HSS HZZ HLL
  go_upto_region 6 with fail
  generalize hW:WR.alloc (.cells (ggaC false 0 0 0 0 false 0 false 0 0 false 0 false 0 false 0 false 0 false 0 false 0) 32)=W at *
  clear hW
  generalize WR.heap.size=M at *
  generalize w1.heap.size=g at *
  generalize W0.heap.size=K at *
  go_wp2_with fail
  refine (r25TakeClock_any h1 HT1.out.x).mono ?_
  rintro r x1 ⟨rfl,hx,hf⟩
  have HT2:=Lib.hid (HT1.out.frm hx hf)
  clear hx hf HT1
  have m0:=HT2.out.c 0
  have z0:=HT2.out.z 0
  have m1:=HT2.out.c 1
  have z1:=HT2.out.z 1
  have m2:=HT2.out.c 2
  have z2:=HT2.out.z 2
  have m3:=HT2.out.c 3
  have z3:=HT2.out.z 3
  have m4:=HT2.out.c 4
  have z4:=HT2.out.z 4
  go_upto_region 7 with fail
  have HT1:=tkr_eq (tkr_put (tkr_put (tkr_put (tkr_put (tkr_put HT2.out 0 (.bool cb) (by simp)) 1 (.int .i64 ch) (by simp)) 2 (.int .i64 cm) (by simp)) 3 (.int .i64 cs) (by simp)) 4 (.int .i64 cc) (by simp)) (ggaC cb ch cm cs cc false 0 false 0 0 false 0 false 0 false 0 false 0 false 0 false 0) rfl
  clear HT2 m0 z0 m1 z1 m2 z2 m3 z3 m4 z4
  generalize (((((x1.setCell ⟨M,0,none⟩ (.bool cb)).setCell ⟨M,1,none⟩ (.int .i64 ch)).setCell ⟨M,2,none⟩ (.int .i64 cm)).setCell ⟨M,3,none⟩ (.int .i64 cs)).setCell ⟨M,4,none⟩ (.int .i64 cc))=y1 at *
  go_wp2_with fail
  refine (rowTAng h2 HT1.out.x).mono ?_
  rintro r x2 ⟨rfl,hx,hf⟩
  have HT2:=Lib.hid (HT1.out.frm hx hf)
  clear hx hf HT1
  have m0:=HT2.out.c 5
  have z0:=HT2.out.z 5
  have m1:=HT2.out.c 6
  have z1:=HT2.out.z 6
  go_upto_region 8 with fail
  have HT1:=tkr_eq (tkr_put (tkr_put HT2.out 5 (.bool lb) (by simp)) 6 (.int .i64 ln) (by simp)) (ggaC cb ch cm cs cc lb ln false 0 0 false 0 false 0 false 0 false 0 false 0 false 0) rfl
  clear HT2 m0 z0 m1 z1
  generalize ((x2.setCell ⟨M,5,none⟩ (.bool lb)).setCell ⟨M,6,none⟩ (.int .i64 ln))=y2 at *
  go_wp2_with fail
  refine (rowTAng h3 HT1.out.x).mono ?_
  rintro r x3 ⟨rfl,hx,hf⟩
  have HT2:=Lib.hid (HT1.out.frm hx hf)
  clear hx hf HT1
  have m0:=HT2.out.c 7
  have z0:=HT2.out.z 7
  have m1:=HT2.out.c 8
  have z1:=HT2.out.z 8
  go_upto_region 9 with fail
  have HT1:=tkr_eq (tkr_put (tkr_put HT2.out 7 (.bool ob) (by simp)) 8 (.int .i64 on) (by simp)) (ggaC cb ch cm cs cc lb ln ob on 0 false 0 false 0 false 0 false 0 false 0 false 0) rfl
  clear HT2 m0 z0 m1 z1
  generalize ((x3.setCell ⟨M,7,none⟩ (.bool ob)).setCell ⟨M,8,none⟩ (.int .i64 on))=y3 at *
  go_wp2_with fail
  refine (r25Digit_any h4 HT1.out.x).mono ?_
  rintro r x4 ⟨rfl,hx,hf⟩
  have HT2:=Lib.hid (HT1.out.frm hx hf)
  clear hx hf HT1
  have m0:=HT2.out.c 9
  have z0:=HT2.out.z 9
  go_upto_region 10 with fail
  have HT1:=tkr_eq (tkr_put HT2.out 9 (.int .i64 q) (by simp)) (ggaC cb ch cm cs cc lb ln ob on q false 0 false 0 false 0 false 0 false 0 false 0) rfl
  clear HT2 m0 z0
  generalize (x4.setCell ⟨M,9,none⟩ (.int .i64 q))=y4 at *
  have c0:=HCC.out _ _ _ HT1.out 0
  have c1:=HCC.out _ _ _ HT1.out 1
  have c2:=HCC.out _ _ _ HT1.out 2
  have c3:=HCC.out _ _ _ HT1.out 3
  have c4:=HCC.out _ _ _ HT1.out 4
  go_wp2_with fail
  refine (rowTNum h5 HT1.out.x).mono ?_
  rintro r x5 ⟨rfl,hx,hf⟩
  have HT2:=Lib.hid (HT1.out.frm hx hf)
  clear hx hf HT1
  clear c0 c1 c2 c3 c4
  have m0:=HT2.out.c 10
  have z0:=HT2.out.z 10
  have m1:=HT2.out.c 11
  have z1:=HT2.out.z 11
  go_upto_region 11 with fail
  have HT1:=tkr_eq (tkr_put (tkr_put HT2.out 10 (.bool sb) (by simp)) 11 (.int .i64 sn) (by simp)) (ggaC cb ch cm cs cc lb ln ob on q sb sn false 0 false 0 false 0 false 0 false 0) rfl
  clear HT2 m0 z0 m1 z1
  generalize ((x5.setCell ⟨M,10,none⟩ (.bool sb)).setCell ⟨M,11,none⟩ (.int .i64 sn))=y5 at *
  have c0:=HCC.out _ _ _ HT1.out 5
  have c1:=HCC.out _ _ _ HT1.out 6
  have c2:=HCC.out _ _ _ HT1.out 7
  have c3:=HCC.out _ _ _ HT1.out 8
  have c4:=HCC.out _ _ _ HT1.out 9
  go_wp2_with fail
  refine (rowTNum h6 HT1.out.x).mono ?_
  rintro r x6 ⟨rfl,hx,hf⟩
  have HT2:=Lib.hid (HT1.out.frm hx hf)
  clear hx hf HT1
  clear c0 c1 c2 c3 c4
  have m0:=HT2.out.c 12
  have z0:=HT2.out.z 12
  have m1:=HT2.out.c 13
  have z1:=HT2.out.z 13
  go_upto_region 12 with fail
  have HT1:=tkr_eq (tkr_put (tkr_put HT2.out 12 (.bool hb) (by simp)) 13 (.int .i64 hn) (by simp)) (ggaC cb ch cm cs cc lb ln ob on q sb sn hb hn false 0 false 0 false 0 false 0) rfl
  clear HT2 m0 z0 m1 z1
  generalize ((x6.setCell ⟨M,12,none⟩ (.bool hb)).setCell ⟨M,13,none⟩ (.int .i64 hn))=y6 at *
  have c0:=HCC.out _ _ _ HT1.out 10
  have c1:=HCC.out _ _ _ HT1.out 11
  have c2:=HCC.out _ _ _ HT1.out 12
  have c3:=HCC.out _ _ _ HT1.out 13
  have c4:=HCC.out _ _ _ HT1.out 14
  go_wp2_with fail
  refine (rowTNum h7 HT1.out.x).mono ?_
  rintro r x7 ⟨rfl,hx,hf⟩
  have HT2:=Lib.hid (HT1.out.frm hx hf)
  clear hx hf HT1
  clear c0 c1 c2 c3 c4
  have m0:=HT2.out.c 14
  have z0:=HT2.out.z 14
  have m1:=HT2.out.c 15
  have z1:=HT2.out.z 15
  go_upto_region 13 with fail
  have HT1:=tkr_eq (tkr_put (tkr_put HT2.out 14 (.bool ab) (by simp)) 15 (.int .i64 an) (by simp)) (ggaC cb ch cm cs cc lb ln ob on q sb sn hb hn ab an false 0 false 0 false 0) rfl
  clear HT2 m0 z0 m1 z1
  generalize ((x7.setCell ⟨M,14,none⟩ (.bool ab)).setCell ⟨M,15,none⟩ (.int .i64 an))=y7 at *
  have m_0:=HT1.out.c 14
  have m_1:=HT1.out.c 15
  go_wp2_with fail
  refine (r25TakeUnit_any h8 HT1.out.x).mono ?_
  rintro r x8 ⟨rfl,hx,hf⟩
  have HT2:=Lib.hid (HT1.out.frm hx hf)
  clear hx hf HT1
  clear m_0 m_1
  have HT1:=HT2
  clear HT2
  go_upto_region 14 with fail
  have c0:=HCC.out _ _ _ HT1.out 15
  have c1:=HCC.out _ _ _ HT1.out 16
  have c2:=HCC.out _ _ _ HT1.out 17
  have c3:=HCC.out _ _ _ HT1.out 18
  have c4:=HCC.out _ _ _ HT1.out 19
  go_wp2_with fail
  refine (rowTNum h9 HT1.out.x).mono ?_
  rintro r x9 ⟨rfl,hx,hf⟩
  have HT2:=Lib.hid (HT1.out.frm hx hf)
  clear hx hf HT1
  clear c0 c1 c2 c3 c4
  have m0:=HT2.out.c 16
  have z0:=HT2.out.z 16
  have m1:=HT2.out.c 17
  have z1:=HT2.out.z 17
  go_upto_region 15 with fail
  have HT1:=tkr_eq (tkr_put (tkr_put HT2.out 16 (.bool gb) (by simp)) 17 (.int .i64 gn) (by simp)) (ggaC cb ch cm cs cc lb ln ob on q sb sn hb hn ab an gb gn false 0 false 0) rfl
  clear HT2 m0 z0 m1 z1
  generalize ((x9.setCell ⟨M,16,none⟩ (.bool gb)).setCell ⟨M,17,none⟩ (.int .i64 gn))=y9 at *
  have m_0:=HT1.out.c 16
  have m_1:=HT1.out.c 17
  go_wp2_with fail
  refine (r25TakeUnit_any h10 HT1.out.x).mono ?_
  rintro r x10 ⟨rfl,hx,hf⟩
  have HT2:=Lib.hid (HT1.out.frm hx hf)
  clear hx hf HT1
  clear m_0 m_1
  have HT1:=HT2
  clear HT2
  go_upto_region 16 with fail
  have c0:=HCC.out _ _ _ HT1.out 20
  have c1:=HCC.out _ _ _ HT1.out 21
  have c2:=HCC.out _ _ _ HT1.out 22
  have c3:=HCC.out _ _ _ HT1.out 23
  have c4:=HCC.out _ _ _ HT1.out 24
  go_wp2_with fail
  refine (rowTNum h11 HT1.out.x).mono ?_
  rintro r x11 ⟨rfl,hx,hf⟩
  have HT2:=Lib.hid (HT1.out.frm hx hf)
  clear hx hf HT1
  clear c0 c1 c2 c3 c4
  have m0:=HT2.out.c 18
  have z0:=HT2.out.z 18
  have m1:=HT2.out.c 19
  have z1:=HT2.out.z 19
  go_upto_region 17 with fail
  have HT1:=tkr_eq (tkr_put (tkr_put HT2.out 18 (.bool eb) (by simp)) 19 (.int .i64 en) (by simp)) (ggaC cb ch cm cs cc lb ln ob on q sb sn hb hn ab an gb gn eb en false 0) rfl
  clear HT2 m0 z0 m1 z1
  generalize ((x11.setCell ⟨M,18,none⟩ (.bool eb)).setCell ⟨M,19,none⟩ (.int .i64 en))=y11 at *
  have c0:=HCC.out _ _ _ HT1.out 25
  have c1:=HCC.out _ _ _ HT1.out 26
  have c2:=HCC.out _ _ _ HT1.out 27
  have c3:=HCC.out _ _ _ HT1.out 28
  have c4:=HCC.out _ _ _ HT1.out 29
  go_wp2_with fail
  refine (rowTNum h12 HT1.out.x).mono ?_
  rintro r x12 ⟨rfl,hx,hf⟩
  have HT2:=Lib.hid (HT1.out.frm hx hf)
  clear hx hf HT1
  clear c0 c1 c2 c3 c4
  have m0:=HT2.out.c 20
  have z0:=HT2.out.z 20
  have m1:=HT2.out.c 21
  have z1:=HT2.out.z 21
  go_upto_region 18 with fail
  have HT1:=tkr_eq (tkr_put (tkr_put HT2.out 20 (.bool tb) (by simp)) 21 (.int .i64 tn) (by simp)) (ggaC cb ch cm cs cc lb ln ob on q sb sn hb hn ab an gb gn eb en tb tn) rfl
  clear HT2 m0 z0 m1 z1
  generalize ((x12.setCell ⟨M,20,none⟩ (.bool tb)).setCell ⟨M,21,none⟩ (.int .i64 tn))=y12 at *
  generalize y12=y9 at *
  have he:=HT1.out.x.err
  obtain⟨hr,hf,hbel⟩:=HRR.out _ _ _ HT1.out
  have hm:=HT1.out.c
  have HR:=Lib.hid (show AtC y9 w.heap.size (ggaC false 0 0 0 0 false 0 false 0 0 false 0 false 0 false 0 false 0 false 0 false 0) from hr)
  have HRF:=Lib.hid hf
  have HB9:=Lib.hid hbel
  have HRM:=Lib.hid (range_of (show AtC y9 M (ggaC cb ch cm cs cc lb ln ob on q sb sn hb hn ab an gb gn eb en tb tn) from hm))
  clear HT1 HRR HCC hr hf hbel hm
  obtain⟨E,hE⟩:∃ E,r12.1=E:=⟨_,rfl⟩
  rw [hE] at he HT
  clear hE
  by_cases hE:E=0
  · subst hE
    have HX2:Hid (X=(((cb,ch,cm,cs,cc),(lb,ln),(ob,on),q,(sb,sn),(hb,hn),(ab,an),(gb,gn),(eb,en),(tb,tn)),0)):=HT.out.trans (if_pos rfl)
    clear HT
    go_upto_region 20 with fail
    try (apply wp_seq_k;intro K_ HK_)
    apply wp_region_lit
    refine wpList_load_mid rfl _ _ rfl M 0 rfl (ggaC cb ch cm cs cc lb ln ob on q sb sn hb hn ab an gb gn eb en tb tn).toList _ HRM.out Tryz.underlying32 rfl gga_size ?_
    refine wpList_store_mid rfl _ _ _ rfl w.heap.size 0 (ggaC cb ch cm cs cc lb ln ob on q sb sn hb hn ab an gb gn eb en tb tn) rfl rfl (there_of HR.out HRF.out rfl) gga_size (by simp [Value.oneCell']) ?_
    have hY:=World.rangeAt_setCells_same y9 w.heap.size 0 (ggaC cb ch cm cs cc lb ln ob on q sb sn hb hn ab an gb gn eb en tb tn).toList (there_of HR.out HRF.out rfl)
    have HBK:=Lib.hid (below_cells (Nat.le_refl _) (ggaC cb ch cm cs cc lb ln ob on q sb sn hb hn ab an gb gn eb en tb tn).toList 0 y9 HB9.out)
    have hld:=gga_load (C:=ggaC cb ch cm cs cc lb ln ob on q sb sn hb hn ab an gb gn eb en tb tn) rfl hY
    clear hY HR HRF HB9
    generalize World.setCells y9 w.heap.size 0 (ggaC cb ch cm cs cc lb ln ob on q sb sn hb hn ab an gb gn eb en tb tn).toList=Y at *
    have HLD:=Lib.hid hld
    clear hld
    go_wp2_with fail
    refine bodyPost_ret (v:=.tuple #[ggaV cb ch cm cs cc lb ln ob on q sb sn hb hn ab an gb gn eb en tb tn,.int .i64 0]) (by rw [results_cell_tmp rfl];simp [asAddr,Result.andThen,HLD.out]) rfl ?_
    rw [HX2.out]
    exact⟨rfl,HBK.out⟩
  · have hne:(E != 0)=true:=by rw [bne_iff_ne];exact hE
    have HX2:Hid (X=(zeroF,E)):=HT.out.trans (if_neg hE)
    clear hE HT
    have hu:=Tryz.underlying32
    have hi:(Tryz.prog.info? 32).map (·.size)=some 22:=gga_size
    have h22:(ggaC false 0 0 0 0 false 0 false 0 0 false 0 false 0 false 0 false 0 false 0 false 0).toList.length=22:=rfl
    have h1c:∀ v∈(ggaC false 0 0 0 0 false 0 false 0 0 false 0 false 0 false 0 false 0 false 0 false 0).toList,v.oneCell'=true:=by simp [Value.oneCell']
    have ht:y9.there w.heap.size 0 22:=there_of HR.out HRF.out rfl
    have HFAR:Hid (∀ (W':World) vs,(W'.setCells w.heap.size 0 vs).cell? ⟨g,2,none⟩=W'.cell? ⟨g,2,none⟩):=fun W' vs=>World.cell?_setCells_out _ _ _ _ _ (fun q _=>by have:=HLT.out;have q:g=w.heap.size:=q;omega)
    go_upto_region 19 with fail
    have hS0:y9.drew.cell? ⟨g,2,none⟩=some (.int .i64 E)∧y9.drew.there w.heap.size 0 22:=⟨he,(World.there_drew _ _ _ _).2 ht⟩
    refine wp_region_held_drew (S:=fun w'=>w'.cell? ⟨g,2,none⟩=some (.int .i64 E)∧w'.there w.heap.size 0 22) (by kernel_rfl) hS0 (fun hHeld=>?_)
    refine wpAnyH_take (i:=0) (oi:=_) (v:=?_) rfl (by kernel_rfl) (by kernel_rfl) (by kernel_rfl) (fun _ _ _ h=>h) (Or.inl ⟨by rfl,?_⟩) (by assumption) ?_
    rotate_left
    · intro w hSw
      go_split_ands
      go_simp
      try with_reducible rfl
    try simp only [Act.put,List.setIfInBounds_toArray,List.set_cons_zero,List.set_cons_succ]
    refine wpAnyH_take (i:=1) (oi:=_) (v:=?_) rfl (by kernel_rfl) (by kernel_rfl) (by kernel_rfl) (fun _ _ _ h=>h) (Or.inl ⟨by rfl,?_⟩) (by assumption) ?_
    rotate_left
    · intro w hSw
      go_split_ands
      go_simp
      try with_reducible rfl
    try simp only [Act.put,List.setIfInBounds_toArray,List.set_cons_zero,List.set_cons_succ]
    refine wpAnyH_take (i:=2) (oi:=_) (v:=?_) rfl (by kernel_rfl) (by kernel_rfl) (by kernel_rfl) (fun _ _ _ h=>h) (Or.inl ⟨by rfl,?_⟩) (by assumption) ?_
    rotate_left
    · intro w hSw
      go_split_ands
      go_simp
      try with_reducible rfl
    try simp only [Act.put,List.setIfInBounds_toArray,List.set_cons_zero,List.set_cons_succ]
    refine wpAnyH_take (i:=3) (oi:=_) (v:=?_) rfl (by kernel_rfl) (by kernel_rfl) (by kernel_rfl) (fun _ _ _ h=>h) (Or.inl ⟨by rfl,?_⟩) (by assumption) ?_
    rotate_left
    · intro w hSw
      go_split_ands
      go_simp
      try with_reducible rfl
    try simp only [Act.put,List.setIfInBounds_toArray,List.set_cons_zero,List.set_cons_succ]
    refine wpAnyH_take (i:=4) (oi:=_) (v:=?_) rfl (by kernel_rfl) (by kernel_rfl) (by kernel_rfl) (fun _ _ _ h=>h) (Or.inl ⟨by rfl,?_⟩) (by assumption) ?_
    rotate_left
    · intro w hSw
      go_split_ands
      go_simp
      try with_reducible rfl
    try simp only [Act.put,List.setIfInBounds_toArray,List.set_cons_zero,List.set_cons_succ]
    refine wpAnyH_ready (rs:=[5]) (by kernel_rfl) (by simp) ?_
    refine AllReadyH.cons (o:=_) rfl (fun K hK=>?_) ?_
    · rw [if_pos (by rfl)]
      refine wp_store_mid _ _ _ rfl w.heap.size 0 (ggaC false 0 0 0 0 false 0 false 0 0 false 0 false 0 false 0 false 0 false 0 false 0) rfl rfl hHeld.2 gga_size (by simp [Value.oneCell']) ?_
      have hY:=World.rangeAt_setCells_same y9.drew w.heap.size 0 (ggaC false 0 0 0 0 false 0 false 0 0 false 0 false 0 false 0 false 0 false 0 false 0).toList hHeld.2
      have hfar:=(HFAR.out y9.drew (ggaC false 0 0 0 0 false 0 false 0 0 false 0 false 0 false 0 false 0 false 0 false 0).toList).trans hHeld.1
      have hth:=World.there_setCells hHeld.2 w.heap.size 0 (ggaC false 0 0 0 0 false 0 false 0 0 false 0 false 0 false 0 false 0 false 0 false 0).toList
      have HBK:=Lib.hid (below_cells (Nat.le_refl _) (ggaC false 0 0 0 0 false 0 false 0 0 false 0 false 0 false 0 false 0 false 0 false 0).toList 0 y9.drew (bdrew HB9.out))
      have HLD:=Lib.hid (gga_load (C:=ggaC false 0 0 0 0 false 0 false 0 0 false 0 false 0 false 0 false 0 false 0 false 0) rfl hY)
      clear hY HR HRF HB9 hS0 hHeld ht he
      generalize World.setCells y9.drew w.heap.size 0 (ggaC false 0 0 0 0 false 0 false 0 0 false 0 false 0 false 0 false 0 false 0 false 0).toList=Y at *
      refine hK.out _ _ ⟨hfar,hth⟩ (fun hHeld=>?_)
      clear hK K
      try simp only [Act.put,List.setIfInBounds_toArray,List.set_cons_zero,List.set_cons_succ]
      refine wpAnyH_ready (rs:=[6]) (by kernel_rfl) (by simp) ?_
      refine AllReadyH.cons (o:=_) rfl (fun K hK=>?_) ?_
      · go_simp
        refine hK.out _ _ ⟨hfar,hth⟩ (fun hHeld2=>?_)
        clear hK K
        try simp only [Act.put,List.setIfInBounds_toArray,List.set_cons_zero,List.set_cons_succ]
        refine wpAnyH_done (by kernel_rfl) ?_ _
        clear hfar hth hHeld hHeld2 hu hi h22 h1c HFAR
        go_wp2_with fail
        refine bodyPost_ret (v:=.tuple #[ggaV false 0 0 0 0 false 0 false 0 0 false 0 false 0 false 0 false 0 false 0 false 0,.int .i64 E]) (by rw [results_cell_tmp rfl];simp [asAddr,Result.andThen,HLD.out]) rfl ?_
        rw [HX2.out]
        exact⟨rfl,HBK.out⟩
      · exact AllReadyH.nil
    · exact AllReadyH.nil
set_option maxRecDepth 8000 in
set_option maxHeartbeats 4000000 in
theorem r25Take_bad (A:Option Addr) (n c:Nat) (w:World) (h:((n:Int) != 14)=true):Calls Tryz.prog 25 #[.slice A n c] w (GgaPost (zeroF,3) w):=by
  have HB9:=Lib.hid (below_new w (.cells (ggaC false 0 0 0 0 false 0 false 0 0 false 0 false 0 false 0 false 0 false 0 false 0) 32))
  have HR:Hid (AtC (w.alloc (.cells (ggaC false 0 0 0 0 false 0 false 0 0 false 0 false 0 false 0 false 0 false 0 false 0) 32)) w.heap.size (ggaC false 0 0 0 0 false 0 false 0 0 false 0 false 0 false 0 false 0 false 0 false 0)):=fun o=>World.cell?_alloc_at _ _ _ _ rfl
  have HRF:Hid (∀ o,(w.alloc (.cells (ggaC false 0 0 0 0 false 0 false 0 0 false 0 false 0 false 0 false 0 false 0 false 0) 32)).frozen? ⟨w.heap.size,o,none⟩=false):=fun o=>by rw [frozen?_alloc_cells];exact frozen_past _ _ _ (Nat.le_refl _)
  go_enter Tryz.func25,Tryz.ntmps25
  try dsimp only
  repeat (fail_if_success (show Code.wp _ (Code.seq (Code.region 1 _ _) _) _ _ _)
          first | go_values | go_skip | go_guarded | go_step | go_upon | go_back | (simp only [Int.not_lt,Int.not_le] at *;go_simp) | (go_ite <;> go_prune <;> (try go_simp)))
  generalize hW0:w.alloc (.cells (ggaC false 0 0 0 0 false 0 false 0 0 false 0 false 0 false 0 false 0 false 0 false 0) 32)=W0 at *
  clear hW0
  go_upto_region 2 with fail
  try (apply wp_seq_k;intro K_ HK_)
  apply wp_region_lit
  go_step
  go_step
  go_step
  refine wpList_store_mid rfl _ _ _ rfl w.heap.size 0 (ggaC false 0 0 0 0 false 0 false 0 0 false 0 false 0 false 0 false 0 false 0 false 0) rfl rfl (there_of HR.out HRF.out rfl) gga_size (by simp [Value.oneCell']) ?_
  have hY:=World.rangeAt_setCells_same W0 w.heap.size 0 (ggaC false 0 0 0 0 false 0 false 0 0 false 0 false 0 false 0 false 0 false 0 false 0).toList (there_of HR.out HRF.out rfl)
  have HBK:=Lib.hid (below_cells (Nat.le_refl _) (ggaC false 0 0 0 0 false 0 false 0 0 false 0 false 0 false 0 false 0 false 0 false 0).toList 0 W0 HB9.out)
  have hld:=gga_load (C:=ggaC false 0 0 0 0 false 0 false 0 0 false 0 false 0 false 0 false 0 false 0 false 0) rfl hY
  clear hY HR HRF HB9
  generalize World.setCells W0 w.heap.size 0 (ggaC false 0 0 0 0 false 0 false 0 0 false 0 false 0 false 0 false 0 false 0 false 0).toList=Y at *
  have HLD:=Lib.hid hld
  clear hld
  go_wp2_with fail
  refine bodyPost_ret (v:=.tuple #[ggaV false 0 0 0 0 false 0 false 0 0 false 0 false 0 false 0 false 0 false 0 false 0,.int .i64 3]) (by rw [results_cell_tmp rfl];simp [asAddr,Result.andThen,HLD.out]) rfl ?_
  exact⟨rfl,HBK.out⟩
theorem r25Take_any (A:Option Addr) (R:List ByteArray) (c:Nat) (w:World) (hs:Strs w w.heap.size A R) (hz:∀ t∈R,t.size≤1000000):Calls Tryz.prog 25 #[.slice A R.length c] w (GgaPost (takeGga R) w):=by
  by_cases h:R.length=14
  · exact r25Take_ok A R.length c R w rfl hs hz h
  · rw [show takeGga R=(zeroF,3) from if_pos h]
    exact r25Take_bad A R.length c w (by rw [bne_iff_ne];omega)
end Go.Proofs.YtoabkoniegmkaaaGreat
