/- Layer 26: Take. Printed by genrmct.py. -/
import Derived.Test.YtoabkoniegmkaaaGreatJ24
import Derived.Test.YtoabkoniegmkaaaGreatJ15
import Derived.Test.YtoabkoniegmkaaaGreatJ22
import Derived.Test.YtoabkoniegmkaaaGreatJ12
import Derived.Test.YtoabkoniegmkaaaGreatJ10
import Derived.Test.YtoabkoniegmkaaaGreatJ19
import Derived.Test.YtoabkoniegmkaaaGreatJ30
import Derived.Test.YtoabkoniegmkaaaGreatJ11
namespace Go.Proofs.YtoabkoniegmkaaaGreat
set_option linter.unusedVariables false
open Go.RowKit
set_option linter.unusedSimpArgs false
abbrev rmcTV (x:RmcT):Value:=rmcV x.1.1 x.1.2.1 x.1.2.2.1 x.1.2.2.2.1 x.1.2.2.2.2 x.2.1 x.2.2.1.1 x.2.2.1.2 x.2.2.2.1.1 x.2.2.2.1.2 x.2.2.2.2.1.1 x.2.2.2.2.1.2 x.2.2.2.2.2.1.1 x.2.2.2.2.2.1.2 x.2.2.2.2.2.2.2.1 x.2.2.2.2.2.2.2.2 x.2.2.2.2.2.2.1.1 x.2.2.2.2.2.2.1.2.1 x.2.2.2.2.2.2.1.2.2.1 x.2.2.2.2.2.2.1.2.2.2
def RmcPost (x:RmcT×Int) (w:World) (r:Ending) (w':World):Prop:=r=.returned (.tuple #[rmcTV x.1,.int .i64 x.2])∧Below w.heap.size w w'
theorem rmc_size:(Tryz.prog.info? 36).map (·.size)=some 20:=by kernel_rfl
theorem rmc_load {w:World} {b:Nat} {C:Array Value} (hC:C.size=20) (h:w.rangeAt b 0 C.toList):(loadVar 36 ⟨b,0,none⟩).run Tryz.prog w=.ok (.agg C) w:=by
  have:=run_loadVar_mid (P:=Tryz.prog) w b 0 36 C.toList _ h Tryz.underlying36 rfl (by rw [rmc_size,Array.length_toList,hC])
  simpa using this
abbrev eyeP (g:Nat):Obj:=.cells #[.pointer (some ⟨g,0,none⟩)] 156
abbrev fnO (P:Nat):Obj:=.cells #[.func (.func 108) #[] #[.pointer (some ⟨P,0,none⟩)]] 124
abbrev stepsT (P M N:Nat):Array Value:=#[.func (.func 110) #[] #[.pointer (some ⟨P,0,none⟩),.pointer (some ⟨M,0,none⟩),.pointer (some ⟨N,0,none⟩)],.func (.func 113) #[] #[.pointer (some ⟨P,0,none⟩),.pointer (some ⟨M,0,none⟩)],.func (.func 115) #[] #[.pointer (some ⟨P,0,none⟩),.pointer (some ⟨M,0,none⟩)],.func (.func 116) #[] #[.pointer (some ⟨P,0,none⟩),.pointer (some ⟨M,0,none⟩)],.func (.func 117) #[] #[.pointer (some ⟨P,0,none⟩),.pointer (some ⟨M,0,none⟩)],.func (.func 119) #[] #[.pointer (some ⟨P,0,none⟩),.pointer (some ⟨M,0,none⟩)],.func (.func 121) #[] #[.pointer (some ⟨P,0,none⟩),.pointer (some ⟨M,0,none⟩),.pointer (some ⟨N,0,none⟩)],.func (.func 123) #[] #[.pointer (some ⟨P,0,none⟩),.pointer (some ⟨M,0,none⟩)],.func (.func 125) #[] #[.pointer (some ⟨P,0,none⟩)]]
theorem run_store_funcV {P:Program} {w:World} {a:Addr} {m:Mode} (f:_) (x:_) (y:_):(store a (.func f x y) m).run P w=stored P w a (.func f x y) m:=run_store P w a _ m rfl
theorem rmc_taken {R:List ByteArray} {cb:Bool} {ch:Int} {cm:Int} {cs:Int} {cc:Int} {st:Bool} {lb:Bool} {ln:Int} {ob:Bool} {on:Int} {sb:Bool} {sn:Int} {kb:Bool} {kn:Int} {vb:Bool} {vn:Int} {db:Bool} {dd:Int} {dm:Int} {dy:Int} {r1 r2 r3 r4 r5 r6 r7 r8 r9:Rd} (hl:R.length=11∨R.length=12) (h1:Hid (rdClk (0,R)=((cb,ch,cm,cs,cc),r1))) (h2:Hid (rdSt r1=(st,r2))) (h3:Hid (rdAng true r2=((lb,ln),r3))) (h4:Hid (rdAng false r3=((ob,on),r4))) (h5:Hid (rdNum 1 4 2 0 999999 r4=((sb,sn),r5))) (h6:Hid (rdNum 1 3 2 0 36000 r5=((kb,kn),r6))) (h7:Hid (rdDat r6=((db,dd,dm,dy),r7))) (h8:Hid (rdVar r7=((vb,vn),r8))) (h9:Hid (rdMode r8=r9)) :
    takeRmc R=if r9.1=0 then (((cb,ch,cm,cs,cc),st,(lb,ln),(ob,on),(sb,sn),(kb,kn),(db,dd,dm,dy),(vb,vn)),0) else (zeroM,r9.1):=by
  have hR:rmcR (0,R)=(((cb,ch,cm,cs,cc),st,(lb,ln),(ob,on),(sb,sn),(kb,kn),(db,dd,dm,dy),(vb,vn)),r8):=by
    unfold rmcR
    simp only [seqR,h1.out,h2.out,h3.out,h4.out,h5.out,h6.out,h7.out,h8.out]
  unfold takeRmc
  rw [if_neg (fun q=>by omega),hR]
  simp only
  rw [h9.out]
set_option maxRecDepth 8000 in
set_option maxHeartbeats 16000000 in
theorem rmcTake_ok (A:Option Addr) (n c:Nat) (R:List ByteArray) (w:World) (hl:R.length=n) (hA:A=none→c=0) (hs:Strs w w.heap.size A R) (hz:∀ t∈R,t.size≤1000000) (hkn:Hid (n=11∨n=12)) :
    Calls Tryz.prog 44 #[.slice A n c] w (RmcPost (takeRmc R) w):=by
  obtain⟨cb,ch,cm,cs,cc,r1,h1⟩:∃ cb ch cm cs cc u,Hid (rdClk (0,R)=((cb,ch,cm,cs,cc),u)):=⟨_,_,_,_,_,_,rfl⟩
  obtain⟨st,r2,h2⟩:∃ st u,Hid (rdSt r1=(st,u)):=⟨_,_,rfl⟩
  obtain⟨lb,ln,r3,h3⟩:∃ lb ln u,Hid (rdAng true r2=((lb,ln),u)):=⟨_,_,_,rfl⟩
  obtain⟨ob,on,r4,h4⟩:∃ ob on u,Hid (rdAng false r3=((ob,on),u)):=⟨_,_,_,rfl⟩
  obtain⟨sb,sn,r5,h5⟩:∃ sb sn u,Hid (rdNum 1 4 2 0 999999 r4=((sb,sn),u)):=⟨_,_,_,rfl⟩
  obtain⟨kb,kn,r6,h6⟩:∃ kb kn u,Hid (rdNum 1 3 2 0 36000 r5=((kb,kn),u)):=⟨_,_,_,rfl⟩
  obtain⟨db,dd,dm,dy,r7,h7⟩:∃ db dd dm dy u,Hid (rdDat r6=((db,dd,dm,dy),u)):=⟨_,_,_,_,_,rfl⟩
  obtain⟨vb,vn,r8,h8⟩:∃ vb vn u,Hid (rdVar r7=((vb,vn),u)):=⟨_,_,_,rfl⟩
  obtain⟨r9,h9⟩:∃ u,Hid (rdMode r8=u):=⟨_,rfl⟩
  obtain⟨X,hX⟩:∃ X,takeRmc R=X:=⟨_,rfl⟩
  have HT:Hid (X=if r9.1=0 then (((cb,ch,cm,cs,cc),st,(lb,ln),(ob,on),(sb,sn),(kb,kn),(db,dd,dm,dy),(vb,vn)),0) else (zeroM,r9.1)):=hX.symm.trans (rmc_taken (by rw [hl];exact hkn.out) h1 h2 h3 h4 h5 h6 h7 h8 h9)
  rw [hX]
  clear hX
  have HB0:=Lib.hid (below_new w (.cells (rmcC false 0 0 0 0 false false 0 false 0 false 0 false 0 false 0 false 0 0 0) 36))
  have HL:=Lib.hid (eyeLook (c:=c) hA ((hs.below HB0.out (Nat.le_refl _)).more HB0.out.size) (by have:=hkn.out;omega) hz)
  rw [hl] at HL
  have HR0:Hid (∀ o,(w.alloc (.cells (rmcC false 0 0 0 0 false false 0 false 0 false 0 false 0 false 0 false 0 0 0) 36)).cell? ⟨w.heap.size,o,none⟩=(rmcC false 0 0 0 0 false false 0 false 0 false 0 false 0 false 0 false 0 0 0)[o]?):=fun o=>World.cell?_alloc_at _ _ _ _ rfl
  have HR1:Hid (∀ o,(w.alloc (.cells (rmcC false 0 0 0 0 false false 0 false 0 false 0 false 0 false 0 false 0 0 0) 36)).frozen? ⟨w.heap.size,o,none⟩=false):=fun o=>by rw [frozen?_alloc_cells];exact frozen_past _ _ _ (Nat.le_refl _)
  have HZ0:Hid ((w.alloc (.cells (rmcC false 0 0 0 0 false false 0 false 0 false 0 false 0 false 0 false 0 0 0) 36)).heap.size=w.heap.size+1):=by show _=_;simp
  have hsf:=@run_store_funcV Tryz.prog
  clear hs hA hz hl
  go_enter Tryz.func44,Tryz.ntmps44
  try dsimp only
  repeat (fail_if_success (show Code.wp _ (Code.seq (Code.region 1 _ _) _) _ _ _)
          first | go_values | go_skip | go_guarded | go_step | go_upon | go_back | (simp only [Int.not_lt,Int.not_le] at *;go_simp) | (go_ite <;> go_prune <;> (try go_simp)))
  go_cut [] (fun wx=>wx=w.alloc (.cells (rmcC false 0 0 0 0 false false 0 false 0 false 0 false 0 false 0 false 0 0 0) 36))
  case first=>
    rcases hkn.out with e | e
    · have i1:((n:Int) != 11)=false:=by rw [bne_eq_false_iff_eq];omega
      clear e
      go_wp2_with fail
      go_meet
      rfl
    · have i1:((n:Int) != 11)=true:=by rw [bne_iff_ne];omega
      have i2:((n:Int) != 12)=false:=by rw [bne_eq_false_iff_eq];omega
      clear e
      go_wp2_with fail
      go_meet
      rfl
  case rest=>
  subst hcut
  generalize hW0:w.alloc (.cells (rmcC false 0 0 0 0 false false 0 false 0 false 0 false 0 false 0 false 0 0 0) 36)=W0 at *
  clear hW0
  go_wp2_with fail
  refine HL.out.mono ?_
  rintro r w1 ⟨g,rfl,hx1,hg1,hz1,hb1⟩
  have hbP:=below_new w1 (eyeP g)
  have hbM:=below_new (w1.alloc (eyeP g)) (.cells (rmcC false 0 0 0 0 false false 0 false 0 false 0 false 0 false 0 false 0 0 0) 36)
  have hbN:=below_new ((w1.alloc (eyeP g)).alloc (.cells (rmcC false 0 0 0 0 false false 0 false 0 false 0 false 0 false 0 false 0 0 0) 36)) (fnO w1.heap.size)
  have hbB:=below_new (((w1.alloc (eyeP g)).alloc (.cells (rmcC false 0 0 0 0 false false 0 false 0 false 0 false 0 false 0 false 0 0 0) 36)).alloc (fnO w1.heap.size)) (.cells (stepsT w1.heap.size (w1.heap.size+1) (w1.heap.size+1+1)) 1)
  have hzP:(w1.alloc (eyeP g)).heap.size=w1.heap.size+1:=by simp
  have hzM:((w1.alloc (eyeP g)).alloc (.cells (rmcC false 0 0 0 0 false false 0 false 0 false 0 false 0 false 0 false 0 0 0) 36)).heap.size=w1.heap.size+1+1:=by simp
  have hzN:(((w1.alloc (eyeP g)).alloc (.cells (rmcC false 0 0 0 0 false false 0 false 0 false 0 false 0 false 0 false 0 0 0) 36)).alloc (fnO w1.heap.size)).heap.size=w1.heap.size+1+1+1:=by simp
  have hzW:((((w1.alloc (eyeP g)).alloc (.cells (rmcC false 0 0 0 0 false false 0 false 0 false 0 false 0 false 0 false 0 0 0) 36)).alloc (fnO w1.heap.size)).alloc (.cells (stepsT w1.heap.size (w1.heap.size+1) (w1.heap.size+1+1)) 1)).heap.size=w1.heap.size+1+1+1+1:=by simp
  have hb14:Below w1.heap.size w1 ((((w1.alloc (eyeP g)).alloc (.cells (rmcC false 0 0 0 0 false false 0 false 0 false 0 false 0 false 0 false 0 0 0) 36)).alloc (fnO w1.heap.size)).alloc (.cells (stepsT w1.heap.size (w1.heap.size+1) (w1.heap.size+1+1)) 1)):=bthen (bthen (bthen hbP hbM) hbN) hbB
  have pW:Hid (((((w1.alloc (eyeP g)).alloc (.cells (rmcC false 0 0 0 0 false false 0 false 0 false 0 false 0 false 0 false 0 0 0) 36)).alloc (fnO w1.heap.size)).alloc (.cells (stepsT w1.heap.size (w1.heap.size+1) (w1.heap.size+1+1)) 1)).cell? ⟨w1.heap.size,0,none⟩=some (.pointer (some ⟨g,0,none⟩))):=(World.cell?_alloc_past _ _ _ (by omega)).trans ((World.cell?_alloc_past _ _ _ (by omega)).trans ((World.cell?_alloc_past _ _ _ (by omega)).trans (World.cell?_alloc_at _ _ _ _ rfl)))
  have nW:Hid (((((w1.alloc (eyeP g)).alloc (.cells (rmcC false 0 0 0 0 false false 0 false 0 false 0 false 0 false 0 false 0 0 0) 36)).alloc (fnO w1.heap.size)).alloc (.cells (stepsT w1.heap.size (w1.heap.size+1) (w1.heap.size+1+1)) 1)).cell? ⟨w1.heap.size+1+1,0,none⟩=some (.func (.func 108) #[] #[.pointer (some ⟨w1.heap.size,0,none⟩)])):=(World.cell?_alloc_past _ _ _ (by omega)).trans (World.cell?_alloc_at _ _ _ _ hzM.symm)
  have HBW:Hid (∀ o,((((w1.alloc (eyeP g)).alloc (.cells (rmcC false 0 0 0 0 false false 0 false 0 false 0 false 0 false 0 false 0 0 0) 36)).alloc (fnO w1.heap.size)).alloc (.cells (stepsT w1.heap.size (w1.heap.size+1) (w1.heap.size+1+1)) 1)).cell? ⟨w1.heap.size+1+1+1,o,none⟩=(stepsT w1.heap.size (w1.heap.size+1) (w1.heap.size+1+1))[o]?):=fun o=>World.cell?_alloc_at _ _ _ _ hzN.symm
  have T0:Hid (TkI (EyeI g (0,R)) g (w1.heap.size+1) (rmcC false 0 0 0 0 false false 0 false 0 false 0 false 0 false 0 false 0 0 0) ((((w1.alloc (eyeP g)).alloc (.cells (rmcC false 0 0 0 0 false false 0 false 0 false 0 false 0 false 0 false 0 0 0) 36)).alloc (fnO w1.heap.size)).alloc (.cells (stepsT w1.heap.size (w1.heap.size+1) (w1.heap.size+1+1)) 1)) ((((w1.alloc (eyeP g)).alloc (.cells (rmcC false 0 0 0 0 false false 0 false 0 false 0 false 0 false 0 false 0 0 0) 36)).alloc (fnO w1.heap.size)).alloc (.cells (stepsT w1.heap.size (w1.heap.size+1) (w1.heap.size+1+1)) 1))):=
    ⟨hx1.keep hb14,fun j=>(World.cell?_alloc_past _ _ _ (by omega)).trans ((World.cell?_alloc_past _ _ _ (by omega)).trans (World.cell?_alloc_at _ _ _ _ hzP.symm)),fun j=>by rw [frozen?_alloc_cells,frozen?_alloc_cells,frozen?_alloc_cells];exact frozen_past _ _ _ (by omega),by omega,by omega,rfl,rfl,rfl,Nat.le_refl _,fun _ _ _ _=>rfl⟩
  have hz0:=HZ0.out
  have sP:Hid (w1.heap.size < ((((w1.alloc (eyeP g)).alloc (.cells (rmcC false 0 0 0 0 false false 0 false 0 false 0 false 0 false 0 false 0 0 0) 36)).alloc (fnO w1.heap.size)).alloc (.cells (stepsT w1.heap.size (w1.heap.size+1) (w1.heap.size+1+1)) 1)).heap.size∧w1.heap.size≠g∧w1.heap.size≠w1.heap.size+1):=⟨by omega,by omega,by omega⟩
  have sN:Hid (w1.heap.size+1+1 < ((((w1.alloc (eyeP g)).alloc (.cells (rmcC false 0 0 0 0 false false 0 false 0 false 0 false 0 false 0 false 0 0 0) 36)).alloc (fnO w1.heap.size)).alloc (.cells (stepsT w1.heap.size (w1.heap.size+1) (w1.heap.size+1+1)) 1)).heap.size∧w1.heap.size+1+1≠g∧w1.heap.size+1+1≠w1.heap.size+1):=⟨by omega,by omega,by omega⟩
  have sB:Hid (w1.heap.size+1+1+1 < ((((w1.alloc (eyeP g)).alloc (.cells (rmcC false 0 0 0 0 false false 0 false 0 false 0 false 0 false 0 false 0 0 0) 36)).alloc (fnO w1.heap.size)).alloc (.cells (stepsT w1.heap.size (w1.heap.size+1) (w1.heap.size+1+1)) 1)).heap.size∧w1.heap.size+1+1+1≠g∧w1.heap.size+1+1+1≠w1.heap.size+1):=⟨by omega,by omega,by omega⟩
  have hb04:=bthen hb1 hb14
  have HRW:Hid ((∀ o,((((w1.alloc (eyeP g)).alloc (.cells (rmcC false 0 0 0 0 false false 0 false 0 false 0 false 0 false 0 false 0 0 0) 36)).alloc (fnO w1.heap.size)).alloc (.cells (stepsT w1.heap.size (w1.heap.size+1) (w1.heap.size+1+1)) 1)).cell? ⟨w.heap.size,o,none⟩=(rmcC false 0 0 0 0 false false 0 false 0 false 0 false 0 false 0 false 0 0 0)[o]?)∧(∀ o,((((w1.alloc (eyeP g)).alloc (.cells (rmcC false 0 0 0 0 false false 0 false 0 false 0 false 0 false 0 false 0 0 0) 36)).alloc (fnO w1.heap.size)).alloc (.cells (stepsT w1.heap.size (w1.heap.size+1) (w1.heap.size+1+1)) 1)).frozen? ⟨w.heap.size,o,none⟩=false)∧Below w.heap.size w ((((w1.alloc (eyeP g)).alloc (.cells (rmcC false 0 0 0 0 false false 0 false 0 false 0 false 0 false 0 false 0 0 0) 36)).alloc (fnO w1.heap.size)).alloc (.cells (stepsT w1.heap.size (w1.heap.size+1) (w1.heap.size+1+1)) 1))):=
    ⟨fun o=>((bcell hb04).1 _ o (by omega)).trans (HR0.out o),fun o=>((bcell hb04).2 _ o (by omega)).trans (HR1.out o),Below.trans HB0.out (hb04.mono (by omega))⟩
  have HLT:Hid (w.heap.size < ((((w1.alloc (eyeP g)).alloc (.cells (rmcC false 0 0 0 0 false false 0 false 0 false 0 false 0 false 0 false 0 0 0) 36)).alloc (fnO w1.heap.size)).alloc (.cells (stepsT w1.heap.size (w1.heap.size+1) (w1.heap.size+1+1)) 1)).heap.size∧w.heap.size < g∧w.heap.size < w1.heap.size+1):=⟨by omega,by omega,by omega⟩
  clear hbP hbM hbN hbB hzP hzM hzN hzW hb14 hz0 hb04 hx1 hg1 hz1 hb1 HL HR0 HR1 HZ0 HB0
  go_upto_region 7 with fail
  generalize ((((w1.alloc (eyeP g)).alloc (.cells (rmcC false 0 0 0 0 false false 0 false 0 false 0 false 0 false 0 false 0 0 0) 36)).alloc (fnO w1.heap.size)).alloc (.cells (stepsT w1.heap.size (w1.heap.size+1) (w1.heap.size+1+1)) 1))=W at *
  generalize w1.heap.size=P at *
  go_wp2_with fail
  refine wp_loop_rounds 10 ?_
  rw [rounds_succ]
  have q:=(T0.out.cell (o:=0) sB.out.1 sB.out.2.1 sB.out.2.2).trans (HBW.out 0)
  go_wp2_with fail
  refine (rmcTake2_any h1 T0.out pW sP nW sN).mono ?_
  rintro r x1 ⟨rfl,ht⟩
  have T1:=Lib.hid ht
  clear ht T0 q
  go_wp2_with fail
  rw [rounds_succ]
  have q:=(T1.out.cell (o:=1) sB.out.1 sB.out.2.1 sB.out.2.2).trans (HBW.out 1)
  go_wp2_with fail
  refine (rmcTake3_any h2 T1.out pW sP).mono ?_
  rintro r x2 ⟨rfl,ht⟩
  have T2:=Lib.hid ht
  clear ht T1 q
  go_wp2_with fail
  rw [rounds_succ]
  have q:=(T2.out.cell (o:=2) sB.out.1 sB.out.2.1 sB.out.2.2).trans (HBW.out 2)
  go_wp2_with fail
  refine (rmcTake4_any h3 T2.out pW sP).mono ?_
  rintro r x3 ⟨rfl,ht⟩
  have T3:=Lib.hid ht
  clear ht T2 q
  go_wp2_with fail
  rw [rounds_succ]
  have q:=(T3.out.cell (o:=3) sB.out.1 sB.out.2.1 sB.out.2.2).trans (HBW.out 3)
  go_wp2_with fail
  refine (rmcTake5_any h4 T3.out pW sP).mono ?_
  rintro r x4 ⟨rfl,ht⟩
  have T4:=Lib.hid ht
  clear ht T3 q
  go_wp2_with fail
  rw [rounds_succ]
  have q:=(T4.out.cell (o:=4) sB.out.1 sB.out.2.1 sB.out.2.2).trans (HBW.out 4)
  go_wp2_with fail
  refine (rmcTake6_any h5 T4.out pW sP).mono ?_
  rintro r x5 ⟨rfl,ht⟩
  have T5:=Lib.hid ht
  clear ht T4 q
  go_wp2_with fail
  rw [rounds_succ]
  have q:=(T5.out.cell (o:=5) sB.out.1 sB.out.2.1 sB.out.2.2).trans (HBW.out 5)
  go_wp2_with fail
  refine (rmcTake7_any h6 T5.out pW sP).mono ?_
  rintro r x6 ⟨rfl,ht⟩
  have T6:=Lib.hid ht
  clear ht T5 q
  go_wp2_with fail
  rw [rounds_succ]
  have q:=(T6.out.cell (o:=6) sB.out.1 sB.out.2.1 sB.out.2.2).trans (HBW.out 6)
  go_wp2_with fail
  refine (rmcTake8_any h7 T6.out pW sP nW sN).mono ?_
  rintro r x7 ⟨rfl,ht⟩
  have T7:=Lib.hid ht
  clear ht T6 q
  go_wp2_with fail
  rw [rounds_succ]
  have q:=(T7.out.cell (o:=7) sB.out.1 sB.out.2.1 sB.out.2.2).trans (HBW.out 7)
  go_wp2_with fail
  refine (rmcTake9_any h8 T7.out pW sP).mono ?_
  rintro r x8 ⟨rfl,ht⟩
  have T8:=Lib.hid ht
  clear ht T7 q
  go_wp2_with fail
  rw [rounds_succ]
  have q:=(T8.out.cell (o:=8) sB.out.1 sB.out.2.1 sB.out.2.2).trans (HBW.out 8)
  go_wp2_with fail
  refine (rmcTake10_any h9 T8.out pW sP).mono ?_
  rintro r x9 ⟨rfl,ht⟩
  have T9:=Lib.hid ht
  clear ht T8 q
  go_wp2_with fail
  rw [rounds_succ]
  generalize x9=y9 at *
  obtain⟨E,hE⟩:∃ E,r9.1=E:=⟨_,rfl⟩
  have HER:=Lib.hid (eyeErr T9.out.x)
  rw [hE] at HER HT
  clear hE
  have p_:=(T9.out.cell (o:=0) sP.out.1 sP.out.2.1 sP.out.2.2).trans pW.out
  have hr:∀ j,y9.cell? ⟨w.heap.size,j,none⟩=(rmcC false 0 0 0 0 false false 0 false 0 false 0 false 0 false 0 false 0 0 0)[j]?:=fun j=>(T9.out.cell (by have:=HLT.out;omega) (by have:=HLT.out;omega) (by have:=HLT.out;omega)).trans (HRW.out.1 j)
  have hf:∀ j,y9.frozen? ⟨w.heap.size,j,none⟩=false:=fun j=>(T9.out.frozen (by have:=HLT.out;omega) (by have:=HLT.out;omega) (by have:=HLT.out;omega)).trans (HRW.out.2.1 j)
  have HB9:Hid (Below w.heap.size w y9):=Below.trans HRW.out.2.2 (T9.out.below (by have:=HLT.out;omega) (by have:=HLT.out;omega))
  have hm:=T9.out.c
  have HR:=Lib.hid (show AtC y9 w.heap.size (rmcC false 0 0 0 0 false false 0 false 0 false 0 false 0 false 0 false 0 0 0) from hr)
  have HRF:=Lib.hid hf
  have HRM:=Lib.hid (range_of (show AtC y9 (P+1) (rmcC cb ch cm cs cc st lb ln ob on sb sn kb kn vb vn db dd dm dy) from hm))
  clear T9 HRW hr hf hm
  go_wp2_with fail
  refine HER.out.mono ?_
  rintro r w' ⟨rfl,rfl⟩
  clear p_ HER HBW sB sN nW
  generalize P+1=M at *
  by_cases hE:E=0
  · subst hE
    have HX2:Hid (X=(((cb,ch,cm,cs,cc),st,(lb,ln),(ob,on),(sb,sn),(kb,kn),(db,dd,dm,dy),(vb,vn)),0)):=HT.out.trans (if_pos rfl)
    clear HT
    go_upto_region 15 with fail
    try (apply wp_seq_k;intro K_ HK_)
    apply wp_region_lit
    refine wpList_load_mid rfl _ _ rfl M 0 rfl (rmcC cb ch cm cs cc st lb ln ob on sb sn kb kn vb vn db dd dm dy).toList _ HRM.out Tryz.underlying36 rfl rmc_size ?_
    refine wpList_store_mid rfl _ _ _ rfl w.heap.size 0 (rmcC cb ch cm cs cc st lb ln ob on sb sn kb kn vb vn db dd dm dy) rfl rfl (there_of HR.out HRF.out rfl) rmc_size (by simp [Value.oneCell']) ?_
    have hY:=World.rangeAt_setCells_same y9 w.heap.size 0 (rmcC cb ch cm cs cc st lb ln ob on sb sn kb kn vb vn db dd dm dy).toList (there_of HR.out HRF.out rfl)
    have HBK:=Lib.hid (below_cells (Nat.le_refl _) (rmcC cb ch cm cs cc st lb ln ob on sb sn kb kn vb vn db dd dm dy).toList 0 y9 HB9.out)
    have hld:=rmc_load (C:=rmcC cb ch cm cs cc st lb ln ob on sb sn kb kn vb vn db dd dm dy) rfl hY
    clear hY HR HRF HB9
    generalize World.setCells y9 w.heap.size 0 (rmcC cb ch cm cs cc st lb ln ob on sb sn kb kn vb vn db dd dm dy).toList=Y at *
    have HLD:=Lib.hid hld
    clear hld
    go_wp2_with fail
    refine bodyPost_ret (v:=.tuple #[rmcV cb ch cm cs cc st lb ln ob on sb sn kb kn vb vn db dd dm dy,.int .i64 0]) (by rw [results_cell_tmp rfl];simp [asAddr,Result.andThen,HLD.out]) rfl ?_
    rw [HX2.out]
    exact⟨rfl,HBK.out⟩
  · have hne:(E != 0)=true:=by rw [bne_iff_ne];exact hE
    have HX2:Hid (X=(zeroM,E)):=HT.out.trans (if_neg hE)
    clear hE HT
    go_upto_region 14 with fail
    try (apply wp_seq_k;intro K_ HK_)
    apply wp_region_lit
    go_step
    go_step
    go_step
    go_step
    go_step
    go_step
    refine wpList_store_mid rfl _ _ _ rfl w.heap.size 0 (rmcC false 0 0 0 0 false false 0 false 0 false 0 false 0 false 0 false 0 0 0) rfl rfl (there_of HR.out HRF.out rfl) rmc_size (by simp [Value.oneCell']) ?_
    have hY:=World.rangeAt_setCells_same y9 w.heap.size 0 (rmcC false 0 0 0 0 false false 0 false 0 false 0 false 0 false 0 false 0 0 0).toList (there_of HR.out HRF.out rfl)
    have HBK:=Lib.hid (below_cells (Nat.le_refl _) (rmcC false 0 0 0 0 false false 0 false 0 false 0 false 0 false 0 false 0 0 0).toList 0 y9 HB9.out)
    have hld:=rmc_load (C:=rmcC false 0 0 0 0 false false 0 false 0 false 0 false 0 false 0 false 0 0 0) rfl hY
    clear hY HR HRF HB9
    generalize World.setCells y9 w.heap.size 0 (rmcC false 0 0 0 0 false false 0 false 0 false 0 false 0 false 0 false 0 0 0).toList=Y at *
    have HLD:=Lib.hid hld
    clear hld
    go_wp2_with fail
    refine bodyPost_ret (v:=.tuple #[rmcV false 0 0 0 0 false false 0 false 0 false 0 false 0 false 0 false 0 0 0,.int .i64 E]) (by rw [results_cell_tmp rfl];simp [asAddr,Result.andThen,HLD.out]) rfl ?_
    rw [HX2.out]
    exact⟨rfl,HBK.out⟩
set_option maxRecDepth 8000 in
set_option maxHeartbeats 4000000 in
theorem rmcTake_bad (A:Option Addr) (n c:Nat) (w:World) (h:((n:Int) != 11)=true) (h2:((n:Int) != 12)=true):Calls Tryz.prog 44 #[.slice A n c] w (RmcPost (zeroM,3) w):=by
  have HB9:=Lib.hid (below_new w (.cells (rmcC false 0 0 0 0 false false 0 false 0 false 0 false 0 false 0 false 0 0 0) 36))
  have HR:Hid (AtC (w.alloc (.cells (rmcC false 0 0 0 0 false false 0 false 0 false 0 false 0 false 0 false 0 0 0) 36)) w.heap.size (rmcC false 0 0 0 0 false false 0 false 0 false 0 false 0 false 0 false 0 0 0)):=fun o=>World.cell?_alloc_at _ _ _ _ rfl
  have HRF:Hid (∀ o,(w.alloc (.cells (rmcC false 0 0 0 0 false false 0 false 0 false 0 false 0 false 0 false 0 0 0) 36)).frozen? ⟨w.heap.size,o,none⟩=false):=fun o=>by rw [frozen?_alloc_cells];exact frozen_past _ _ _ (Nat.le_refl _)
  go_enter Tryz.func44,Tryz.ntmps44
  try dsimp only
  repeat (fail_if_success (show Code.wp _ (Code.seq (Code.region 1 _ _) _) _ _ _)
          first | go_values | go_skip | go_guarded | go_step | go_upon | go_back | (simp only [Int.not_lt,Int.not_le] at *;go_simp) | (go_ite <;> go_prune <;> (try go_simp)))
  generalize hW0:w.alloc (.cells (rmcC false 0 0 0 0 false false 0 false 0 false 0 false 0 false 0 false 0 0 0) 36)=W0 at *
  clear hW0
  go_upto_region 2 with fail
  try (apply wp_seq_k;intro K_ HK_)
  apply wp_region_lit
  go_step
  go_step
  go_step
  refine wpList_store_mid rfl _ _ _ rfl w.heap.size 0 (rmcC false 0 0 0 0 false false 0 false 0 false 0 false 0 false 0 false 0 0 0) rfl rfl (there_of HR.out HRF.out rfl) rmc_size (by simp [Value.oneCell']) ?_
  have hY:=World.rangeAt_setCells_same W0 w.heap.size 0 (rmcC false 0 0 0 0 false false 0 false 0 false 0 false 0 false 0 false 0 0 0).toList (there_of HR.out HRF.out rfl)
  have HBK:=Lib.hid (below_cells (Nat.le_refl _) (rmcC false 0 0 0 0 false false 0 false 0 false 0 false 0 false 0 false 0 0 0).toList 0 W0 HB9.out)
  have hld:=rmc_load (C:=rmcC false 0 0 0 0 false false 0 false 0 false 0 false 0 false 0 false 0 0 0) rfl hY
  clear hY HR HRF HB9
  generalize World.setCells W0 w.heap.size 0 (rmcC false 0 0 0 0 false false 0 false 0 false 0 false 0 false 0 false 0 0 0).toList=Y at *
  have HLD:=Lib.hid hld
  clear hld
  go_wp2_with fail
  refine bodyPost_ret (v:=.tuple #[rmcV false 0 0 0 0 false false 0 false 0 false 0 false 0 false 0 false 0 0 0,.int .i64 3]) (by rw [results_cell_tmp rfl];simp [asAddr,Result.andThen,HLD.out]) rfl ?_
  exact⟨rfl,HBK.out⟩
theorem rmcTake_any (A:Option Addr) (R:List ByteArray) (c:Nat) (w:World) (hA:A=none→c=0) (hs:Strs w w.heap.size A R) (hz:∀ t∈R,t.size≤1000000):Calls Tryz.prog 44 #[.slice A R.length c] w (RmcPost (takeRmc R) w):=by
  by_cases h:R.length=11∨R.length=12
  · exact rmcTake_ok A R.length c R w rfl hA hs hz h
  · rw [show takeRmc R=(zeroM,3) from if_pos ⟨fun q=>h (.inl q),fun q=>h (.inr q)⟩]
    exact rmcTake_bad A R.length c w (by rw [bne_iff_ne];omega) (by rw [bne_iff_ne];omega)
structure NmD where
  k:Int
  t:ByteArray
  g:GgaT
  r:RmcT
  s:GsaD
  v:V4
  u:GsvD
def zV4:V4:=((false,0),(false,0),(false,0),(false,0))
def zD30:NmD:=⟨0,ByteArray.empty,zeroF,zeroM,zeroS,zV4,zeroG⟩
def gL (x:GgaT):List Value:=[.bool x.1.1,.int .i64 x.1.2.1,.int .i64 x.1.2.2.1,.int .i64 x.1.2.2.2.1,.int .i64 x.1.2.2.2.2,.bool x.2.1.1,.int .i64 x.2.1.2,.bool x.2.2.1.1,.int .i64 x.2.2.1.2,.int .i64 x.2.2.2.1,.bool x.2.2.2.2.1.1,.int .i64 x.2.2.2.2.1.2,.bool x.2.2.2.2.2.1.1,.int .i64 x.2.2.2.2.2.1.2,.bool x.2.2.2.2.2.2.1.1,.int .i64 x.2.2.2.2.2.2.1.2,.bool x.2.2.2.2.2.2.2.1.1,.int .i64 x.2.2.2.2.2.2.2.1.2,.bool x.2.2.2.2.2.2.2.2.1.1,.int .i64 x.2.2.2.2.2.2.2.2.1.2,.bool x.2.2.2.2.2.2.2.2.2.1,.int .i64 x.2.2.2.2.2.2.2.2.2.2]
def rL (x:RmcT):List Value:=[.bool x.1.1,.int .i64 x.1.2.1,.int .i64 x.1.2.2.1,.int .i64 x.1.2.2.2.1,.int .i64 x.1.2.2.2.2,.bool x.2.1,.bool x.2.2.1.1,.int .i64 x.2.2.1.2,.bool x.2.2.2.1.1,.int .i64 x.2.2.2.1.2,.bool x.2.2.2.2.1.1,.int .i64 x.2.2.2.2.1.2,.bool x.2.2.2.2.2.1.1,.int .i64 x.2.2.2.2.2.1.2,.bool x.2.2.2.2.2.2.2.1,.int .i64 x.2.2.2.2.2.2.2.2,.bool x.2.2.2.2.2.2.1.1,.int .i64 x.2.2.2.2.2.2.1.2.1,.int .i64 x.2.2.2.2.2.2.1.2.2.1,.int .i64 x.2.2.2.2.2.2.1.2.2.2]
def sL (x:GsaD) (y:Value):List Value:=[.bool x.a,.int .i64 x.f,y,.bool x.p0.1,.int .i64 x.p0.2,.bool x.p1.1,.int .i64 x.p1.2,.bool x.p2.1,.int .i64 x.p2.2]
def uL (x:GsvD) (y:Value):List Value:=[.int .i64 x.T,.int .i64 x.N,.int .i64 x.S,y]
def nmC (m:NmD) (x y:Value):List Value:=nmL m.k m.t (gL m.g) (rL m.r) (sL m.s x) (viewC m.v) (uL m.u y)
theorem nmLens (m:NmD) (x y:Value):Lens (gL m.g) (rL m.r) (sL m.s x) (viewC m.v) (uL m.u y):=⟨rfl,rfl,rfl,rfl,rfl⟩
theorem gL_ones (x:GgaT):Ones (gL x):=Ones.of rfl
theorem rL_ones (x:RmcT):Ones (rL x):=Ones.of rfl
theorem Ones.cons {v:Value} {L:List Value} (h:v.oneCell'=true) (hL:Ones L):Ones (v :: L):=fun u hu=>by
  rcases List.mem_cons.1 hu with rfl | hu
  · exact h
  · exact hL u hu
theorem sL_ones (x:GsaD) {y:Value} (h:y.oneCell'=true):Ones (sL x y):=Ones.cons rfl (Ones.cons rfl (Ones.cons h (Ones.of rfl)))
theorem vL_ones (x:V4):Ones (viewC x):=Ones.of rfl
theorem uL_ones (x:GsvD) {y:Value} (h:y.oneCell'=true):Ones (uL x y):=Ones.cons rfl (Ones.cons rfl (Ones.cons rfl (Ones.cons h (Ones.of rfl))))
theorem Ints.flatq {w:World} {B:Nat} {A:Option Addr} {L:List Int} (h:Ints w B A L):FlatQ (fun b=>b < B) w A (L.map (Value.int .i64)):=fun j u hu=>by
  rw [List.getElem?_map] at hu
  cases hj:L[j]? with
  | none=>rw [hj] at hu;cases hu
  | some z=>
    rw [hj] at hu
    obtain⟨hlt,rfl⟩:=List.getElem?_eq_some_iff.1 hj
    obtain⟨b,off,h1,h2,h3⟩:=h j hlt
    injection hu with hu
    exact⟨b,off,h1,h2,h3.trans (by rw [← hu])⟩
theorem FlatQ.ints {Q:Nat→Prop} {w:World} {A:Option Addr} {L:List Int} (h:FlatQ Q w A (L.map (Value.int .i64))):Ints w w.heap.size A L:=fun k hk=>by
  obtain⟨b,off,h1,-,h3⟩:=h k (.int .i64 L[k]) (by rw [List.getElem?_map,List.getElem?_eq_getElem hk];rfl)
  exact⟨b,off,h1,World.block_lt_of_cell? w _ h3,h3⟩
theorem FlatQ.on {Q:Nat→Prop} {w w':World} {A:Option Addr} {xs:List Value} (h:FlatQ Q w A xs) (hb:Below w.heap.size w w') (hq:∀ b,Q b→b < w.heap.size):FlatQ Q w' A xs:=h.below hb hq
def Bk (lo:Nat) (w:World) (b:Nat):Prop:=lo≤b∧b < w.heap.size
theorem bk_on {lo:Nat} {w w':World} {A:Option Addr} {xs:List Value} (h:FlatQ (Bk lo w) w A xs) (hb:Below w.heap.size w w'):FlatQ (Bk lo w') w' A xs:=
  (h.below hb fun b q=>q.2).less fun b q=>⟨q.1,Nat.lt_of_lt_of_le q.2 hb.size⟩
theorem bk_far {lo:Nat} {w W:World} {b o:Nat} {cs:List Value} {A:Option Addr} {xs:List Value} (h:FlatQ (Bk lo w) w A xs) (hs:Stored w W b o cs) (hl:b < lo):FlatQ (Bk lo W) W A xs:=
  (h.keep fun k q=>hs.far k (fun e=>by have:=q.1;omega)).less fun k q=>⟨q.1,by rw [hs.sz];exact q.2⟩
theorem bk_ints {w:World} {A:Option Addr} {l:List Int} (h:Ints w w.heap.size A l):FlatQ (Bk 0 w) w A (l.map (Value.int .i64)):=(Ints.flatq h).less fun b q=>⟨Nat.zero_le _,q⟩
theorem bk_vws {w:World} {A:Option Addr} {l:List V4} (h:Vws w w.heap.size A l):FlatQ (Bk 0 w) w A (vsC l):=(Vws.flatq h).less fun b q=>⟨Nat.zero_le _,q⟩
def SlI (lo:Nat) (w:World) (y:Value) (l:List Int):Prop:=∃ A c,y=.slice A l.length c∧FlatQ (Bk lo w) w A (l.map (Value.int .i64))
def SlV (lo:Nat) (w:World) (y:Value) (l:List V4):Prop:=∃ A c,y=.slice A l.length c∧FlatQ (Bk lo w) w A (vsC l)
theorem SlI.one {lo:Nat} {w:World} {y:Value} {l:List Int} (h:SlI lo w y l):y.oneCell'=true:=by obtain⟨A,c,rfl,-⟩:=h;rfl
theorem SlV.one {lo:Nat} {w:World} {y:Value} {l:List V4} (h:SlV lo w y l):y.oneCell'=true:=by obtain⟨A,c,rfl,-⟩:=h;rfl
theorem SlI.on {lo:Nat} {w w':World} {y:Value} {l:List Int} (h:SlI lo w y l) (hb:Below w.heap.size w w'):SlI lo w' y l:=by
  obtain⟨A,c,h1,h2⟩:=h
  exact⟨A,c,h1,bk_on h2 hb⟩
theorem SlV.on {lo:Nat} {w w':World} {y:Value} {l:List V4} (h:SlV lo w y l) (hb:Below w.heap.size w w'):SlV lo w' y l:=by
  obtain⟨A,c,h1,h2⟩:=h
  exact⟨A,c,h1,bk_on h2 hb⟩
theorem SlI.less {lo lo':Nat} {w:World} {y:Value} {l:List Int} (h:SlI lo w y l) (hl:lo'≤lo):SlI lo' w y l:=by
  obtain⟨A,c,h1,h2⟩:=h
  exact⟨A,c,h1,h2.less fun b q=>⟨Nat.le_trans hl q.1,q.2⟩⟩
theorem SlV.less {lo lo':Nat} {w:World} {y:Value} {l:List V4} (h:SlV lo w y l) (hl:lo'≤lo):SlV lo' w y l:=by
  obtain⟨A,c,h1,h2⟩:=h
  exact⟨A,c,h1,h2.less fun b q=>⟨Nat.le_trans hl q.1,q.2⟩⟩
theorem SlI.far {lo:Nat} {w W:World} {b o:Nat} {cs:List Value} {y:Value} {l:List Int} (h:SlI lo w y l) (hs:Stored w W b o cs) (hl:b < lo):SlI lo W y l:=by
  obtain⟨A,c,h1,h2⟩:=h
  exact⟨A,c,h1,bk_far h2 hs hl⟩
theorem SlV.far {lo:Nat} {w W:World} {b o:Nat} {cs:List Value} {y:Value} {l:List V4} (h:SlV lo w y l) (hs:Stored w W b o cs) (hl:b < lo):SlV lo W y l:=by
  obtain⟨A,c,h1,h2⟩:=h
  exact⟨A,c,h1,bk_far h2 hs hl⟩
theorem SlI.nil (lo:Nat) (w:World):SlI lo w (.slice none 0 0) []:=⟨none,0,rfl,FlatQ.nil _ _ _⟩
theorem SlV.nil (lo:Nat) (w:World):SlV lo w (.slice none 0 0) []:=⟨none,0,rfl,FlatQ.nil _ _ _⟩
def NmV (lo:Nat) (w:World) (C:Array Value) (m:NmD):Prop:=∃ x y,C=(nmC m x y).toArray∧SlI lo w x m.s.ids∧SlV lo w y m.u.L
theorem NmV.on {lo:Nat} {w w':World} {C:Array Value} {m:NmD} (h:NmV lo w C m) (hb:Below w.heap.size w w'):NmV lo w' C m:=by
  obtain⟨x,y,h1,h2,h3⟩:=h
  exact⟨x,y,h1,h2.on hb,h3.on hb⟩
theorem NmV.less {lo lo':Nat} {w:World} {C:Array Value} {m:NmD} (h:NmV lo w C m) (hl:lo'≤lo):NmV lo' w C m:=by
  obtain⟨x,y,h1,h2,h3⟩:=h
  exact⟨x,y,h1,h2.less hl,h3.less hl⟩
theorem NmV.far {lo:Nat} {w W:World} {b o:Nat} {cs:List Value} {C:Array Value} {m:NmD} (h:NmV lo w C m) (hs:Stored w W b o cs) (hl:b < lo):NmV lo W C m:=by
  obtain⟨x,y,h1,h2,h3⟩:=h
  exact⟨x,y,h1,h2.far hs hl,h3.far hs hl⟩
theorem nmC_len (m:NmD) (x y:Value):(nmC m x y).length=65:=nmL_len (nmLens m x y)
theorem NmV.len {lo:Nat} {w:World} {C:Array Value} {m:NmD} (h:NmV lo w C m):C.size=65:=by
  obtain⟨x,y,rfl,-⟩:=h
  rw [List.size_toArray,nmC_len]
theorem NmV.ones {lo:Nat} {w:World} {C:Array Value} {m:NmD} (h:NmV lo w C m):C.all (·.oneCell')=true:=by
  obtain⟨x,y,rfl,h2,h3⟩:=h
  exact Ones.arr (nmL_ones (gL_ones _) (rL_ones _) (sL_ones _ h2.one) (vL_ones _) (uL_ones _ h3.one))
theorem NmV.zero (lo:Nat) (w:World):NmV lo w zNm zD30:=⟨_,_,rfl,SlI.nil lo w,SlV.nil lo w⟩
def PartV (lo:Nat) (w:World) (v:Value) (m:NmD):Prop:=
  (m.k=1∧v=.iface 95 (.agg (gL m.g).toArray))∨(m.k=2∧v=.iface 97 (.agg (rL m.r).toArray)) ∨
  (m.k=3∧∃ x,v=.iface 99 (.agg (sL m.s x).toArray)∧SlI lo w x m.s.ids)∨(m.k=4∧v=.iface 101 (.agg (viewC m.v).toArray)) ∨
  (m.k=5∧∃ x,v=.iface 103 (.agg (uL m.u x).toArray)∧SlV lo w x m.u.L)∨(¬ (1≤m.k∧m.k≤5)∧v=.nilIface)
theorem PartV.on {lo:Nat} {w w':World} {v:Value} {m:NmD} (h:PartV lo w v m) (hb:Below w.heap.size w w'):PartV lo w' v m:=by
  rcases h with h | h | ⟨h1,x,h2,h3⟩ | h | ⟨h1,x,h2,h3⟩ | h
  · exact .inl h
  · exact .inr (.inl h)
  · exact .inr (.inr (.inl ⟨h1,x,h2,h3.on hb⟩))
  · exact .inr (.inr (.inr (.inl h)))
  · exact .inr (.inr (.inr (.inr (.inl ⟨h1,x,h2,h3.on hb⟩))))
  · exact .inr (.inr (.inr (.inr (.inr h))))
theorem nmOf_any {lo:Nat} {C:Array Value} {m:NmD} {w:World} (h:NmV lo w C m):Calls Tryz.prog 35 #[.agg C] w fun e w'=>∃ v,e=.returned v∧PartV lo w' v m∧Below w.heap.size w w':=by
  obtain⟨x,y,h1,h2,h3⟩:=h
  refine (nmof_any (C:=C) (k:=m.k) (t:=m.t) (G:=gL m.g) (R:=rL m.r) (S:=sL m.s x) (V:=viewC m.v) (U:=uL m.u y) (by rw [h1];exact rfl) (nmLens m x y) w).mono ?_
  rintro e w' ⟨rfl,hb⟩
  refine⟨_,rfl,?_,hb⟩
  unfold partV
  by_cases k1:m.k=1
  · rw [if_pos k1];exact .inl ⟨k1,rfl⟩
  rw [if_neg k1]
  by_cases k2:m.k=2
  · rw [if_pos k2];exact .inr (.inl ⟨k2,rfl⟩)
  rw [if_neg k2]
  by_cases k3:m.k=3
  · rw [if_pos k3];exact .inr (.inr (.inl ⟨k3,x,rfl,h2.on hb⟩))
  rw [if_neg k3]
  by_cases k4:m.k=4
  · rw [if_pos k4];exact .inr (.inr (.inr (.inl ⟨k4,rfl⟩)))
  rw [if_neg k4]
  by_cases k5:m.k=5
  · rw [if_pos k5];exact .inr (.inr (.inr (.inr (.inl ⟨k5,y,rfl,h3.on hb⟩))))
  rw [if_neg k5]
  exact .inr (.inr (.inr (.inr (.inr ⟨by omega,rfl⟩))))
def only30 (t:ByteArray) (m:NmD):NmD:=
  if m.k=1 then ⟨1,t,m.g,zeroM,zeroS,zV4,zeroG⟩ else if m.k=2 then ⟨2,t,zeroF,m.r,zeroS,zV4,zeroG⟩ else if m.k=3 then ⟨3,t,zeroF,zeroM,m.s,zV4,zeroG⟩
  else if m.k=4 then ⟨4,t,zeroF,zeroM,zeroS,m.v,zeroG⟩ else if m.k=5 then ⟨5,t,zeroF,zeroM,zeroS,zV4,m.u⟩ else ⟨0,t,zeroF,zeroM,zeroS,zV4,zeroG⟩
def word30 (k:Int):ByteArray:=if k=1 then ⟨#[71,71,65]⟩ else if k=2 then ⟨#[82,77,67]⟩ else if k=3 then ⟨#[71,83,65]⟩ else if k=4 then ⟨#[86,84,71]⟩ else if k=5 then ⟨#[71,83,86]⟩ else ⟨#[]⟩
theorem only_1 {t:ByteArray} {m:NmD} (h:m.k=1):only30 t m=⟨1,t,m.g,zeroM,zeroS,zV4,zeroG⟩∧word30 m.k=⟨#[71,71,65]⟩:=⟨if_pos h,if_pos h⟩
theorem only_2 {t:ByteArray} {m:NmD} (h:m.k=2):only30 t m=⟨2,t,zeroF,m.r,zeroS,zV4,zeroG⟩∧word30 m.k=⟨#[82,77,67]⟩:=by simp [only30,word30,h]
theorem only_3 {t:ByteArray} {m:NmD} (h:m.k=3):only30 t m=⟨3,t,zeroF,zeroM,m.s,zV4,zeroG⟩∧word30 m.k=⟨#[71,83,65]⟩:=by simp [only30,word30,h]
theorem only_4 {t:ByteArray} {m:NmD} (h:m.k=4):only30 t m=⟨4,t,zeroF,zeroM,zeroS,m.v,zeroG⟩∧word30 m.k=⟨#[86,84,71]⟩:=by simp [only30,word30,h]
theorem only_5 {t:ByteArray} {m:NmD} (h:m.k=5):only30 t m=⟨5,t,zeroF,zeroM,zeroS,zV4,m.u⟩∧word30 m.k=⟨#[71,83,86]⟩:=by simp [only30,word30,h]
theorem only_no {t:ByteArray} {m:NmD} (h:¬ (1≤m.k∧m.k≤5)):only30 t m=⟨0,t,zeroF,zeroM,zeroS,zV4,zeroG⟩∧word30 m.k=⟨#[]⟩:=by
  unfold only30 word30
  rw [if_neg (by omega),if_neg (by omega),if_neg (by omega),if_neg (by omega),if_neg (by omega),if_neg (by omega),if_neg (by omega),if_neg (by omega),if_neg (by omega),if_neg (by omega)]
  exact⟨rfl,rfl⟩
theorem nmWith_any {lo:Nat} {v:Value} {m:NmD} {w:World} {t:ByteArray} (h:PartV lo w v m) (h1:m.s.ids.length≤1000000) (h2:m.u.L.length≤1000000) :
    Calls Tryz.prog 24 #[.string t,v] w fun e w'=>∃ C,e=.returned (.tuple #[.agg C,.string (word30 m.k)])∧NmV w.heap.size w' C (only30 t m)∧Below w.heap.size w w':=by
  rcases h with ⟨hk,rfl⟩ | ⟨hk,rfl⟩ | ⟨hk,x,rfl,A,c,rfl,hs⟩ | ⟨hk,rfl⟩ | ⟨hk,x,rfl,A,c,rfl,hs⟩ | ⟨hk,rfl⟩
  · rw [(only_1 (t:=t) hk).1,(only_1 (t:=t) hk).2]
    refine (nmwith_1 (G:=gL m.g) rfl (gL_ones _) w).mono ?_
    rintro e w' ⟨rfl,hb⟩
    exact⟨_,rfl,⟨_,_,rfl,SlI.nil _ _,SlV.nil _ _⟩,hb⟩
  · rw [(only_2 (t:=t) hk).1,(only_2 (t:=t) hk).2]
    refine (nmwith_2 (R:=rL m.r) rfl (rL_ones _) w).mono ?_
    rintro e w' ⟨rfl,hb⟩
    exact⟨_,rfl,⟨_,_,rfl,SlI.nil _ _,SlV.nil _ _⟩,hb⟩
  · rw [(only_3 (t:=t) hk).1,(only_3 (t:=t) hk).2]
    refine (nmwith_3 w (a:=m.s.a) (f:=m.s.f) (A:=A) (c:=c) (D:=m.s.ids) (b0:=m.s.p0.1) (n0:=m.s.p0.2) (b1:=m.s.p1.1) (n1:=m.s.p1.2) (b2:=m.s.p2.1) (n2:=m.s.p2.2) (hs.less fun b q=>q.2) h1).mono ?_
    rintro e w' ⟨B,d,rfl,hf,hb⟩
    exact⟨_,rfl,⟨_,_,rfl,⟨B,d,rfl,hf⟩,SlV.nil _ _⟩,hb⟩
  · rw [(only_4 (t:=t) hk).1,(only_4 (t:=t) hk).2]
    refine (nmwith_4 (V:=viewC m.v) rfl (vL_ones _) w).mono ?_
    rintro e w' ⟨rfl,hb⟩
    exact⟨_,rfl,⟨_,_,rfl,SlI.nil _ _,SlV.nil _ _⟩,hb⟩
  · rw [(only_5 (t:=t) hk).1,(only_5 (t:=t) hk).2]
    refine (nmwith_5 w (T:=m.u.T) (N:=m.u.N) (S:=m.u.S) (A:=A) (c:=c) (D:=m.u.L) (hs.less fun b q=>q.2) h2).mono ?_
    rintro e w' ⟨B,d,rfl,hf,hb⟩
    exact⟨_,rfl,⟨_,_,rfl,SlI.nil _ _,⟨B,d,rfl,hf⟩⟩,hb⟩
  · rw [(only_no (t:=t) hk).1,(only_no (t:=t) hk).2]
    refine (nmwith_no w).mono ?_
    rintro e w' ⟨rfl,hb⟩
    exact⟨_,rfl,⟨_,_,rfl,SlI.nil _ _,SlV.nil _ _⟩,hb⟩
theorem wp_alloc_new {P:Program} {o:Oper} {a:Act} {w:World} {Q:Exit→Act→World→Prop} {K:Act→World→Prop} (T:TypeId) (ho:o.op=.alloc T) (Z:Array Value) (hz:(zeroValue T).run P w=.ok (.agg Z) w) (h:∀ W,Grew w W Z→K (a.put o.dst (.pointer (some ⟨w.heap.size,0,none⟩))) W):o.wp P a w K Q:=by
  unfold Oper.wp execOp
  rw [ho]
  simp [Instr.alloc,hz,newVar,newRow,Value.cells]
  exact h _ (grew_alloc w Z T)
theorem zNm_len:zNm.toList.length=65:=nmL_len zLens
def plain30 (m:NmD):NmD:=⟨m.k,(only30 m.t m).t,(only30 m.t m).g,(only30 m.t m).r,(only30 m.t m).s,(only30 m.t m).v,(only30 m.t m).u⟩
theorem results_cell {fn:Func} {p:Tmp} {ty:TypeId} (h:fn.results=#[.cell p ty]) (tmps:Array Value) (P:Program) (w:World) :
    (results fn tmps).run P w=((asAddr (tmps.getD p undef)).run P w).andThen fun a w₁=>(loadVar ty a).run P w₁:=by
  simp only [results,h]
  simp [Sem.run_bind,Result.andThen]
def PlAt (w:World) (L:List Value) (n:NmD) (R P:Nat) (W:World):Prop:=
  ∃ x y,Blk W P (nmC n x y)∧(∀ W' o cs,Stored W W' P o cs→SlI (w.heap.size+2) W' x n.s.ids∧SlV (w.heap.size+2) W' y n.u.L)∧x.oneCell'=true∧y.oneCell'=true∧Blk W w.heap.size L∧Blk W R zNm.toList∧Below w.heap.size w W∧w.heap.size+2≤P
theorem plAt_late {w W W0 W1 W2:World} {L:List Value} {n:NmD} {R:Nat} {C:Array Value} (hb:Below w.heap.size w W0) (h0:Blk W0 w.heap.size L) (hR:Blk W0 R zNm.toList) (hz:W0.heap.size=w.heap.size+2) (hw:Below W0.heap.size W0 W) (h:NmV W0.heap.size W C n) (hg:Grew W W1 zNm) (hs:Stored W1 W2 W.heap.size 0 C.toList):PlAt w L n R W.heap.size W2:=by
  obtain⟨x,y,rfl,h1,h2⟩:=h
  have k:=hw.size
  have e1:Below W.heap.size W W1:=hg.bel
  have e2:Below W.heap.size W W2:=e1.trans (hs.below (Nat.le_refl _))
  refine⟨x,y,(Blk.newL (L:=zNm.toList) hg rfl).all hs (by rw [nmC_len];exact zNm_len.symm),fun W' o cs hs'=>?_,h1.one,h2.one,((h0.on hw).on e2),((hR.on hw).on e2),(hb.trans (hw.mono (by omega))).trans (e2.mono (by omega)),by omega⟩
  have e3:Below W.heap.size W W':=e2.trans (hs'.below (Nat.le_refl _))
  exact⟨(h1.on e3).less (by omega),(h2.on e3).less (by omega)⟩
theorem plAt_early {w W0 W1 W W2:World} {L:List Value} {n:NmD} {C:Array Value} {P R lo:Nat} (hb:Below w.heap.size w W0) (h0:Blk W0 w.heap.size L) (hR:Blk W0 R zNm.toList) (hz:W0.heap.size=w.heap.size+2) (hw:Below W0.heap.size W0 W1) (hP:W1.heap.size=P+1) (hPl:W0.heap.size≤P) (hn:Blk W1 P zNm.toList) (hw2:Below W1.heap.size W1 W) (hl:W1.heap.size≤lo) (h:NmV lo W C n) (hs:Stored W W2 P 0 C.toList):PlAt w L n R P W2:=by
  obtain⟨x,y,rfl,h1,h2⟩:=h
  have k:=hw.size
  have k2:=hw2.size
  have e2:Below P W W2:=hs.below (Nat.le_refl _)
  have hP1:P < lo:=by omega
  refine⟨x,y,(hn.on hw2).all hs (by rw [nmC_len];exact zNm_len.symm),fun W' o cs hs'=>?_,h1.one,h2.one,(((h0.on hw).on hw2).far hs (by omega)),(((hR.on hw).on hw2).far hs (by have:=hR.lt;omega)),((hb.trans (hw.mono (by omega))).trans (hw2.mono (by omega))).trans (e2.mono (by omega)),by omega⟩
  exact⟨((h1.far hs hP1).far hs' hP1).less (by omega),((h2.far hs hP1).far hs' hP1).less (by omega)⟩
set_option maxRecDepth 8000 in
set_option maxHeartbeats 8000000 in
theorem nmPlain_any {lo:Nat} {C:Array Value} {m:NmD} {w:World} (h:NmV lo w C m) (h1:m.s.ids.length≤1000000) (h2:m.u.L.length≤1000000) :
    Calls Tryz.prog 21 #[.agg C] w fun e w'=>∃ D,e=.returned (.agg D)∧NmV w.heap.size w' D (plain30 m)∧Below w.heap.size w w':=by
  have HP:=Lib.hid h
  have hone:=Lib.hid h.ones
  obtain⟨x0,y0,rfl,-,-⟩:=h
  have HO:∀ W,Below w.heap.size w W→Hid (Calls Tryz.prog 35 #[.agg (nmC m x0 y0).toArray] W fun e w'=>∃ v,e=.returned v∧PartV lo w' v m∧Below W.heap.size W w'):=fun W hb=>Lib.hid (nmOf_any (HP.out.on hb))
  have HW:∀ W v,PartV lo W v m→Hid (Calls Tryz.prog 24 #[.string m.t,v] W fun e w'=>∃ C,e=.returned (.tuple #[.agg C,.string (word30 m.k)])∧NmV W.heap.size w' C (only30 m.t m)∧Below W.heap.size W w'):=fun W v hv=>Lib.hid (nmWith_any hv h1 h2)
  have HZN:=fun W=>Lib.hid (zero_Nm W)
  go_enter Tryz.func21,Tryz.ntmps21
  go_upto_region 1 with (first
    | (refine wpList_box_new rfl _ _ rfl (nmC m x0 y0).toArray rfl ?_;intro W1 hW1;have HK1:=Lib.hid (Blk.newL (L:=nmC m x0 y0) hW1 rfl);have HB1:=Lib.hid hW1.bel;have HS1:=Lib.hid hW1.sz;clear hW1)
    | (refine wpList_alloc_new rfl _ rfl zNm (HZN _).out ?_;intro W2 hW2;have HK:=Lib.hid (HK1.out.grew hW2);have HR:=Lib.hid (Blk.newL (L:=zNm.toList) hW2 rfl);have HB:=Lib.hid (bthen HB1.out hW2.bel);have HS:Hid (W2.heap.size=w.heap.size+2):=Lib.hid (by have:=hW2.sz;have:=HS1.out;omega);clear hW2 HK1 HB1))
  try go_frame
  go_cut [3,4,5,6,7,8,9,10,11,12] (fun s3 s4 s5 s6 s7 s8 s9 s10 s11 s12 wx=>∃ P,s3=.pointer (some ⟨P,0,none⟩)∧Hid (PlAt w (nmC m x0 y0) (only30 m.t m) W1.heap.size P wx))
  case first=>
    have hS0:Below W2.heap.size W2 W2.drew:=(Below.refl _ _).drew
    refine wp_region_held_drew (S:=fun w'=>Below W2.heap.size W2 w') (by kernel_rfl) hS0 (fun hHeld0=>?_)
    refine wpAnyH_take (i:=0) (oi:=⟨some 6,_,_,_,_,_⟩) (v:=?_) rfl (by kernel_rfl) (by kernel_rfl) (by kernel_rfl) (fun _ _ _ h=>h) (Or.inl ⟨by rfl,?_⟩) (by assumption) ?_
    rotate_left
    · intro w' hSw
      go_simp
      try with_reducible rfl
    try go_frame
    refine wpAnyH_take (i:=1) (oi:=⟨some 7,_,_,_,_,_⟩) (v:=?_) rfl (by kernel_rfl) (by kernel_rfl) (by kernel_rfl) (fun _ _ _ h=>h) (Or.inl ⟨by rfl,?_⟩) (by assumption) ?_
    rotate_left
    · intro w' hSw
      have c1:=(HK.out.on hSw).cell 1 (v:=.string m.t) rfl
      go_simp
      try with_reducible rfl
    try go_frame
    refine wpAnyH_take (i:=2) (oi:=⟨some 8,_,_,_,_,_⟩) (v:=_) rfl (by kernel_rfl) (by kernel_rfl) (by kernel_rfl) (fun _ _ _ h=>h) (yieldsIf_load_mid (by rfl) 46 _ rfl w.heap.size 0 rfl (nmC m x0 y0) _ (fun w' hSw=>(HK.out.on hSw).rg) Tryz.underlying46 rfl (nm_sizeL (nmLens m x0 y0))) (by assumption) ?_
    try go_frame
    refine wpAnyH_ready (rs:=[3,8]) (by kernel_rfl) (by simp) ?_
    refine AllReadyH.cons (o:=⟨some 9,_,_,_,_,_⟩) rfl (fun K hK=>?_) (AllReadyH.cons (o:=⟨some 3,_,_,_,_,_⟩) rfl (fun K hK=>?_) (AllReadyH.nil))
    · skip
      rw [if_pos (by rfl)]
      go_step
      refine (HO _ (HB.out.trans ((hHeld0).mono (by have:=HS.out;omega)))).out.mono ?_
      rintro e W3 ⟨v1,rfl,hv1,hb1⟩
      have HBE1:=Lib.hid ((hHeld0).trans (hb1.mono (hHeld0).size))
      try go_frame
      refine hK.out _ _ (HBE1.out) (fun hHeld=>?_)
      clear hK K
      try go_frame
      refine wpAnyH_ready (rs:=[4,8]) (by kernel_rfl) (by simp) ?_
      refine AllReadyH.cons (o:=⟨some 10,_,_,_,_,_⟩) rfl (fun K hK=>?_) (AllReadyH.cons (o:=⟨some 3,_,_,_,_,_⟩) rfl (fun K hK=>?_) (AllReadyH.nil))
      · skip
        rw [if_pos (by rfl)]
        go_step
        refine (HW _ _ (hv1)).out.mono ?_
        rintro e W4 ⟨C2,rfl,hn2,hb2⟩
        have HBE2:=Lib.hid ((HBE1.out).trans (hb2.mono (HBE1.out).size))
        try go_frame
        refine hK.out _ _ (HBE2.out) (fun hHeld=>?_)
        clear hK K
        try go_frame
        refine wpAnyH_take (i:=5) (oi:=⟨some 5,_,_,_,_,_⟩) (v:=?_) rfl (by kernel_rfl) (by kernel_rfl) (by kernel_rfl) (fun _ _ _ h=>h) (Or.inl ⟨by rfl,?_⟩) (by assumption) ?_
        rotate_left
        · intro w' hSw
          go_simp
          try with_reducible rfl
        try go_frame
        refine wpAnyH_take (i:=6) (oi:=⟨some 11,_,_,_,_,_⟩) (v:=?_) rfl (by kernel_rfl) (by kernel_rfl) (by kernel_rfl) (fun _ _ _ h=>h) (Or.inl ⟨by rfl,?_⟩) (by assumption) ?_
        rotate_left
        · intro w' hSw
          go_simp
          try with_reducible rfl
        try go_frame
        refine wpAnyH_take (i:=7) (oi:=⟨some 12,_,_,_,_,_⟩) (v:=?_) rfl (by kernel_rfl) (by kernel_rfl) (by kernel_rfl) (fun _ _ _ h=>h) (Or.inl ⟨by rfl,?_⟩) (by assumption) ?_
        rotate_left
        · intro w' hSw
          go_simp
          try with_reducible rfl
        try go_frame
        refine wpAnyH_ready (rs:=[8]) (by kernel_rfl) (by simp) ?_
        refine AllReadyH.cons (o:=⟨some 3,_,_,_,_,_⟩) rfl (fun K hK=>?_) (AllReadyH.nil)
        rw [if_pos (by rfl)]
        refine wp_alloc_new _ rfl zNm (HZN _).out ?_
        intro W5 hg3
        have HBE3:=Lib.hid ((HBE2.out).trans (hg3.bel.mono (HBE2.out).size))
        try go_frame
        refine hK.out _ _ (HBE3.out) (fun hHeld=>?_)
        clear hK K
        try go_frame
        refine wpAnyH_ready (rs:=[9]) (by kernel_rfl) (by simp) ?_
        refine AllReadyH.cons (o:=⟨none,_,_,_,_,_⟩) rfl (fun K hK=>?_) (AllReadyH.nil)
        rw [if_pos (by rfl)]
        have HNL:=hn2.len
        refine wp_store_in _ _ _ rfl _ 0 C2 rfl rfl (((Blk.newL (L:=zNm.toList) hg3 rfl).there 0 _ (by rw [HNL,zNm_len];exact Nat.le_refl _))) (by rw [HNL];exact nm_size) hn2.ones ?_
        intro W6 hs4
        have HBE4:=Lib.hid ((HBE3.out).trans (hs4.below (HBE2.out).size))
        try go_frame
        refine hK.out _ _ (HBE4.out) (fun hHeld=>?_)
        clear hK K
        try go_frame
        refine wpAnyH_take (i:=10) (oi:=⟨some 4,_,_,_,_,_⟩) (v:=?_) rfl (by kernel_rfl) (by kernel_rfl) (by kernel_rfl) (fun _ _ _ h=>h) (Or.inl ⟨by rfl,?_⟩) (by assumption) ?_
        rotate_left
        · intro w' hSw
          go_simp
          try with_reducible rfl
        try go_frame
        refine wpAnyH_done (by kernel_rfl) ?_ _
        try go_frame
        go_wp2_with fail
        go_meet
        exact⟨_,rfl,Lib.hid (plAt_late HB.out HK.out HR.out HS.out (HBE2.out) (hn2.less (HBE1.out).size) hg3 hs4)⟩
      · skip
        rw [if_pos (by rfl)]
        refine wp_alloc_new _ rfl zNm (HZN _).out ?_
        intro W7 hg5
        have HBE5:=Lib.hid ((HBE1.out).trans (hg5.bel.mono (HBE1.out).size))
        have hv5:=hv1.on hg5.bel
        try go_frame
        refine hK.out _ _ (HBE5.out) (fun hHeld=>?_)
        clear hK K
        try go_frame
        refine wpAnyH_ready (rs:=[4]) (by kernel_rfl) (by simp) ?_
        refine AllReadyH.cons (o:=⟨some 10,_,_,_,_,_⟩) rfl (fun K hK=>?_) (AllReadyH.nil)
        rw [if_pos (by rfl)]
        go_step
        refine (HW _ _ (hv5)).out.mono ?_
        rintro e W8 ⟨C6,rfl,hn6,hb6⟩
        have HBE6:=Lib.hid ((HBE5.out).trans (hb6.mono (HBE5.out).size))
        try go_frame
        refine hK.out _ _ (HBE6.out) (fun hHeld=>?_)
        clear hK K
        try go_frame
        refine wpAnyH_take (i:=5) (oi:=⟨some 5,_,_,_,_,_⟩) (v:=?_) rfl (by kernel_rfl) (by kernel_rfl) (by kernel_rfl) (fun _ _ _ h=>h) (Or.inl ⟨by rfl,?_⟩) (by assumption) ?_
        rotate_left
        · intro w' hSw
          go_simp
          try with_reducible rfl
        try go_frame
        refine wpAnyH_take (i:=6) (oi:=⟨some 11,_,_,_,_,_⟩) (v:=?_) rfl (by kernel_rfl) (by kernel_rfl) (by kernel_rfl) (fun _ _ _ h=>h) (Or.inl ⟨by rfl,?_⟩) (by assumption) ?_
        rotate_left
        · intro w' hSw
          go_simp
          try with_reducible rfl
        try go_frame
        refine wpAnyH_take (i:=7) (oi:=⟨some 12,_,_,_,_,_⟩) (v:=?_) rfl (by kernel_rfl) (by kernel_rfl) (by kernel_rfl) (fun _ _ _ h=>h) (Or.inl ⟨by rfl,?_⟩) (by assumption) ?_
        rotate_left
        · intro w' hSw
          go_simp
          try with_reducible rfl
        try go_frame
        refine wpAnyH_ready (rs:=[9]) (by kernel_rfl) (by simp) ?_
        refine AllReadyH.cons (o:=⟨none,_,_,_,_,_⟩) rfl (fun K hK=>?_) (AllReadyH.nil)
        rw [if_pos (by rfl)]
        have HNL:=hn6.len
        refine wp_store_in _ _ _ rfl _ 0 C6 rfl rfl ((((Blk.newL (L:=zNm.toList) hg5 rfl).on ((bthen (Below.refl _ _) hb6))).there 0 _ (by rw [HNL,zNm_len];exact Nat.le_refl _))) (by rw [HNL];exact nm_size) hn6.ones ?_
        intro W9 hs7
        have HBE7:=Lib.hid ((HBE6.out).trans (hs7.below (HBE1.out).size))
        try go_frame
        refine hK.out _ _ (HBE7.out) (fun hHeld=>?_)
        clear hK K
        try go_frame
        refine wpAnyH_take (i:=10) (oi:=⟨some 4,_,_,_,_,_⟩) (v:=?_) rfl (by kernel_rfl) (by kernel_rfl) (by kernel_rfl) (fun _ _ _ h=>h) (Or.inl ⟨by rfl,?_⟩) (by assumption) ?_
        rotate_left
        · intro w' hSw
          go_simp
          try with_reducible rfl
        try go_frame
        refine wpAnyH_done (by kernel_rfl) ?_ _
        try go_frame
        go_wp2_with fail
        go_meet
        exact⟨_,rfl,Lib.hid (plAt_early HB.out HK.out HR.out HS.out ((HBE1.out).trans (hg5.bel.mono (HBE1.out).size)) hg5.sz (HBE1.out).size (Blk.newL (L:=zNm.toList) hg5 rfl) ((bthen (Below.refl _ _) hb6)) (Nat.le_refl _) hn6 hs7)⟩
    · skip
      rw [if_pos (by rfl)]
      refine wp_alloc_new _ rfl zNm (HZN _).out ?_
      intro W10 hg8
      have HBE8:=Lib.hid ((hHeld0).trans (hg8.bel.mono (hHeld0).size))
      try go_frame
      refine hK.out _ _ (HBE8.out) (fun hHeld=>?_)
      clear hK K
      try go_frame
      refine wpAnyH_ready (rs:=[3]) (by kernel_rfl) (by simp) ?_
      refine AllReadyH.cons (o:=⟨some 9,_,_,_,_,_⟩) rfl (fun K hK=>?_) (AllReadyH.nil)
      rw [if_pos (by rfl)]
      go_step
      refine (HO _ (HB.out.trans ((HBE8.out).mono (by have:=HS.out;omega)))).out.mono ?_
      rintro e W11 ⟨v9,rfl,hv9,hb9⟩
      have HBE9:=Lib.hid ((HBE8.out).trans (hb9.mono (HBE8.out).size))
      try go_frame
      refine hK.out _ _ (HBE9.out) (fun hHeld=>?_)
      clear hK K
      try go_frame
      refine wpAnyH_ready (rs:=[4]) (by kernel_rfl) (by simp) ?_
      refine AllReadyH.cons (o:=⟨some 10,_,_,_,_,_⟩) rfl (fun K hK=>?_) (AllReadyH.nil)
      rw [if_pos (by rfl)]
      go_step
      refine (HW _ _ (hv9)).out.mono ?_
      rintro e W12 ⟨C10,rfl,hn10,hb10⟩
      have HBE10:=Lib.hid ((HBE9.out).trans (hb10.mono (HBE9.out).size))
      try go_frame
      refine hK.out _ _ (HBE10.out) (fun hHeld=>?_)
      clear hK K
      try go_frame
      refine wpAnyH_take (i:=5) (oi:=⟨some 5,_,_,_,_,_⟩) (v:=?_) rfl (by kernel_rfl) (by kernel_rfl) (by kernel_rfl) (fun _ _ _ h=>h) (Or.inl ⟨by rfl,?_⟩) (by assumption) ?_
      rotate_left
      · intro w' hSw
        go_simp
        try with_reducible rfl
      try go_frame
      refine wpAnyH_take (i:=6) (oi:=⟨some 11,_,_,_,_,_⟩) (v:=?_) rfl (by kernel_rfl) (by kernel_rfl) (by kernel_rfl) (fun _ _ _ h=>h) (Or.inl ⟨by rfl,?_⟩) (by assumption) ?_
      rotate_left
      · intro w' hSw
        go_simp
        try with_reducible rfl
      try go_frame
      refine wpAnyH_take (i:=7) (oi:=⟨some 12,_,_,_,_,_⟩) (v:=?_) rfl (by kernel_rfl) (by kernel_rfl) (by kernel_rfl) (fun _ _ _ h=>h) (Or.inl ⟨by rfl,?_⟩) (by assumption) ?_
      rotate_left
      · intro w' hSw
        go_simp
        try with_reducible rfl
      try go_frame
      refine wpAnyH_ready (rs:=[9]) (by kernel_rfl) (by simp) ?_
      refine AllReadyH.cons (o:=⟨none,_,_,_,_,_⟩) rfl (fun K hK=>?_) (AllReadyH.nil)
      rw [if_pos (by rfl)]
      have HNL:=hn10.len
      refine wp_store_in _ _ _ rfl _ 0 C10 rfl rfl ((((Blk.newL (L:=zNm.toList) hg8 rfl).on ((bthen ((bthen (Below.refl _ _) hb9)) hb10))).there 0 _ (by rw [HNL,zNm_len];exact Nat.le_refl _))) (by rw [HNL];exact nm_size) hn10.ones ?_
      intro W13 hs11
      have HBE11:=Lib.hid ((HBE10.out).trans (hs11.below (hHeld0).size))
      try go_frame
      refine hK.out _ _ (HBE11.out) (fun hHeld=>?_)
      clear hK K
      try go_frame
      refine wpAnyH_take (i:=10) (oi:=⟨some 4,_,_,_,_,_⟩) (v:=?_) rfl (by kernel_rfl) (by kernel_rfl) (by kernel_rfl) (fun _ _ _ h=>h) (Or.inl ⟨by rfl,?_⟩) (by assumption) ?_
      rotate_left
      · intro w' hSw
        go_simp
        try with_reducible rfl
      try go_frame
      refine wpAnyH_done (by kernel_rfl) ?_ _
      try go_frame
      go_wp2_with fail
      go_meet
      exact⟨_,rfl,Lib.hid (plAt_early HB.out HK.out HR.out HS.out ((hHeld0).trans (hg8.bel.mono (hHeld0).size)) hg8.sz (hHeld0).size (Blk.newL (L:=zNm.toList) hg8 rfl) ((bthen ((bthen (Below.refl _ _) hb9)) hb10)) (((bthen (Below.refl _ _) hb9)).size) hn10 hs11)⟩
  case rest=>
    obtain⟨P,rfl,HPL⟩:=hcut
    obtain⟨x,y,hbk,hst,hx,hy,hk,hr,hbe,hp⟩:=HPL.out
    have HBk:=Lib.hid hbk
    have HSt:=Lib.hid hst
    have HBe:=Lib.hid hbe
    have HX:=Lib.hid hx
    have HRr:=Lib.hid hr
    have HS1':=Lib.hid HS1.out
    have HY:=Lib.hid hy
    have HLen:Hid ((nmC (only30 m.t m) x y).length=65):=Lib.hid (nmC_len _ _ _)
    have a0:=hk.cell 0 (v:=.int .i64 m.k) rfl
    clear hbk hst hbe hx hy hr HPL hk HO HW HB HK HS HS1 HZN HP HR
    go_upto_region 3 with (first
      | (refine wpList_store_one rfl _ _ _ rfl P 0 (.int .i64 m.k) rfl rfl (HBk.out.there 0 1 (by rw [HLen.out];omega)) (by kernel_rfl) rfl rfl ?_;intro W5 hS;have HS5:=Lib.hid hS;have HK5:Hid (Blk W5 P (nmC (plain30 m) x y)):=Lib.hid (Blk.put (A:=[]) (M:=[.int .i64 (only30 m.t m).k]) (cs:=[.int .i64 m.k]) HBk.out hS rfl rfl);have HT5:Hid (W5.there W1.heap.size 0 65):=Lib.hid ((HRr.out.far hS (by have:=HS1'.out;omega)).there 0 65 (by rw [zNm_len];omega));clear hS a0))
    try (apply wp_seq_k;intro K_ HK_)
    apply wp_region_lit
    refine wpList_load_mid rfl 46 _ rfl P 0 rfl (nmC (plain30 m) x y) _ HK5.out.rg Tryz.underlying46 rfl (nm_sizeL (nmLens _ x y)) ?_
    try go_frame
    refine wpList_store_in rfl _ _ _ rfl W1.heap.size 0 (nmC (plain30 m) x y).toArray rfl rfl (by rw [show (nmC (plain30 m) x y).toArray.size=65 from nmC_len _ _ _];exact HT5.out) (nm_sizeL (nmLens _ x y)) (Ones.arr (nmL_ones (gL_ones _) (rL_ones _) (sL_ones _ HX.out) (vL_ones _) (uL_ones _ HY.out))) ?_
    intro W6 hS6
    have HK6:Hid (Blk W6 W1.heap.size (nmC (plain30 m) x y)):=Lib.hid ((HRr.out.far HS5.out (by have:=HS1'.out;omega)).all hS6 (by rw [zNm_len];exact nmC_len _ _ _))
    have HS6:=Lib.hid hS6
    clear hS6 HRr
    go_wp2_with fail
    have HLD:=Lib.hid (run_loadVar_mid (P:=Tryz.prog) W6 W1.heap.size 0 46 (nmC (plain30 m) x y) _ HK6.out.rg Tryz.underlying46 rfl (nm_sizeL (nmLens _ x y)))
    clear HK6 HK5 HBk
    refine bodyPost_ret (v:=.agg (nmC (plain30 m) x y).toArray) (by rw [results_cell rfl];simp [asAddr,Result.andThen,HLD.out]) rfl ?_
    have e1:=HS1'.out
    have e2:Below w.heap.size wc W5:=HS5.out.below (by omega)
    have e3:Below w.heap.size W5 W6:=HS6.out.below (by omega)
    obtain⟨i1,i2⟩:=HSt.out W5 0 _ HS5.out
    exact⟨_,rfl,⟨x,y,rfl,(i1.far HS6.out (by omega)).less (by omega),(i2.far HS6.out (by omega)).less (by omega)⟩,(HBe.out.trans e2).trans e3⟩
theorem build_NmKT (k:Int) (t:ByteArray) (w:World):(Instr.build 46 #[(0,.int .i64 k),(1,.string t)]).run Tryz.prog w=.ok (.agg (nmL k t zGga zRmc zGsa zVtg zGsv).toArray) w:=by kernel_rfl
theorem Blk.nmAt {w:World} {b:Nat} {k:Int} {t:ByteArray} {G R S V U:List Value} (h:Blk w b (nmL k t G R S V U)) (hl:Lens G R S V U):NmAt w b k t G R S V U:=(nmAt_iff hl).1 h.rg
theorem appI {Q:Nat→Prop} (w:World) (A:Option Addr) (L:List Int) (c:Nat) (hs:FlatQ Q w A (L.map (Value.int .i64))) (hn:L.length≤1000000) :
    ∃ B d w2,(Builtin.append_ #[37,37] 37 #[.slice (some ⟨w.heap.size,0,none⟩) 0 0,.slice A L.length c]).run Tryz.prog (w.alloc (.cells #[] 2))=.ok (.slice B L.length d) w2∧FlatQ (fun b=>w.heap.size≤b∧b < w2.heap.size) w2 B (L.map (Value.int .i64))∧Below w.heap.size w w2:=by
  obtain⟨i0,hi,hz0,hz1,hz2⟩:=int64_info
  have hown:(w.alloc (.cells #[] 2)).ownsRow w.heap.size 2 1 (.slice (some ⟨w.heap.size,0,none⟩) 0 0) 0 []:=World.ownsRow_made w #[] 0 (Nat.le_refl _) (by decide) rfl
  have hs':FlatQ (fun _=>True) (w.alloc (.cells #[] 2)) A (L.map (Value.int .i64)):=by
    refine (hs.lt.below (below_new w _) fun b h=>h.2).less fun b _=>trivial
  obtain⟨v',w2,hrun,h8,h9,-⟩:=run_append_mine (P:=Tryz.prog) (w.alloc (.cells #[] 2)) 37 37 2 i0 _ 1 8 Tryz.underlying37 hi hz0 hz1 hz2 rfl (by decide) w.heap.size _ 0 [] hown A L.length c (L.map (Value.int .i64)) (by simp) hs' (fun u hu=>by obtain⟨z,-,rfl⟩:=List.mem_map.1 hu;rfl) (by unfold maxLen;omega) (by omega) (by simp)
  rw [Nat.zero_add,List.nil_append] at h8
  obtain⟨B,d,h1,-,h2,-⟩:=flatq_own h8
  subst h1
  exact⟨B,d,w2,hrun,h2,(below_new w _).trans ⟨h9.os,h9.tape,h9.output,h9.size,fun b hb=>h9.block b (by simp;omega) (fun e=>by simp [Value.ownBlock] at e;omega)⟩⟩
theorem appV {Q:Nat→Prop} (w:World) (A:Option Addr) (L:List V4) (c:Nat) (hs:FlatQ Q w A (vsC L)) (hn:L.length≤1000000) :
    ∃ B d w2,(Builtin.append_ #[42,42] 42 #[.slice (some ⟨w.heap.size,0,none⟩) 0 0,.slice A L.length c]).run Tryz.prog (w.alloc (.cells #[] 107))=.ok (.slice B L.length d) w2∧FlatQ (fun b=>w.heap.size≤b∧b < w2.heap.size) w2 B (vsC L)∧Below w.heap.size w w2:=by
  obtain⟨i0,hi,hz0,hz1,hz2⟩:=view_info
  have hown:(w.alloc (.cells #[] 107)).ownsRow w.heap.size 107 8 (.slice (some ⟨w.heap.size,0,none⟩) 0 0) 0 []:=World.ownsRow_made w #[] 0 (Nat.le_refl _) (by decide) rfl
  have hs':FlatQ (fun _=>True) (w.alloc (.cells #[] 107)) A (vsC L):=by
    refine (hs.lt.below (below_new w _) fun b h=>h.2).less fun b _=>trivial
  obtain⟨v',w2,hrun,h8,h9,-⟩:=run_append_mine (P:=Tryz.prog) (w.alloc (.cells #[] 107)) 42 42 107 i0 _ 8 64 Tryz.underlying42 hi hz0 hz1 hz2 rfl (by decide) w.heap.size _ 0 [] hown A L.length c (vsC L) (vsC_len L) hs' (vsC_one L) (by unfold maxLen;omega) (by omega) (by simp)
  rw [Nat.zero_add,List.nil_append] at h8
  obtain⟨B,d,h1,-,h2,-⟩:=flatq_own h8
  subst h1
  exact⟨B,d,w2,hrun,h2,(below_new w _).trans ⟨h9.os,h9.tape,h9.output,h9.size,fun b hb=>h9.block b (by simp;omega) (fun e=>by simp [Value.ownBlock] at e;omega)⟩⟩
set_option maxRecDepth 8000 in
set_option maxHeartbeats 4000000 in
theorem r30plain_no {k:Int} {t:ByteArray} {G R S V U:List Value} (hl:Hid (Lens G R S V U)) (hn:¬ (1≤k∧k≤5)) (w:World):Calls Tryz.prog 22 #[.agg (nmL k t G R S V U).toArray] w fun e w'=>e=.returned (.agg (nmL k t zGga zRmc zGsa zVtg zGsv).toArray)∧Below w.heap.size w w':=by
  have HZN:=fun W=>Lib.hid (zero_Nm W)
  have HBN:=fun W=>Lib.hid (build_NmKT k t W)
  have y1:¬ k=1:=by omega
  have y2:¬ k=2:=by omega
  have y3:¬ k=3:=by omega
  have y4:¬ k=4:=by omega
  have y5:¬ k=5:=by omega
  go_enter Tryz.func22,Tryz.ntmps22
  go_upto_region 1 with (first
    | (refine wpList_box_new rfl _ _ rfl (nmL k t G R S V U).toArray rfl ?_;intro W1 hW1;have HK1:=Lib.hid (Blk.newL (L:=nmL k t G R S V U) hW1 rfl);have HB1:=Lib.hid hW1.bel;have HS1:=Lib.hid hW1.sz;clear hW1)
    | (refine wpList_alloc_new rfl _ rfl zNm (HZN _).out ?_;intro W2 hW2;have HK2:=Lib.hid (HK1.out.grew hW2);have HR2:=Lib.hid (Blk.newL (L:=nmL 0 ByteArray.empty zGga zRmc zGsa zVtg zGsv) hW2 rfl);have HB2:=Lib.hid (bthen HB1.out hW2.bel);have HS2:=Lib.hid hW2.sz;clear hW2 HK1 HB1))
  have a0:=HK2.out.cell 0 (v:=.int .i64 k) rfl
  have a1:=HK2.out.cell 1 (v:=.string t) rfl
  try go_frame
  go_upto_region 2 with (first
    | refine wpList_build2 (u:=.int .i64 k) (u':=.string t) rfl _ 0 1 _ _ rfl rfl rfl (HBN _).out ?_
    | (refine wpList_alloc_new rfl _ rfl zNm (HZN _).out ?_;intro W3 hW3;have HO3:=Lib.hid (Blk.newL (L:=nmL 0 ByteArray.empty zGga zRmc zGsa zVtg zGsv) hW3 rfl);have HK3:=Lib.hid (HK2.out.grew hW3);have HR3:=Lib.hid (HR2.out.grew hW3);have HB3:=Lib.hid (bthen HB2.out hW3.bel);have HS3:=Lib.hid hW3.sz;clear hW3 HK2 HB2 HR2 a0 a1)
    | (refine wpList_store_in rfl _ _ _ rfl W2.heap.size 0 (nmL k t zGga zRmc zGsa zVtg zGsv).toArray rfl rfl (HO3.out.thereA (nmL_same zLens zLens)) (nm_sizeL zLens) (Ones.arr (nmL_ones zones.1 zones.2.1 zones.2.2.1 zones.2.2.2.1 zones.2.2.2.2)) ?_;intro W4 hW4;have HO4:Hid (Blk W4 W2.heap.size (nmL k t zGga zRmc zGsa zVtg zGsv)):=HO3.out.all hW4 (nmL_same zLens zLens);have HK4:=Lib.hid (HK3.out.far hW4 (by have:=HS1.out;have:=HS2.out;omega));have HR4:=Lib.hid (HR3.out.far hW4 (by have:=HS1.out;have:=HS2.out;omega));have HB4:=Lib.hid (HB3.out.trans (hW4.below (by have:=HS1.out;have:=HS2.out;omega)));have HS4:=Lib.hid hW4.sz;clear hW4 HK3 HO3 HR3 HB3))
  have a0:=HK4.out.cell 0 (v:=.int .i64 k) rfl
  try go_frame
  go_wp2_with (first
    | refine wpList_load_mid rfl 46 _ rfl W2.heap.size 0 rfl (nmL k t zGga zRmc zGsa zVtg zGsv) _ HO4.out.rg Tryz.underlying46 rfl (nm_sizeL zLens) ?_
    | (refine wpList_store_in rfl _ _ _ rfl W1.heap.size 0 (nmL k t zGga zRmc zGsa zVtg zGsv).toArray rfl rfl (HR4.out.thereA (nmL_same zLens zLens)) (nm_sizeL zLens) (Ones.arr (nmL_ones zones.1 zones.2.1 zones.2.2.1 zones.2.2.2.1 zones.2.2.2.2)) ?_;intro W9 hW9;have HK9:Hid (Blk W9 W1.heap.size (nmL k t zGga zRmc zGsa zVtg zGsv)):=HR4.out.all hW9 (nmL_same zLens zLens);have HB9:=Lib.hid (HB4.out.trans (hW9.below (by have:=HS1.out;omega)));clear hW9))
  try go_frame
  have HLD:=Lib.hid (run_loadVar_mid (P:=Tryz.prog) W9 W1.heap.size 0 46 (nmL k t zGga zRmc zGsa zVtg zGsv) _ HK9.out.rg Tryz.underlying46 rfl (nm_sizeL zLens))
  clear HK9
  refine bodyPost_ret (v:=.agg (nmL k t zGga zRmc zGsa zVtg zGsv).toArray) (by rw [results_cell rfl];simp [asAddr,Result.andThen,HLD.out]) rfl ?_
  exact⟨rfl,HB9.out⟩
set_option maxRecDepth 8000 in
set_option maxHeartbeats 4000000 in
theorem r30plain_1 {t:ByteArray} {G R S V U:List Value} (hl:Hid (Lens G R S V U)) (ho:Hid (Ones G)) (w:World):Calls Tryz.prog 22 #[.agg (nmL 1 t G R S V U).toArray] w fun e w'=>e=.returned (.agg (nmL 1 t G zRmc zGsa zVtg zGsv).toArray)∧Below w.heap.size w w':=by
  have HZN:=fun W=>Lib.hid (zero_Nm W)
  have HBN:=fun W=>Lib.hid (build_NmKT 1 t W)
  go_enter Tryz.func22,Tryz.ntmps22
  go_upto_region 1 with (first
    | (refine wpList_box_new rfl _ _ rfl (nmL 1 t G R S V U).toArray rfl ?_;intro W1 hW1;have HK1:=Lib.hid (Blk.newL (L:=nmL 1 t G R S V U) hW1 rfl);have HB1:=Lib.hid hW1.bel;have HS1:=Lib.hid hW1.sz;clear hW1)
    | (refine wpList_alloc_new rfl _ rfl zNm (HZN _).out ?_;intro W2 hW2;have HK2:=Lib.hid (HK1.out.grew hW2);have HR2:=Lib.hid (Blk.newL (L:=nmL 0 ByteArray.empty zGga zRmc zGsa zVtg zGsv) hW2 rfl);have HB2:=Lib.hid (bthen HB1.out hW2.bel);have HS2:=Lib.hid hW2.sz;clear hW2 HK1 HB1))
  have a0:=HK2.out.cell 0 (v:=.int .i64 1) rfl
  have a1:=HK2.out.cell 1 (v:=.string t) rfl
  try go_frame
  go_upto_region 2 with (first
    | refine wpList_build2 (u:=.int .i64 1) (u':=.string t) rfl _ 0 1 _ _ rfl rfl rfl (HBN _).out ?_
    | (refine wpList_alloc_new rfl _ rfl zNm (HZN _).out ?_;intro W3 hW3;have HO3:=Lib.hid (Blk.newL (L:=nmL 0 ByteArray.empty zGga zRmc zGsa zVtg zGsv) hW3 rfl);have HK3:=Lib.hid (HK2.out.grew hW3);have HR3:=Lib.hid (HR2.out.grew hW3);have HB3:=Lib.hid (bthen HB2.out hW3.bel);have HS3:=Lib.hid hW3.sz;clear hW3 HK2 HB2 HR2 a0 a1)
    | (refine wpList_store_in rfl _ _ _ rfl W2.heap.size 0 (nmL 1 t zGga zRmc zGsa zVtg zGsv).toArray rfl rfl (HO3.out.thereA (nmL_same zLens zLens)) (nm_sizeL zLens) (Ones.arr (nmL_ones zones.1 zones.2.1 zones.2.2.1 zones.2.2.2.1 zones.2.2.2.2)) ?_;intro W4 hW4;have HO4:Hid (Blk W4 W2.heap.size (nmL 1 t zGga zRmc zGsa zVtg zGsv)):=HO3.out.all hW4 (nmL_same zLens zLens);have HK4:=Lib.hid (HK3.out.far hW4 (by have:=HS1.out;have:=HS2.out;omega));have HR4:=Lib.hid (HR3.out.far hW4 (by have:=HS1.out;have:=HS2.out;omega));have HB4:=Lib.hid (HB3.out.trans (hW4.below (by have:=HS1.out;have:=HS2.out;omega)));have HS4:=Lib.hid hW4.sz;clear hW4 HK3 HO3 HR3 HB3))
  have a0:=HK4.out.cell 0 (v:=.int .i64 1) rfl
  try go_frame
  go_wp2_with (first
    | refine wpList_load_mid rfl 32 _ rfl w.heap.size 2 rfl G _ (HK4.out.nmAt hl.out).g Tryz.underlying32 rfl (by rw [onGga_size,hl.out.g]) ?_
    | (refine wpList_store_in rfl _ _ _ rfl W2.heap.size 2 G.toArray rfl rfl (HO4.out.there 2 _ (by rw [show G.toArray.size=22 from hl.out.g,nmL_len zLens];omega)) (by rw [onGga_size,show G.toArray.size=22 from hl.out.g]) (Ones.arr ho.out) ?_;intro W5 hW5;have HO5:Hid (Blk W5 W2.heap.size (nmL 1 t G zRmc zGsa zVtg zGsv)):=HO4.out.putG hW5 zLens hl.out.g;have HR5:=Lib.hid (HR4.out.far hW5 (by have:=HS1.out;have:=HS2.out;omega));have HB5:=Lib.hid (HB4.out.trans (hW5.below (by have:=HS1.out;have:=HS2.out;omega)));clear hW5 HO4 HR4 HB4)
    | refine wpList_load_mid rfl 46 _ rfl W2.heap.size 0 rfl (nmL 1 t G zRmc zGsa zVtg zGsv) _ HO5.out.rg Tryz.underlying46 rfl (nm_sizeL (zLens.withG hl.out.g)) ?_
    | (refine wpList_store_in rfl _ _ _ rfl W1.heap.size 0 (nmL 1 t G zRmc zGsa zVtg zGsv).toArray rfl rfl (HR5.out.thereA (nmL_same (zLens.withG hl.out.g) zLens)) (nm_sizeL (zLens.withG hl.out.g)) (Ones.arr (nmL_ones ho.out zones.2.1 zones.2.2.1 zones.2.2.2.1 zones.2.2.2.2)) ?_;intro W9 hW9;have HK9:Hid (Blk W9 W1.heap.size (nmL 1 t G zRmc zGsa zVtg zGsv)):=HR5.out.all hW9 (nmL_same (zLens.withG hl.out.g) zLens);have HB9:=Lib.hid (HB5.out.trans (hW9.below (by have:=HS1.out;omega)));clear hW9))
  try go_frame
  have HLD:=Lib.hid (run_loadVar_mid (P:=Tryz.prog) W9 W1.heap.size 0 46 (nmL 1 t G zRmc zGsa zVtg zGsv) _ HK9.out.rg Tryz.underlying46 rfl (nm_sizeL (zLens.withG hl.out.g)))
  clear HK9
  refine bodyPost_ret (v:=.agg (nmL 1 t G zRmc zGsa zVtg zGsv).toArray) (by rw [results_cell rfl];simp [asAddr,Result.andThen,HLD.out]) rfl ?_
  exact⟨rfl,HB9.out⟩
set_option maxRecDepth 8000 in
set_option maxHeartbeats 4000000 in
theorem r30plain_2 {t:ByteArray} {G R S V U:List Value} (hl:Hid (Lens G R S V U)) (ho:Hid (Ones R)) (w:World):Calls Tryz.prog 22 #[.agg (nmL 2 t G R S V U).toArray] w fun e w'=>e=.returned (.agg (nmL 2 t zGga R zGsa zVtg zGsv).toArray)∧Below w.heap.size w w':=by
  have HZN:=fun W=>Lib.hid (zero_Nm W)
  have HBN:=fun W=>Lib.hid (build_NmKT 2 t W)
  go_enter Tryz.func22,Tryz.ntmps22
  go_upto_region 1 with (first
    | (refine wpList_box_new rfl _ _ rfl (nmL 2 t G R S V U).toArray rfl ?_;intro W1 hW1;have HK1:=Lib.hid (Blk.newL (L:=nmL 2 t G R S V U) hW1 rfl);have HB1:=Lib.hid hW1.bel;have HS1:=Lib.hid hW1.sz;clear hW1)
    | (refine wpList_alloc_new rfl _ rfl zNm (HZN _).out ?_;intro W2 hW2;have HK2:=Lib.hid (HK1.out.grew hW2);have HR2:=Lib.hid (Blk.newL (L:=nmL 0 ByteArray.empty zGga zRmc zGsa zVtg zGsv) hW2 rfl);have HB2:=Lib.hid (bthen HB1.out hW2.bel);have HS2:=Lib.hid hW2.sz;clear hW2 HK1 HB1))
  have a0:=HK2.out.cell 0 (v:=.int .i64 2) rfl
  have a1:=HK2.out.cell 1 (v:=.string t) rfl
  try go_frame
  go_upto_region 2 with (first
    | refine wpList_build2 (u:=.int .i64 2) (u':=.string t) rfl _ 0 1 _ _ rfl rfl rfl (HBN _).out ?_
    | (refine wpList_alloc_new rfl _ rfl zNm (HZN _).out ?_;intro W3 hW3;have HO3:=Lib.hid (Blk.newL (L:=nmL 0 ByteArray.empty zGga zRmc zGsa zVtg zGsv) hW3 rfl);have HK3:=Lib.hid (HK2.out.grew hW3);have HR3:=Lib.hid (HR2.out.grew hW3);have HB3:=Lib.hid (bthen HB2.out hW3.bel);have HS3:=Lib.hid hW3.sz;clear hW3 HK2 HB2 HR2 a0 a1)
    | (refine wpList_store_in rfl _ _ _ rfl W2.heap.size 0 (nmL 2 t zGga zRmc zGsa zVtg zGsv).toArray rfl rfl (HO3.out.thereA (nmL_same zLens zLens)) (nm_sizeL zLens) (Ones.arr (nmL_ones zones.1 zones.2.1 zones.2.2.1 zones.2.2.2.1 zones.2.2.2.2)) ?_;intro W4 hW4;have HO4:Hid (Blk W4 W2.heap.size (nmL 2 t zGga zRmc zGsa zVtg zGsv)):=HO3.out.all hW4 (nmL_same zLens zLens);have HK4:=Lib.hid (HK3.out.far hW4 (by have:=HS1.out;have:=HS2.out;omega));have HR4:=Lib.hid (HR3.out.far hW4 (by have:=HS1.out;have:=HS2.out;omega));have HB4:=Lib.hid (HB3.out.trans (hW4.below (by have:=HS1.out;have:=HS2.out;omega)));have HS4:=Lib.hid hW4.sz;clear hW4 HK3 HO3 HR3 HB3))
  have a0:=HK4.out.cell 0 (v:=.int .i64 2) rfl
  try go_frame
  go_wp2_with (first
    | refine wpList_load_mid rfl 36 _ rfl w.heap.size 24 rfl R _ (HK4.out.nmAt hl.out).r Tryz.underlying36 rfl (by rw [onRmc_size,hl.out.r]) ?_
    | (refine wpList_store_in rfl _ _ _ rfl W2.heap.size 24 R.toArray rfl rfl (HO4.out.there 24 _ (by rw [show R.toArray.size=20 from hl.out.r,nmL_len zLens];omega)) (by rw [onRmc_size,show R.toArray.size=20 from hl.out.r]) (Ones.arr ho.out) ?_;intro W5 hW5;have HO5:Hid (Blk W5 W2.heap.size (nmL 2 t zGga R zGsa zVtg zGsv)):=HO4.out.putR hW5 zLens hl.out.r;have HR5:=Lib.hid (HR4.out.far hW5 (by have:=HS1.out;have:=HS2.out;omega));have HB5:=Lib.hid (HB4.out.trans (hW5.below (by have:=HS1.out;have:=HS2.out;omega)));clear hW5 HO4 HR4 HB4)
    | refine wpList_load_mid rfl 46 _ rfl W2.heap.size 0 rfl (nmL 2 t zGga R zGsa zVtg zGsv) _ HO5.out.rg Tryz.underlying46 rfl (nm_sizeL (zLens.withR hl.out.r)) ?_
    | (refine wpList_store_in rfl _ _ _ rfl W1.heap.size 0 (nmL 2 t zGga R zGsa zVtg zGsv).toArray rfl rfl (HR5.out.thereA (nmL_same (zLens.withR hl.out.r) zLens)) (nm_sizeL (zLens.withR hl.out.r)) (Ones.arr (nmL_ones zones.1 ho.out zones.2.2.1 zones.2.2.2.1 zones.2.2.2.2)) ?_;intro W9 hW9;have HK9:Hid (Blk W9 W1.heap.size (nmL 2 t zGga R zGsa zVtg zGsv)):=HR5.out.all hW9 (nmL_same (zLens.withR hl.out.r) zLens);have HB9:=Lib.hid (HB5.out.trans (hW9.below (by have:=HS1.out;omega)));clear hW9))
  try go_frame
  have HLD:=Lib.hid (run_loadVar_mid (P:=Tryz.prog) W9 W1.heap.size 0 46 (nmL 2 t zGga R zGsa zVtg zGsv) _ HK9.out.rg Tryz.underlying46 rfl (nm_sizeL (zLens.withR hl.out.r)))
  clear HK9
  refine bodyPost_ret (v:=.agg (nmL 2 t zGga R zGsa zVtg zGsv).toArray) (by rw [results_cell rfl];simp [asAddr,Result.andThen,HLD.out]) rfl ?_
  exact⟨rfl,HB9.out⟩
set_option maxRecDepth 8000 in
set_option maxHeartbeats 4000000 in
theorem r30plain_3 {w:World} {t:ByteArray} {G R S V U:List Value} (hl:Hid (Lens G R S V U)) {A:Option Addr} {c:Nat} {D:List Int} {a:Bool} {f:Int} {b0:Bool} {n0:Int} {b1:Bool} {n1:Int} {b2:Bool} {n2:Int} (hS:Hid (S=[.bool a,.int .i64 f,.slice A D.length c,.bool b0,.int .i64 n0,.bool b1,.int .i64 n1,.bool b2,.int .i64 n2])) (hq:FlatQ (fun b=>b < w.heap.size) w A (D.map (Value.int .i64))) (hm:D.length≤1000000):Calls Tryz.prog 22 #[.agg (nmL 3 t G R S V U).toArray] w fun e w'=>∃ B d,e=.returned (.agg (nmL 3 t zGga zRmc ([.bool a,.int .i64 f,.slice B D.length d,.bool b0,.int .i64 n0,.bool b1,.int .i64 n1,.bool b2,.int .i64 n2]) zVtg zGsv).toArray)∧FlatQ (fun b=>w.heap.size≤b∧b < w'.heap.size) w' B (D.map (Value.int .i64))∧Below w.heap.size w w':=by
  have HZN:=fun W=>Lib.hid (zero_Nm W)
  have HBN:=fun W=>Lib.hid (build_NmKT 3 t W)
  go_enter Tryz.func22,Tryz.ntmps22
  go_upto_region 1 with (first
    | (refine wpList_box_new rfl _ _ rfl (nmL 3 t G R S V U).toArray rfl ?_;intro W1 hW1;have HK1:=Lib.hid (Blk.newL (L:=nmL 3 t G R S V U) hW1 rfl);have HB1:=Lib.hid hW1.bel;have HS1:=Lib.hid hW1.sz;clear hW1)
    | (refine wpList_alloc_new rfl _ rfl zNm (HZN _).out ?_;intro W2 hW2;have HK2:=Lib.hid (HK1.out.grew hW2);have HR2:=Lib.hid (Blk.newL (L:=nmL 0 ByteArray.empty zGga zRmc zGsa zVtg zGsv) hW2 rfl);have HB2:=Lib.hid (bthen HB1.out hW2.bel);have HS2:=Lib.hid hW2.sz;clear hW2 HK1 HB1))
  have a0:=HK2.out.cell 0 (v:=.int .i64 3) rfl
  have a1:=HK2.out.cell 1 (v:=.string t) rfl
  try go_frame
  go_upto_region 2 with (first
    | refine wpList_build2 (u:=.int .i64 3) (u':=.string t) rfl _ 0 1 _ _ rfl rfl rfl (HBN _).out ?_
    | (refine wpList_alloc_new rfl _ rfl zNm (HZN _).out ?_;intro W3 hW3;have HO3:=Lib.hid (Blk.newL (L:=nmL 0 ByteArray.empty zGga zRmc zGsa zVtg zGsv) hW3 rfl);have HK3:=Lib.hid (HK2.out.grew hW3);have HR3:=Lib.hid (HR2.out.grew hW3);have HB3:=Lib.hid (bthen HB2.out hW3.bel);have HS3:=Lib.hid hW3.sz;clear hW3 HK2 HB2 HR2 a0 a1)
    | (refine wpList_store_in rfl _ _ _ rfl W2.heap.size 0 (nmL 3 t zGga zRmc zGsa zVtg zGsv).toArray rfl rfl (HO3.out.thereA (nmL_same zLens zLens)) (nm_sizeL zLens) (Ones.arr (nmL_ones zones.1 zones.2.1 zones.2.2.1 zones.2.2.2.1 zones.2.2.2.2)) ?_;intro W4 hW4;have HO4:Hid (Blk W4 W2.heap.size (nmL 3 t zGga zRmc zGsa zVtg zGsv)):=HO3.out.all hW4 (nmL_same zLens zLens);have HK4:=Lib.hid (HK3.out.far hW4 (by have:=HS1.out;have:=HS2.out;omega));have HR4:=Lib.hid (HR3.out.far hW4 (by have:=HS1.out;have:=HS2.out;omega));have HB4:=Lib.hid (HB3.out.trans (hW4.below (by have:=HS1.out;have:=HS2.out;omega)));have HS4:=Lib.hid hW4.sz;clear hW4 HK3 HO3 HR3 HB3))
  have a0:=HK4.out.cell 0 (v:=.int .i64 3) rfl
  try go_frame
  have HOS:Hid (Ones S):=by rw [hS.out];exact Ones.of rfl
  go_upto_region 9 with (first
    | refine wpList_load_mid rfl 39 _ rfl w.heap.size 44 rfl S _ (HK4.out.nmAt hl.out).s Tryz.underlying39 rfl (by rw [onGsa_size,hl.out.s]) ?_
    | (refine wpList_store_in rfl _ _ _ rfl W2.heap.size 44 S.toArray rfl rfl (HO4.out.there 44 _ (by rw [show S.toArray.size=9 from hl.out.s,nmL_len zLens];omega)) (by rw [onGsa_size,show S.toArray.size=9 from hl.out.s]) (Ones.arr HOS.out) ?_;intro W5 hW5;have HO5:Hid (Blk W5 W2.heap.size (nmL 3 t zGga zRmc S zVtg zGsv)):=HO4.out.putS hW5 zLens hl.out.s;have HR5:=Lib.hid (HR4.out.far hW5 (by have:=HS1.out;have:=HS2.out;omega));have HK5:=Lib.hid (HK4.out.far hW5 (by have:=HS1.out;have:=HS2.out;omega));have HB5:=Lib.hid (HB4.out.trans (hW5.below (by have:=HS1.out;have:=HS2.out;omega)));have HS5:=Lib.hid hW5.sz;clear hW5 HO4 HR4 HB4 HK4))
  try go_frame
  obtain⟨B,d,W7,hrun,hf7,hb7⟩:=appI W5 A D c ((hq.on HB5.out) fun b h=>h) hm
  have HRUN:=Lib.hid hrun
  have HF7:=Lib.hid hf7
  have hwb:Below W5.heap.size W5 (W5.alloc (.cells #[] 2)):=below_new W5 _
  have g1:(W5.alloc (.cells #[] 2)).cell? ⟨w.heap.size,46,none⟩=some (.slice A D.length c):=((HK5.out.on hwb).nmAt hl.out).s 2 _ (by rw [hS.out];rfl)
  have HO7:=Lib.hid (HO5.out.on hb7)
  have HR7:=Lib.hid (HR5.out.on hb7)
  have HB7:=Lib.hid (bthen HB5.out hb7)
  have HS7:Hid (W2.heap.size < W5.heap.size∧w.heap.size≤W5.heap.size):=⟨by have:=HS1.out;have:=HS2.out;have:=HS3.out;have:=HS4.out;have:=HS5.out;omega,HB5.out.size⟩
  clear hrun hf7 hb7 hwb HO5 HR5 a0
  go_wp2_with (first
    | (at_builtin;refine wpList_append_known rfl _ _ 37 rfl _ _ _ rfl rfl HRUN.out ?_)
    | (refine wpList_store_one rfl _ _ _ rfl W2.heap.size 46 (.slice B D.length d) rfl rfl (HO7.out.there 46 1 (by rw [nmL_len (zLens.withS hl.out.s)];omega)) rfl rfl rfl ?_;intro W8 hW8;have HO8:Hid (Blk W8 W2.heap.size (nmL 3 t zGga zRmc ([.bool a,.int .i64 f,.slice B D.length d,.bool b0,.int .i64 n0,.bool b1,.int .i64 n1,.bool b2,.int .i64 n2]) zVtg zGsv)):=nmslice_Gsa HO7.out hW8 hS.out.symm;have HR8:=Lib.hid (HR7.out.far hW8 (by have:=HS1.out;have:=HS2.out;omega));have HB8:=Lib.hid (HB7.out.trans (hW8.below (by have:=HS1.out;have:=HS2.out;omega)));have HF8:=Lib.hid (flat_far HF7.out hW8 HS7.out.1);have HS8:Hid (W8.heap.size=W7.heap.size):=hW8.sz;clear hW8 HO7 HR7 HB7 HF7 g1)
    | refine wpList_load_mid rfl 46 _ rfl W2.heap.size 0 rfl (nmL 3 t zGga zRmc ([.bool a,.int .i64 f,.slice B D.length d,.bool b0,.int .i64 n0,.bool b1,.int .i64 n1,.bool b2,.int .i64 n2]) zVtg zGsv) _ HO8.out.rg Tryz.underlying46 rfl (nm_sizeL (zLens.withS rfl)) ?_
    | (refine wpList_store_in rfl _ _ _ rfl W1.heap.size 0 (nmL 3 t zGga zRmc ([.bool a,.int .i64 f,.slice B D.length d,.bool b0,.int .i64 n0,.bool b1,.int .i64 n1,.bool b2,.int .i64 n2]) zVtg zGsv).toArray rfl rfl (HR8.out.thereA (nmL_same (zLens.withS rfl) zLens)) (nm_sizeL (zLens.withS rfl)) (Ones.arr (nmL_ones zones.1 zones.2.1 (Ones.of rfl) zones.2.2.2.1 zones.2.2.2.2)) ?_;intro W9 hW9;have HK9:Hid (Blk W9 W1.heap.size (nmL 3 t zGga zRmc ([.bool a,.int .i64 f,.slice B D.length d,.bool b0,.int .i64 n0,.bool b1,.int .i64 n1,.bool b2,.int .i64 n2]) zVtg zGsv)):=HR8.out.all hW9 (nmL_same (zLens.withS rfl) zLens);have HB9:=Lib.hid (HB8.out.trans (hW9.below (by have:=HS1.out;omega)));have HW9:=Lib.hid hW9;clear hW9))
  try go_frame
  have HLD:=Lib.hid (run_loadVar_mid (P:=Tryz.prog) W9 W1.heap.size 0 46 (nmL 3 t zGga zRmc ([.bool a,.int .i64 f,.slice B D.length d,.bool b0,.int .i64 n0,.bool b1,.int .i64 n1,.bool b2,.int .i64 n2]) zVtg zGsv) _ HK9.out.rg Tryz.underlying46 rfl (nm_sizeL (zLens.withS rfl)))
  clear HK9
  refine bodyPost_ret (v:=.agg (nmL 3 t zGga zRmc ([.bool a,.int .i64 f,.slice B D.length d,.bool b0,.int .i64 n0,.bool b1,.int .i64 n1,.bool b2,.int .i64 n2]) zVtg zGsv).toArray) (by rw [results_cell rfl];simp [asAddr,Result.andThen,HLD.out]) rfl ?_
  have e1:=HS7.out
  have e2:=HS8.out
  have e3:=HS1.out
  have e4:=HS2.out
  have e5:=HW9.out.sz
  exact⟨B,⟨d,rfl⟩,(flat_far HF8.out HW9.out (by omega)).less fun b h=>by omega,HB9.out⟩
set_option maxRecDepth 8000 in
set_option maxHeartbeats 4000000 in
theorem r30plain_4 {t:ByteArray} {G R S V U:List Value} (hl:Hid (Lens G R S V U)) (ho:Hid (Ones V)) (w:World):Calls Tryz.prog 22 #[.agg (nmL 4 t G R S V U).toArray] w fun e w'=>e=.returned (.agg (nmL 4 t zGga zRmc zGsa V zGsv).toArray)∧Below w.heap.size w w':=by
  have HZN:=fun W=>Lib.hid (zero_Nm W)
  have HBN:=fun W=>Lib.hid (build_NmKT 4 t W)
  go_enter Tryz.func22,Tryz.ntmps22
  go_upto_region 1 with (first
    | (refine wpList_box_new rfl _ _ rfl (nmL 4 t G R S V U).toArray rfl ?_;intro W1 hW1;have HK1:=Lib.hid (Blk.newL (L:=nmL 4 t G R S V U) hW1 rfl);have HB1:=Lib.hid hW1.bel;have HS1:=Lib.hid hW1.sz;clear hW1)
    | (refine wpList_alloc_new rfl _ rfl zNm (HZN _).out ?_;intro W2 hW2;have HK2:=Lib.hid (HK1.out.grew hW2);have HR2:=Lib.hid (Blk.newL (L:=nmL 0 ByteArray.empty zGga zRmc zGsa zVtg zGsv) hW2 rfl);have HB2:=Lib.hid (bthen HB1.out hW2.bel);have HS2:=Lib.hid hW2.sz;clear hW2 HK1 HB1))
  have a0:=HK2.out.cell 0 (v:=.int .i64 4) rfl
  have a1:=HK2.out.cell 1 (v:=.string t) rfl
  try go_frame
  go_upto_region 2 with (first
    | refine wpList_build2 (u:=.int .i64 4) (u':=.string t) rfl _ 0 1 _ _ rfl rfl rfl (HBN _).out ?_
    | (refine wpList_alloc_new rfl _ rfl zNm (HZN _).out ?_;intro W3 hW3;have HO3:=Lib.hid (Blk.newL (L:=nmL 0 ByteArray.empty zGga zRmc zGsa zVtg zGsv) hW3 rfl);have HK3:=Lib.hid (HK2.out.grew hW3);have HR3:=Lib.hid (HR2.out.grew hW3);have HB3:=Lib.hid (bthen HB2.out hW3.bel);have HS3:=Lib.hid hW3.sz;clear hW3 HK2 HB2 HR2 a0 a1)
    | (refine wpList_store_in rfl _ _ _ rfl W2.heap.size 0 (nmL 4 t zGga zRmc zGsa zVtg zGsv).toArray rfl rfl (HO3.out.thereA (nmL_same zLens zLens)) (nm_sizeL zLens) (Ones.arr (nmL_ones zones.1 zones.2.1 zones.2.2.1 zones.2.2.2.1 zones.2.2.2.2)) ?_;intro W4 hW4;have HO4:Hid (Blk W4 W2.heap.size (nmL 4 t zGga zRmc zGsa zVtg zGsv)):=HO3.out.all hW4 (nmL_same zLens zLens);have HK4:=Lib.hid (HK3.out.far hW4 (by have:=HS1.out;have:=HS2.out;omega));have HR4:=Lib.hid (HR3.out.far hW4 (by have:=HS1.out;have:=HS2.out;omega));have HB4:=Lib.hid (HB3.out.trans (hW4.below (by have:=HS1.out;have:=HS2.out;omega)));have HS4:=Lib.hid hW4.sz;clear hW4 HK3 HO3 HR3 HB3))
  have a0:=HK4.out.cell 0 (v:=.int .i64 4) rfl
  try go_frame
  go_wp2_with (first
    | refine wpList_load_mid rfl 41 _ rfl w.heap.size 53 rfl V _ (HK4.out.nmAt hl.out).v Tryz.underlying41 rfl (by rw [onVtg_size,hl.out.v]) ?_
    | (refine wpList_store_in rfl _ _ _ rfl W2.heap.size 53 V.toArray rfl rfl (HO4.out.there 53 _ (by rw [show V.toArray.size=8 from hl.out.v,nmL_len zLens];omega)) (by rw [onVtg_size,show V.toArray.size=8 from hl.out.v]) (Ones.arr ho.out) ?_;intro W5 hW5;have HO5:Hid (Blk W5 W2.heap.size (nmL 4 t zGga zRmc zGsa V zGsv)):=HO4.out.putV hW5 zLens hl.out.v;have HR5:=Lib.hid (HR4.out.far hW5 (by have:=HS1.out;have:=HS2.out;omega));have HB5:=Lib.hid (HB4.out.trans (hW5.below (by have:=HS1.out;have:=HS2.out;omega)));clear hW5 HO4 HR4 HB4)
    | refine wpList_load_mid rfl 46 _ rfl W2.heap.size 0 rfl (nmL 4 t zGga zRmc zGsa V zGsv) _ HO5.out.rg Tryz.underlying46 rfl (nm_sizeL (zLens.withV hl.out.v)) ?_
    | (refine wpList_store_in rfl _ _ _ rfl W1.heap.size 0 (nmL 4 t zGga zRmc zGsa V zGsv).toArray rfl rfl (HR5.out.thereA (nmL_same (zLens.withV hl.out.v) zLens)) (nm_sizeL (zLens.withV hl.out.v)) (Ones.arr (nmL_ones zones.1 zones.2.1 zones.2.2.1 ho.out zones.2.2.2.2)) ?_;intro W9 hW9;have HK9:Hid (Blk W9 W1.heap.size (nmL 4 t zGga zRmc zGsa V zGsv)):=HR5.out.all hW9 (nmL_same (zLens.withV hl.out.v) zLens);have HB9:=Lib.hid (HB5.out.trans (hW9.below (by have:=HS1.out;omega)));clear hW9))
  try go_frame
  have HLD:=Lib.hid (run_loadVar_mid (P:=Tryz.prog) W9 W1.heap.size 0 46 (nmL 4 t zGga zRmc zGsa V zGsv) _ HK9.out.rg Tryz.underlying46 rfl (nm_sizeL (zLens.withV hl.out.v)))
  clear HK9
  refine bodyPost_ret (v:=.agg (nmL 4 t zGga zRmc zGsa V zGsv).toArray) (by rw [results_cell rfl];simp [asAddr,Result.andThen,HLD.out]) rfl ?_
  exact⟨rfl,HB9.out⟩
set_option maxRecDepth 8000 in
set_option maxHeartbeats 4000000 in
theorem r30plain_5 {w:World} {t:ByteArray} {G R S V U:List Value} (hl:Hid (Lens G R S V U)) {A:Option Addr} {c:Nat} {D:List V4} {T N O:Int} (hS:Hid (U=[.int .i64 T,.int .i64 N,.int .i64 O,.slice A D.length c])) (hq:FlatQ (fun b=>b < w.heap.size) w A (vsC D)) (hm:D.length≤1000000):Calls Tryz.prog 22 #[.agg (nmL 5 t G R S V U).toArray] w fun e w'=>∃ B d,e=.returned (.agg (nmL 5 t zGga zRmc zGsa zVtg ([.int .i64 T,.int .i64 N,.int .i64 O,.slice B D.length d])).toArray)∧FlatQ (fun b=>w.heap.size≤b∧b < w'.heap.size) w' B (vsC D)∧Below w.heap.size w w':=by
  have HZN:=fun W=>Lib.hid (zero_Nm W)
  have HBN:=fun W=>Lib.hid (build_NmKT 5 t W)
  go_enter Tryz.func22,Tryz.ntmps22
  go_upto_region 1 with (first
    | (refine wpList_box_new rfl _ _ rfl (nmL 5 t G R S V U).toArray rfl ?_;intro W1 hW1;have HK1:=Lib.hid (Blk.newL (L:=nmL 5 t G R S V U) hW1 rfl);have HB1:=Lib.hid hW1.bel;have HS1:=Lib.hid hW1.sz;clear hW1)
    | (refine wpList_alloc_new rfl _ rfl zNm (HZN _).out ?_;intro W2 hW2;have HK2:=Lib.hid (HK1.out.grew hW2);have HR2:=Lib.hid (Blk.newL (L:=nmL 0 ByteArray.empty zGga zRmc zGsa zVtg zGsv) hW2 rfl);have HB2:=Lib.hid (bthen HB1.out hW2.bel);have HS2:=Lib.hid hW2.sz;clear hW2 HK1 HB1))
  have a0:=HK2.out.cell 0 (v:=.int .i64 5) rfl
  have a1:=HK2.out.cell 1 (v:=.string t) rfl
  try go_frame
  go_upto_region 2 with (first
    | refine wpList_build2 (u:=.int .i64 5) (u':=.string t) rfl _ 0 1 _ _ rfl rfl rfl (HBN _).out ?_
    | (refine wpList_alloc_new rfl _ rfl zNm (HZN _).out ?_;intro W3 hW3;have HO3:=Lib.hid (Blk.newL (L:=nmL 0 ByteArray.empty zGga zRmc zGsa zVtg zGsv) hW3 rfl);have HK3:=Lib.hid (HK2.out.grew hW3);have HR3:=Lib.hid (HR2.out.grew hW3);have HB3:=Lib.hid (bthen HB2.out hW3.bel);have HS3:=Lib.hid hW3.sz;clear hW3 HK2 HB2 HR2 a0 a1)
    | (refine wpList_store_in rfl _ _ _ rfl W2.heap.size 0 (nmL 5 t zGga zRmc zGsa zVtg zGsv).toArray rfl rfl (HO3.out.thereA (nmL_same zLens zLens)) (nm_sizeL zLens) (Ones.arr (nmL_ones zones.1 zones.2.1 zones.2.2.1 zones.2.2.2.1 zones.2.2.2.2)) ?_;intro W4 hW4;have HO4:Hid (Blk W4 W2.heap.size (nmL 5 t zGga zRmc zGsa zVtg zGsv)):=HO3.out.all hW4 (nmL_same zLens zLens);have HK4:=Lib.hid (HK3.out.far hW4 (by have:=HS1.out;have:=HS2.out;omega));have HR4:=Lib.hid (HR3.out.far hW4 (by have:=HS1.out;have:=HS2.out;omega));have HB4:=Lib.hid (HB3.out.trans (hW4.below (by have:=HS1.out;have:=HS2.out;omega)));have HS4:=Lib.hid hW4.sz;clear hW4 HK3 HO3 HR3 HB3))
  have a0:=HK4.out.cell 0 (v:=.int .i64 5) rfl
  try go_frame
  have HOS:Hid (Ones U):=by rw [hS.out];exact Ones.of rfl
  go_upto_region 14 with (first
    | refine wpList_load_mid rfl 44 _ rfl w.heap.size 61 rfl U _ (HK4.out.nmAt hl.out).u Tryz.underlying44 rfl (by rw [onGsv_size,hl.out.u]) ?_
    | (refine wpList_store_in rfl _ _ _ rfl W2.heap.size 61 U.toArray rfl rfl (HO4.out.there 61 _ (by rw [show U.toArray.size=4 from hl.out.u,nmL_len zLens];omega)) (by rw [onGsv_size,show U.toArray.size=4 from hl.out.u]) (Ones.arr HOS.out) ?_;intro W5 hW5;have HO5:Hid (Blk W5 W2.heap.size (nmL 5 t zGga zRmc zGsa zVtg U)):=HO4.out.putU hW5 zLens hl.out.u;have HR5:=Lib.hid (HR4.out.far hW5 (by have:=HS1.out;have:=HS2.out;omega));have HK5:=Lib.hid (HK4.out.far hW5 (by have:=HS1.out;have:=HS2.out;omega));have HB5:=Lib.hid (HB4.out.trans (hW5.below (by have:=HS1.out;have:=HS2.out;omega)));have HS5:=Lib.hid hW5.sz;clear hW5 HO4 HR4 HB4 HK4))
  try go_frame
  obtain⟨B,d,W7,hrun,hf7,hb7⟩:=appV W5 A D c ((hq.on HB5.out) fun b h=>h) hm
  have HRUN:=Lib.hid hrun
  have HF7:=Lib.hid hf7
  have hwb:Below W5.heap.size W5 (W5.alloc (.cells #[] 107)):=below_new W5 _
  have g1:(W5.alloc (.cells #[] 107)).cell? ⟨w.heap.size,64,none⟩=some (.slice A D.length c):=((HK5.out.on hwb).nmAt hl.out).u 3 _ (by rw [hS.out];rfl)
  have HO7:=Lib.hid (HO5.out.on hb7)
  have HR7:=Lib.hid (HR5.out.on hb7)
  have HB7:=Lib.hid (bthen HB5.out hb7)
  have HS7:Hid (W2.heap.size < W5.heap.size∧w.heap.size≤W5.heap.size):=⟨by have:=HS1.out;have:=HS2.out;have:=HS3.out;have:=HS4.out;have:=HS5.out;omega,HB5.out.size⟩
  clear hrun hf7 hb7 hwb HO5 HR5 a0
  go_wp2_with (first
    | (at_builtin;refine wpList_append_known rfl _ _ 42 rfl _ _ _ rfl rfl HRUN.out ?_)
    | (refine wpList_store_one rfl _ _ _ rfl W2.heap.size 64 (.slice B D.length d) rfl rfl (HO7.out.there 64 1 (by rw [nmL_len (zLens.withU hl.out.u)];omega)) rfl rfl rfl ?_;intro W8 hW8;have HO8:Hid (Blk W8 W2.heap.size (nmL 5 t zGga zRmc zGsa zVtg ([.int .i64 T,.int .i64 N,.int .i64 O,.slice B D.length d]))):=nmslice_Gsv HO7.out hW8 hS.out.symm;have HR8:=Lib.hid (HR7.out.far hW8 (by have:=HS1.out;have:=HS2.out;omega));have HB8:=Lib.hid (HB7.out.trans (hW8.below (by have:=HS1.out;have:=HS2.out;omega)));have HF8:=Lib.hid (flat_far HF7.out hW8 HS7.out.1);have HS8:Hid (W8.heap.size=W7.heap.size):=hW8.sz;clear hW8 HO7 HR7 HB7 HF7 g1)
    | refine wpList_load_mid rfl 46 _ rfl W2.heap.size 0 rfl (nmL 5 t zGga zRmc zGsa zVtg ([.int .i64 T,.int .i64 N,.int .i64 O,.slice B D.length d])) _ HO8.out.rg Tryz.underlying46 rfl (nm_sizeL (zLens.withU rfl)) ?_
    | (refine wpList_store_in rfl _ _ _ rfl W1.heap.size 0 (nmL 5 t zGga zRmc zGsa zVtg ([.int .i64 T,.int .i64 N,.int .i64 O,.slice B D.length d])).toArray rfl rfl (HR8.out.thereA (nmL_same (zLens.withU rfl) zLens)) (nm_sizeL (zLens.withU rfl)) (Ones.arr (nmL_ones zones.1 zones.2.1 zones.2.2.1 zones.2.2.2.1 (Ones.of rfl))) ?_;intro W9 hW9;have HK9:Hid (Blk W9 W1.heap.size (nmL 5 t zGga zRmc zGsa zVtg ([.int .i64 T,.int .i64 N,.int .i64 O,.slice B D.length d]))):=HR8.out.all hW9 (nmL_same (zLens.withU rfl) zLens);have HB9:=Lib.hid (HB8.out.trans (hW9.below (by have:=HS1.out;omega)));have HW9:=Lib.hid hW9;clear hW9))
  try go_frame
  have HLD:=Lib.hid (run_loadVar_mid (P:=Tryz.prog) W9 W1.heap.size 0 46 (nmL 5 t zGga zRmc zGsa zVtg ([.int .i64 T,.int .i64 N,.int .i64 O,.slice B D.length d])) _ HK9.out.rg Tryz.underlying46 rfl (nm_sizeL (zLens.withU rfl)))
  clear HK9
  refine bodyPost_ret (v:=.agg (nmL 5 t zGga zRmc zGsa zVtg ([.int .i64 T,.int .i64 N,.int .i64 O,.slice B D.length d])).toArray) (by rw [results_cell rfl];simp [asAddr,Result.andThen,HLD.out]) rfl ?_
  have e1:=HS7.out
  have e2:=HS8.out
  have e3:=HS1.out
  have e4:=HS2.out
  have e5:=HW9.out.sz
  exact⟨B,⟨d,rfl⟩,(flat_far HF8.out HW9.out (by omega)).less fun b h=>by omega,HB9.out⟩
theorem plain30_1 {m:NmD} (h:m.k=1):plain30 m=⟨1,m.t,m.g,zeroM,zeroS,zV4,zeroG⟩:=by unfold plain30;rw [(only_1 (t:=m.t) h).1,h]
theorem plain30_2 {m:NmD} (h:m.k=2):plain30 m=⟨2,m.t,zeroF,m.r,zeroS,zV4,zeroG⟩:=by unfold plain30;rw [(only_2 (t:=m.t) h).1,h]
theorem plain30_3 {m:NmD} (h:m.k=3):plain30 m=⟨3,m.t,zeroF,zeroM,m.s,zV4,zeroG⟩:=by unfold plain30;rw [(only_3 (t:=m.t) h).1,h]
theorem plain30_4 {m:NmD} (h:m.k=4):plain30 m=⟨4,m.t,zeroF,zeroM,zeroS,m.v,zeroG⟩:=by unfold plain30;rw [(only_4 (t:=m.t) h).1,h]
theorem plain30_5 {m:NmD} (h:m.k=5):plain30 m=⟨5,m.t,zeroF,zeroM,zeroS,zV4,m.u⟩:=by unfold plain30;rw [(only_5 (t:=m.t) h).1,h]
theorem plain30_no {m:NmD} (h:¬ (1≤m.k∧m.k≤5)):plain30 m=⟨m.k,m.t,zeroF,zeroM,zeroS,zV4,zeroG⟩:=by unfold plain30;rw [(only_no (t:=m.t) h).1]
theorem plain30_only {m:NmD} (h:1≤m.k∧m.k≤5):plain30 m=only30 m.t m:=by
  have:m.k=1∨m.k=2∨m.k=3∨m.k=4∨m.k=5:=by omega
  rcases this with h | h | h | h | h
  · rw [plain30_1 h,(only_1 h).1]
  · rw [plain30_2 h,(only_2 h).1]
  · rw [plain30_3 h,(only_3 h).1]
  · rw [plain30_4 h,(only_4 h).1]
  · rw [plain30_5 h,(only_5 h).1]
theorem r30Plain_any {lo:Nat} {C:Array Value} {m:NmD} {w:World} (h:NmV lo w C m) (h1:m.s.ids.length≤1000000) (h2:m.u.L.length≤1000000) :
    Calls Tryz.prog 22 #[.agg C] w fun e w'=>∃ D,e=.returned (.agg D)∧NmV w.heap.size w' D (plain30 m)∧Below w.heap.size w w':=by
  obtain⟨x,y,rfl,⟨A,c,rfl,hx⟩,⟨B,d,rfl,hy⟩⟩:=h
  have hl:=Lib.hid (nmLens m (.slice A m.s.ids.length c) (.slice B m.u.L.length d))
  by_cases k1:m.k=1
  · rw [plain30_1 k1]
    unfold nmC
    rw [k1]
    refine (r30plain_1 hl (Lib.hid (gL_ones _)) w).mono ?_
    rintro e w' ⟨rfl,hb⟩
    exact⟨_,rfl,⟨_,_,rfl,SlI.nil _ _,SlV.nil _ _⟩,hb⟩
  by_cases k2:m.k=2
  · rw [plain30_2 k2]
    unfold nmC
    rw [k2]
    refine (r30plain_2 hl (Lib.hid (rL_ones _)) w).mono ?_
    rintro e w' ⟨rfl,hb⟩
    exact⟨_,rfl,⟨_,_,rfl,SlI.nil _ _,SlV.nil _ _⟩,hb⟩
  by_cases k3:m.k=3
  · rw [plain30_3 k3]
    unfold nmC
    rw [k3]
    refine (r30plain_3 hl (a:=m.s.a) (f:=m.s.f) (A:=A) (c:=c) (D:=m.s.ids) (b0:=m.s.p0.1) (n0:=m.s.p0.2) (b1:=m.s.p1.1) (n1:=m.s.p1.2) (b2:=m.s.p2.1) (n2:=m.s.p2.2) (Lib.hid rfl) (hx.less fun b q=>q.2) h1).mono ?_
    rintro e w' ⟨B',d',rfl,hf,hb⟩
    exact⟨_,rfl,⟨_,_,rfl,⟨B',d',rfl,hf⟩,SlV.nil _ _⟩,hb⟩
  by_cases k4:m.k=4
  · rw [plain30_4 k4]
    unfold nmC
    rw [k4]
    refine (r30plain_4 hl (Lib.hid (vL_ones _)) w).mono ?_
    rintro e w' ⟨rfl,hb⟩
    exact⟨_,rfl,⟨_,_,rfl,SlI.nil _ _,SlV.nil _ _⟩,hb⟩
  by_cases k5:m.k=5
  · rw [plain30_5 k5]
    unfold nmC
    rw [k5]
    refine (r30plain_5 hl (T:=m.u.T) (N:=m.u.N) (O:=m.u.S) (A:=B) (c:=d) (D:=m.u.L) (Lib.hid rfl) (hy.less fun b q=>q.2) h2).mono ?_
    rintro e w' ⟨B',d',rfl,hf,hb⟩
    exact⟨_,rfl,⟨_,_,rfl,SlI.nil _ _,⟨B',d',rfl,hf⟩⟩,hb⟩
  have hn:¬ (1≤m.k∧m.k≤5):=by omega
  rw [plain30_no hn]
  refine (r30plain_no hl hn w).mono ?_
  rintro e w' ⟨rfl,hb⟩
  exact⟨_,rfl,⟨_,_,rfl,SlI.nil _ _,SlV.nil _ _⟩,hb⟩
theorem TextsPost.from_ {fs:List ByteArray} {w w1:World} {v:Value} {w':World} (h:TextsPost fs w1 v w') (hb:Below w.heap.size w w1):TextsPost fs w v w':=by
  obtain⟨A,c,h1,h2,h3,h4,h5⟩:=h
  exact⟨A,c,h1,h2,h3,h4.less hb.size,bthen hb h5⟩
def putF30 (m:NmD):List ByteArray×Int:=if m.k=1 then putGga m.g else if m.k=2 then putRmc m.r else if m.k=3 then putGsa m.s else if m.k=4 then putVtg [m.v.1,m.v.2.1,m.v.2.2.1,m.v.2.2.2] else putGsv m.u
theorem mth_Gga (x:Value) (W:World):(method 390 95 x "landfall/nmea.fields").run Tryz.prog W=.ok (225,x) W:=by kernel_rfl
theorem cal_Gga (x:Value) (W:World):(callFunc 225 #[x]).run Tryz.prog W=.ok (.enter 225 #[x]) W:=by kernel_rfl
set_option maxRecDepth 8000 in
theorem nmfields_1 {G:List Value} {X:List ByteArray×Int} {w:World} (hl:Hid (G.length=22)) (HP:∀ W,Below w.heap.size w W→Hid (Calls Tryz.prog 226 #[.agg G.toArray] W (PutPost X W))):Calls Tryz.prog 225 #[.agg G.toArray] w (PutPost X w):=by
  have hs:(Tryz.prog.info? 32).map (·.size)=some G.length:=by rw [hl.out];exact onGga_size
  have HS:=Lib.hid hs
  clear hs
  go_enter Tryz.func225,Tryz.ntmps225
  go_wp2_with (first
    | (refine wpList_box_new rfl _ _ rfl G.toArray rfl ?_;intro W1 hW1;have HG:Hid (W1.rangeAt w.heap.size 0 G):=hW1.rg;have HBE:=Lib.hid hW1.bel;clear hW1)
    | (refine wpList_load_mid rfl 32 _ rfl w.heap.size 0 rfl G _ HG.out Tryz.underlying32 rfl HS.out ?_))
  refine (HP _ HBE.out).out.mono ?_
  rintro r w2 ⟨v,rfl,ht⟩
  have HT:=Lib.hid (ht.from_ HBE.out)
  clear ht HBE HP
  go_wp2_with fail
  go_ret2
  exact⟨v,rfl,HT.out⟩
theorem mth_Rmc (x:Value) (W:World):(method 390 97 x "landfall/nmea.fields").run Tryz.prog W=.ok (257,x) W:=by kernel_rfl
theorem cal_Rmc (x:Value) (W:World):(callFunc 257 #[x]).run Tryz.prog W=.ok (.enter 257 #[x]) W:=by kernel_rfl
set_option maxRecDepth 8000 in
theorem nmfields_2 {G:List Value} {X:List ByteArray×Int} {w:World} (hl:Hid (G.length=20)) (HP:∀ W,Below w.heap.size w W→Hid (Calls Tryz.prog 258 #[.agg G.toArray] W (PutPost X W))):Calls Tryz.prog 257 #[.agg G.toArray] w (PutPost X w):=by
  have hs:(Tryz.prog.info? 36).map (·.size)=some G.length:=by rw [hl.out];exact onRmc_size
  have HS:=Lib.hid hs
  clear hs
  go_enter Tryz.func257,Tryz.ntmps257
  go_wp2_with (first
    | (refine wpList_box_new rfl _ _ rfl G.toArray rfl ?_;intro W1 hW1;have HG:Hid (W1.rangeAt w.heap.size 0 G):=hW1.rg;have HBE:=Lib.hid hW1.bel;clear hW1)
    | (refine wpList_load_mid rfl 36 _ rfl w.heap.size 0 rfl G _ HG.out Tryz.underlying36 rfl HS.out ?_))
  refine (HP _ HBE.out).out.mono ?_
  rintro r w2 ⟨v,rfl,ht⟩
  have HT:=Lib.hid (ht.from_ HBE.out)
  clear ht HBE HP
  go_wp2_with fail
  go_ret2
  exact⟨v,rfl,HT.out⟩
theorem mth_Gsa (x:Value) (W:World):(method 390 99 x "landfall/nmea.fields").run Tryz.prog W=.ok (270,x) W:=by kernel_rfl
theorem cal_Gsa (x:Value) (W:World):(callFunc 270 #[x]).run Tryz.prog W=.ok (.enter 270 #[x]) W:=by kernel_rfl
set_option maxRecDepth 8000 in
theorem nmfields_3 {G:List Value} {X:List ByteArray×Int} {w:World} (hl:Hid (G.length=9)) (HP:∀ W,Below w.heap.size w W→Hid (Calls Tryz.prog 271 #[.agg G.toArray] W (PutPost X W))):Calls Tryz.prog 270 #[.agg G.toArray] w (PutPost X w):=by
  have hs:(Tryz.prog.info? 39).map (·.size)=some G.length:=by rw [hl.out];exact onGsa_size
  have HS:=Lib.hid hs
  clear hs
  go_enter Tryz.func270,Tryz.ntmps270
  go_wp2_with (first
    | (refine wpList_box_new rfl _ _ rfl G.toArray rfl ?_;intro W1 hW1;have HG:Hid (W1.rangeAt w.heap.size 0 G):=hW1.rg;have HBE:=Lib.hid hW1.bel;clear hW1)
    | (refine wpList_load_mid rfl 39 _ rfl w.heap.size 0 rfl G _ HG.out Tryz.underlying39 rfl HS.out ?_))
  refine (HP _ HBE.out).out.mono ?_
  rintro r w2 ⟨v,rfl,ht⟩
  have HT:=Lib.hid (ht.from_ HBE.out)
  clear ht HBE HP
  go_wp2_with fail
  go_ret2
  exact⟨v,rfl,HT.out⟩
theorem mth_Vtg (x:Value) (W:World):(method 390 101 x "landfall/nmea.fields").run Tryz.prog W=.ok (276,x) W:=by kernel_rfl
theorem cal_Vtg (x:Value) (W:World):(callFunc 276 #[x]).run Tryz.prog W=.ok (.enter 276 #[x]) W:=by kernel_rfl
set_option maxRecDepth 8000 in
theorem nmfields_4 {G:List Value} {X:List ByteArray×Int} {w:World} (hl:Hid (G.length=8)) (HP:∀ W,Below w.heap.size w W→Hid (Calls Tryz.prog 277 #[.agg G.toArray] W (PutPost X W))):Calls Tryz.prog 276 #[.agg G.toArray] w (PutPost X w):=by
  have hs:(Tryz.prog.info? 41).map (·.size)=some G.length:=by rw [hl.out];exact onVtg_size
  have HS:=Lib.hid hs
  clear hs
  go_enter Tryz.func276,Tryz.ntmps276
  go_wp2_with (first
    | (refine wpList_box_new rfl _ _ rfl G.toArray rfl ?_;intro W1 hW1;have HG:Hid (W1.rangeAt w.heap.size 0 G):=hW1.rg;have HBE:=Lib.hid hW1.bel;clear hW1)
    | (refine wpList_load_mid rfl 41 _ rfl w.heap.size 0 rfl G _ HG.out Tryz.underlying41 rfl HS.out ?_))
  refine (HP _ HBE.out).out.mono ?_
  rintro r w2 ⟨v,rfl,ht⟩
  have HT:=Lib.hid (ht.from_ HBE.out)
  clear ht HBE HP
  go_wp2_with fail
  go_ret2
  exact⟨v,rfl,HT.out⟩
theorem mth_Gsv (x:Value) (W:World):(method 390 103 x "landfall/nmea.fields").run Tryz.prog W=.ok (280,x) W:=by kernel_rfl
theorem cal_Gsv (x:Value) (W:World):(callFunc 280 #[x]).run Tryz.prog W=.ok (.enter 280 #[x]) W:=by kernel_rfl
set_option maxRecDepth 8000 in
theorem nmfields_5 {G:List Value} {X:List ByteArray×Int} {w:World} (hl:Hid (G.length=4)) (HP:∀ W,Below w.heap.size w W→Hid (Calls Tryz.prog 281 #[.agg G.toArray] W (PutPost X W))):Calls Tryz.prog 280 #[.agg G.toArray] w (PutPost X w):=by
  have hs:(Tryz.prog.info? 44).map (·.size)=some G.length:=by rw [hl.out];exact onGsv_size
  have HS:=Lib.hid hs
  clear hs
  go_enter Tryz.func280,Tryz.ntmps280
  go_wp2_with (first
    | (refine wpList_box_new rfl _ _ rfl G.toArray rfl ?_;intro W1 hW1;have HG:Hid (W1.rangeAt w.heap.size 0 G):=hW1.rg;have HBE:=Lib.hid hW1.bel;clear hW1)
    | (refine wpList_load_mid rfl 44 _ rfl w.heap.size 0 rfl G _ HG.out Tryz.underlying44 rfl HS.out ?_))
  refine (HP _ HBE.out).out.mono ?_
  rintro r w2 ⟨v,rfl,ht⟩
  have HT:=Lib.hid (ht.from_ HBE.out)
  clear ht HBE HP
  go_wp2_with fail
  go_ret2
  exact⟨v,rfl,HT.out⟩
def Fields30 (v:Value) (w:World) (X:List ByteArray×Int):Prop:=∃ T x f,v=.iface T x∧(∀ W:World,(method 390 T x "landfall/nmea.fields").run Tryz.prog W=.ok (f,x) W)∧(∀ W:World,(callFunc f #[x]).run Tryz.prog W=.ok (.enter f #[x]) W)∧∀ W,Below w.heap.size w W→Calls Tryz.prog f #[x] W (PutPost X W)
theorem fields30_any {lo:Nat} {w:World} {v:Value} {m:NmD} (h:PartV lo w v m) (hk:1≤m.k∧m.k≤5) (h1:m.s.ids.length≤1000000) (h2:m.u.L.length≤1000000):Fields30 v w (putF30 m):=by
  unfold putF30
  rcases h with ⟨k,rfl⟩ | ⟨k,rfl⟩ | ⟨k,x,rfl,A,c,rfl,hs⟩ | ⟨k,rfl⟩ | ⟨k,x,rfl,A,c,rfl,hs⟩ | ⟨k,rfl⟩
  · rw [if_pos k]
    exact⟨_,_,_,rfl,fun W=>mth_Gga _ W,fun W=>cal_Gga _ W,fun W hW=>nmfields_1 (G:=gL m.g) rfl fun W2 _=>ggaPut_any _ _ _ _ _ _ _ _ _ _ _ _ _ _ _ _ _ _ _ _ _ _ W2⟩
  · rw [if_neg (by omega),if_pos k]
    exact⟨_,_,_,rfl,fun W=>mth_Rmc _ W,fun W=>cal_Rmc _ W,fun W hW=>nmfields_2 (G:=rL m.r) rfl fun W2 _=>rmcPut_any _ _ _ _ _ _ _ _ _ _ _ _ _ _ _ _ _ _ _ _ W2⟩
  · rw [if_neg (by omega),if_neg (by omega),if_pos k]
    exact⟨_,_,_,rfl,fun W=>mth_Gsa _ W,fun W=>cal_Gsa _ W,fun W hW=>nmfields_3 (G:=sL m.s (.slice A m.s.ids.length c)) rfl fun W2 hW2=>gsaPut_any m.s.a m.s.f A c m.s.ids m.s.p0.1 m.s.p0.2 m.s.p1.1 m.s.p1.2 m.s.p2.1 m.s.p2.2 W2 (bk_on hs (bthen hW hW2)).ints h1⟩
  · rw [if_neg (by omega),if_neg (by omega),if_neg (by omega),if_pos k]
    exact⟨_,_,_,rfl,fun W=>mth_Vtg _ W,fun W=>cal_Vtg _ W,fun W hW=>nmfields_4 (G:=viewC m.v) rfl fun W2 _=>vtgPut_any _ _ _ _ _ _ _ _ W2⟩
  · rw [if_neg (by omega),if_neg (by omega),if_neg (by omega),if_neg (by omega)]
    exact⟨_,_,_,rfl,fun W=>mth_Gsv _ W,fun W=>cal_Gsv _ W,fun W hW=>nmfields_5 (G:=uL m.u (.slice A m.u.L.length c)) rfl fun W2 hW2=>gsvPut_any m.u.T m.u.N m.u.S A c m.u.L W2 (bk_on hs (bthen hW hW2)).vws h2⟩
  · exact absurd hk k
def SenV (w:World) (v:Value) (t y:ByteArray) (fs:List ByteArray):Prop:=∃ A c,v=.agg #[.string t,.string y,.slice A fs.length c]∧Strs w w.heap.size A fs
def put30 (m:NmD):(ByteArray×ByteArray×List ByteArray)×Int:=
  if ¬ (1≤m.k∧m.k≤5) then ((ByteArray.empty,ByteArray.empty,[]),6) else if (putF30 m).2=0 then ((m.t,word30 m.k,(putF30 m).1),0) else ((ByteArray.empty,ByteArray.empty,[]),(putF30 m).2)
def SenOut (x:(ByteArray×ByteArray×List ByteArray)×Int) (w:World) (e:Ending) (w':World):Prop:=
  ∃ v,e=.returned (.tuple #[v,.int .i64 x.2])∧SenV w' v x.1.1 x.1.2.1 x.1.2.2∧Below w.heap.size w w'
theorem SenV.zero (w:World):SenV w (.agg #[.string ByteArray.empty,.string ByteArray.empty,.slice none 0 0]) ByteArray.empty ByteArray.empty []:=⟨none,0,rfl,fun k hk=>by simp at hk⟩
theorem nm_talker {lo:Nat} {w:World} {C:Array Value} {m:NmD} (h:NmV lo w C m):C.toList[1]?=some (.string m.t):=by
  obtain⟨x,y,rfl,-⟩:=h
  rfl
theorem put30_no {m:NmD} (h:¬ (1≤m.k∧m.k≤5)):put30 m=((ByteArray.empty,ByteArray.empty,[]),6):=if_pos h
theorem put30_ok {m:NmD} {fs:List ByteArray} {E:Int} (h:1≤m.k∧m.k≤5) (hf:putF30 m=(fs,E)) (h0:E=0):put30 m=((m.t,word30 m.k,fs),0):=by unfold put30;rw [if_neg (fun q=>q h),hf,if_pos h0]
theorem put30_bad {m:NmD} {fs:List ByteArray} {E:Int} (h:1≤m.k∧m.k≤5) (hf:putF30 m=(fs,E)) (h0:E≠0):put30 m=((ByteArray.empty,ByteArray.empty,[]),E):=by unfold put30;rw [if_neg (fun q=>q h),hf,if_neg h0]
theorem word30_some {k:Int} (h:1≤k∧k≤5):∃ a b c,word30 k=⟨#[a,b,c]⟩:=by
  unfold word30
  split
  · exact⟨_,_,_,rfl⟩
  split
  · exact⟨_,_,_,rfl⟩
  split
  · exact⟨_,_,_,rfl⟩
  split
  · exact⟨_,_,_,rfl⟩
  split
  · exact⟨_,_,_,rfl⟩
  · omega
theorem sen_zero (w:World):(Instr.build 24 #[]).run Tryz.prog w=.ok (.agg #[.string ByteArray.empty,.string ByteArray.empty,.slice none 0 0]) w:=by kernel_rfl
theorem sen_build (t y:ByteArray) (A:Option Addr) (n c:Nat) (w:World):(Instr.build 24 #[(0,.string t),(1,.string y),(2,.slice A n c)]).run Tryz.prog w=.ok (.agg #[.string t,.string y,.slice A n c]) w:=by kernel_rfl
theorem wpList_build3 {P:Program} {ops:Array Oper} {rest:List Oper} {o:Oper} {a:Act} {w:World} {Q:Exit→Act→World→Prop} (hgd:o.guard=none) (t:TypeId) (i j k:Nat) (x y z:Operand) (ho:o.op=.build t #[(i,x),(j,y),(k,z)]) {u u' u'' v:Value} (hx:a.eval x=u) (hy:a.eval y=u') (hz:a.eval z=u'') (hr:(Instr.build t #[(i,u),(j,u'),(k,u'')]).run P w=.ok v w)
    (h:wpList P ops Q rest (a.put o.dst v) w):wpList P ops Q (o :: rest) a w:=wpList_build hgd t _ ho #[(i,u),(j,u'),(k,u'')] (by simp [hx,hy,hz]) hr h
theorem Stored.strs {w W:World} {b o B:Nat} {cs:List Value} (h:Stored w W b o cs) {A:Option Addr} {fs:List ByteArray} (hs:Strs w B A fs) (hn:∀ a,A=some a→a.block≠b):Strs W B A fs:=fun k hk=>by
  obtain⟨b',off,h1,h2,h3⟩:=hs k hk
  exact⟨b',off,h1,h2,(World.cell?_of_block (a:=⟨b',off+k,none⟩) (h.far b' (hn _ h1))).trans h3⟩
theorem sen_size:(Tryz.prog.info? 24).map (·.size)=some 3:=by kernel_rfl
set_option maxRecDepth 8000 in
set_option maxHeartbeats 4000000 in
theorem nmPut_of {lo:Nat} {C:Array Value} {m:NmD} {w:World} (h:NmV lo w C m) (h1:m.s.ids.length≤1000000) (h2:m.u.L.length≤1000000) (hFF:Hid (1≤m.k∧m.k≤5→∀ w' v,PartV lo w' v m→Fields30 v w' (putF30 m))):Calls Tryz.prog 17 #[.agg C] w (SenOut (put30 m) w):=by
  have HC:=fun W (hW:Below w.heap.size w W)=>Lib.hid (h.on hW)
  have HSZ:Hid ((Tryz.prog.info? 46).map (·.size)=some C.toList.length):=by rw [Array.length_toList,h.len];exact nm_size
  have HT:=Lib.hid (nm_talker h)
  have HZN:=fun W=>Lib.hid (zero_Nm W)
  clear h
  go_enter Tryz.func17,Tryz.ntmps17
  go_wp2_with (first
    | (refine wpList_box_new rfl _ _ rfl C rfl ?_;intro W1 hW1;have HG:=Lib.hid (Blk.new hW1);have HBE:=Lib.hid hW1.bel;have HS1:=Lib.hid hW1.sz;clear hW1)
    | (refine wpList_alloc_new rfl 24 rfl #[.string ByteArray.empty,.string ByteArray.empty,.slice none 0 0] (by kernel_rfl) ?_;intro W2 hW2;have HR:=Lib.hid (Blk.newL (L:=[.string ByteArray.empty,.string ByteArray.empty,.slice none 0 0]) hW2 rfl);have HG2:=Lib.hid (HG.out.grew hW2);have HBE2:=Lib.hid (bthen HBE.out hW2.bel);have HS2:=Lib.hid hW2.sz;clear hW2 HG HBE)
    | (refine wpList_load_mid rfl 46 _ rfl w.heap.size 0 rfl C.toList _ HG2.out.rg Tryz.underlying46 rfl HSZ.out ?_))
  refine (nmOf_any (HC _ HBE2.out).out).mono ?_
  rintro e W3 ⟨v,rfl,hp,hb⟩
  have HP:=Lib.hid hp
  have HG3:=Lib.hid (HG2.out.on hb)
  have HR3:=Lib.hid (HR.out.on hb)
  have HBE3:=Lib.hid (bthen HBE2.out hb)
  have c1:=HG3.out.cell 1 HT.out
  clear hp hb HG2 HR HBE2
  go_wp2_with fail
  refine (nmWith_any (t:=m.t) HP.out h1 h2).mono ?_
  rintro e W4 ⟨D,rfl,hd,hb⟩
  have HD:=Lib.hid hd
  have HP4:=Lib.hid (HP.out.on hb)
  have HG4:=Lib.hid (HG3.out.on hb)
  have HR4:=Lib.hid (HR3.out.on hb)
  have HBE4:=Lib.hid (bthen HBE3.out hb)
  have HG4lt:Hid (w.heap.size < W4.heap.size):=HG4.out.lt
  have HR4lt:Hid (W1.heap.size < W4.heap.size):=HR4.out.lt
  clear hd hb HG3 HR3 HBE3 HP c1
  have HSD:Hid ((Tryz.prog.info? 46).map (·.size)=some D.size):=by rw [HD.out.len];exact nm_size
  have HLD:Hid (D.toList.length=(nmL 0 ByteArray.empty zGga zRmc zGsa zVtg zGsv).length):=by rw [Array.length_toList,HD.out.len,nmL_len zLens];exact rfl
  by_cases hk:1≤m.k∧m.k≤5
  · obtain⟨a,b,c,hw⟩:=word30_some hk
    have hF:=hFF.out hk _ _ HP4.out
    clear hFF
    obtain⟨fs,E,hFE⟩:∃ fs E,putF30 m=(fs,E):=⟨_,_,rfl⟩
    rw [hFE] at hF
    have HFE:=Lib.hid hFE
    have HF:=Lib.hid hF
    clear hF hFE
    rw [hw]
    have HW:=Lib.hid hw
    obtain⟨T,x,f,rfl,hm,hcf,hf⟩:=HF.out
    have HQ:=Lib.hid hf
    clear hw HP4 HC hf HF
    go_wp2_with (first
      | (refine wpList_alloc_new rfl 46 rfl zNm (HZN _).out ?_;intro W5 hW5;have HA:=Lib.hid (Blk.newL (L:=nmL 0 ByteArray.empty zGga zRmc zGsa zVtg zGsv) hW5 rfl);have HG5:=Lib.hid (HG4.out.grew hW5);have HR5:=Lib.hid (HR4.out.grew hW5);have HBE5:=Lib.hid (bthen HBE4.out hW5.bel);have HB45:=Lib.hid hW5.bel;have HS5:=Lib.hid hW5.sz;clear hW5 HG4 HR4)
      | (refine wpList_store_in rfl _ _ _ rfl W4.heap.size 0 D rfl rfl (by have:=HA.out.thereA HLD.out;simpa using this) HSD.out HD.out.ones ?_;intro W6 hW6;have HG6:=Lib.hid (HG5.out.far hW6 (by have:=HG4lt.out;omega));have HR6:=Lib.hid (HR5.out.far hW6 (by have:=HR4lt.out;omega));have HBE6:=Lib.hid (HBE5.out.trans (hW6.below (by have:=HBE4.out.size;omega)));have HB46:=Lib.hid (HB45.out.trans (hW6.below (Nat.le_refl _)));clear hW6 HG5 HR5 HBE5 HB45 HA))
    refine (HQ.out _ HB46.out).mono ?_
    rintro r W7 ⟨y,rfl,B,d,rfl,hB,hst,hfr,hb⟩
    have HST:=Lib.hid hst
    have HFR:=Lib.hid hfr
    have HHB:=Lib.hid hB
    have HG7:=Lib.hid (HG6.out.on hb)
    have HR7:=Lib.hid (HR6.out.on hb)
    have HBE7:=Lib.hid (bthen HBE6.out hb)
    have c1:=HG7.out.cell 1 HT.out
    clear hst hB hb hfr HG6 HR6 HBE6 HQ hm hcf
    by_cases h0:E=0
    · subst h0
      have HX:=Lib.hid (put30_ok hk HFE.out rfl)
      go_wp2_with (first
        | refine wpList_build3 (u:=.string m.t) (u':=.string ⟨#[a,b,c]⟩) (u'':=.slice B fs.length d) rfl 24 0 1 2 _ _ _ rfl rfl rfl rfl (sen_build m.t ⟨#[a,b,c]⟩ B fs.length d _) ?_
        | (refine wpList_store_in rfl 24 _ _ rfl W1.heap.size 0 #[.string m.t,.string ⟨#[a,b,c]⟩,.slice B fs.length d] rfl rfl (HR7.out.there 0 3 (by decide)) sen_size (Ones.arr (L:=[.string m.t,.string ⟨#[a,b,c]⟩,.slice B fs.length d]) (Ones.of rfl)) ?_;intro W8 hW8;have HR8:=Lib.hid (HR7.out.all hW8 rfl);have HBE8:=Lib.hid (HBE7.out.trans (hW8.below (by have:=HS1.out;omega)));have HS8:=Lib.hid (hW8.strs HST.out (fun a ha=>by have h1:=HFR.out a ha;have h2:=HB46.out.size;have h3:=HR4lt.out;omega));have HZ8:=Lib.hid hW8.sz;clear hW8 HR7 HBE7))
      have HLD:=Lib.hid (run_loadVar_mid (P:=Tryz.prog) _ W1.heap.size 0 24 _ _ HR8.out.rg Tryz.underlying24 rfl sen_size)
      refine bodyPost_ret (v:=.tuple #[.agg #[.string m.t,.string ⟨#[a,b,c]⟩,.slice B fs.length d],.int .i64 0]) (by rw [results_cell_tmp rfl];simp [asAddr,Result.andThen,HLD.out]) rfl ?_
      rw [HX.out]
      exact⟨_,rfl,⟨B,d,by rw [HW.out],by rw [HZ8.out];exact HS8.out⟩,HBE8.out⟩
    · have HX:=Lib.hid (put30_bad hk HFE.out h0)
      have hne:(E != 0)=true:=by rw [bne_iff_ne];exact h0
      go_wp2_with (first
        | refine wpList_build0 rfl 24 rfl (sen_zero _) ?_
        | (refine wpList_store_in rfl 24 _ _ rfl W1.heap.size 0 #[.string ByteArray.empty,.string ByteArray.empty,.slice none 0 0] rfl rfl (HR7.out.there 0 3 (by decide)) sen_size (Ones.arr (L:=[.string ByteArray.empty,.string ByteArray.empty,.slice none 0 0]) (Ones.of rfl)) ?_;intro W8 hW8;have HR8:=Lib.hid (HR7.out.all hW8 rfl);have HBE8:=Lib.hid (HBE7.out.trans (hW8.below (by have:=HS1.out;omega)));clear hW8 HR7 HBE7))
      have HLD:=Lib.hid (run_loadVar_mid (P:=Tryz.prog) _ W1.heap.size 0 24 _ _ HR8.out.rg Tryz.underlying24 rfl sen_size)
      refine bodyPost_ret (v:=.tuple #[.agg #[.string ByteArray.empty,.string ByteArray.empty,.slice none 0 0],.int .i64 E]) (by rw [results_cell_tmp rfl];simp [asAddr,Result.andThen,HLD.out]) rfl ?_
      rw [HX.out]
      exact⟨_,rfl,SenV.zero _,HBE8.out⟩
  · have hw:=(only_no (t:=m.t) hk).2
    rw [hw]
    have HX:=Lib.hid (put30_no hk)
    clear hw HP4 HC
    go_wp2_with (first
      | (refine wpList_alloc_new rfl 46 rfl zNm (HZN _).out ?_;intro W5 hW5;have HA:=Lib.hid (Blk.newL (L:=nmL 0 ByteArray.empty zGga zRmc zGsa zVtg zGsv) hW5 rfl);have HR5:=Lib.hid (HR4.out.grew hW5);have HBE5:=Lib.hid (bthen HBE4.out hW5.bel);clear hW5 HG4 HR4)
      | (refine wpList_store_in rfl 46 _ _ rfl W4.heap.size 0 D rfl rfl (by have:=HA.out.thereA HLD.out;simpa using this) HSD.out HD.out.ones ?_;intro W6 hW6;have HR6:=Lib.hid (HR5.out.far hW6 (by have:=HR4lt.out;omega));have HBE6:=Lib.hid (HBE5.out.trans (hW6.below (by have:=HBE4.out.size;omega)));clear hW6 HR5 HBE5 HA)
      | refine wpList_build0 rfl 24 rfl (sen_zero _) ?_
      | (refine wpList_store_in rfl 24 _ _ rfl W1.heap.size 0 #[.string ByteArray.empty,.string ByteArray.empty,.slice none 0 0] rfl rfl (HR6.out.there 0 3 (by decide)) sen_size (Ones.arr (L:=[.string ByteArray.empty,.string ByteArray.empty,.slice none 0 0]) (Ones.of rfl)) ?_;intro W7 hW7;have HR7:=Lib.hid (HR6.out.all hW7 rfl);have HBE7:=Lib.hid (HBE6.out.trans (hW7.below (by have:=HS1.out;omega)));clear hW7 HR6 HBE6))
    have HLD:=Lib.hid (run_loadVar_mid (P:=Tryz.prog) _ W1.heap.size 0 24 _ _ HR7.out.rg Tryz.underlying24 rfl sen_size)
    refine bodyPost_ret (v:=.tuple #[.agg #[.string ByteArray.empty,.string ByteArray.empty,.slice none 0 0],.int .i64 6]) (by rw [results_cell_tmp rfl];simp [asAddr,Result.andThen,HLD.out]) rfl ?_
    rw [HX.out]
    exact⟨_,rfl,SenV.zero _,HBE7.out⟩
theorem nmPut_any {lo:Nat} {C:Array Value} {m:NmD} {w:World} (h:NmV lo w C m) (h1:m.s.ids.length≤1000000) (h2:m.u.L.length≤1000000):Calls Tryz.prog 17 #[.agg C] w (SenOut (put30 m) w):=
  nmPut_of h h1 h2 fun hk _ _ hp=>fields30_any hp hk h1 h2
theorem nmPut_vtg {lo:Nat} {C:Array Value} {m:NmD} {w:World} (h:NmV lo w C m) (hk:m.k=4) (h1:m.s.ids.length≤1000000) (h2:m.u.L.length≤1000000):Calls Tryz.prog 17 #[.agg C] w (SenOut (put30 m) w):=
  nmPut_of h h1 h2 fun _ w' v hp=>by
    rcases hp with ⟨k,rfl⟩ | ⟨k,rfl⟩ | ⟨k,x,rfl,A,c,rfl,hs⟩ | ⟨k,rfl⟩ | ⟨k,x,rfl,A,c,rfl,hs⟩ | ⟨k,rfl⟩
    · omega
    · omega
    · omega
    · unfold putF30
      rw [if_neg (by omega),if_neg (by omega),if_neg (by omega),if_pos k]
      exact⟨_,_,_,rfl,fun W=>mth_Vtg _ W,fun W=>cal_Vtg _ W,fun W hW=>nmfields_4 (G:=viewC m.v) rfl fun W2 _=>vtgPut_any _ _ _ _ _ _ _ _ W2⟩
    · omega
    · omega
end Go.Proofs.YtoabkoniegmkaaaGreat
