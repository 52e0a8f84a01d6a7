/- Layer 25: Take. Printed by genggat.py. -/
import Derived.Test.YtoabkoniegmkaaaGreatJ21
import Derived.Deep.MidRow
namespace Go.Proofs.YtoabkoniegmkaaaGreat
set_option linter.unusedVariables false
open Go.RowKit
abbrev ggaTV (g:GgaT):Value:=ggaV g.1.1 g.1.2.1 g.1.2.2.1 g.1.2.2.2.1 g.1.2.2.2.2 g.2.1.1 g.2.1.2 g.2.2.1.1 g.2.2.1.2 g.2.2.2.1 g.2.2.2.2.1.1 g.2.2.2.2.1.2 g.2.2.2.2.2.1.1 g.2.2.2.2.2.1.2 g.2.2.2.2.2.2.1.1 g.2.2.2.2.2.2.1.2 g.2.2.2.2.2.2.2.1.1 g.2.2.2.2.2.2.2.1.2 g.2.2.2.2.2.2.2.2.1.1 g.2.2.2.2.2.2.2.2.1.2 g.2.2.2.2.2.2.2.2.2.1 g.2.2.2.2.2.2.2.2.2.2
def GgaPost (x:GgaT×Int) (w:World) (r:Ending) (w':World):Prop:=r=.returned (.tuple #[ggaTV x.1,.int .i64 x.2])∧Below w.heap.size w w'
theorem gga_size:(Tryz.prog.info? 32).map (·.size)=some 22:=by kernel_rfl
theorem range_of {w:World} {R:Nat} {C:Array Value} (h:AtC w R C):w.rangeAt R 0 C.toList:=fun j v hv=>by rw [Nat.zero_add,h j];simpa using hv
theorem there_of {w:World} {R:Nat} {C:Array Value} (h:AtC w R C) (hf:∀ j,w.frozen? ⟨R,j,none⟩=false) {n:Nat} (hn:n=C.size):w.there R 0 n:=fun j hj=>by
  rw [Nat.zero_add,h j,hf j]
  exact⟨by simp;omega,rfl⟩
theorem below_cells {B R:Nat} {a:World} (hR:B≤R):∀ (vs:List Value) (o:Nat) (w:World),Below B a w→Below B a (w.setCells R o vs)
  | [],_,_,h=>h
  | v :: r,o,w,h=>by
    rw [World.setCells]
    exact below_cells hR r (o+1) _ (below_set h hR)
theorem gga_load {w:World} {b:Nat} {C:Array Value} (hC:C.size=22) (h:w.rangeAt b 0 C.toList):(loadVar 32 ⟨b,0,none⟩).run Tryz.prog w=.ok (.agg C) w:=by
  have:=run_loadVar_mid (P:=Tryz.prog) w b 0 32 C.toList _ h Tryz.underlying32 rfl (by rw [gga_size];simp [hC])
  simpa using this
theorem tke_put {g M:Nat} {s:Rd} {C:Array Value} {W w:World} (h:TkI (EyeI g s) g M C W w) (o:Nat) (u:Value) (ho:o < C.size):TkI (EyeI g s) g M (C.setIfInBounds o u) W (w.setCell ⟨M,o,none⟩ u):=h.put ho (h.x.far h.gm)
theorem tke_eq {g M:Nat} {s:Rd} {C:Array Value} {W w:World} (h:TkI (EyeI g s) g M C W w) (C':Array Value) (e:C=C'):Hid (TkI (EyeI g s) g M C' W w):=by subst e;exact h
theorem gga_taken {R:List ByteArray} {cb:Bool} {ch:Int} {cm:Int} {cs:Int} {cc:Int} {lb:Bool} {ln:Int} {ob:Bool} {on:Int} {q:Int} {sb:Bool} {sn:Int} {hb:Bool} {hn:Int} {ab:Bool} {an:Int} {gb:Bool} {gn:Int} {eb:Bool} {en:Int} {tb:Bool} {tn:Int} {r1 r2 r3 r4 r5 r6 r7 r8 r9 r10 r11 r12:Rd} (hl:R.length=14) (h1:Hid (rdClk (0,R)=((cb,ch,cm,cs,cc),r1))) (h2:Hid (rdAng true r1=((lb,ln),r2))) (h3:Hid (rdAng false r2=((ob,on),r3))) (h4:Hid (rdDig 0 8 r3=(q,r4))) (h5:Hid (rdNum 1 2 0 0 99 r4=((sb,sn),r5))) (h6:Hid (rdNum 1 3 2 0 99999 r5=((hb,hn),r6))) (h7:Hid (rdNum 1 6 1 (-9999999) 9999999 r6=((ab,an),r7))) (h8:Hid (rdUnit ⟨#[77]⟩ ab r7=r8)) (h9:Hid (rdNum 1 4 1 (-99999) 99999 r8=((gb,gn),r9))) (h10:Hid (rdUnit ⟨#[77]⟩ gb r9=r10)) (h11:Hid (rdNum 1 4 1 0 99999 r10=((eb,en),r11))) (h12:Hid (rdNum 1 4 0 0 1023 r11=((tb,tn),r12))) :
    takeGga R=if r12.1=0 then (((cb,ch,cm,cs,cc),(lb,ln),(ob,on),q,(sb,sn),(hb,hn),(ab,an),(gb,gn),(eb,en),(tb,tn)),0) else (zeroF,r12.1):=by
  have c7:rdCol altK r6=((ab,an),r8):=by unfold rdCol altK;simp only;rw [h7.out];simp only;rw [h8.out]
  have c9:rdCol geoK r8=((gb,gn),r10):=by unfold rdCol geoK;simp only;rw [h9.out];simp only;rw [h10.out]
  have hR:ggaR (0,R)=(((cb,ch,cm,cs,cc),(lb,ln),(ob,on),q,(sb,sn),(hb,hn),(ab,an),(gb,gn),(eb,en),(tb,tn)),r12):=by
    unfold ggaR
    simp only [seqR,h1.out,h2.out,h3.out,h4.out,h5.out,h6.out,c7,c9,h11.out,h12.out]
  unfold takeGga
  rw [if_neg (fun q=>q hl),hR]
set_option maxRecDepth 8000 in
set_option maxHeartbeats 16000000 in
theorem ggaTake_ok (A:Option Addr) (n c:Nat) (R:List ByteArray) (w:World) (hl:R.length=n) (hA:A=none→c=0) (hs:Strs w w.heap.size A R) (hz:∀ t∈R,t.size≤1000000) (hkn:Hid (n=14)) :
    Calls Tryz.prog 43 #[.slice A n c] w (GgaPost (takeGga R) w):=by
  obtain⟨cb,ch,cm,cs,cc,r1,h1⟩:∃ cb ch cm cs cc u,Hid (rdClk (0,R)=((cb,ch,cm,cs,cc),u)):=⟨_,_,_,_,_,_,rfl⟩
  obtain⟨lb,ln,r2,h2⟩:∃ lb ln u,Hid (rdAng true r1=((lb,ln),u)):=⟨_,_,_,rfl⟩
  obtain⟨ob,on,r3,h3⟩:∃ ob on u,Hid (rdAng false r2=((ob,on),u)):=⟨_,_,_,rfl⟩
  obtain⟨q,r4,h4⟩:∃ q u,Hid (rdDig 0 8 r3=(q,u)):=⟨_,_,rfl⟩
  obtain⟨sb,sn,r5,h5⟩:∃ sb sn u,Hid (rdNum 1 2 0 0 99 r4=((sb,sn),u)):=⟨_,_,_,rfl⟩
  obtain⟨hb,hn,r6,h6⟩:∃ hb hn u,Hid (rdNum 1 3 2 0 99999 r5=((hb,hn),u)):=⟨_,_,_,rfl⟩
  obtain⟨ab,an,r7,h7⟩:∃ ab an u,Hid (rdNum 1 6 1 (-9999999) 9999999 r6=((ab,an),u)):=⟨_,_,_,rfl⟩
  obtain⟨r8,h8⟩:∃ u,Hid (rdUnit ⟨#[77]⟩ ab r7=u):=⟨_,rfl⟩
  obtain⟨gb,gn,r9,h9⟩:∃ gb gn u,Hid (rdNum 1 4 1 (-99999) 99999 r8=((gb,gn),u)):=⟨_,_,_,rfl⟩
  obtain⟨r10,h10⟩:∃ u,Hid (rdUnit ⟨#[77]⟩ gb r9=u):=⟨_,rfl⟩
  obtain⟨eb,en,r11,h11⟩:∃ eb en u,Hid (rdNum 1 4 1 0 99999 r10=((eb,en),u)):=⟨_,_,_,rfl⟩
  obtain⟨tb,tn,r12,h12⟩:∃ tb tn u,Hid (rdNum 1 4 0 0 1023 r11=((tb,tn),u)):=⟨_,_,_,rfl⟩
  obtain⟨X,hX⟩:∃ X,takeGga R=X:=⟨_,rfl⟩
  have HT:Hid (X=if r12.1=0 then (((cb,ch,cm,cs,cc),(lb,ln),(ob,on),q,(sb,sn),(hb,hn),(ab,an),(gb,gn),(eb,en),(tb,tn)),0) else (zeroF,r12.1)):=hX.symm.trans (gga_taken (by rw [hl];exact hkn.out) h1 h2 h3 h4 h5 h6 h7 h8 h9 h10 h11 h12)
  rw [hX]
  clear hX
  have HB0:=Lib.hid (below_new w (.cells (ggaC false 0 0 0 0 false 0 false 0 0 false 0 false 0 false 0 false 0 false 0 false 0) 32))
  have HL:=Lib.hid (eyeLook (c:=c) hA ((hs.below HB0.out (Nat.le_refl _)).more HB0.out.size) (by have:=hkn.out;omega) hz)
  rw [hl] at HL
  have hR0:∀ o,(w.alloc (.cells (ggaC false 0 0 0 0 false 0 false 0 0 false 0 false 0 false 0 false 0 false 0 false 0) 32)).cell? ⟨w.heap.size,o,none⟩=(ggaC false 0 0 0 0 false 0 false 0 0 false 0 false 0 false 0 false 0 false 0 false 0)[o]?:=fun o=>World.cell?_alloc_at _ _ _ _ rfl
  have hR1:∀ o,(w.alloc (.cells (ggaC false 0 0 0 0 false 0 false 0 0 false 0 false 0 false 0 false 0 false 0 false 0) 32)).frozen? ⟨w.heap.size,o,none⟩=false:=fun o=>by rw [frozen?_alloc_cells];exact frozen_past _ _ _ (Nat.le_refl _)
  have HR0:=Lib.hid hR0
  have HR1:=Lib.hid hR1
  have HZ0:Hid ((w.alloc (.cells (ggaC false 0 0 0 0 false 0 false 0 0 false 0 false 0 false 0 false 0 false 0 false 0) 32)).heap.size=w.heap.size+1):=by show _=_;simp
  have i14:((n:Int) != 14)=false:=by have:=hkn.out;rw [bne_eq_false_iff_eq];omega
  clear hs hA hz hR0 hR1 hl
  go_enter Tryz.func43,Tryz.ntmps43
  try dsimp only
  repeat (fail_if_success (show Code.wp _ (Code.seq (Code.region 1 _ _) _) _ _ _)
          first | go_values | go_skip | go_guarded | go_step | go_upon | go_back | (simp only [Int.not_lt,Int.not_le] at *;go_simp) | (go_ite <;> go_prune <;> (try go_simp)))
  go_cut [] (fun wx=>wx=w.alloc (.cells (ggaC false 0 0 0 0 false 0 false 0 0 false 0 false 0 false 0 false 0 false 0 false 0) 32))
  case first=>
    go_wp2_with fail
    go_meet
    rfl
  case rest=>
  subst hcut
  generalize hW0:w.alloc (.cells (ggaC false 0 0 0 0 false 0 false 0 0 false 0 false 0 false 0 false 0 false 0 false 0) 32)=W0 at *
  clear hW0
  go_wp2_with fail
  refine HL.out.mono ?_
  rintro r w1 ⟨g,rfl,hx1,hg1,hz1,hb1⟩
  have HX1:=Lib.hid hx1
  have HB1:=Lib.hid hb1
  have HG1:=Lib.hid hg1
  clear hx1 hb1 hg1 hz1 HL
  have p1:=box_eye w1 g
  try dsimp only
  repeat (fail_if_success (show Code.wp _ (Code.seq (Code.region 5 _ _) _) _ _ _)
          first | go_values | go_skip | go_guarded | go_step | go_upon | go_back | (simp only [Int.not_lt,Int.not_le] at *;go_simp) | (go_ite <;> go_prune <;> (try go_simp)))
  generalize hWP:w1.alloc (eyeO g)=WP at *
  go_quiet (fail)
  try dsimp only
  repeat (fail_if_success (show Code.wp _ (Code.seq (Code.region 5 _ _) _) _ _ _)
          first | go_values | go_skip | go_guarded | go_step | go_upon | go_back | (simp only [Int.not_lt,Int.not_le] at *;go_simp) | (go_ite <;> go_prune <;> (try go_simp)))
  have hz0:=HZ0.out
  have hg1:=HG1.out
  have hb1s:=HB1.out.size
  have hgl:=HX1.out.lt
  have hbP:=below_new w1 (eyeO g)
  have hzP:(w1.alloc (eyeO g)).heap.size=w1.heap.size+1:=by simp
  rw [hWP] at hbP hzP
  have hbQ:Below w1.heap.size w1 (WP.drewN nq):=bdrewN hbP nq
  have hzQ:(WP.drewN nq).heap.size=w1.heap.size+1:=hzP
  have pQ:(WP.drewN nq).cell? ⟨w1.heap.size,0,none⟩=some (.pointer (some ⟨g,0,none⟩)):=p1
  generalize WP.drewN nq=WQ at *
  have hbM:=below_new WQ (.cells (ggaC false 0 0 0 0 false 0 false 0 0 false 0 false 0 false 0 false 0 false 0 false 0) 32)
  have T0:Hid (TkI (EyeI g (0,R)) g WQ.heap.size (ggaC false 0 0 0 0 false 0 false 0 0 false 0 false 0 false 0 false 0 false 0 false 0) (WQ.alloc (.cells (ggaC false 0 0 0 0 false 0 false 0 0 false 0 false 0 false 0 false 0 false 0 false 0) 32)) (WQ.alloc (.cells (ggaC false 0 0 0 0 false 0 false 0 0 false 0 false 0 false 0 false 0 false 0 false 0) 32))):=
    ⟨(HX1.out.keep hbQ).keep hbM,fun j=>World.cell?_alloc_at _ _ _ _ rfl,fun j=>by rw [frozen?_alloc_cells];exact frozen_past _ _ _ (Nat.le_refl _),by omega,by simp,rfl,rfl,rfl,Nat.le_refl _,fun _ _ _ _=>rfl⟩
  have HPP:Hid ((WQ.alloc (.cells (ggaC false 0 0 0 0 false 0 false 0 0 false 0 false 0 false 0 false 0 false 0 false 0) 32)).cell? ⟨w1.heap.size,0,none⟩=some (.pointer (some ⟨g,0,none⟩))):=(World.cell?_alloc_past _ _ _ (by show _ < _;omega)).trans pQ
  have hbB:Below W0.heap.size W0 (WQ.alloc (.cells (ggaC false 0 0 0 0 false 0 false 0 0 false 0 false 0 false 0 false 0 false 0 false 0) 32)):=bthen HB1.out (bthen hbQ hbM)
  have HRW:Hid ((∀ o,(WQ.alloc (.cells (ggaC false 0 0 0 0 false 0 false 0 0 false 0 false 0 false 0 false 0 false 0 false 0) 32)).cell? ⟨w.heap.size,o,none⟩=(ggaC false 0 0 0 0 false 0 false 0 0 false 0 false 0 false 0 false 0 false 0 false 0)[o]?)∧(∀ o,(WQ.alloc (.cells (ggaC false 0 0 0 0 false 0 false 0 0 false 0 false 0 false 0 false 0 false 0 false 0) 32)).frozen? ⟨w.heap.size,o,none⟩=false)∧Below w.heap.size w (WQ.alloc (.cells (ggaC false 0 0 0 0 false 0 false 0 0 false 0 false 0 false 0 false 0 false 0 false 0) 32))):=
    ⟨fun o=>((bcell hbB).1 _ o (by omega)).trans (HR0.out o),fun o=>((bcell hbB).2 _ o (by omega)).trans (HR1.out o),Below.trans HB0.out (hbB.mono (by omega))⟩
  have HLT:Hid (w.heap.size < g∧g < w1.heap.size∧w1.heap.size < WQ.heap.size∧WQ.heap.size < (WQ.alloc (.cells (ggaC false 0 0 0 0 false 0 false 0 0 false 0 false 0 false 0 false 0 false 0 false 0) 32)).heap.size):=⟨by omega,by omega,by omega,by simp⟩
  clear hz0 hg1 hb1s hgl hbP hzP hbQ hzQ hbM hbB pQ p1 HX1 HB1 HG1 HR0 HR1 HZ0 HB0 hWP
  go_upto_region 6 with fail
  generalize hW:WQ.alloc (.cells (ggaC false 0 0 0 0 false 0 false 0 0 false 0 false 0 false 0 false 0 false 0 false 0) 32)=W at *
  clear hW
  generalize WQ.heap.size=M at *
  generalize w1.heap.size=P at *
  have HP:Hid (∀ (X:World→Prop) C' wr,TkI X g M C' W wr→wr.cell? ⟨P,0,none⟩=some (.pointer (some ⟨g,0,none⟩))):=fun X C' wr hk=>(hk.cell (by have:=HLT.out;omega) (by have:=HLT.out;omega) (by have:=HLT.out;omega)).trans HPP.out
  have HT1:=T0
  clear T0 HPP
  have p_:=HP.out _ _ _ HT1.out
  go_wp2_with fail
  refine (ggatime_any h1 HT1.out.x).mono ?_
  rintro r x1 ⟨rfl,hx,hf⟩
  have HT2:=Lib.hid (HT1.out.frm hx hf)
  clear hx hf HT1
  clear p_
  have m0:=HT2.out.c 0
  have z0:=HT2.out.z 0
  have m1:=HT2.out.c 1
  have z1:=HT2.out.z 1
  have m2:=HT2.out.c 2
  have z2:=HT2.out.z 2
  have m3:=HT2.out.c 3
  have z3:=HT2.out.z 3
  have m4:=HT2.out.c 4
  have z4:=HT2.out.z 4
  go_upto_region 7 with fail
  have HT1:=tke_eq (tke_put (tke_put (tke_put (tke_put (tke_put HT2.out 0 (.bool cb) (by simp)) 1 (.int .i64 ch) (by simp)) 2 (.int .i64 cm) (by simp)) 3 (.int .i64 cs) (by simp)) 4 (.int .i64 cc) (by simp)) (ggaC cb ch cm cs cc false 0 false 0 0 false 0 false 0 false 0 false 0 false 0 false 0) rfl
  clear HT2 m0 z0 m1 z1 m2 z2 m3 z3 m4 z4
  generalize (((((x1.setCell ⟨M,0,none⟩ (.bool cb)).setCell ⟨M,1,none⟩ (.int .i64 ch)).setCell ⟨M,2,none⟩ (.int .i64 cm)).setCell ⟨M,3,none⟩ (.int .i64 cs)).setCell ⟨M,4,none⟩ (.int .i64 cc))=y1 at *
  go_wp2_with fail
  refine (eyeAng h2 HT1.out.x).mono ?_
  rintro r x2 ⟨rfl,hx,hf⟩
  have HT2:=Lib.hid (HT1.out.frm hx hf)
  clear hx hf HT1
  have m0:=HT2.out.c 5
  have z0:=HT2.out.z 5
  have m1:=HT2.out.c 6
  have z1:=HT2.out.z 6
  go_upto_region 8 with fail
  have HT1:=tke_eq (tke_put (tke_put HT2.out 5 (.bool lb) (by simp)) 6 (.int .i64 ln) (by simp)) (ggaC cb ch cm cs cc lb ln false 0 0 false 0 false 0 false 0 false 0 false 0 false 0) rfl
  clear HT2 m0 z0 m1 z1
  generalize ((x2.setCell ⟨M,5,none⟩ (.bool lb)).setCell ⟨M,6,none⟩ (.int .i64 ln))=y2 at *
  go_wp2_with fail
  refine (eyeAng h3 HT1.out.x).mono ?_
  rintro r x3 ⟨rfl,hx,hf⟩
  have HT2:=Lib.hid (HT1.out.frm hx hf)
  clear hx hf HT1
  have m0:=HT2.out.c 7
  have z0:=HT2.out.z 7
  have m1:=HT2.out.c 8
  have z1:=HT2.out.z 8
  go_upto_region 9 with fail
  have HT1:=tke_eq (tke_put (tke_put HT2.out 7 (.bool ob) (by simp)) 8 (.int .i64 on) (by simp)) (ggaC cb ch cm cs cc lb ln ob on 0 false 0 false 0 false 0 false 0 false 0 false 0) rfl
  clear HT2 m0 z0 m1 z1
  generalize ((x3.setCell ⟨M,7,none⟩ (.bool ob)).setCell ⟨M,8,none⟩ (.int .i64 on))=y3 at *
  have p_:=HP.out _ _ _ HT1.out
  go_wp2_with fail
  refine (ggadigit_any h4 HT1.out.x).mono ?_
  rintro r x4 ⟨rfl,hx,hf⟩
  have HT2:=Lib.hid (HT1.out.frm hx hf)
  clear hx hf HT1
  clear p_
  have m0:=HT2.out.c 9
  have z0:=HT2.out.z 9
  go_upto_region 10 with fail
  have HT1:=tke_eq (tke_put HT2.out 9 (.int .i64 q) (by simp)) (ggaC cb ch cm cs cc lb ln ob on q false 0 false 0 false 0 false 0 false 0 false 0) rfl
  clear HT2 m0 z0
  generalize (x4.setCell ⟨M,9,none⟩ (.int .i64 q))=y4 at *
  go_wp2_with fail
  refine (ggasats_any _).mono ?_
  rintro r x_ ⟨rfl,hb⟩
  have HT2:=Lib.hid (HT1.out.keep (Y:=EyeI g r4) (HT1.out.x.keep hb) hb)
  clear hb HT1
  have HT1:=HT2
  clear HT2
  go_wp2_with fail
  refine (eyeNum h5 HT1.out.x).mono ?_
  rintro r x5 ⟨rfl,hx,hf⟩
  have HT2:=Lib.hid (HT1.out.frm hx hf)
  clear hx hf HT1
  have m0:=HT2.out.c 10
  have z0:=HT2.out.z 10
  have m1:=HT2.out.c 11
  have z1:=HT2.out.z 11
  go_upto_region 11 with fail
  have HT1:=tke_eq (tke_put (tke_put HT2.out 10 (.bool sb) (by simp)) 11 (.int .i64 sn) (by simp)) (ggaC cb ch cm cs cc lb ln ob on q sb sn false 0 false 0 false 0 false 0 false 0) rfl
  clear HT2 m0 z0 m1 z1
  generalize ((x5.setCell ⟨M,10,none⟩ (.bool sb)).setCell ⟨M,11,none⟩ (.int .i64 sn))=y5 at *
  go_wp2_with fail
  refine (ggahdop_any _).mono ?_
  rintro r x_ ⟨rfl,hb⟩
  have HT2:=Lib.hid (HT1.out.keep (Y:=EyeI g r5) (HT1.out.x.keep hb) hb)
  clear hb HT1
  have HT1:=HT2
  clear HT2
  go_wp2_with fail
  refine (eyeNum h6 HT1.out.x).mono ?_
  rintro r x6 ⟨rfl,hx,hf⟩
  have HT2:=Lib.hid (HT1.out.frm hx hf)
  clear hx hf HT1
  have m0:=HT2.out.c 12
  have z0:=HT2.out.z 12
  have m1:=HT2.out.c 13
  have z1:=HT2.out.z 13
  go_upto_region 12 with fail
  have HT1:=tke_eq (tke_put (tke_put HT2.out 12 (.bool hb) (by simp)) 13 (.int .i64 hn) (by simp)) (ggaC cb ch cm cs cc lb ln ob on q sb sn hb hn false 0 false 0 false 0 false 0) rfl
  clear HT2 m0 z0 m1 z1
  generalize ((x6.setCell ⟨M,12,none⟩ (.bool hb)).setCell ⟨M,13,none⟩ (.int .i64 hn))=y6 at *
  go_wp2_with fail
  refine (ggaalt_any _).mono ?_
  rintro r x_ ⟨rfl,hb⟩
  have HT2:=Lib.hid (HT1.out.keep (Y:=EyeI g r6) (HT1.out.x.keep hb) hb)
  clear hb HT1
  have HT1:=HT2
  clear HT2
  go_wp2_with fail
  refine (eyeNum h7 HT1.out.x).mono ?_
  rintro r x7 ⟨rfl,hx,hf⟩
  have HT2:=Lib.hid (HT1.out.frm hx hf)
  clear hx hf HT1
  have m0:=HT2.out.c 14
  have z0:=HT2.out.z 14
  have m1:=HT2.out.c 15
  have z1:=HT2.out.z 15
  go_upto_region 13 with fail
  have HT1:=tke_eq (tke_put (tke_put HT2.out 14 (.bool ab) (by simp)) 15 (.int .i64 an) (by simp)) (ggaC cb ch cm cs cc lb ln ob on q sb sn hb hn ab an false 0 false 0 false 0) rfl
  clear HT2 m0 z0 m1 z1
  generalize ((x7.setCell ⟨M,14,none⟩ (.bool ab)).setCell ⟨M,15,none⟩ (.int .i64 an))=y7 at *
  have p_:=HP.out _ _ _ HT1.out
  have m_0:=HT1.out.c 14
  have m_1:=HT1.out.c 15
  go_wp2_with fail
  refine (ggaunit_any h8 HT1.out.x).mono ?_
  rintro r x8 ⟨rfl,hx,hf⟩
  have HT2:=Lib.hid (HT1.out.frm hx hf)
  clear hx hf HT1
  clear p_
  clear m_0 m_1
  have HT1:=HT2
  clear HT2
  go_upto_region 14 with fail
  go_wp2_with fail
  refine (ggageoid_any _).mono ?_
  rintro r x_ ⟨rfl,hb⟩
  have HT2:=Lib.hid (HT1.out.keep (Y:=EyeI g r8) (HT1.out.x.keep hb) hb)
  clear hb HT1
  have HT1:=HT2
  clear HT2
  go_wp2_with fail
  refine (eyeNum h9 HT1.out.x).mono ?_
  rintro r x9 ⟨rfl,hx,hf⟩
  have HT2:=Lib.hid (HT1.out.frm hx hf)
  clear hx hf HT1
  have m0:=HT2.out.c 16
  have z0:=HT2.out.z 16
  have m1:=HT2.out.c 17
  have z1:=HT2.out.z 17
  go_upto_region 15 with fail
  have HT1:=tke_eq (tke_put (tke_put HT2.out 16 (.bool gb) (by simp)) 17 (.int .i64 gn) (by simp)) (ggaC cb ch cm cs cc lb ln ob on q sb sn hb hn ab an gb gn false 0 false 0) rfl
  clear HT2 m0 z0 m1 z1
  generalize ((x9.setCell ⟨M,16,none⟩ (.bool gb)).setCell ⟨M,17,none⟩ (.int .i64 gn))=y9 at *
  have p_:=HP.out _ _ _ HT1.out
  have m_0:=HT1.out.c 16
  have m_1:=HT1.out.c 17
  go_wp2_with fail
  refine (ggaunit_any h10 HT1.out.x).mono ?_
  rintro r x10 ⟨rfl,hx,hf⟩
  have HT2:=Lib.hid (HT1.out.frm hx hf)
  clear hx hf HT1
  clear p_
  clear m_0 m_1
  have HT1:=HT2
  clear HT2
  go_upto_region 16 with fail
  go_wp2_with fail
  refine (ggaage_any _).mono ?_
  rintro r x_ ⟨rfl,hb⟩
  have HT2:=Lib.hid (HT1.out.keep (Y:=EyeI g r10) (HT1.out.x.keep hb) hb)
  clear hb HT1
  have HT1:=HT2
  clear HT2
  go_wp2_with fail
  refine (eyeNum h11 HT1.out.x).mono ?_
  rintro r x11 ⟨rfl,hx,hf⟩
  have HT2:=Lib.hid (HT1.out.frm hx hf)
  clear hx hf HT1
  have m0:=HT2.out.c 18
  have z0:=HT2.out.z 18
  have m1:=HT2.out.c 19
  have z1:=HT2.out.z 19
  go_upto_region 17 with fail
  have HT1:=tke_eq (tke_put (tke_put HT2.out 18 (.bool eb) (by simp)) 19 (.int .i64 en) (by simp)) (ggaC cb ch cm cs cc lb ln ob on q sb sn hb hn ab an gb gn eb en false 0) rfl
  clear HT2 m0 z0 m1 z1
  generalize ((x11.setCell ⟨M,18,none⟩ (.bool eb)).setCell ⟨M,19,none⟩ (.int .i64 en))=y11 at *
  go_wp2_with fail
  refine (ggaat_any _).mono ?_
  rintro r x_ ⟨rfl,hb⟩
  have HT2:=Lib.hid (HT1.out.keep (Y:=EyeI g r11) (HT1.out.x.keep hb) hb)
  clear hb HT1
  have HT1:=HT2
  clear HT2
  go_wp2_with fail
  refine (eyeNum h12 HT1.out.x).mono ?_
  rintro r x12 ⟨rfl,hx,hf⟩
  have HT2:=Lib.hid (HT1.out.frm hx hf)
  clear hx hf HT1
  have m0:=HT2.out.c 20
  have z0:=HT2.out.z 20
  have m1:=HT2.out.c 21
  have z1:=HT2.out.z 21
  go_upto_region 18 with fail
  have HT1:=tke_eq (tke_put (tke_put HT2.out 20 (.bool tb) (by simp)) 21 (.int .i64 tn) (by simp)) (ggaC cb ch cm cs cc lb ln ob on q sb sn hb hn ab an gb gn eb en tb tn) rfl
  clear HT2 m0 z0 m1 z1
  generalize ((x12.setCell ⟨M,20,none⟩ (.bool tb)).setCell ⟨M,21,none⟩ (.int .i64 tn))=y12 at *
  generalize y12=y9 at *
  obtain⟨E,hE⟩:∃ E,r12.1=E:=⟨_,rfl⟩
  have HER:=Lib.hid (eyeErr HT1.out.x)
  rw [hE] at HER HT
  clear hE
  have p_:=HP.out _ _ _ HT1.out
  have hr:∀ j,y9.cell? ⟨w.heap.size,j,none⟩=(ggaC false 0 0 0 0 false 0 false 0 0 false 0 false 0 false 0 false 0 false 0 false 0)[j]?:=fun j=>(HT1.out.cell (by have:=HLT.out;omega) (by have:=HLT.out;omega) (by have:=HLT.out;omega)).trans (HRW.out.1 j)
  have hf:∀ j,y9.frozen? ⟨w.heap.size,j,none⟩=false:=fun j=>(HT1.out.frozen (by have:=HLT.out;omega) (by have:=HLT.out;omega) (by have:=HLT.out;omega)).trans (HRW.out.2.1 j)
  have HB9:Hid (Below w.heap.size w y9):=Below.trans HRW.out.2.2 (HT1.out.below (by have:=HLT.out;omega) (by have:=HLT.out;omega))
  have hm:=HT1.out.c
  have HR:=Lib.hid (show AtC y9 w.heap.size (ggaC false 0 0 0 0 false 0 false 0 0 false 0 false 0 false 0 false 0 false 0 false 0) from hr)
  have HRF:=Lib.hid hf
  have HRM:=Lib.hid (range_of (show AtC y9 M (ggaC cb ch cm cs cc lb ln ob on q sb sn hb hn ab an gb gn eb en tb tn) from hm))
  clear HT1 HRW HP hr hf hm
  go_wp2_with fail
  refine HER.out.mono ?_
  rintro r w' ⟨rfl,rfl⟩
  clear p_
  by_cases hE:E=0
  · subst hE
    have HX2:Hid (X=(((cb,ch,cm,cs,cc),(lb,ln),(ob,on),q,(sb,sn),(hb,hn),(ab,an),(gb,gn),(eb,en),(tb,tn)),0)):=HT.out.trans (if_pos rfl)
    clear HT
    go_upto_region 21 with fail
    try (apply wp_seq_k;intro K_ HK_)
    apply wp_region_lit
    refine wpList_load_mid rfl _ _ rfl M 0 rfl (ggaC cb ch cm cs cc lb ln ob on q sb sn hb hn ab an gb gn eb en tb tn).toList _ HRM.out Tryz.underlying32 rfl gga_size ?_
    refine wpList_store_mid rfl _ _ _ rfl w.heap.size 0 (ggaC cb ch cm cs cc lb ln ob on q sb sn hb hn ab an gb gn eb en tb tn) rfl rfl (there_of HR.out HRF.out rfl) gga_size (by simp [Value.oneCell']) ?_
    have hY:=World.rangeAt_setCells_same y9 w.heap.size 0 (ggaC cb ch cm cs cc lb ln ob on q sb sn hb hn ab an gb gn eb en tb tn).toList (there_of HR.out HRF.out rfl)
    have HBK:=Lib.hid (below_cells (Nat.le_refl _) (ggaC cb ch cm cs cc lb ln ob on q sb sn hb hn ab an gb gn eb en tb tn).toList 0 y9 HB9.out)
    have hld:=gga_load (C:=ggaC cb ch cm cs cc lb ln ob on q sb sn hb hn ab an gb gn eb en tb tn) rfl hY
    clear hY HR HRF HB9
    generalize World.setCells y9 w.heap.size 0 (ggaC cb ch cm cs cc lb ln ob on q sb sn hb hn ab an gb gn eb en tb tn).toList=Y at *
    have HLD:=Lib.hid hld
    clear hld
    go_wp2_with fail
    refine bodyPost_ret (v:=.tuple #[ggaV cb ch cm cs cc lb ln ob on q sb sn hb hn ab an gb gn eb en tb tn,.int .i64 0]) (by rw [results_cell_tmp rfl];simp [asAddr,Result.andThen,HLD.out]) rfl ?_
    rw [HX2.out]
    exact⟨rfl,HBK.out⟩
  · have hne:(E != 0)=true:=by rw [bne_iff_ne];exact hE
    have HX2:Hid (X=(zeroF,E)):=HT.out.trans (if_neg hE)
    clear hE HT
    go_upto_region 20 with fail
    try (apply wp_seq_k;intro K_ HK_)
    apply wp_region_lit
    go_step
    go_step
    go_step
    go_step
    go_step
    go_step
    refine wpList_store_mid rfl _ _ _ rfl w.heap.size 0 (ggaC false 0 0 0 0 false 0 false 0 0 false 0 false 0 false 0 false 0 false 0 false 0) rfl rfl (there_of HR.out HRF.out rfl) gga_size (by simp [Value.oneCell']) ?_
    have hY:=World.rangeAt_setCells_same y9 w.heap.size 0 (ggaC false 0 0 0 0 false 0 false 0 0 false 0 false 0 false 0 false 0 false 0 false 0).toList (there_of HR.out HRF.out rfl)
    have HBK:=Lib.hid (below_cells (Nat.le_refl _) (ggaC false 0 0 0 0 false 0 false 0 0 false 0 false 0 false 0 false 0 false 0 false 0).toList 0 y9 HB9.out)
    have hld:=gga_load (C:=ggaC false 0 0 0 0 false 0 false 0 0 false 0 false 0 false 0 false 0 false 0 false 0) rfl hY
    clear hY HR HRF HB9
    generalize World.setCells y9 w.heap.size 0 (ggaC false 0 0 0 0 false 0 false 0 0 false 0 false 0 false 0 false 0 false 0 false 0).toList=Y at *
    have HLD:=Lib.hid hld
    clear hld
    go_wp2_with fail
    refine bodyPost_ret (v:=.tuple #[ggaV false 0 0 0 0 false 0 false 0 0 false 0 false 0 false 0 false 0 false 0 false 0,.int .i64 E]) (by rw [results_cell_tmp rfl];simp [asAddr,Result.andThen,HLD.out]) rfl ?_
    rw [HX2.out]
    exact⟨rfl,HBK.out⟩
set_option maxRecDepth 8000 in
set_option maxHeartbeats 4000000 in
theorem ggaTake_bad (A:Option Addr) (n c:Nat) (w:World) (h:((n:Int) != 14)=true):Calls Tryz.prog 43 #[.slice A n c] w (GgaPost (zeroF,3) w):=by
  have HB9:=Lib.hid (below_new w (.cells (ggaC false 0 0 0 0 false 0 false 0 0 false 0 false 0 false 0 false 0 false 0 false 0) 32))
  have HR:Hid (AtC (w.alloc (.cells (ggaC false 0 0 0 0 false 0 false 0 0 false 0 false 0 false 0 false 0 false 0 false 0) 32)) w.heap.size (ggaC false 0 0 0 0 false 0 false 0 0 false 0 false 0 false 0 false 0 false 0 false 0)):=fun o=>World.cell?_alloc_at _ _ _ _ rfl
  have HRF:Hid (∀ o,(w.alloc (.cells (ggaC false 0 0 0 0 false 0 false 0 0 false 0 false 0 false 0 false 0 false 0 false 0) 32)).frozen? ⟨w.heap.size,o,none⟩=false):=fun o=>by rw [frozen?_alloc_cells];exact frozen_past _ _ _ (Nat.le_refl _)
  go_enter Tryz.func43,Tryz.ntmps43
  try dsimp only
  repeat (fail_if_success (show Code.wp _ (Code.seq (Code.region 1 _ _) _) _ _ _)
          first | go_values | go_skip | go_guarded | go_step | go_upon | go_back | (simp only [Int.not_lt,Int.not_le] at *;go_simp) | (go_ite <;> go_prune <;> (try go_simp)))
  generalize hW0:w.alloc (.cells (ggaC false 0 0 0 0 false 0 false 0 0 false 0 false 0 false 0 false 0 false 0 false 0) 32)=W0 at *
  clear hW0
  go_upto_region 2 with fail
  try (apply wp_seq_k;intro K_ HK_)
  apply wp_region_lit
  go_step
  go_step
  go_step
  refine wpList_store_mid rfl _ _ _ rfl w.heap.size 0 (ggaC false 0 0 0 0 false 0 false 0 0 false 0 false 0 false 0 false 0 false 0 false 0) rfl rfl (there_of HR.out HRF.out rfl) gga_size (by simp [Value.oneCell']) ?_
  have hY:=World.rangeAt_setCells_same W0 w.heap.size 0 (ggaC false 0 0 0 0 false 0 false 0 0 false 0 false 0 false 0 false 0 false 0 false 0).toList (there_of HR.out HRF.out rfl)
  have HBK:=Lib.hid (below_cells (Nat.le_refl _) (ggaC false 0 0 0 0 false 0 false 0 0 false 0 false 0 false 0 false 0 false 0 false 0).toList 0 W0 HB9.out)
  have hld:=gga_load (C:=ggaC false 0 0 0 0 false 0 false 0 0 false 0 false 0 false 0 false 0 false 0 false 0) rfl hY
  clear hY HR HRF HB9
  generalize World.setCells W0 w.heap.size 0 (ggaC false 0 0 0 0 false 0 false 0 0 false 0 false 0 false 0 false 0 false 0 false 0).toList=Y at *
  have HLD:=Lib.hid hld
  clear hld
  go_wp2_with fail
  refine bodyPost_ret (v:=.tuple #[ggaV false 0 0 0 0 false 0 false 0 0 false 0 false 0 false 0 false 0 false 0 false 0,.int .i64 3]) (by rw [results_cell_tmp rfl];simp [asAddr,Result.andThen,HLD.out]) rfl ?_
  exact⟨rfl,HBK.out⟩
theorem ggaTake_any (A:Option Addr) (R:List ByteArray) (c:Nat) (w:World) (hA:A=none→c=0) (hs:Strs w w.heap.size A R) (hz:∀ t∈R,t.size≤1000000):Calls Tryz.prog 43 #[.slice A R.length c] w (GgaPost (takeGga R) w):=by
  by_cases h:R.length=14
  · exact ggaTake_ok A R.length c R w rfl hA hs hz h
  · rw [show takeGga R=(zeroF,3) from if_pos h]
    exact ggaTake_bad A R.length c w (by rw [bne_iff_ne];omega)
end Go.Proofs.YtoabkoniegmkaaaGreat
