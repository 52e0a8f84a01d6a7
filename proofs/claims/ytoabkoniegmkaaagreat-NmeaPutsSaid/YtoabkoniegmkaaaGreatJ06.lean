/- Layer 23: Num and Angle of an eye, of a row that is read. -/
import Derived.Test.YtoabkoniegmkaaaGreatJ04
import Derived.Test.YtoabkoniegmkaaaGreatJ05
import Derived.Deep.RegionWith
import Derived.Deep.DeepCutAuto
namespace Go.Proofs.YtoabkoniegmkaaaGreat
set_option linter.unusedVariables false
open Go.RowKit
variable {Q : Nat → Prop}
abbrev colO (W M F L H:Int):Obj:=.cells #[.int .i64 W,.int .i64 M,.int .i64 F,.int .i64 L,.int .i64 H] 118
abbrev numO (b:Bool) (n:Int):Obj:=.cells #[.bool b,.int .i64 n] 30
theorem Frm.step {g:Nat} {w w1 w2:World} (h:Frm g nilV w w1) (k:Frm g nilV w1 w2):Frm g nilV w w2:=h.trans k (.inl rfl)
theorem frm_cells {g:Nat} {w w':World} (h:Frm g nilV w w') {b:Nat} (hb:b < w.heap.size) (hg:b≠g):∀ o,w'.cell? ⟨b,o,none⟩=w.cell? ⟨b,o,none⟩:=fun o=>h.cell hb hg (by simp [Value.ownBlock])
theorem frm_frozen {g:Nat} {w w':World} (h:Frm g nilV w w') {b:Nat} (hb:b < w.heap.size) (hg:b≠g):∀ o,w'.frozen? ⟨b,o,none⟩=w.frozen? ⟨b,o,none⟩:=fun o=>World.frozen?_of_block (a:=⟨b,o,none⟩) (h.block b hb hg (by simp [Value.ownBlock]))
theorem EyeR.far {w:World} {g G o:Nat} {e:Int} {R:List ByteArray} {u:Value} (h:EyeR Q w g e R) (hG:¬ Q G) (hg:G≠g):EyeR Q (w.setCell ⟨G,o,none⟩ u) g e R:=by
  obtain⟨A,c,h0,h1,h2,h3,h4,h5,hB,h6,h7,h8⟩:=h
  have k:∀ j,(w.setCell ⟨G,o,none⟩ u).cell? ⟨g,j,none⟩=w.cell? ⟨g,j,none⟩:=fun j=>World.cell?_setCell_other _ _ _ _ (fun q=>by injection q with q;exact hg q)
  refine⟨A,c,(k 0).trans h0,(k 1).trans h1,(k 2).trans h2,fun o=>by simpa using h3 o,by simpa using h4,fun j hj=>?_,by simpa using hB,h6,h7,h8⟩
  obtain⟨b,off,e1,e2,e3⟩:=h5 j hj
  exact⟨b,off,e1,e2,(World.cell?_setCell_other _ _ _ _ (fun q=>hG (by injection q with q;rw [q];exact e2))).trans e3⟩
theorem Frm.put {g G o:Nat} {w w1:World} {u:Value} (h:Frm g nilV w w1) (hG:w.heap.size≤G):Frm g nilV w (w1.setCell ⟨G,o,none⟩ u):=
  ⟨h.os,h.tape,h.output,by simpa using h.size,fun k hk h1 h2=>(Below.heap_setCell _ _ _ _ (by show k≠G;omega)).trans (h.block k hk h1 h2)⟩
def TextE (w:World) (w':World):Prop:=w'.cell? ⟨w.heap.size+1+1,0,none⟩=some (.bool false)∧w'.cell? ⟨w.heap.size+1+1,1,none⟩=some (.int .i64 0)∧w'.frozen? ⟨w.heap.size+1+1,0,none⟩=false∧w'.frozen? ⟨w.heap.size+1+1,1,none⟩=false∧w.heap.size+1+1 < w'.heap.size
def TextLEye (Q:Nat→Prop) (w:World) (g:Nat) (e1:Int) (R1:List ByteArray) (W M F L H:Int) (w':World):Prop:=
  Hid (EyeR Q w' g e1 R1)∧Hid (Frm g nilV w w')∧w'.cell? ⟨w.heap.size,0,none⟩=some (.int .i64 W)∧w'.cell? ⟨w.heap.size,1,none⟩=some (.int .i64 M)∧w'.cell? ⟨w.heap.size,2,none⟩=some (.int .i64 F)∧w'.cell? ⟨w.heap.size,3,none⟩=some (.int .i64 L)∧w'.cell? ⟨w.heap.size,4,none⟩=some (.int .i64 H)∧Hid (∀ o,w'.cell? ⟨w.heap.size+1,o,none⟩=(#[Value.bool false,.int .i64 0]:Array Value)[o]?)∧Hid (∀ o,w'.frozen? ⟨w.heap.size+1,o,none⟩=false)∧w.heap.size+1 < w'.heap.size∧w.heap.size < w'.heap.size
def NumAtEye (Q:Nat→Prop) (w:World) (g:Nat) (e1:Int) (R1:List ByteArray) (b:Bool) (n E:Int) (s5 s6:Value) (wx:World):Prop:=
  ∃ G,s5=.pointer (some ⟨G,0,none⟩)∧s6=.int .i64 E∧wx.cell? ⟨G,0,none⟩=some (.bool b)∧wx.cell? ⟨G,1,none⟩=some (.int .i64 n)∧(∀ o,wx.cell? ⟨w.heap.size+1,o,none⟩=(#[Value.bool false,.int .i64 0]:Array Value)[o]?)∧Hid (Frm g nilV w wx)∧G < wx.heap.size∧w.heap.size+1 < G∧(∀ o,wx.frozen? ⟨w.heap.size+1,o,none⟩=false)∧Hid (EyeR Q wx g e1 R1)
theorem numAtEye_late {w W0 w1:World} {g:Nat} {e1:Int} {R1:List ByteArray} {b:Bool} {n E:Int} (hb:Below W0.heap.size W0 w1) (h0:∀ o,W0.cell? ⟨w.heap.size+1,o,none⟩=(#[Value.bool false,.int .i64 0]:Array Value)[o]?) (hz:w.heap.size+1 < W0.heap.size) (hfz:∀ o,W0.frozen? ⟨w.heap.size+1,o,none⟩=false) (hf:Frm g nilV w W0) (hr:EyeR Q W0 g e1 R1) :
    NumAtEye Q w g e1 R1 b n E (.pointer (some ⟨w1.heap.size,0,none⟩)) (.int .i64 E) (w1.alloc (numO b n)):=by
  have hz1:=hb.size
  exact⟨w1.heap.size,rfl,rfl,by simp [World.cell?_alloc_at],by simp [World.cell?_alloc_at],fun o=>(World.cell?_alloc_past _ _ _ (by omega)).trans (((bcell hb).1 _ o hz).trans (h0 o)),Lib.hid ((hf.then_below hb).then_below (below_new _ _)),by simp,by omega,fun o=>by rw [frozen?_alloc_cells,(bcell hb).2 _ o hz,hfz],Lib.hid ((hr.keep hb).keep (below_new _ _))⟩
theorem numAtEye_early {w W0 w1:World} {g:Nat} {e1:Int} {R1:List ByteArray} {b:Bool} {n E:Int} {G:Nat} (hb:Below W0.heap.size W0 w1) (hBw:∀ b,Q b→b < w.heap.size) (hg:g < w.heap.size) (g0:W0.cell? ⟨G,0,none⟩=some (.bool false)) (g1:W0.cell? ⟨G,1,none⟩=some (.int .i64 0)) (hG:w.heap.size+1 < G) (hG2:G < W0.heap.size) (h0:∀ o,W0.cell? ⟨w.heap.size+1,o,none⟩=(#[Value.bool false,.int .i64 0]:Array Value)[o]?) (hfz:∀ o,W0.frozen? ⟨w.heap.size+1,o,none⟩=false) (hf:Frm g nilV w W0) (hr:EyeR Q W0 g e1 R1) :
    NumAtEye Q w g e1 R1 b n E (.pointer (some ⟨G,0,none⟩)) (.int .i64 E) ((w1.setCell ⟨G,0,none⟩ (.bool b)).setCell ⟨G,1,none⟩ (.int .i64 n)):=by
  have hz1:=hb.size
  obtain⟨p0,p1⟩:=two_cells w1 G (.bool b) (.int .i64 n) _ _ (((bcell hb).1 G 0 hG2).trans g0) (((bcell hb).1 G 1 hG2).trans g1)
  have hne:∀ o j,(⟨G,j,none⟩:Addr)≠⟨w.heap.size+1,o,none⟩:=fun o j e=>by injection e with e;omega
  have k:∀ o,((w1.setCell ⟨G,0,none⟩ (.bool b)).setCell ⟨G,1,none⟩ (.int .i64 n)).cell? ⟨w.heap.size+1,o,none⟩=w1.cell? ⟨w.heap.size+1,o,none⟩:=fun o=>by
    rw [World.cell?_setCell_other _ _ _ _ (hne o 1),World.cell?_setCell_other _ _ _ _ (hne o 0)]
  refine⟨G,rfl,rfl,p0,p1,fun o=>(k o).trans (((bcell hb).1 _ o (by omega)).trans (h0 o)),Lib.hid (((hf.then_below hb).put (by omega)).put (by omega)),by simp;omega,hG,fun o=>?_,Lib.hid (((hr.keep hb).far (fun q=>by have:=hBw _ q;omega) (by omega)).far (fun q=>by have:=hBw _ q;omega) (by omega))⟩
  simp only [World.frozen?_setCell]
  rw [(bcell hb).2 _ o (by omega),hfz]
set_option maxRecDepth 8000 in
set_option maxHeartbeats 8000000 in
theorem EyeNum_any (g:Nat) (e:Int) (R:List ByteArray) (W M F L H:Int) (w:World) (h:EyeR Q w g e R) (hBw:∀ b,Q b→b < w.heap.size) (hgw:g < w.heap.size) (hsz:(R.headD ByteArray.empty).size≤1000000) :
    Calls Tryz.prog 96 #[.pointer (some ⟨g,0,none⟩),colV W M F L H] w (EyePost Q g (numV (takeN (R.headD ByteArray.empty).data.toList W M F L H).1 (takeN (R.headD ByteArray.empty).data.toList W M F L H).2.1) (firstE (textE e R) (takeN (R.headD ByteArray.empty).data.toList W M F L H).2.2) R.tail w):=by
  have HT:=fun W' hb=>Lib.hid (EyeText_any g e R W' (h.keep (w':=W') hb))
  have HA:=fun W'=>Lib.hid (Take23_any (R.headD ByteArray.empty) W M F L H W' hsz)
  generalize R.headD ByteArray.empty=s at *
  generalize (takeN s.data.toList W M F L H).1=X1 at *
  generalize (takeN s.data.toList W M F L H).2.1=X2 at *
  generalize (takeN s.data.toList W M F L H).2.2=E at *
  generalize textE e R=e1 at *
  generalize R.tail=R1 at *
  have HFL:=fun W' hr=>Lib.hid (EyeFail_any (Q:=Q) g e1 E R1 W' hr)
  clear h hsz
  have HS:Hid (∀ o,((w.alloc (colO W M F L H)).alloc (numO false 0)).cell? ⟨w.heap.size+1,o,none⟩=(#[Value.bool false,.int .i64 0]:Array Value)[o]?):=fun o=>by rw [World.cell?_alloc_at _ _ _ _ (by simp)]
  have HZ:Hid (∀ o,((w.alloc (colO W M F L H)).alloc (numO false 0)).frozen? ⟨w.heap.size+1,o,none⟩=false):=fun o=>by rw [frozen?_alloc_cells,frozen?_alloc_cells];exact frozen_past _ _ _ (by omega)
  have HBl:Hid (Below w.heap.size w ((w.alloc (colO W M F L H)).alloc (numO false 0))):=bthen (below_new w _) (below_new _ _)
  have HTL:Hid (Calls Tryz.prog 112 #[.pointer (some ⟨g,0,none⟩)] ((w.alloc (colO W M F L H)).alloc (numO false 0)).drew fun r w'=>r=.returned (.string s)∧TextLEye Q w g e1 R1 W M F L H w'):=(HT _ (bdrew HBl.out)).out.mono (by
    rintro r w' ⟨rfl,hr1,hf1⟩
    have hs:((w.alloc (colO W M F L H)).alloc (numO false 0)).drew.heap.size=w.heap.size+2:=by show (World.alloc _ _).heap.size=_;simp
    have k:=hf1.size
    have kc:∀ o,w'.cell? ⟨w.heap.size,o,none⟩=(#[Value.int .i64 W,.int .i64 M,.int .i64 F,.int .i64 L,.int .i64 H]:Array Value)[o]?:=fun o=>(frm_cells hf1 (by omega) (by omega) o).trans ((World.cell?_alloc_past _ _ _ (by simp)).trans (World.cell?_alloc_at _ _ _ _ rfl))
    exact⟨rfl,Lib.hid hr1,Lib.hid ((Frm.of_below (bdrew HBl.out)).step hf1),kc 0,kc 1,kc 2,kc 3,kc 4,Lib.hid fun o=>(frm_cells hf1 (by omega) (by omega) o).trans (HS.out o),Lib.hid fun o=>(frm_frozen hf1 (by omega) (by omega) o).trans (HZ.out o),by omega,by omega⟩)
  have HTE:Hid (Calls Tryz.prog 112 #[.pointer (some ⟨g,0,none⟩)] (((w.alloc (colO W M F L H)).alloc (numO false 0)).alloc (numO false 0)).drew fun r w'=>r=.returned (.string s)∧TextLEye Q w g e1 R1 W M F L H w'∧Hid (TextE w w')):=(HT _ (bdrew (bthen HBl.out (below_new _ _)))).out.mono (by
    rintro r w' ⟨rfl,hr1,hf1⟩
    have hs:(((w.alloc (colO W M F L H)).alloc (numO false 0)).alloc (numO false 0)).drew.heap.size=w.heap.size+3:=by show (World.alloc _ _).heap.size=_;simp
    have k:=hf1.size
    have kc:∀ o,w'.cell? ⟨w.heap.size,o,none⟩=(#[Value.int .i64 W,.int .i64 M,.int .i64 F,.int .i64 L,.int .i64 H]:Array Value)[o]?:=fun o=>(frm_cells hf1 (by omega) (by omega) o).trans ((World.cell?_alloc_past _ _ _ (by simp;omega)).trans ((World.cell?_alloc_past _ _ _ (by simp)).trans (World.cell?_alloc_at _ _ _ _ rfl)))
    have kg:∀ o,w'.cell? ⟨w.heap.size+1+1,o,none⟩=(#[Value.bool false,.int .i64 0]:Array Value)[o]?:=fun o=>(frm_cells hf1 (by omega) (by omega) o).trans (World.cell?_alloc_at _ _ _ _ (by simp))
    have fg:∀ o,w'.frozen? ⟨w.heap.size+1+1,o,none⟩=false:=fun o=>(frm_frozen hf1 (b:=w.heap.size+2) (by omega) (by omega) o).trans (by
      show (World.alloc _ _).frozen? _=false
      rw [frozen?_alloc_cells,frozen?_alloc_cells,frozen?_alloc_cells]
      exact frozen_past _ _ _ (by omega))
    exact⟨rfl,⟨Lib.hid hr1,Lib.hid ((Frm.of_below (bdrew (bthen HBl.out (below_new _ _)))).step hf1),kc 0,kc 1,kc 2,kc 3,kc 4,Lib.hid fun o=>(frm_cells hf1 (by omega) (by omega) o).trans ((World.cell?_alloc_past _ _ _ (by simp)).trans (HS.out o)),Lib.hid fun o=>(frm_frozen hf1 (by omega) (by omega) o).trans (by
      show (World.alloc _ _).frozen? _=false
      rw [frozen?_alloc_cells]
      exact HZ.out o),by omega,by omega⟩,Lib.hid ⟨kg 0,kg 1,fg 0,fg 1,by omega⟩⟩)
  have HTE2:Hid (Calls Tryz.prog 112 #[.pointer (some ⟨g,0,none⟩)] (((w.alloc (colO W M F L H)).alloc (numO false 0)).drew.alloc (numO false 0)) fun r w'=>r=.returned (.string s)∧TextLEye Q w g e1 R1 W M F L H w'∧Hid (TextE w w')):=HTE
  clear HT
  go_enter Tryz.func96,Tryz.ntmps96
  go_upto_region 1 with fail
  go_cut [5,6] (fun s5 s6 wx=>Hid (NumAtEye Q w g e1 R1 X1 X2 E s5 s6 wx))
  case first=>
    go_region_with (first | (refine HTE2.out.mono ?_;rintro r w' ⟨rfl,⟨hr1,hf1,t0,t1,t2,t3,t4,hcs,hfs,hzt,hzt0⟩,hE⟩) | (refine HTE.out.mono ?_;rintro r w' ⟨rfl,⟨hr1,hf1,t0,t1,t2,t3,t4,hcs,hfs,hzt,hzt0⟩,hE⟩) | (refine HTL.out.mono ?_;rintro r w' ⟨rfl,hr1,hf1,t0,t1,t2,t3,t4,hcs,hfs,hzt,hzt0⟩) | (go_at_call 169;refine (HA _).out.mono ?_;rintro r w1 ⟨rfl,hb1⟩;obtain⟨c1,f1⟩:=bcell hb1;have hz:=hb1.size;try (obtain⟨s0,s1,v0,v1,hzg⟩:=hE.out;have u0:=(c1 _ 0 hzg).trans s0;have u1:=(c1 _ 1 hzg).trans s1;have x0:=(f1 _ 0 hzg).trans v0;have x1:=(f1 _ 1 hzg).trans v1)))
    all_goals go_wp2_with fail
    all_goals go_meet
    all_goals first
      | exact Lib.hid (numAtEye_late hb1 hcs.out hzt hfs.out hf1.out hr1.out)
      | exact Lib.hid (numAtEye_early hb1 hBw hgw s0 s1 (by omega) hzg hcs.out hfs.out hf1.out hr1.out)
      | exact Lib.hid (numAtEye_early hb1 hBw hgw (World.cell?_alloc_at _ _ _ _ rfl) (World.cell?_alloc_at _ _ _ _ rfl) hzt (by simp) (fun o=>(World.cell?_alloc_past _ _ _ hzt).trans (hcs.out o)) (fun o=>by rw [frozen?_alloc_cells];exact hfs.out o) (hf1.out.then_below (below_new _ _)) (hr1.out.keep (below_new _ _)))
  case rest=>
    obtain⟨G,rfl,rfl,g0,g1,hq,hf,hG,hG2,hfz,hr⟩:=hcut.out
    have q0:=hq 0
    have q1:=hq 1
    have z0:=hfz 0
    have z1:=hfz 1
    clear hfz hq HA HS HBl HZ HTL HTE
    go_wp2_with fail
    refine (HFL _ hr.out).out.mono ?_
    rintro r w' ⟨rfl,hr2,hf2⟩
    have p0:w'.cell? ⟨w.heap.size+1,0,none⟩=some (.bool false):=(frm_cells hf2 (by omega) (by omega) 0).trans q0
    have p1:w'.cell? ⟨w.heap.size+1,1,none⟩=some (.int .i64 0):=(frm_cells hf2 (by omega) (by omega) 1).trans q1
    have y0:=(frm_frozen hf2 (b:=w.heap.size+1) (by omega) (by omega) 0).trans z0
    have y1:=(frm_frozen hf2 (b:=w.heap.size+1) (by omega) (by omega) 1).trans z1
    have x0:=(frm_cells hf2 hG (by omega) 0).trans g0
    have x1:=(frm_cells hf2 hG (by omega) 1).trans g1
    have HR2:=Lib.hid hr2
    have HF2:=Lib.hid (hf.out.step hf2)
    clear hr2 hf2 hf hr q0 q1 z0 z1 g0 g1 HFL
    go_wp2_with fail
    obtain⟨k0,k1⟩:=two_cells w' (w.heap.size+1) (.bool X1) (.int .i64 X2) _ _ p0 p1
    refine bodyPost_ret (v:=numV X1 X2) (by simp [results,Tryz.results96,go_sem,k0,k1]) rfl ⟨rfl,?_,?_⟩
    · exact (HR2.out.far (fun q=>by have:=hBw _ q;omega) (by omega)).far (fun q=>by have:=hBw _ q;omega) (by omega)
    · exact (HF2.out.put (by omega)).put (by omega)
end Go.Proofs.YtoabkoniegmkaaaGreat
