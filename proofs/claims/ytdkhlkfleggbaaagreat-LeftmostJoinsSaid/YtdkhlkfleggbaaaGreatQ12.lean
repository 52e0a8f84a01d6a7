/- Parts. -/
import Derived.Test.YtdkhlkfleggbaaaGreatQ11
namespace Go.Proofs.YtdkhlkfleggbaaaGreat
set_option maxHeartbeats 8000000
set_option maxRecDepth 8000
open Lib (hid)
open Tryz
set_option linter.unusedVariables false
open Go.RowKit
variable {Q : Nat → Prop}
abbrev ayi (W M F L H:Int):Obj:=.cells #[.int .i64 W,.int .i64 M,.int .i64 F,.int .i64 L,.int .i64 H] 292
abbrev za (b:Bool) (n:Int):Obj:=.cells #[.bool b,.int .i64 n] 42
theorem Frm.step {g:Nat} {w w1 w2:World} (h:Frm g vj w w1) (k:Frm g vj w1 w2):Frm g vj w w2:=h.trans k (.inl rfl)
theorem qi {g:Nat} {w w':World} (h:Frm g vj w w') {b:Nat} (hb:b<w.1.size) (hg:b≠g):∀o,w'.cell? ⟨b,o,none⟩=w.cell? ⟨b,o,none⟩:=fun o=>h.cell hb hg (by simp[Value.ownBlock])
theorem qu {g:Nat} {w w':World} (h:Frm g vj w w') {b:Nat} (hb:b<w.1.size) (hg:b≠g):∀o,w'.frozen? ⟨b,o,none⟩=w.frozen? ⟨b,o,none⟩:=fun o=>World.frozen?_of_block (a:=⟨b,o,none⟩) (h.block b hb hg (by simp[Value.ownBlock]))
theorem ach.far {w:World} {g G o:Nat} {e:Int} {R:List ByteArray} {u:Value} (h:ach Q w g e R) (hG:¬Q G) (hg:G≠g):ach Q (w.setCell ⟨G,o,none⟩ u) g e R:=by
 obtain⟨A,c,h0,h1,h2,h3,h4,h5,hB,h6,h7,h8⟩:=h;have k:∀j,(w.setCell ⟨G,o,none⟩ u).cell? ⟨g,j,none⟩=w.cell? ⟨g,j,none⟩:=fun j=>World.cell?_setCell_other _ _ _ _ (fun q=>by injection q with q;exact hg q)
 refine⟨A,c,(k 0).trans h0,(k 1).trans h1,(k 2).trans h2,fun o=>by simpa using h3 o,by simpa using h4,fun j hj=>?_,by simpa using hB,h6,h7,h8⟩;obtain⟨b,off,e1,e2,e3⟩:=h5 j hj;exact⟨b,off,e1,e2,(World.cell?_setCell_other _ _ _ _ (fun q=>hG (by injection q with q;rw[q];exact e2))).trans e3⟩
theorem Frm.put {g G o:Nat} {w w1:World} {u:Value} (h:Frm g vj w w1) (hG:w.1.size≤G):Frm g vj w (w1.setCell ⟨G,o,none⟩ u):=
 ⟨h.os,h.tape,h.output,by simpa using h.size,fun k hk h1 h2=>(Below.heap_setCell _ _ _ _ (by show k≠G;omega)).trans (h.block k hk h1 h2)⟩
def bip (w:World) (w':World):Prop:=w'.cell? ⟨w.1.size+1+1,0,none⟩=some (.bool false)∧w'.cell? ⟨w.1.size+1+1,1,none⟩=some (.int .i64 0)∧w'.frozen? ⟨w.1.size+1+1,0,none⟩=false∧w'.frozen? ⟨w.1.size+1+1,1,none⟩=false∧w.1.size+1+1<w'.1.size
def aon (Q:Nat→Prop) (w:World) (g:Nat) (e1:Int) (R1:List ByteArray) (W M F L H:Int) (w':World):Prop:=
 Hid (ach Q w' g e1 R1)∧Hid (Frm g vj w w')∧w'.cell? ⟨w.1.size,0,none⟩=some (.int .i64 W)∧w'.cell? ⟨w.1.size,1,none⟩=some (.int .i64 M)∧w'.cell? ⟨w.1.size,2,none⟩=some (.int .i64 F)∧w'.cell? ⟨w.1.size,3,none⟩=some (.int .i64 L)∧w'.cell? ⟨w.1.size,4,none⟩=some (.int .i64 H)∧Hid (∀o,w'.cell? ⟨w.1.size+1,o,none⟩=(#[Value.bool false,.int .i64 0]:Array Value)[o]?)∧Hid (∀o,w'.frozen? ⟨w.1.size+1,o,none⟩=false)∧w.1.size+1<w'.1.size∧w.1.size<w'.1.size
def aoe (Q:Nat→Prop) (w:World) (g:Nat) (e1:Int) (R1:List ByteArray) (b:Bool) (n E:Int) (s5 s6:Value) (wx:World):Prop:=
 ∃G,s5=.pointer (some ⟨G,0,none⟩)∧s6=.int .i64 E∧wx.cell? ⟨G,0,none⟩=some (.bool b)∧wx.cell? ⟨G,1,none⟩=some (.int .i64 n) ∧(∀o,wx.cell? ⟨w.1.size+1,o,none⟩=(#[Value.bool false,.int .i64 0]:Array Value)[o]?)∧Hid (Frm g vj w wx)∧G<wx.1.size∧w.1.size+1<G ∧(∀o,wx.frozen? ⟨w.1.size+1,o,none⟩=false)∧Hid (ach Q wx g e1 R1)
theorem ary {w W0 w1:World} {g:Nat} {e1:Int} {R1:List ByteArray} {b:Bool} {n E:Int} (hb:Below W0.1.size W0 w1) (h0:∀o,W0.cell? ⟨w.1.size+1,o,none⟩=(#[Value.bool false,.int .i64 0]:Array Value)[o]?) (hz:w.1.size+1<W0.1.size) (hfz:∀o,W0.frozen? ⟨w.1.size+1,o,none⟩=false) (hf:Frm g vj w W0) (hr:ach Q W0 g e1 R1) :
 aoe Q w g e1 R1 b n E (.pointer (some ⟨w1.1.size,0,none⟩)) (.int .i64 E) (w1.alloc (za b n)):=by
 have hz1:=hb.size;exact⟨w1.1.size,rfl,rfl,by simp[World.cell?_alloc_at],by simp[World.cell?_alloc_at],fun o=>(World.cell?_alloc_past _ _ _ om).trans (((qv hb).1 _ o hz).trans (h0 o)),hid ((hf.then_below hb).then_below (qa _ _)),by simp,by omega,fun o=>by rw[frozen?_alloc_cells,(qv hb).2 _ o hz,hfz],hid ((hr.keep hb).keep (qa _ _))⟩
theorem ahc {w W0 w1:World} {g:Nat} {e1:Int} {R1:List ByteArray} {b:Bool} {n E:Int} {G:Nat} (hb:Below W0.1.size W0 w1) (hBw:∀b,Q b→b<w.1.size) (hg:g<w.1.size) (g0:W0.cell? ⟨G,0,none⟩=some (.bool false)) (g1:W0.cell? ⟨G,1,none⟩=some (.int .i64 0)) (hG:w.1.size+1<G) (hG2:G<W0.1.size) (h0:∀o,W0.cell? ⟨w.1.size+1,o,none⟩=(#[Value.bool false,.int .i64 0]:Array Value)[o]?) (hfz:∀o,W0.frozen? ⟨w.1.size+1,o,none⟩=false) (hf:Frm g vj w W0) (hr:ach Q W0 g e1 R1) :
 aoe Q w g e1 R1 b n E (.pointer (some ⟨G,0,none⟩)) (.int .i64 E) ((w1.setCell ⟨G,0,none⟩ (.bool b)).setCell ⟨G,1,none⟩ (.int .i64 n)):=by
 have hz1:=hb.size;obtain⟨p0,p1⟩:=zg w1 G (.bool b) (.int .i64 n) _ _ (((qv hb).1 G 0 hG2).trans g0) (((qv hb).1 G 1 hG2).trans g1);have hne:∀o j,(⟨G,j,none⟩:Addr) ≠⟨w.1.size+1,o,none⟩:=fun o j e=>by injection e with e;omega
 have k:∀o,((w1.setCell ⟨G,0,none⟩ (.bool b)).setCell ⟨G,1,none⟩ (.int .i64 n)).cell? ⟨w.1.size+1,o,none⟩=w1.cell? ⟨w.1.size+1,o,none⟩:=fun o=>by
  rw[World.cell?_setCell_other _ _ _ _ (hne o 1),World.cell?_setCell_other _ _ _ _ (hne o 0)]
 refine⟨G,rfl,rfl,p0,p1,fun o=>(k o).trans (((qv hb).1 _ o om).trans (h0 o)),hid (((hf.then_below hb).put om).put om),by simp;omega,hG,fun o=>?_,hid (((hr.keep hb).far (fun q=>by have:=hBw _ q;omega) om).far (fun q=>by have:=hBw _ q;omega) om)⟩;simp only[World.frozen?_setCell];rw[(qv hb).2 _ o om,hfz]
theorem a2n (g:Nat) (e:Int) (R:List ByteArray) (W M F L H:Int) (w:World) (h:ach Q w g e R) (hBw:∀b,Q b→b<w.1.size) (hgw:g<w.1.size) (hsz:(R.headD ByteArray.empty).size≤1000000) :
 Calls prog 136 #[.pointer (some ⟨g,0,none⟩),j7 W M F L H] w (ab6 Q g (jo (j4 (R.headD ByteArray.empty).data.toList W M F L H).1 (j4 (R.headD ByteArray.empty).data.toList W M F L H).2.1) (aay (adf e R) (j4 (R.headD ByteArray.empty).data.toList W M F L H).2.2) R.tail w):=by
 have HT:=fun W' hb=>hid (aep g e R W' (h.keep (w':=W') hb))
 have HA:=fun W'=>hid (a2t (R.headD ByteArray.empty) W M F L H W' hsz)
 generalize R.headD ByteArray.empty=s at *;generalize (j4 s.data.toList W M F L H).1=X1 at *;generalize (j4 s.data.toList W M F L H).2.1=X2 at *;generalize (j4 s.data.toList W M F L H).2.2=E at *;generalize adf e R=e1 at *;generalize R.tail=R1 at *;have HFL:=fun W' hr=>hid (agy (Q:=Q) g e1 E R1 W' hr)
 clear h hsz;have HS:Hid (∀o,((w.alloc (ayi W M F L H)).alloc (za false 0)).cell? ⟨w.1.size+1,o,none⟩=(#[Value.bool false,.int .i64 0]:Array Value)[o]?):=fun o=>by rw[World.cell?_alloc_at _ _ _ _ sm]
 have HZ:Hid (∀o,((w.alloc (ayi W M F L H)).alloc (za false 0)).frozen? ⟨w.1.size+1,o,none⟩=false):=fun o=>by rw[frozen?_alloc_cells,frozen?_alloc_cells];exact qj _ _ _ om
 have HBl:Hid (Below w.1.size w ((w.alloc (ayi W M F L H)).alloc (za false 0))):=qb (qa w _) (qa _ _)
 have HTL:Hid (Calls prog 152 #[.pointer (some ⟨g,0,none⟩)] ((w.alloc (ayi W M F L H)).alloc (za false 0)).drew fun r w'=>r=.returned (.string s)∧aon Q w g e1 R1 W M F L H w'):=(HT _ (ab7 HBl.out)).out.mono (by
  rintro r w' ⟨rfl,hr1,hf1⟩;have hs:((w.alloc (ayi W M F L H)).alloc (za false 0)).drew.1.size=w.1.size+2:=by show (World.alloc _ _).1.size=_;simp
  have k:=hf1.size;have kc:∀o,w'.cell? ⟨w.1.size,o,none⟩=(#[Value.int .i64 W,.int .i64 M,.int .i64 F,.int .i64 L,.int .i64 H]:Array Value)[o]?:=fun o=>(qi hf1 om om o).trans ((World.cell?_alloc_past _ _ _ sm).trans (World.cell?_alloc_at _ _ _ _ rfl))
  exact⟨rfl,hid hr1,hid ((Frm.of_below (ab7 HBl.out)).step hf1),kc 0,kc 1,kc 2,kc 3,kc 4,hid fun o=>(qi hf1 om om o).trans (HS.out o),hid fun o=>(qu hf1 om om o).trans (HZ.out o),by omega,by omega⟩)
 have HTE:Hid (Calls prog 152 #[.pointer (some ⟨g,0,none⟩)] (((w.alloc (ayi W M F L H)).alloc (za false 0)).alloc (za false 0)).drew fun r w'=>r=.returned (.string s)∧aon Q w g e1 R1 W M F L H w'∧Hid (bip w w')):=(HT _ (ab7 (qb HBl.out (qa _ _)))).out.mono (by
  rintro r w' ⟨rfl,hr1,hf1⟩;have hs:(((w.alloc (ayi W M F L H)).alloc (za false 0)).alloc (za false 0)).drew.1.size=w.1.size+3:=by show (World.alloc _ _).1.size=_;simp
  have k:=hf1.size;have kc:∀o,w'.cell? ⟨w.1.size,o,none⟩=(#[Value.int .i64 W,.int .i64 M,.int .i64 F,.int .i64 L,.int .i64 H]:Array Value)[o]?:=fun o=>(qi hf1 om om o).trans ((World.cell?_alloc_past _ _ _ (by simp;omega)).trans ((World.cell?_alloc_past _ _ _ sm).trans (World.cell?_alloc_at _ _ _ _ rfl)))
  have kg:∀o,w'.cell? ⟨w.1.size+1+1,o,none⟩=(#[Value.bool false,.int .i64 0]:Array Value)[o]?:=fun o=>(qi hf1 om om o).trans (World.cell?_alloc_at _ _ _ _ sm)
  have fg:∀o,w'.frozen? ⟨w.1.size+1+1,o,none⟩=false:=fun o=>(qu hf1 (b:=w.1.size+2) om om o).trans (by
   show (World.alloc _ _).frozen? _=false;rw[frozen?_alloc_cells,frozen?_alloc_cells,frozen?_alloc_cells];exact qj _ _ _ om)
  exact⟨rfl,⟨hid hr1,hid ((Frm.of_below (ab7 (qb HBl.out (qa _ _)))).step hf1),kc 0,kc 1,kc 2,kc 3,kc 4,hid fun o=>(qi hf1 om om o).trans ((World.cell?_alloc_past _ _ _ sm).trans (HS.out o)),hid fun o=>(qu hf1 om om o).trans (by
   show (World.alloc _ _).frozen? _=false;rw[frozen?_alloc_cells];exact HZ.out o),by omega,by omega⟩,hid ⟨kg 0,kg 1,fg 0,fg 1,by omega⟩⟩)
 have HTE2:Hid (Calls prog 152 #[.pointer (some ⟨g,0,none⟩)] (((w.alloc (ayi W M F L H)).alloc (za false 0)).drew.alloc (za false 0)) fun r w'=>r=.returned (.string s)∧aon Q w g e1 R1 W M F L H w'∧Hid (bip w w')):=HTE;clear HT;go_enter func136,ntmps136;go_upto_region 1 with fail
 go_cut [5,6] (fun s5 s6 wx=>Hid (aoe Q w g e1 R1 X1 X2 E s5 s6 wx))
 case first=>
  go_region_with (first|(refine HTE2.out.mono ?_;rintro r w' ⟨rfl,⟨hr1,hf1,t0,t1,t2,t3,t4,hcs,hfs,hzt,hzt0⟩,hE⟩)|(refine HTE.out.mono ?_;rintro r w' ⟨rfl,⟨hr1,hf1,t0,t1,t2,t3,t4,hcs,hfs,hzt,hzt0⟩,hE⟩)|(refine HTL.out.mono ?_;rintro r w' ⟨rfl,hr1,hf1,t0,t1,t2,t3,t4,hcs,hfs,hzt,hzt0⟩)|(go_at_call 206;refine(HA _).out.mono ?_;rintro r w1 ⟨rfl,hb1⟩;obtain⟨c1,f1⟩:=qv hb1;have hz:=hb1.size;try (obtain⟨s0,s1,v0,v1,hzg⟩:=hE.out;have u0:=(c1 _ 0 hzg).trans s0;have u1:=(c1 _ 1 hzg).trans s1;have x0:=(f1 _ 0 hzg).trans v0;have x1:=(f1 _ 1 hzg).trans v1)))
  all_goals go_wp2_with fail
  all_goals go_meet
  all_goals first
   | exact hid (ary hb1 hcs.out hzt hfs.out hf1.out hr1.out)
   | exact hid (ahc hb1 hBw hgw s0 s1 om hzg hcs.out hfs.out hf1.out hr1.out)
   | exact hid (ahc hb1 hBw hgw (World.cell?_alloc_at _ _ _ _ rfl) (World.cell?_alloc_at _ _ _ _ rfl) hzt sm (fun o=>(World.cell?_alloc_past _ _ _ hzt).trans (hcs.out o)) (fun o=>by rw[frozen?_alloc_cells];exact hfs.out o) (hf1.out.then_below (qa _ _)) (hr1.out.keep (qa _ _)))
 case rest=>
  obtain⟨G,rfl,rfl,g0,g1,hq,hf,hG,hG2,hfz,hr⟩:=hcut.out;have q0:=hq 0;have q1:=hq 1;have z0:=hfz 0;have z1:=hfz 1;clear hfz hq HA HS HBl HZ HTL HTE;go_wp2_with fail;refine(HFL _ hr.out).out.mono ?_;rintro r w' ⟨rfl,hr2,hf2⟩;have p0:w'.cell? ⟨w.1.size+1,0,none⟩=some (.bool false):=(qi hf2 om om 0).trans q0;have p1:w'.cell? ⟨w.1.size+1,1,none⟩=some (.int .i64 0):=(qi hf2 om om 1).trans q1;have y0:=(qu hf2 (b:=w.1.size+1) om om 0).trans z0;have y1:=(qu hf2 (b:=w.1.size+1) om om 1).trans z1;have x0:=(qi hf2 hG om 0).trans g0;have x1:=(qi hf2 hG om 1).trans g1;have HR2:=hid hr2;have HF2:=hid (hf.out.step hf2);clear hr2 hf2 hf hr q0 q1 z0 z1 g0 g1 HFL;go_wp2_with fail;obtain⟨k0,k1⟩:=zg w' (w.1.size+1) (.bool X1) (.int .i64 X2) _ _ p0 p1;refine bodyPost_ret (v:=jo X1 X2) (by simp[results,results136,go_sem,k0,k1]) rfl ⟨rfl,?_,?_⟩
  ·exact(HR2.out.far (fun q=>by have:=hBw _ q;omega) om).far (fun q=>by have:=hBw _ q;omega) om
  ·exact(HF2.out.put om).put om
variable {Q : Nat → Prop}
theorem at5 (g:Nat) (e:Int) (R:List ByteArray) (lat:Bool) (w:World) (h:ach Q w g e R) (hBw:∀b,Q b→b<w.1.size) (hgw:g<w.1.size) (hsz:(R.headD ByteArray.empty).size≤1000000) :
 Calls prog 137 #[.pointer (some ⟨g,0,none⟩),.bool lat] w (ab6 Q g (jo (aa7 (R.headD ByteArray.empty).data.toList (R.tail.headD ByteArray.empty) lat).1 (aa7 (R.headD ByteArray.empty).data.toList (R.tail.headD ByteArray.empty) lat).2.1) (aay (adf (adf e R) R.tail) (aa7 (R.headD ByteArray.empty).data.toList (R.tail.headD ByteArray.empty) lat).2.2) R.tail.tail w):=by
 have HT:=fun W' hb=>hid (aep (Q:=Q) g e R W' (h.keep (w':=W') hb))
 have HU:=fun W' hr=>hid (aep (Q:=Q) g (adf e R) R.tail W' hr)
 have HA:=fun W'=>hid (am9 (R.headD ByteArray.empty) (R.tail.headD ByteArray.empty) lat W' hsz)
 generalize (aa7 (R.headD ByteArray.empty).data.toList (R.tail.headD ByteArray.empty) lat).1=X1 at *;generalize (aa7 (R.headD ByteArray.empty).data.toList (R.tail.headD ByteArray.empty) lat).2.1=X2 at *;generalize (aa7 (R.headD ByteArray.empty).data.toList (R.tail.headD ByteArray.empty) lat).2.2=E at *;generalize R.tail.headD ByteArray.empty=d at *;generalize R.headD ByteArray.empty=s at *;generalize adf (adf e R) R.tail=e2 at *;generalize R.tail.tail=R2 at *;generalize adf e R=e1 at *;generalize R.tail=R1 at *;have HFL:=fun W' hr=>hid (agy (Q:=Q) g e2 E R2 W' hr)
 clear h hsz;have HS:Hid (∀o,(w.alloc (za false 0)).cell? ⟨w.1.size,o,none⟩=(#[Value.bool false,.int .i64 0]:Array Value)[o]?):=fun o=>by rw[World.cell?_alloc_at _ _ _ _ rfl]
 have HZ:Hid (∀o,(w.alloc (za false 0)).frozen? ⟨w.1.size,o,none⟩=false):=fun o=>by rw[frozen?_alloc_cells];exact qj _ _ _ om
 have HBl:Hid (Below w.1.size w (w.alloc (za false 0))):=qa w _;have hs0:(w.alloc (za false 0)).1.size=w.1.size+1:=by simp
 have HS0:=hid hs0;clear hs0;go_enter func137,ntmps137;go_wp2_with fail;refine(HT _ HBl.out).out.mono ?_;rintro r w1 ⟨rfl,hr1,hf1⟩;have z1:w.1.size+1≤w1.1.size:=by have:=hf1.size;have:=HS0.out;omega
 have HQ1:Hid (∀o,w1.cell? ⟨w.1.size,o,none⟩=(#[Value.bool false,.int .i64 0]:Array Value)[o]?):=fun o=>(qi hf1 (by have:=HS0.out;omega) om o).trans (HS.out o)
 have HZ1:Hid (∀o,w1.frozen? ⟨w.1.size,o,none⟩=false):=fun o=>(qu hf1 (by have:=HS0.out;omega) om o).trans (HZ.out o)
 have HF1:=hid ((Frm.of_below (g:=g) HBl.out).step hf1);have HR1:=hid hr1;clear hr1 hf1 HS HZ HBl HS0 HT;go_wp2_with fail;refine(HU _ HR1.out).out.mono ?_;rintro r w2 ⟨rfl,hr2,hf2⟩;have z2:w.1.size+1≤w2.1.size:=Nat.le_trans z1 hf2.size;have HQ2:Hid (∀o,w2.cell? ⟨w.1.size,o,none⟩=(#[Value.bool false,.int .i64 0]:Array Value)[o]?):=fun o=>(qi hf2 om om o).trans (HQ1.out o)
 have HZ2:Hid (∀o,w2.frozen? ⟨w.1.size,o,none⟩=false):=fun o=>(qu hf2 om om o).trans (HZ1.out o)
 have HF2:=hid (HF1.out.step hf2);have HR2:=hid hr2;clear hr2 hf2 HQ1 HZ1 HF1 HR1 HU;go_wp2_with fail;refine((HA _).out).mono ?_;rintro e w3 ⟨rfl,hb3⟩;have z3:w.1.size+1≤w3.1.size:=Nat.le_trans z2 hb3.size;have HB3:=hid (qb hb3 (qa w3 (za X1 X2)));have HR3:=hid (HR2.out.keep HB3.out);have HF3:=hid (HF2.out.then_below HB3.out);have hq3:∀o,(w3.alloc (za X1 X2)).cell? ⟨w.1.size,o,none⟩=(#[Value.bool false,.int .i64 0]:Array Value)[o]?:=fun o=>((qv HB3.out).1 w.1.size o om).trans (HQ2.out o)
 have hz3:∀o,(w3.alloc (za X1 X2)).frozen? ⟨w.1.size,o,none⟩=false:=fun o=>((qv HB3.out).2 w.1.size o om).trans (HZ2.out o)
 have HQ3:=hid hq3;have HZ3:=hid hz3;clear hb3 hq3 hz3 HQ2 HZ2 HF2 HR2 HA HB3;go_wp2_with fail;refine(HFL _ HR3.out).out.mono ?_;rintro r w4 ⟨rfl,hr4,hf4⟩;have hs3:(w3.alloc (za X1 X2)).1.size=w3.1.size+1:=by simp
 have z4:w3.1.size+1≤w4.1.size:=by have:=hf4.size;omega
 have p0:w4.cell? ⟨w.1.size,0,none⟩=some (.bool false):=(qi hf4 om om 0).trans (HQ3.out 0);have p1:w4.cell? ⟨w.1.size,1,none⟩=some (.int .i64 0):=(qi hf4 om om 1).trans (HQ3.out 1);have y0:=(qu hf4 (b:=w.1.size) om om 0).trans (HZ3.out 0);have y1:=(qu hf4 (b:=w.1.size) om om 1).trans (HZ3.out 1);have x0:w4.cell? ⟨w3.1.size,0,none⟩=some (.bool X1):=(qi hf4 om om 0).trans (by simp[World.cell?_alloc_at]);have x1:w4.cell? ⟨w3.1.size,1,none⟩=some (.int .i64 X2):=(qi hf4 om om 1).trans (by simp[World.cell?_alloc_at]);have HR4:=hid hr4;have HF4:=hid (HF3.out.step hf4);clear hr4 hf4 hs3 HQ3 HZ3 HF3 HR3 HFL;go_wp2_with fail;obtain⟨k0,k1⟩:=zg w4 w.1.size (.bool X1) (.int .i64 X2) _ _ p0 p1;refine bodyPost_ret (v:=jo X1 X2) (by simp[results,results137,go_sem,k0,k1]) rfl ⟨rfl,?_,?_⟩
 ·exact(HR4.out.far (fun q=>by have:=hBw _ q;omega) om).far (fun q=>by have:=hBw _ q;omega) om
 ·exact(HF4.out.put (Nat.le_refl _)).put (Nat.le_refl _)
def aoo (fs:List ByteArray) (w:World) (v:Value) (w':World):Prop:=
 ∃A c,v=.slice A fs.length c∧fs.length≤c ∧(∀a,A=some a→a.block<w'.1.size) ∧(A=none→c=0)∧vy w' w'.1.size A fs∧aaq w.1.size A∧Below w.1.size w w'
theorem a2g (A:Option Addr) (fs:List ByteArray) (c:Nat) (w:World) (hA:A=none→c=0) (hs:vy w w.1.size A fs) (hn:fs.length≤1000000) :
 Calls prog 205 #[.slice A fs.length c] w fun e w'=>∃v,e=.returned v∧aoo fs w v w':=by
 cases A with
 | none=>
  obtain rfl:=hA rfl
  have hl:fs=[]:=by
   cases fs with
   | nil=>rfl
   | cons a l=>obtain⟨b,off,hA,-⟩:=hs 0 sm;cases hA
  subst hl;clear hs hA;change Calls prog 205 #[.slice none 0 0] w _;have EQ:∀W:World,(binOp .eql 148 (.slice none 0 0) (.slice none 0 0)).run prog W=.ok (.bool true) W:=fun W=>Lib.run_eql_slice_nil W 148 9 none 0 0 0 0 underlying148
  go_enter func205,ntmps205;go_wp2;go_ret;exact⟨_,rfl,none,0,rfl,Nat.le_refl _,(fun a h=>by cases h),fun _=>rfl,fun k hk=>absurd hk sm,aaq.none_,Below.refl _ _⟩
 | some a=>
  obtain⟨i0,hi,hz0,hz1,hz2⟩:=amu bba;obtain⟨n,hln⟩:∃n,fs.length=n:=⟨_,rfl⟩;have HLN:=hid hln;have HS:=hid hs;rw[hln]at hn ⊢;clear hs hA hln;have hown:(w.alloc (.cells #[] 9)).ownsRow w.1.size 9 1 (.slice (some ⟨w.1.size,0,none⟩) 0 0) 0 []:=World.ownsRow_made w #[] 0 (Nat.le_refl _) dc rfl;have HO:=hid hown;clear hown;have EQ:∀W:World,(binOp .eql 148 (.slice (some a) n c) (.slice none 0 0)).run prog W=.ok (.bool false) W:=fun W=>Lib.run_eql_slice_nil W 148 9 (some a) n c 0 0 underlying148
  go_enter func205,ntmps205;go_wp2_with (at_builtin;refine wpList_append_own _ rfl _ _ 148 rfl w.1.size 9 i0 (.string ByteArray.empty) 1 16 underlying148 hi hz0 hz1 hz2 rfl dc _ _ _ rfl HO.out a n c (fs.map Value.string) rfl (by simp[HLN.out]) ?c1 ?c2 ?c3 ?c4 ?c5 ?_)
  case c1=>
   intro j u hu;rw[List.getElem?_map]at hu
   have hj:j<fs.length:=by
    rcases Nat.lt_or_ge j fs.length with k|k
    ·exact k
    ·rw[List.getElem?_eq_none k]at hu;cases hu
   rw[List.getElem?_eq_getElem hj]at hu;injection hu with hu
   obtain⟨b,off,hA,hb,hc⟩:=HS.out j hj;injection hA with hA
   subst hA;have e1:(⟨b,off,none⟩:Addr).add j=⟨b,off+j,none⟩:=by unfold Addr.add;split<;>simp_all
   rw[e1,World.cell?_alloc_past _ _ _ hb,hc,← hu]
  case c2=>intro u hu;obtain⟨s,-,rfl⟩:=List.mem_map.1 hu;rfl
  case c3=>unfold maxLen;omega
  case c4=>omega
  case c5=>simp
  intro v' w2 hown' hgrow _
  have HPOST:Hid (aoo fs w v' w2):=by
   obtain⟨A,c',rfl⟩:=a9v hown';obtain⟨h1,h2,h3⟩:=awy hown'
   have hcap:fs.length≤c':=by
    rw[h1];rcases hown'.2 with⟨_,h0⟩|⟨g,cap,cur,hv,_,_,hn,_⟩
    ·omega
    ·injection hv with _ _ hv;omega
   have hblk:∀a,A=some a→a.block<w2.1.size:=fun a ha=>by
    subst ha;rcases hown'.2 with⟨hv,_⟩|⟨g,cap,cur,hv,_,hg,_⟩
    ·injection hv with hv;cases hv
    ·injection hv with hv
     injection hv with hv
     rw[hv];exact(Array.getElem?_eq_some_iff.1 hg).1
   refine⟨A,c',by rw[h1],hcap,hblk,fun hA=>?_,h2,h3,((qa w _).grown hgrow sm (fun k hk=>(HO.out.lt k hk).1))⟩;subst hA;rcases hown'.2 with⟨hv,_⟩|⟨g,cap,cur,hv,_⟩
   ·injection hv
   ·cases hv
  clear hown' hgrow HO HS;go_wp2_with fail;go_ret;exact⟨_,rfl,HPOST.out⟩
def axr (fs:List ByteArray) (w:World) (r:Ending) (w':World):Prop:=
 ∃g,r=.returned (.pointer (some ⟨g,0,none⟩))∧ach (fun b=>w.1.size≤b∧b<g) w' g 0 fs∧w.1.size≤g∧w'.1.size=g+1∧Below w.1.size w w'
theorem bb6 (A:Option Addr) (fs:List ByteArray) (c:Nat) (w:World) (hA:A=none→c=0) (hs:vy w w.1.size A fs) (hn:fs.length≤1000000) :
 Calls prog 135 #[.slice A fs.length c] w (axr fs w):=by
 have HC:=hid (a2g A fs c w hA hs hn);have HN:=hid hn;clear hs hA hn;obtain⟨n,hln⟩:∃n,fs.length=n:=⟨_,rfl⟩;rw[hln]at HC ⊢;have HLN:=hid hln;clear hln;go_enter func135,ntmps135;go_wp2_with fail;refine HC.out.mono ?_;rintro r w1 ⟨v,rfl,ht⟩;obtain⟨A',c',rfl,h1,hblk,h2,h3,h4,h5⟩:=ht
 have HPO:Hid (axr fs w (.returned (.pointer (some ⟨w1.1.size,0,none⟩))) (w1.alloc (.cells #[.bool true,.int .i64 0,.slice A' fs.length c'] 339))):=by
  have hb:Below w1.1.size w1 (w1.alloc (.cells #[.bool true,.int .i64 0,.slice A' fs.length c'] 339)):=qa _ _;refine⟨w1.1.size,rfl,⟨A',c',by simp[World.cell?_alloc_at],by simp[World.cell?_alloc_at],by simp[World.cell?_alloc_at],fun o=>?_,by simp,fun k hk=>?_,(fun b q=>by have:=q.2;simp;omega),(fun b q=>by have:=q.2;omega),HN.out,h1⟩,h5.size,by simp,qb h5 (qa _ _)⟩
  ·rw[frozen?_alloc_cells];exact qj _ _ _ (Nat.le_refl _)
  ·obtain⟨b,off,e1,e2,e3⟩:=h3 k hk;exact⟨b,off,e1,⟨h4 _ e1,e2⟩,(hb.cell (p:=⟨b,off+k,none⟩) e2).trans e3⟩
 rw[HLN.out]at HPO;clear h1 h2 h3 h4 h5 hblk;rw[HLN.out];go_wp2_with fail;go_ret;exact HPO.out
abbrev Rd:=Int×List ByteArray
def qt (s:Rd):ByteArray×Rd:=(s.2.headD ByteArray.empty,(adf s.1 s.2,s.2.tail))
def qq (W M F L H:Int) (s:Rd):(Bool×Int)×Rd:=
 (((j4 (s.2.headD ByteArray.empty).data.toList W M F L H).1,(j4 (s.2.headD ByteArray.empty).data.toList W M F L H).2.1),(aay (adf s.1 s.2) (j4 (s.2.headD ByteArray.empty).data.toList W M F L H).2.2,s.2.tail))
def xq (E:Int) (s:Rd):Rd:=(aay s.1 E,s.2)
def amh (t:ByteArray) (E:Int) (s:Rd):Rd:=(aay s.1 E,s.2++[t])
def ak9 (W M F L H:Int) (n:Bool×Int) (s:Rd):Rd:=(aay s.1 (avs n.1 n.2 W M F L H).2,s.2++[(avs n.1 n.2 W M F L H).1])
def axg (s:Rd):List ByteArray×Int:=(if s.1=0 then s.2 else [],s.1)
theorem v4 {e E:Int} (h:aay e E=0):e=0∧E=0:=by
 unfold aay at h
 by_cases he:e=0
 ·rw[if_pos he]at h;exact⟨he,h⟩
 ·rw[if_neg he]at h;exact absurd h he
theorem agl {e:Int} {R:List ByteArray} (h:adf e R=0):e=0∧∃t R',R=t::R':=by
 unfold adf at h;cases R with
 | nil=>rw[if_pos rfl]at h;exact absurd (v4 h).2 dc
 | cons t R'=>rw[if_neg sm]at h;exact⟨h,t,R',rfl⟩
theorem aej (e:Int) (t:ByteArray) (R:List ByteArray):adf e (t::R)=e:=if_neg sm
theorem afl {W M F L H:Int} {s:Rd} (h:(qq W M F L H s).2.1=0) :
 s.1=0∧∃t R n,s.2=t::R∧qq W M F L H s=(n,(0,R))∧∃t',(∀l,ak9 W M F L H n (0,l)=(0,l++[t'])) ∧(W=1→t'.size≤t.size)∧∀R,qq W M F L H (0,t'::R)=(n,(0,R)):=by
 obtain⟨h1,h2⟩:=v4 h;obtain⟨h3,t,R,h4⟩:=agl h1;obtain⟨e,l⟩:=s;simp only at h3 h4;subst h3 h4;simp only[List.headD_cons]at h2;obtain⟨b,n,E⟩:Bool×Int×Int:=j4 t.data.toList W M F L H;have hT:j4 t.data.toList W M F L H=((j4 t.data.toList W M F L H).1,(j4 t.data.toList W M F L H).2.1,0):=by rw[← h2]
 obtain⟨t',h5,h6⟩:=bfr hT;refine⟨rfl,t,R,((j4 t.data.toList W M F L H).1,(j4 t.data.toList W M F L H).2.1),rfl,?_,t',fun l=>?_,fun hW=>?_,fun R=>?_⟩
 ·unfold qq;simp only[List.headD_cons,List.tail_cons,h2,aej];rfl
 ·unfold ak9;rw[h5];rfl
 ·have:=h6 hW
  simpa using this
 ·have h7:=bex (by rw[h5]:(avs (j4 t.data.toList W M F L H).1 (j4 t.data.toList W M F L H).2.1 W M F L H).2=0);rw[h5]at h7;unfold qq;rw[aej];simp only[List.headD_cons,List.tail_cons]at h7 ⊢;rw[h7];rfl
structure Cl where
 W:Int
 M:Int
 F:Int
 L:Int
 H:Int
 c:ByteArray
def at2 (b:Bool) (c:ByteArray):ByteArray:=if b=true then c else ByteArray.empty
def vl (c:ByteArray) (b:Bool) (s:Rd):Rd:=if(qt s).1≠c ∧(b=true ∨(qt s).1≠ByteArray.empty)then xq 3 (qt s).2 else(qt s).2
def v7 (k:Cl) (s:Rd):(Bool×Int)×Rd:=((qq k.W k.M k.F k.L k.H s).1,vl k.c (qq k.W k.M k.F k.L k.H s).1.1 (qq k.W k.M k.F k.L k.H s).2)
def a7t (k:Cl) (n:Bool×Int) (s:Rd):Rd:=amh (at2 n.1 k.c) 0 (ak9 k.W k.M k.F k.L k.H n s)
theorem a47 (c:ByteArray) (b:Bool) (R:List ByteArray):vl c b (0,at2 b c::R)=(0,R):=by
 unfold vl qt at2;cases b<;>simp[aej]
theorem baa {c:ByteArray} {b:Bool} {s:Rd} (h:(vl c b s).1=0):s.1=0∧∃u R,s.2=u::R∧vl c b s=(0,R) ∧(at2 b c).size≤u.size:=by
 obtain⟨e,l⟩:=s
 by_cases hq:(qt (e,l)).1≠c ∧(b=true ∨(qt (e,l)).1≠ByteArray.empty)
 ·unfold vl at h;rw[if_pos hq]at h;exact absurd (v4 h).2 dc
 ·have h0:=h;unfold vl at h0 ⊢;rw[if_neg hq]at h0 ⊢;obtain⟨h1,u,R,h2⟩:=agl h0;simp only at h1 h2;subst h1 h2;refine⟨rfl,u,R,rfl,by simp[qt,aej],?_⟩;unfold at2;cases b with
  | false=>simp
  | true=>
   have:u=c:=Classical.byContradiction fun q=>hq ⟨by simpa [qt]using q,.inl rfl⟩
   rw[this];simp
theorem be0 {k:Cl} {s:Rd} (h:(v7 k s).2.1=0) :
 s.1=0∧∃t u R n,s.2=t::u::R∧v7 k s=(n,(0,R))∧∃t' u',(∀l,a7t k n (0,l)=(0,l++[t',u'])) ∧(k.W=1→t'.size≤t.size)∧u'.size≤u.size∧∀R,v7 k (0,t'::u'::R)=(n,(0,R)):=by
 obtain⟨h1,u,R,h2,h3,h4⟩:=baa h;obtain⟨h5,t,R',n,h6,h7,t',h8,h9,h10⟩:=afl h1;rw[h7]at h2;simp only at h2;subst h2;refine⟨h5,t,u,R,n,h6,?_,t',at2 n.1 k.c,fun l=>?_,h9,?_,fun R=>?_⟩
 ·unfold v7;rw[h3,h7]
 ·unfold a7t;rw[h8];simp[amh,aay]
 ·rw[h7]at h4;exact h4
 ·unfold v7;rw[h10];simp only;rw[a47]
def axf:List Cl→List (Bool×Int)→Rd→Rd
 | k::K,n::N,s=>axf K N (a7t k n s)
 | _,_,s=>s
def abg:List Cl→Rd→List (Bool×Int)×Rd
 | [],s=>([],s)
 | k::K,s=>((v7 k s).1::(abg K (v7 k s).2).1,(abg K (v7 k s).2).2)
def xg (T U:List ByteArray):Prop:=∀(i:Nat) (t u:ByteArray),T[i]?=some t→U[i]?=some u→t.size≤u.size
theorem xg.cons {t u:ByteArray} {T U:List ByteArray} (h:t.size≤u.size) (k:xg T U):xg (t::T) (u::U):=by
 intro i a b h1 h2;cases i with
 | zero=>simp at h1 h2;subst h1 h2;exact h
 | succ i=>exact k i a b (by simpa using h1) (by simpa using h2)
theorem xg.nil (U:List ByteArray):xg [] U:=fun i t u h=>by simp at h
theorem atk:∀(K:List Cl) (s:Rd),(∀k∈K,k.W=1) →(abg K s).2.1=0 →
 s.1=0∧∃T R N T',s.2=T++R∧T.length=2*K.length∧N.length=K.length∧T'.length=2*K.length∧abg K s=(N,(0,R)) ∧(∀l,axf K N (0,l)=(0,l++T'))∧xg T' T∧∀R,abg K (0,T'++R)=(N,(0,R))
 | [],s,_,h=>⟨h,[],s.2,[],[],rfl,rfl,rfl,rfl,Prod.ext rfl (Prod.ext h rfl),fun l=>by rw[List.append_nil];rfl,xg.nil _,fun _=>rfl⟩
 | k::K,s,hK,h=>by
  obtain⟨h1,T,R,N,T',h2,h3,h4,h5,h6,h7,h8,h9⟩:=atk K (v7 k s).2 (fun j hj=>hK j (List.mem_cons_of_mem _ hj)) h;obtain⟨g1,t,u,R',n,g2,g3,t',u',g4,g5,g6,g7⟩:=be0 h1;rw[g3]at h2;simp only at h2;subst h2;refine⟨g1,t::u::T,R,n::N,t'::u'::T',by rw[g2];rfl,by simp[h3];omega,by simp[h4],by simp[h5];omega,?_,fun l=>?_,?_,fun R=>?_⟩
  ·show ((v7 k s).1::(abg K (v7 k s).2).1,(abg K (v7 k s).2).2)=_;rw[h6,g3]
  ·show axf K N (a7t k n (0,l))=_;rw[g4,h7];simp
  ·exact xg.cons (g5 (hK k (List.mem_cons_self ..))) (xg.cons g6 h8)
  ·show ((v7 k (0,t'::u'::(T'++R))).1::(abg K (v7 k (0,t'::u'::(T'++R))).2).1,(abg K (v7 k (0,t'::u'::(T'++R))).2).2)=_;rw[g7,h9]
def aq8:List Cl:=[⟨1,3,2,0,36000,⟨#[84]⟩⟩,⟨1,3,2,0,36000,⟨#[77]⟩⟩,⟨1,4,2,0,999999,⟨#[78]⟩⟩,⟨1,4,2,0,999999,⟨#[75]⟩⟩]
def a4x (N:List (Bool×Int)):List ByteArray×Int:=axg (axf aq8 N (0,[]))
def anc (s:ByteArray):Bool:=decide (s.size=1) && decide (65 ≤(s[0]?.getD 0).toNat) && decide ((s[0]?.getD 0).toNat≤90)
def aae (s:Rd):Rd:=if s.2=[]then s else if(qt s).1≠ByteArray.empty∧anc (qt s).1=false then xq 3 (qt s).2 else(qt s).2
def afa:List (Bool×Int):=[(false,0),(false,0),(false,0),(false,0)]
def jh (R:List ByteArray):List (Bool×Int)×Int:=
 if R.length≠8∧R.length≠9 then(afa,3)
 else if(aae (abg aq8 (0,R)).2).1=0 then((abg aq8 (0,R)).1,0)else(afa,(aae (abg aq8 (0,R)).2).1)
theorem a0i {s:Rd} (h:(aae s).1=0):s.1=0:=by
 unfold aae at h
 split at h
 ·exact h
 ·split at h
  ·exact absurd (v4 h).2 dc
  ·exact(agl h).1
theorem bf0:∀k∈aq8,k.W=1:=by simp[aq8]
theorem axd {R:List ByteArray} (h:(jh R).2=0):(jh R).1.length=4 ∧(a4x (jh R).1).2=0∧xg (a4x (jh R).1).1 R:=by
 unfold jh at h ⊢
 by_cases hl:R.length≠8∧R.length≠9
 ·rw[if_pos hl]at h;exact absurd h dc
 ·rw[if_neg hl]at h ⊢
  by_cases h0:(aae (abg aq8 (0,R)).2).1=0
  ·rw[if_pos h0];obtain⟨-,T,R',N,T',h1,h2,h3,h4,h5,h6,h7,h8⟩:=atk aq8 (0,R) bf0 (a0i h0);rw[h5];refine⟨h3,?_⟩;unfold a4x;rw[h6];refine⟨rfl,fun i t u ht hu=>?_⟩;have ht':T'[i]?=some t:=by simpa [axg]using ht
   have hi:i<T'.length:=(List.getElem?_eq_some_iff.1 ht').1;have hu':R[i]?=some u:=hu;rw[show R=T++R' from h1,List.getElem?_append_left om]at hu';exact h7 i t u ht' hu'
  ·rw[if_neg h0]at h;exact absurd h h0
theorem a57 {R:List ByteArray} (h:(jh R).2≠0):(jh R).1=afa:=by
 unfold jh at h ⊢
 split at h
 ·rename_i q;rw[if_pos q]
 ·rename_i q;rw[if_neg q]
  split at h
  ·exact absurd rfl h
  ·rename_i q2;rw[if_neg q2]
theorem a1q (R:List ByteArray):(jh R).1.length=4:=by
 by_cases h:(jh R).2=0
 ·exact(axd h).1
 ·rw[a57 h];rfl
def dgB (t:ByteArray):Bool:=decide (t.size=1) && decide (48 ≤(t[0]?.getD 0).toNat) && decide ((t[0]?.getD 0).toNat≤57)
def dgN (t:ByteArray):Int:=((t[0]?.getD 0).toNat:Int)-48
def alk (n:Int):ByteArray:=⟨#[UInt8.ofNat (48+n).toNat]⟩
def zi (lo hi:Int) (s:Rd):Int×Rd:=
 if dgB (qt s).1=true then(dgN (qt s).1,if dgN (qt s).1<lo∨hi<dgN (qt s).1 then xq 5 (qt s).2 else(qt s).2)else(0,xq 3 (qt s).2)
def ai5 (lo hi n:Int) (s:Rd):Rd:=if n<lo∨hi<n then amh ByteArray.empty 5 s else amh (alk n) 0 s
theorem alm (n:Int):(alk n).size=1:=rfl
theorem bc2 (n:Int):(alk n)[0]?=some (UInt8.ofNat (48+n).toNat):=rfl
theorem a8u {n:Int} (h0:0≤n) (h9:n≤9):dgB (alk n)=true∧dgN (alk n)=n:=by
 have hv:(UInt8.ofNat (48+n).toNat).toNat=(48+n).toNat:=by rw[UInt8.toNat_ofNat'];omega
 unfold dgB dgN;rw[alm,bc2,Option.getD_some,hv];refine⟨?_,by omega⟩;simp;omega
theorem a64 {t:ByteArray} (h:dgB t=true):0≤dgN t∧dgN t≤9∧t.size=1:=by
 unfold dgB at h;simp at h;unfold dgN;omega
theorem am0 (t:ByteArray) (R:List ByteArray):qt (0,t::R)=(t,(0,R)):=by simp[qt,aej]
theorem bf3 {lo hi n:Int} {s:Rd} (hlo:0≤lo) (hhi:hi≤9) (h:(ai5 lo hi n s).1=0) :
 s.1=0∧lo≤n∧n≤hi ∧(∀l,ai5 lo hi n (0,l)=(0,l++[alk n]))∧ai5 lo hi n s=(0,s.2++[alk n])∧∀R,zi lo hi (0,alk n::R)=(n,(0,R)):=by
 by_cases hq:n<lo∨hi<n
 ·unfold ai5 at h;rw[if_pos hq]at h;exact absurd (v4 h).2 dc
 ·have k:∀s,ai5 lo hi n s=amh (alk n) 0 s:=fun s=>if_neg hq
  rw[k]at h;obtain⟨h1,-⟩:=v4 h;obtain⟨d1,d2⟩:=a8u (n:=n) om om;refine⟨h1,by omega,by omega,fun l=>by rw[k];rfl,by rw[k];unfold amh;rw[h1];rfl,fun R=>?_⟩;unfold zi;rw[am0];simp only;rw[if_pos d1,d2,if_neg hq]
theorem a0g {lo hi:Int} {s:Rd} (hlo:0≤lo) (hhi:hi≤9) (h:(zi lo hi s).2.1=0) :
 s.1=0∧∃t R n,s.2=t::R∧zi lo hi s=(n,(0,R))∧lo≤n∧n≤hi∧t.size=1 ∧(∀l,ai5 lo hi n (0,l)=(0,l++[alk n]))∧∀R,zi lo hi (0,alk n::R)=(n,(0,R)):=by
 obtain⟨e,l⟩:=s
 by_cases hd:dgB (qt (e,l)).1=true
 ·by_cases hq:dgN (qt (e,l)).1<lo∨hi<dgN (qt (e,l)).1
  ·unfold zi at h;rw[if_pos hd,if_pos hq]at h;exact absurd (v4 h).2 dc
  ·have hr:zi lo hi (e,l)=(dgN (qt (e,l)).1,(qt (e,l)).2):=by unfold zi;rw[if_pos hd,if_neg hq]
   rw[hr]at h;obtain⟨h1,t,R,h2⟩:=agl h;simp only at h1 h2;subst h1 h2;rw[am0]at hd hq hr;simp only at hd hq hr;obtain⟨d0,d9,d1⟩:=a64 hd;have hw:(ai5 lo hi (dgN t) (0,[])).1=0:=by unfold ai5;rw[if_neg hq];rfl
   obtain⟨-,w1,w2,w3,-,w5⟩:=bf3 hlo hhi hw;exact⟨rfl,t,R,dgN t,rfl,hr,w1,w2,d1,w3,w5⟩
 ·unfold zi at h;rw[if_neg hd]at h;exact absurd (v4 h).2 dc
abbrev V4:=(Bool×Int) ×(Bool×Int) ×(Bool×Int) ×(Bool×Int)
def axh (v:V4) (s:Rd):Rd:=ak9 1 2 0 0 99 v.2.2.2 (ak9 1 3 0 0 359 v.2.2.1 (ak9 1 2 0 0 90 v.2.1 (ak9 1 3 0 1 255 v.1 s)))
def aaf (s:Rd):V4×Rd:=
 (((qq 1 3 0 1 255 s).1,(qq 1 2 0 0 90 (qq 1 3 0 1 255 s).2).1,(qq 1 3 0 0 359 (qq 1 2 0 0 90 (qq 1 3 0 1 255 s).2).2).1,(qq 1 2 0 0 99 (qq 1 3 0 0 359 (qq 1 2 0 0 90 (qq 1 3 0 1 255 s).2).2).2).1),
   (qq 1 2 0 0 99 (qq 1 3 0 0 359 (qq 1 2 0 0 90 (qq 1 3 0 1 255 s).2).2).2).2)
def axi (l:List V4) (s:Rd):Rd:=l.foldl (fun s v=>axh v s) s
def jx:Nat→Rd→List V4×Rd
 | 0,s=>([],s)
 | k+1,s=>((aaf s).1::(jx k (aaf s).2).1,(jx k (aaf s).2).2)
theorem bab {s:Rd} (h:(aaf s).2.1=0) :
 s.1=0∧∃T R v T',s.2=T++R∧T.length=4∧T'.length=4∧aaf s=(v,(0,R)) ∧(∀l,axh v (0,l)=(0,l++T'))∧xg T' T∧∀R,aaf (0,T'++R)=(v,(0,R)):=by
 obtain⟨d1,t4,R4,n4,d2,d3,u4,d4,d5,d6⟩:=afl h;obtain⟨c1,t3,R3,n3,c2,c3,u3,c4,c5,c6⟩:=afl d1;obtain⟨b1,t2,R2,n2,b2,b3,u2,b4,b5,b6⟩:=afl c1;obtain⟨a1,t1,R1,n1,a2,a3,u1,a4,a5,a6⟩:=afl b1;rw[a3]at b2 b3 c2 c3 d2 d3;simp only at b2 b3 c2 c3 d2 d3;subst b2;rw[b3]at c2 c3 d2 d3;simp only at c2 c3 d2 d3;subst c2;rw[c3]at d2 d3;simp only at d2 d3;subst d2;refine⟨a1,[t1,t2,t3,t4],R4,(n1,n2,n3,n4),[u1,u2,u3,u4],a2,rfl,rfl,?_,fun l=>?_,?_,fun R=>?_⟩
 ·unfold aaf;rw[a3];simp only;rw[b3];simp only;rw[c3];simp only;rw[d3]
 ·unfold axh;simp only;rw[a4,b4,c4,d4];simp
 ·exact xg.cons (a5 rfl) (xg.cons (b5 rfl) (xg.cons (c5 rfl) (xg.cons (d5 rfl) (xg.nil _))))
 ·unfold aaf;simp only[List.cons_append,List.nil_append,a6,b6,c6,d6]
theorem xg.append {T U T' U':List ByteArray} (h:xg T U) (hl:T.length=U.length) (k:xg T' U'):xg (T++T') (U++U'):=by
 intro i a b h1 h2;rcases Nat.lt_or_ge i T.length with q|q
 ·rw[List.getElem?_append_left q]at h1;rw[List.getElem?_append_left om]at h2;exact h i a b h1 h2
 ·rw[List.getElem?_append_right q]at h1;rw[List.getElem?_append_right om,← hl]at h2;exact k _ a b h1 h2
theorem aqd:∀(k:Nat) (s:Rd),(jx k s).2.1=0 →
 s.1=0∧∃T R l T',s.2=T++R∧T.length=4*k∧T'.length=4*k∧l.length=k∧jx k s=(l,(0,R)) ∧(∀L,axi l (0,L)=(0,L++T'))∧xg T' T∧∀R,jx k (0,T'++R)=(l,(0,R))
 | 0,s,h=>⟨h,[],s.2,[],[],rfl,rfl,rfl,rfl,Prod.ext rfl (Prod.ext h rfl),fun L=>by rw[List.append_nil];rfl,xg.nil _,fun R=>rfl⟩
 | k+1,s,h=>by
  obtain⟨h1,T,R,l,T',h2,h3,h4,h5,h6,h7,h8,h9⟩:=aqd k (aaf s).2 h;obtain⟨g1,U,R',v,U',g2,g3,g4,g5,g6,g7,g8⟩:=bab h1;rw[g5]at h2 h6;simp only at h2 h6;subst h2;refine⟨g1,U++T,R,v::l,U'++T',by rw[g2,List.append_assoc],by simp[g3,h3];omega,by simp[g4,h4];omega,by simp[h5],?_,fun L=>?_,xg.append g7 om h8,fun R=>?_⟩
  ·show ((aaf s).1::(jx k (aaf s).2).1,(jx k (aaf s).2).2)=_;rw[g5];simp only;rw[h6]
  ·show axi l (axh v (0,L))=_;rw[g6,h7,List.append_assoc]
  ·show ((aaf (0,U'++T'++R)).1::(jx k (aaf (0,U'++T'++R)).2).1,(jx k (aaf (0,U'++T'++R)).2).2)=_;rw[List.append_assoc,g8];simp only;rw[h9]
structure a2p where
 T:Int
 N:Int
 S:Int
 L:List V4
def vt:a2p:=⟨0,0,0,[]⟩
def ap7 (m:a2p):List ByteArray×Int:=if 4<m.L.length then([],7)else axg (axi m.L (ak9 1 2 0 0 99 (true,m.S) (ai5 1 (min m.T 9) m.N (ai5 1 9 m.T (0,[])))))
def abh (s:Rd):Int×Rd:=((qq 1 2 0 0 99 s).1.2,if(qq 1 2 0 0 99 s).1.1=true then(qq 1 2 0 0 99 s).2 else xq 3 (qq 1 2 0 0 99 s).2)
def auh (n:Nat):Prop:=n<3∨19<n∨n%4≠3
instance (n:Nat):Decidable (auh n):=by unfold auh;infer_instance
def zw (R:List ByteArray):a2p×Int:=
 if auh R.length then(vt,3)
 else if(jx ((R.length-3) / 4) (abh (zi 1 (zi 1 9 (0,R)).1 (zi 1 9 (0,R)).2).2).2).2.1=0 then
  (⟨(zi 1 9 (0,R)).1,(zi 1 (zi 1 9 (0,R)).1 (zi 1 9 (0,R)).2).1,(abh (zi 1 (zi 1 9 (0,R)).1 (zi 1 9 (0,R)).2).2).1,(jx ((R.length-3) / 4) (abh (zi 1 (zi 1 9 (0,R)).1 (zi 1 9 (0,R)).2).2).2).1⟩,0)
 else(vt,(jx ((R.length-3) / 4) (abh (zi 1 (zi 1 9 (0,R)).1 (zi 1 9 (0,R)).2).2).2).2.1)
theorem a98 {s:Rd} (h:(abh s).2.1=0):s.1=0∧∃t R n,s.2=t::R∧abh s=(n,(0,R))∧∃t',(∀l,ak9 1 2 0 0 99 (true,n) (0,l)=(0,l++[t']))∧t'.size≤t.size∧∀R,abh (0,t'::R)=(n,(0,R)):=by
 by_cases hb:(qq 1 2 0 0 99 s).1.1=true
 ·have hr:abh s=((qq 1 2 0 0 99 s).1.2,(qq 1 2 0 0 99 s).2):=by unfold abh;rw[if_pos hb]
  rw[hr]at h;obtain⟨h1,t,R,n,h2,h3,t',h4,h5,h6⟩:=afl h;rw[h3]at hb hr;obtain⟨b,n⟩:=n;simp only at hb hr;subst hb;refine⟨h1,t,R,n,h2,hr,t',h4,h5 rfl,fun R=>?_⟩;unfold abh;rw[h6];rfl
 ·unfold abh at h;rw[if_neg hb]at h;exact absurd (v4 h).2 dc
theorem avc {R:List ByteArray} (h:(zw R).2=0):(zw R).1.L.length≤4 ∧(ap7 (zw R).1).2=0 ∧(ap7 (zw R).1).1.length=R.length∧xg (ap7 (zw R).1).1 R:=by
 by_cases hb:auh R.length
 ·unfold zw at h;rw[if_pos hb]at h;exact absurd h dc
 ·have hb2:=hb;unfold auh at hb2
  by_cases h0:(jx ((R.length-3) / 4) (abh (zi 1 (zi 1 9 (0,R)).1 (zi 1 9 (0,R)).2).2).2).2.1=0
  ·have ht:zw R=(⟨(zi 1 9 (0,R)).1,(zi 1 (zi 1 9 (0,R)).1 (zi 1 9 (0,R)).2).1,(abh (zi 1 (zi 1 9 (0,R)).1 (zi 1 9 (0,R)).2).2).1,(jx ((R.length-3) / 4) (abh (zi 1 (zi 1 9 (0,R)).1 (zi 1 9 (0,R)).2).2).2).1⟩,0):=by
    unfold zw;rw[if_neg hb,if_pos h0]
   obtain⟨h1,V,R4,L,V',h2,h3,h4,h5,h6,h7,h8,h9⟩:=aqd _ _ h0;obtain⟨g1,t3,R3,n3,g2,g3,u3,g4,g5,g6⟩:=a98 h1
   have hT9:(zi 1 9 (0,R)).1≤9:=by
    unfold zi
    split
    ·rename_i q;exact(a64 q).2.1
    ·exact(by decide:(0:Int)≤9)
   obtain⟨f1,t2,R2,n2,f2,f3,f4,f5,f6,f7,f8⟩:=a0g om hT9 g1;obtain⟨e1,t1,R1,n1,e2,e3,e4,e5,e6,e7,e8⟩:=a0g om om f1;rw[e3]at f2 f3 f5 f7 f8 g2 g3 h2 h6 ht;simp only at f2 f3 f5 f7 f8 g2 g3 h2 h6 ht;subst f2;rw[f3]at g2 g3 h2 h6 ht;simp only at g2 g3 h2 h6 ht;subst g2;rw[g3]at h2 h6 ht;simp only at h2 h6 ht;subst h2;rw[h6]at ht;simp only at ht e2;subst e2;have hlen:¬4<L.length:=by simp only[List.length_cons,List.length_append]at h5 hb2;omega
   have hp:ap7 ⟨n1,n2,n3,L⟩=(alk n1::alk n2::u3::V',0):=by
    unfold ap7;rw[if_neg hlen];simp only;rw[show min n1 9=n1 from by omega,e7,f7,g4,h7];simp[axg]
   rw[ht];simp only;rw[hp]
   have hR4:R4=[]:=by
    have h10:(t1::t2::t3::(V++R4)).length=3+4*((t1::t2::t3::(V++R4)).length-3) / 4+R4.length-0:=by
     simp only[List.length_cons,List.length_append]at h3 hb2 ⊢;omega
    exact List.eq_nil_of_length_eq_zero (by simp only[List.length_cons,List.length_append]at h3 hb2;omega)
   subst hR4;refine⟨by omega,rfl,?_,?_⟩
   ·simp only[List.length_cons,List.length_append,List.length_nil]at h3 h4 ⊢;omega
   ·rw[List.append_nil];exact xg.cons (by rw[alm];omega) (xg.cons (by rw[alm];omega) (xg.cons g5 h8))
  ·unfold zw at h;rw[if_neg hb,if_neg h0]at h;exact absurd h h0
theorem a53 {R:List ByteArray} (h:(zw R).2≠0):(zw R).1=vt:=by
 unfold zw at h ⊢
 split at h
 ·rename_i q;rw[if_pos q]
 ·rename_i q;rw[if_neg q]
  split at h
  ·exact absurd rfl h
  ·rename_i q2;rw[if_neg q2]
def qw (g:Nat) (s:Rd) (w:World):Prop:=∃Q,ach Q w g s.1 s.2 ∧(∀b,Q b→b<g)∧∀t∈s.2,t.size≤1000000
theorem qw.keep {g:Nat} {s:Rd} {w w':World} (h:qw g s w) (hb:Below w.1.size w w'):qw g s w':=by
 obtain⟨Q,h1,h2,h3⟩:=h;exact⟨Q,h1.keep hb,h2,h3⟩
theorem qw.far {g G o:Nat} {s:Rd} {w:World} {u:Value} (h:qw g s w) (hG:g<G):qw g s (w.setCell ⟨G,o,none⟩ u):=by
 obtain⟨Q,h1,h2,h3⟩:=h;exact⟨Q,h1.far (fun q=>by have:=h2 _ q;omega) om,h2,h3⟩
theorem qw.lt {g:Nat} {s:Rd} {w:World} (h:qw g s w):g<w.1.size:=by
 obtain⟨Q,⟨A,c,h0,h1,h2,h3,h4,-⟩,-⟩:=h;exact h4
theorem agk {l:List ByteArray} {N:Nat} (h:∀t∈l,t.size≤N):∀t∈l.tail,t.size≤N:=fun t ht=>h t (List.mem_of_mem_tail ht)
theorem ag7 {l:List ByteArray} {N:Nat} (h:∀t∈l,t.size≤N):(l.headD ByteArray.empty).size≤N:=by
 cases l with
 | nil=>simp
 | cons a l=>exact h a (List.mem_cons_self ..)
def jv (g:Nat) (x:Value) (s:Rd) (w:World) (r:Ending) (w':World):Prop:=r=.returned x∧qw g s w'∧Frm g vj w w'
theorem qw.post {Q:Nat→Prop} {g:Nat} {x:Value} {s:Rd} {w w':World} {r:Ending} (h2:∀b,Q b→b<g) (h3:∀t∈s.2,t.size≤1000000) (h:ab6 Q g x s.1 s.2 w r w'):jv g x s w r w':=
 ⟨h.1,⟨Q,h.2.1,h2,h3⟩,h.2.2⟩
theorem km {g:Nat} {s t:Rd} {w:World} {b:Bool} {n W M F L H:Int} (ht:Hid (qq W M F L H s=((b,n),t))) (hp:qw g s w) :
 Calls prog 136 #[.pointer (some ⟨g,0,none⟩),j7 W M F L H] w (jv g (jo b n) t w):=by
 have ht:=ht.out;have hg:=hp.lt;obtain⟨Q,h1,h2,h3⟩:=hp;injection ht with e1 e2
 injection e1 with e3 e4
 subst e2 e3 e4;exact(a2n g s.1 s.2 W M F L H w h1 (fun b q=>Nat.lt_trans (h2 b q) hg) hg (ag7 h3)).mono fun r w' h=>qw.post (s:=(qq W M F L H s).2) h2 (agk h3) h
theorem zc {g:Nat} {s t:Rd} {w:World} {a:ByteArray} (ht:Hid (qt s=(a,t))) (hp:qw g s w) :
 Calls prog 152 #[.pointer (some ⟨g,0,none⟩)] w (jv g (.string a) t w):=by
 have ht:=ht.out;obtain⟨Q,h1,h2,h3⟩:=hp;injection ht with e1 e2
 subst e1 e2;exact(aep g s.1 s.2 w h1).mono fun r w' h=>qw.post (s:=(qt s).2) h2 (agk h3) h
theorem xl {g:Nat} {s t:Rd} {w:World} {E:Int} (ht:Hid (xq E s=t)) (hp:qw g s w) :
 Calls prog 149 #[.pointer (some ⟨g,0,none⟩),.int .i64 E] w (jv g (.tuple #[]) t w):=by
 have ht:=ht.out;obtain⟨Q,h1,h2,h3⟩:=hp;subst ht;exact(agy g s.1 E s.2 w h1).mono fun r w' h=>qw.post (s:=xq E s) h2 h3 h
theorem apk {g:Nat} {s:Rd} {w:World} (hp:qw g s w) :
 Calls prog 147 #[.pointer (some ⟨g,0,none⟩)] w fun r w'=>r=.returned (.int .i64 s.1)∧w=w':=by
 obtain⟨Q,h1,h2,h3⟩:=hp;exact a2m g s.1 s.2 w h1
theorem aj9 {g:Nat} {s:Rd} {w:World} (hp:qw g s w) :
 Calls prog 175 #[.pointer (some ⟨g,0,none⟩)] w fun r w'=>r=.returned (.int .i64 (s.2.length:Int))∧w=w':=by
 obtain⟨Q,h1,h2,h3⟩:=hp;exact axn g s.1 s.2 w h1
theorem aka {A:Option Addr} {R:List ByteArray} {c:Nat} {w:World} (hA:A=none→c=0) (hs:vy w w.1.size A R) (hn:R.length≤1000000) (ht:∀t∈R,t.size≤1000000) :
 Calls prog 135 #[.slice A R.length c] w fun r w'=>∃g,r=.returned (.pointer (some ⟨g,0,none⟩))∧qw g (0,R) w'∧w.1.size≤g∧w'.1.size=g+1∧Below w.1.size w w':=
 (bb6 A R c w hA hs hn).mono fun r w' ⟨g,h1,h2,h3,h4,h5⟩=>⟨g,h1,⟨_,h2,fun b q=>q.2,ht⟩,h3,h4,h5⟩
def ait (s:Rd):Clk×Rd:=((aag (qt s).1.data.toList).1,xq (aag (qt s).1.data.toList).2 (qt s).2)
def a0f (s:Rd):Dat×Rd:=((acf (qt s).1.data.toList).1,xq (acf (qt s).1.data.toList).2 (qt s).2)
def ade (lat:Bool) (s:Rd):(Bool×Int)×Rd:=
 (((aa7 (s.2.headD ByteArray.empty).data.toList (s.2.tail.headD ByteArray.empty) lat).1,(aa7 (s.2.headD ByteArray.empty).data.toList (s.2.tail.headD ByteArray.empty) lat).2.1),
   (aay (adf (adf s.1 s.2) s.2.tail) (aa7 (s.2.headD ByteArray.empty).data.toList (s.2.tail.headD ByteArray.empty) lat).2.2,s.2.tail.tail))
theorem auw {g:Nat} {s t:Rd} {w:World} {lat b:Bool} {n:Int} (ht:Hid (ade lat s=((b,n),t))) (hp:qw g s w) :
 Calls prog 137 #[.pointer (some ⟨g,0,none⟩),.bool lat] w (jv g (jo b n) t w):=by
 have ht:=ht.out;have hg:=hp.lt;obtain⟨Q,h1,h2,h3⟩:=hp;injection ht with e1 e2
 injection e1 with e3 e4
 subst e2 e3 e4;exact(at5 g s.1 s.2 lat w h1 (fun b q=>Nat.lt_trans (h2 b q) hg) hg (ag7 h3)).mono fun r w' h=>qw.post (s:=(ade lat s).2) h2 (agk (agk h3)) h
def agv {α β:Type} (f:Rd→α×Rd) (g:Rd→β×Rd) (s:Rd):(α×β)×Rd:=(((f s).1,(g (f s).2).1),(g (f s).2).2)
abbrev N2:=Bool×Int
def zN:N2:=(false,0)
abbrev at7:=Clk×N2×N2×Int×N2×N2×N2×N2×N2×N2
def bjs:Cl:=⟨1,6,1,-9999999,9999999,⟨#[77]⟩⟩
def bj1:Cl:=⟨1,4,1,-99999,99999,⟨#[77]⟩⟩
def bde:Rd→at7×Rd:=agv ait (agv (ade true) (agv (ade false) (agv (zi 0 8) (agv (qq 1 2 0 0 99) (agv (qq 1 3 2 0 99999) (agv (v7 bjs) (agv (v7 bj1) (agv (qq 1 4 1 0 99999) (qq 1 4 0 0 1023)))))))))
def yz:at7:=(zC,zN,zN,0,zN,zN,zN,zN,zN,zN)
def yb (R:List ByteArray):at7×Int:=if R.length≠14 then(yz,3)else if(bde (0,R)).2.1=0 then((bde (0,R)).1,0)else(yz,(bde (0,R)).2.1)
def a99 (s:Rd):Bool×Rd:=(decide ((qt s).1=⟨#[65]⟩),if(qt s).1 ≠⟨#[65]⟩ ∧(qt s).1 ≠⟨#[86]⟩then xq 3 (qt s).2 else(qt s).2)
def eT:ByteArray:=⟨#[69]⟩
def wT:ByteArray:=⟨#[87]⟩
def bfb (n:N2) (d:ByteArray) (s:Rd):N2×Rd:=
 if(n.1=true∧d≠eT∧d≠wT) ∨(n.1=false∧d≠ByteArray.empty)then(n,xq 3 s)else if d=wT then((n.1,-n.2),s)else(n,s)
def atm (s:Rd):N2×Rd:=bfb (qq 1 3 1 0 1800 s).1 (qt (qq 1 3 1 0 1800 s).2).1 (qt (qq 1 3 1 0 1800 s).2).2
abbrev at9:=Clk×Bool×N2×N2×N2×N2×Dat×N2
def be4:Rd→at9×Rd:=agv ait (agv a99 (agv (ade true) (agv (ade false) (agv (qq 1 4 2 0 999999) (agv (qq 1 3 2 0 36000) (agv a0f atm))))))
def aaa:at9:=(zC,false,zN,zN,zN,zN,zD,zN)
def yc (R:List ByteArray):at9×Int:=
 if R.length≠11∧R.length≠12 then(aaa,3)else if(aae (be4 (0,R)).2).1=0 then((be4 (0,R)).1,0)else(aaa,(aae (be4 (0,R)).2).1)
variable {Q : Nat → Prop}
theorem ach.other {w w':World} {g g':Nat} {e:Int} {R:List ByteArray} {v:Value} (h:ach Q w g e R) (hf:Frm g' v w w') (h1:g≠g') (h2:v.ownBlock≠some g) (h3:∀b,Q b→b≠g'∧v.ownBlock≠some b):ach Q w' g e R:=by
 obtain⟨A,c,p0,p1,p2,p3,p4,p5,hB,p6,p7,p8⟩:=h;refine⟨A,c,(hf.cell p4 h1 h2).trans p0,(hf.cell p4 h1 h2).trans p1,(hf.cell p4 h1 h2).trans p2,fun o=>(World.frozen?_of_block (a:=⟨g,o,none⟩) (hf.block g p4 h1 h2)).trans (p3 o),Nat.lt_of_lt_of_le p4 hf.size,fun k hk=>?_,fun b q=>Nat.lt_of_lt_of_le (hB b q) hf.size,p6,p7,p8⟩;obtain⟨b,off,e1,e2,e3⟩:=p5 k hk;exact⟨b,off,e1,e2,(hf.cell (hB b e2) (h3 b e2).1 (h3 b e2).2).trans e3⟩
section
variable {w wx w' : World} {Qr Qs : Nat → Prop} {gp gr gq gs base : Nat} {ep eq er es : Int} {vp vq : Value} {Lp Lq R S : List ByteArray}
end
