/- Parts. -/
import Derived.Test.YtdkhlkfleggbaaaGreatU10
import Derived.Deep.RegionWith
namespace Go.Proofs.YtdkhlkfleggbaaaGreat
set_option maxHeartbeats 8000000
set_option maxRecDepth 8000
open Lib (hid)
open Tryz
set_option linter.unusedVariables false
open Go.RowKit
variable {Q : Nat → Prop}
abbrev ay1 (W M F L H:Int):Obj:=.cells #[.int .i64 W,.int .i64 M,.int .i64 F,.int .i64 L,.int .i64 H] 292
abbrev za (b:Bool) (n:Int):Obj:=.cells #[.bool b,.int .i64 n] 42
theorem Frm.step {g:Nat} {w w1 w2:World} (h:Frm g vi w w1) (k:Frm g vi w1 w2):Frm g vi w w2:=h.trans k (.inl rfl)
theorem qi {g:Nat} {w w':World} (h:Frm g vi w w') {b:Nat} (hb:b<w.1.size) (hg:b≠g):∀o,w'.cell? ⟨b,o,none⟩=w.cell? ⟨b,o,none⟩:=fun o=>h.cell hb hg (by simp[Value.ownBlock])
theorem qx {g:Nat} {w w':World} (h:Frm g vi w w') {b:Nat} (hb:b<w.1.size) (hg:b≠g):∀o,w'.frozen? ⟨b,o,none⟩=w.frozen? ⟨b,o,none⟩:=fun o=>b1l (a:=⟨b,o,none⟩) (h.block b hb hg (by simp[Value.ownBlock]))
theorem ack.far {w:World} {g G o:Nat} {e:Int} {R:List ByteArray} {u:Value} (h:ack Q w g e R) (hG:¬Q G) (hg:G≠g):ack Q (w.setCell ⟨G,o,none⟩ u) g e R:=by
 obtain⟨A,c,h0,h1,h2,h3,h4,h5,hB,h6,h7,h8⟩:=h;have k:∀j,(w.setCell ⟨G,o,none⟩ u).cell? ⟨g,j,none⟩=w.cell? ⟨g,j,none⟩:=fun j=>a9 _ _ _ _ (fun q=>by injection q with q;exact hg q)
 refine⟨A,c,(k 0).trans h0,(k 1).trans h1,(k 2).trans h2,fun o=>by simpa using h3 o,by simpa using h4,fun j hj=>?_,by simpa using hB,h6,h7,h8⟩;obtain⟨b,off,e1,e2,e3⟩:=h5 j hj;exact⟨b,off,e1,e2,(a9 _ _ _ _ (fun q=>hG (by injection q with q;rw[q];exact e2))).trans e3⟩
theorem Frm.put {g G o:Nat} {w w1:World} {u:Value} (h:Frm g vi w w1) (hG:w.1.size≤G):Frm g vi w (w1.setCell ⟨G,o,none⟩ u):=
 ⟨h.os,h.tape,h.output,by simpa using h.size,fun k hk h1 h2=>(b1r _ _ _ _ (by show k≠G;omega)).trans (h.block k hk h1 h2)⟩
def bjq (w:World) (w':World):Prop:=w'.cell? ⟨w.1.size+1+1,0,none⟩=some (.bool false)∧w'.cell? ⟨w.1.size+1+1,1,none⟩=some (.int .i64 0)∧w'.frozen? ⟨w.1.size+1+1,0,none⟩=false∧w'.frozen? ⟨w.1.size+1+1,1,none⟩=false∧w.1.size+1+1<w'.1.size
def aoy (Q:Nat→Prop) (w:World) (g:Nat) (e1:Int) (R1:List ByteArray) (W M F L H:Int) (w':World):Prop:=
 Hid (ack Q w' g e1 R1)∧Hid (Frm g vi w w')∧w'.cell? ⟨w.1.size,0,none⟩=some (.int .i64 W)∧w'.cell? ⟨w.1.size,1,none⟩=some (.int .i64 M)∧w'.cell? ⟨w.1.size,2,none⟩=some (.int .i64 F)∧w'.cell? ⟨w.1.size,3,none⟩=some (.int .i64 L)∧w'.cell? ⟨w.1.size,4,none⟩=some (.int .i64 H)∧Hid (∀o,w'.cell? ⟨w.1.size+1,o,none⟩=(#[Value.bool false,.int .i64 0]:Array Value)[o]?)∧Hid (∀o,w'.frozen? ⟨w.1.size+1,o,none⟩=false)∧w.1.size+1<w'.1.size∧w.1.size<w'.1.size
def aon (Q:Nat→Prop) (w:World) (g:Nat) (e1:Int) (R1:List ByteArray) (b:Bool) (n E:Int) (s5 s6:Value) (wx:World):Prop:=
 ∃G,s5=.pointer (some ⟨G,0,none⟩)∧s6=.int .i64 E∧wx.cell? ⟨G,0,none⟩=some (.bool b)∧wx.cell? ⟨G,1,none⟩=some (.int .i64 n) ∧(∀o,wx.cell? ⟨w.1.size+1,o,none⟩=(#[Value.bool false,.int .i64 0]:Array Value)[o]?)∧Hid (Frm g vi w wx)∧G<wx.1.size∧w.1.size+1<G ∧(∀o,wx.frozen? ⟨w.1.size+1,o,none⟩=false)∧Hid (ack Q wx g e1 R1)
theorem ar9 {w W0 w1:World} {g:Nat} {e1:Int} {R1:List ByteArray} {b:Bool} {n E:Int} (hb:Below W0.1.size W0 w1) (h0:∀o,W0.cell? ⟨w.1.size+1,o,none⟩=(#[Value.bool false,.int .i64 0]:Array Value)[o]?) (hz:w.1.size+1<W0.1.size) (hfz:∀o,W0.frozen? ⟨w.1.size+1,o,none⟩=false) (hf:Frm g vi w W0) (hr:ack Q W0 g e1 R1) :
 aon Q w g e1 R1 b n E (.pointer (some ⟨w1.1.size,0,none⟩)) (.int .i64 E) (w1.alloc (za b n)):=by
 have hz1:=hb.size;exact⟨w1.1.size,rfl,rfl,by simp[b8],by simp[b8],fun o=>(n5 _ _ _ om).trans (((qy hb).1 _ o hz).trans (h0 o)),hid ((hf.then_below hb).then_below (qa _ _)),by simp,by omega,fun o=>by rw[i9,(qy hb).2 _ o hz,hfz],hid ((hr.keep hb).keep (qa _ _))⟩
theorem ahl {w W0 w1:World} {g:Nat} {e1:Int} {R1:List ByteArray} {b:Bool} {n E:Int} {G:Nat} (hb:Below W0.1.size W0 w1) (hBw:∀b,Q b→b<w.1.size) (hg:g<w.1.size) (g0:W0.cell? ⟨G,0,none⟩=some (.bool false)) (g1:W0.cell? ⟨G,1,none⟩=some (.int .i64 0)) (hG:w.1.size+1<G) (hG2:G<W0.1.size) (h0:∀o,W0.cell? ⟨w.1.size+1,o,none⟩=(#[Value.bool false,.int .i64 0]:Array Value)[o]?) (hfz:∀o,W0.frozen? ⟨w.1.size+1,o,none⟩=false) (hf:Frm g vi w W0) (hr:ack Q W0 g e1 R1) :
 aon Q w g e1 R1 b n E (.pointer (some ⟨G,0,none⟩)) (.int .i64 E) ((w1.setCell ⟨G,0,none⟩ (.bool b)).setCell ⟨G,1,none⟩ (.int .i64 n)):=by
 have hz1:=hb.size;obtain⟨p0,p1⟩:=zj w1 G (.bool b) (.int .i64 n) _ _ (((qy hb).1 G 0 hG2).trans g0) (((qy hb).1 G 1 hG2).trans g1);have hne:∀o j,(⟨G,j,none⟩:Addr) ≠⟨w.1.size+1,o,none⟩:=fun o j e=>by injection e with e;omega
 have k:∀o,((w1.setCell ⟨G,0,none⟩ (.bool b)).setCell ⟨G,1,none⟩ (.int .i64 n)).cell? ⟨w.1.size+1,o,none⟩=w1.cell? ⟨w.1.size+1,o,none⟩:=fun o=>by
  rw[a9 _ _ _ _ (hne o 1),a9 _ _ _ _ (hne o 0)]
 refine⟨G,rfl,rfl,p0,p1,fun o=>(k o).trans (((qy hb).1 _ o om).trans (h0 o)),hid (((hf.then_below hb).put om).put om),by simp;omega,hG,fun o=>?_,hid (((hr.keep hb).far (fun q=>by have:=hBw _ q;omega) om).far (fun q=>by have:=hBw _ q;omega) om)⟩;simp only[b3k];rw[(qy hb).2 _ o om,hfz]
theorem a27 (g:Nat) (e:Int) (R:List ByteArray) (W M F L H:Int) (w:World) (h:ack Q w g e R) (hBw:∀b,Q b→b<w.1.size) (hgw:g<w.1.size) (hsz:(R.headD ByteArray.empty).size≤1000000) :
 Calls prog 136 #[.pointer (some ⟨g,0,none⟩),j7 W M F L H] w (ab9 Q g (jo (jz (R.headD ByteArray.empty).data.toList W M F L H).1 (jz (R.headD ByteArray.empty).data.toList W M F L H).2.1) (aa1 (ada e R) (jz (R.headD ByteArray.empty).data.toList W M F L H).2.2) R.tail w):=by
 have HT:=fun W' hb=>hid (aen g e R W' (h.keep (w':=W') hb))
 have HA:=fun W'=>hid (a3f (R.headD ByteArray.empty) W M F L H W' hsz)
 generalize R.headD ByteArray.empty=s at *;generalize (jz s.data.toList W M F L H).1=X1 at *;generalize (jz s.data.toList W M F L H).2.1=X2 at *;generalize (jz s.data.toList W M F L H).2.2=E at *;generalize ada e R=e1 at *;generalize R.tail=R1 at *;have HFL:=fun W' hr=>hid (ag6 (Q:=Q) g e1 E R1 W' hr)
 clear h hsz;have HS:Hid (∀o,((w.alloc (ay1 W M F L H)).alloc (za false 0)).cell? ⟨w.1.size+1,o,none⟩=(#[Value.bool false,.int .i64 0]:Array Value)[o]?):=fun o=>by rw[b8 _ _ _ _ sm]
 have HZ:Hid (∀o,((w.alloc (ay1 W M F L H)).alloc (za false 0)).frozen? ⟨w.1.size+1,o,none⟩=false):=fun o=>by rw[i9,i9];exact qk _ _ _ om
 have HBl:Hid (Below w.1.size w ((w.alloc (ay1 W M F L H)).alloc (za false 0))):=qb (qa w _) (qa _ _)
 have HTL:Hid (Calls prog 152 #[.pointer (some ⟨g,0,none⟩)] ((w.alloc (ay1 W M F L H)).alloc (za false 0)).drew fun r w'=>r=.returned (.string s)∧aoy Q w g e1 R1 W M F L H w'):=(HT _ (aca HBl.out)).out.mono (by
  rintro r w' ⟨rfl,hr1,hf1⟩;have hs:((w.alloc (ay1 W M F L H)).alloc (za false 0)).drew.1.size=w.1.size+2:=by show (World.alloc _ _).1.size=_;simp
  have k:=hf1.size;have kc:∀o,w'.cell? ⟨w.1.size,o,none⟩=(#[Value.int .i64 W,.int .i64 M,.int .i64 F,.int .i64 L,.int .i64 H]:Array Value)[o]?:=fun o=>(qi hf1 om om o).trans ((n5 _ _ _ sm).trans (b8 _ _ _ _ rfl))
  exact⟨rfl,hid hr1,hid ((Frm.of_below (aca HBl.out)).step hf1),kc 0,kc 1,kc 2,kc 3,kc 4,hid fun o=>(qi hf1 om om o).trans (HS.out o),hid fun o=>(qx hf1 om om o).trans (HZ.out o),by omega,by omega⟩)
 have HTE:Hid (Calls prog 152 #[.pointer (some ⟨g,0,none⟩)] (((w.alloc (ay1 W M F L H)).alloc (za false 0)).alloc (za false 0)).drew fun r w'=>r=.returned (.string s)∧aoy Q w g e1 R1 W M F L H w'∧Hid (bjq w w')):=(HT _ (aca (qb HBl.out (qa _ _)))).out.mono (by
  rintro r w' ⟨rfl,hr1,hf1⟩;have hs:(((w.alloc (ay1 W M F L H)).alloc (za false 0)).alloc (za false 0)).drew.1.size=w.1.size+3:=by show (World.alloc _ _).1.size=_;simp
  have k:=hf1.size;have kc:∀o,w'.cell? ⟨w.1.size,o,none⟩=(#[Value.int .i64 W,.int .i64 M,.int .i64 F,.int .i64 L,.int .i64 H]:Array Value)[o]?:=fun o=>(qi hf1 om om o).trans ((n5 _ _ _ (by simp;omega)).trans ((n5 _ _ _ sm).trans (b8 _ _ _ _ rfl)))
  have kg:∀o,w'.cell? ⟨w.1.size+1+1,o,none⟩=(#[Value.bool false,.int .i64 0]:Array Value)[o]?:=fun o=>(qi hf1 om om o).trans (b8 _ _ _ _ sm)
  have fg:∀o,w'.frozen? ⟨w.1.size+1+1,o,none⟩=false:=fun o=>(qx hf1 (b:=w.1.size+2) om om o).trans (by
   show (World.alloc _ _).frozen? _=false;rw[i9,i9,i9];exact qk _ _ _ om)
  exact⟨rfl,⟨hid hr1,hid ((Frm.of_below (aca (qb HBl.out (qa _ _)))).step hf1),kc 0,kc 1,kc 2,kc 3,kc 4,hid fun o=>(qi hf1 om om o).trans ((n5 _ _ _ sm).trans (HS.out o)),hid fun o=>(qx hf1 om om o).trans (by
   show (World.alloc _ _).frozen? _=false;rw[i9];exact HZ.out o),by omega,by omega⟩,hid ⟨kg 0,kg 1,fg 0,fg 1,by omega⟩⟩)
 have HTE2:Hid (Calls prog 152 #[.pointer (some ⟨g,0,none⟩)] (((w.alloc (ay1 W M F L H)).alloc (za false 0)).drew.alloc (za false 0)) fun r w'=>r=.returned (.string s)∧aoy Q w g e1 R1 W M F L H w'∧Hid (bjq w w')):=HTE;clear HT;go_enter func136,ntmps136;go_upto_region 1 with fail
 go_cut [5,6] (fun s5 s6 wx=>Hid (aon Q w g e1 R1 X1 X2 E s5 s6 wx))
 case first=>
  go_region_with (first|(refine HTE2.out.mono ?_;rintro r w' ⟨rfl,⟨hr1,hf1,t0,t1,t2,t3,t4,hcs,hfs,hzt,hzt0⟩,hE⟩)|(refine HTE.out.mono ?_;rintro r w' ⟨rfl,⟨hr1,hf1,t0,t1,t2,t3,t4,hcs,hfs,hzt,hzt0⟩,hE⟩)|(refine HTL.out.mono ?_;rintro r w' ⟨rfl,hr1,hf1,t0,t1,t2,t3,t4,hcs,hfs,hzt,hzt0⟩)|(go_at_call 206;refine(HA _).out.mono ?_;rintro r w1 ⟨rfl,hb1⟩;obtain⟨c1,f1⟩:=qy hb1;have hz:=hb1.size;try (obtain⟨s0,s1,v0,v1,hzg⟩:=hE.out;have u0:=(c1 _ 0 hzg).trans s0;have u1:=(c1 _ 1 hzg).trans s1;have x0:=(f1 _ 0 hzg).trans v0;have x1:=(f1 _ 1 hzg).trans v1)))
  all_goals go_wp2_with fail
  all_goals go_meet
  all_goals first
   | exact hid (ar9 hb1 hcs.out hzt hfs.out hf1.out hr1.out)
   | exact hid (ahl hb1 hBw hgw s0 s1 om hzg hcs.out hfs.out hf1.out hr1.out)
   | exact hid (ahl hb1 hBw hgw (b8 _ _ _ _ rfl) (b8 _ _ _ _ rfl) hzt sm (fun o=>(n5 _ _ _ hzt).trans (hcs.out o)) (fun o=>by rw[i9];exact hfs.out o) (hf1.out.then_below (qa _ _)) (hr1.out.keep (qa _ _)))
 case rest=>
  obtain⟨G,rfl,rfl,g0,g1,hq,hf,hG,hG2,hfz,hr⟩:=hcut.out;have q0:=hq 0;have q1:=hq 1;have z0:=hfz 0;have z1:=hfz 1;clear hfz hq HA HS HBl HZ HTL HTE;go_wp2_with fail;refine(HFL _ hr.out).out.mono ?_;rintro r w' ⟨rfl,hr2,hf2⟩;have p0:w'.cell? ⟨w.1.size+1,0,none⟩=some (.bool false):=(qi hf2 om om 0).trans q0;have p1:w'.cell? ⟨w.1.size+1,1,none⟩=some (.int .i64 0):=(qi hf2 om om 1).trans q1;have y0:=(qx hf2 (b:=w.1.size+1) om om 0).trans z0;have y1:=(qx hf2 (b:=w.1.size+1) om om 1).trans z1;have x0:=(qi hf2 hG om 0).trans g0;have x1:=(qi hf2 hG om 1).trans g1;have HR2:=hid hr2;have HF2:=hid (hf.out.step hf2);clear hr2 hf2 hf hr q0 q1 z0 z1 g0 g1 HFL;go_wp2_with fail;obtain⟨k0,k1⟩:=zj w' (w.1.size+1) (.bool X1) (.int .i64 X2) _ _ p0 p1;refine b9 (v:=jo X1 X2) (by simp[results,results136,go_sem,k0,k1]) rfl ⟨rfl,?_,?_⟩
  ·exact(HR2.out.far (fun q=>by have:=hBw _ q;omega) om).far (fun q=>by have:=hBw _ q;omega) om
  ·exact(HF2.out.put om).put om
variable {Q : Nat → Prop}
theorem aul (g:Nat) (e:Int) (R:List ByteArray) (lat:Bool) (w:World) (h:ack Q w g e R) (hBw:∀b,Q b→b<w.1.size) (hgw:g<w.1.size) (hsz:(R.headD ByteArray.empty).size≤1000000) :
 Calls prog 137 #[.pointer (some ⟨g,0,none⟩),.bool lat] w (ab9 Q g (jo (abc (R.headD ByteArray.empty).data.toList (R.tail.headD ByteArray.empty) lat).1 (abc (R.headD ByteArray.empty).data.toList (R.tail.headD ByteArray.empty) lat).2.1) (aa1 (ada (ada e R) R.tail) (abc (R.headD ByteArray.empty).data.toList (R.tail.headD ByteArray.empty) lat).2.2) R.tail.tail w):=by
 have HT:=fun W' hb=>hid (aen (Q:=Q) g e R W' (h.keep (w':=W') hb))
 have HU:=fun W' hr=>hid (aen (Q:=Q) g (ada e R) R.tail W' hr)
 have HA:=fun W'=>hid (ano (R.headD ByteArray.empty) (R.tail.headD ByteArray.empty) lat W' hsz)
 generalize (abc (R.headD ByteArray.empty).data.toList (R.tail.headD ByteArray.empty) lat).1=X1 at *;generalize (abc (R.headD ByteArray.empty).data.toList (R.tail.headD ByteArray.empty) lat).2.1=X2 at *;generalize (abc (R.headD ByteArray.empty).data.toList (R.tail.headD ByteArray.empty) lat).2.2=E at *;generalize R.tail.headD ByteArray.empty=d at *;generalize R.headD ByteArray.empty=s at *;generalize ada (ada e R) R.tail=e2 at *;generalize R.tail.tail=R2 at *;generalize ada e R=e1 at *;generalize R.tail=R1 at *;have HFL:=fun W' hr=>hid (ag6 (Q:=Q) g e2 E R2 W' hr)
 clear h hsz;have HS:Hid (∀o,(w.alloc (za false 0)).cell? ⟨w.1.size,o,none⟩=(#[Value.bool false,.int .i64 0]:Array Value)[o]?):=fun o=>by rw[b8 _ _ _ _ rfl]
 have HZ:Hid (∀o,(w.alloc (za false 0)).frozen? ⟨w.1.size,o,none⟩=false):=fun o=>by rw[i9];exact qk _ _ _ om
 have HBl:Hid (Below w.1.size w (w.alloc (za false 0))):=qa w _;have hs0:(w.alloc (za false 0)).1.size=w.1.size+1:=by simp
 have HS0:=hid hs0;clear hs0;go_enter func137,ntmps137;go_wp2_with fail;refine(HT _ HBl.out).out.mono ?_;rintro r w1 ⟨rfl,hr1,hf1⟩;have z1:w.1.size+1≤w1.1.size:=by have:=hf1.size;have:=HS0.out;omega
 have HQ1:Hid (∀o,w1.cell? ⟨w.1.size,o,none⟩=(#[Value.bool false,.int .i64 0]:Array Value)[o]?):=fun o=>(qi hf1 (by have:=HS0.out;omega) om o).trans (HS.out o)
 have HZ1:Hid (∀o,w1.frozen? ⟨w.1.size,o,none⟩=false):=fun o=>(qx hf1 (by have:=HS0.out;omega) om o).trans (HZ.out o)
 have HF1:=hid ((Frm.of_below (g:=g) HBl.out).step hf1);have HR1:=hid hr1;clear hr1 hf1 HS HZ HBl HS0 HT;go_wp2_with fail;refine(HU _ HR1.out).out.mono ?_;rintro r w2 ⟨rfl,hr2,hf2⟩;have z2:w.1.size+1≤w2.1.size:=o8 z1 hf2.size;have HQ2:Hid (∀o,w2.cell? ⟨w.1.size,o,none⟩=(#[Value.bool false,.int .i64 0]:Array Value)[o]?):=fun o=>(qi hf2 om om o).trans (HQ1.out o)
 have HZ2:Hid (∀o,w2.frozen? ⟨w.1.size,o,none⟩=false):=fun o=>(qx hf2 om om o).trans (HZ1.out o)
 have HF2:=hid (HF1.out.step hf2);have HR2:=hid hr2;clear hr2 hf2 HQ1 HZ1 HF1 HR1 HU;go_wp2_with fail;refine((HA _).out).mono ?_;rintro e w3 ⟨rfl,hb3⟩;have z3:w.1.size+1≤w3.1.size:=o8 z2 hb3.size;have HB3:=hid (qb hb3 (qa w3 (za X1 X2)));have HR3:=hid (HR2.out.keep HB3.out);have HF3:=hid (HF2.out.then_below HB3.out);have hq3:∀o,(w3.alloc (za X1 X2)).cell? ⟨w.1.size,o,none⟩=(#[Value.bool false,.int .i64 0]:Array Value)[o]?:=fun o=>((qy HB3.out).1 w.1.size o om).trans (HQ2.out o)
 have hz3:∀o,(w3.alloc (za X1 X2)).frozen? ⟨w.1.size,o,none⟩=false:=fun o=>((qy HB3.out).2 w.1.size o om).trans (HZ2.out o)
 have HQ3:=hid hq3;have HZ3:=hid hz3;clear hb3 hq3 hz3 HQ2 HZ2 HF2 HR2 HA HB3;go_wp2_with fail;refine(HFL _ HR3.out).out.mono ?_;rintro r w4 ⟨rfl,hr4,hf4⟩;have hs3:(w3.alloc (za X1 X2)).1.size=w3.1.size+1:=by simp
 have z4:w3.1.size+1≤w4.1.size:=by have:=hf4.size;omega
 have p0:w4.cell? ⟨w.1.size,0,none⟩=some (.bool false):=(qi hf4 om om 0).trans (HQ3.out 0);have p1:w4.cell? ⟨w.1.size,1,none⟩=some (.int .i64 0):=(qi hf4 om om 1).trans (HQ3.out 1);have y0:=(qx hf4 (b:=w.1.size) om om 0).trans (HZ3.out 0);have y1:=(qx hf4 (b:=w.1.size) om om 1).trans (HZ3.out 1);have x0:w4.cell? ⟨w3.1.size,0,none⟩=some (.bool X1):=(qi hf4 om om 0).trans (by simp[b8]);have x1:w4.cell? ⟨w3.1.size,1,none⟩=some (.int .i64 X2):=(qi hf4 om om 1).trans (by simp[b8]);have HR4:=hid hr4;have HF4:=hid (HF3.out.step hf4);clear hr4 hf4 hs3 HQ3 HZ3 HF3 HR3 HFL;go_wp2_with fail;obtain⟨k0,k1⟩:=zj w4 w.1.size (.bool X1) (.int .i64 X2) _ _ p0 p1;refine b9 (v:=jo X1 X2) (by simp[results,results137,go_sem,k0,k1]) rfl ⟨rfl,?_,?_⟩
 ·exact(HR4.out.far (fun q=>by have:=hBw _ q;omega) om).far (fun q=>by have:=hBw _ q;omega) om
 ·exact(HF4.out.put (a8 _)).put (a8 _)
def aoz (fs:List ByteArray) (w:World) (v:Value) (w':World):Prop:=
 ∃A c,v=.slice A fs.length c∧fs.length≤c ∧(∀a,A=some a→a.block<w'.1.size) ∧(A=none→c=0)∧vw w' w'.1.size A fs∧aar w.1.size A∧Below w.1.size w w'
theorem a20 (A:Option Addr) (fs:List ByteArray) (c:Nat) (w:World) (hA:A=none→c=0) (hs:vw w w.1.size A fs) (hn:fs.length≤1000000) :
 Calls prog 205 #[.slice A fs.length c] w fun e w'=>∃v,e=.returned v∧aoz fs w v w':=by
 cases A with
 | none=>
  obtain rfl:=hA rfl
  have hl:fs=[]:=by
   cases fs with
   | nil=>rfl
   | cons a l=>obtain⟨b,off,hA,-⟩:=hs 0 sm;cases hA
  subst hl;clear hs hA;change Calls prog 205 #[.slice none 0 0] w _;have EQ:∀W:World,(binOp .eql 148 (.slice none 0 0) (.slice none 0 0)).run prog W=.ok (.bool true) W:=fun W=>Lib.run_eql_slice_nil W 148 9 none 0 0 0 0 underlying148
  go_enter func205,ntmps205;go_wp2;go_ret;exact⟨_,rfl,none,0,rfl,a8 _,(fun a h=>by cases h),fun _=>rfl,fun k hk=>absurd hk sm,aar.none_,n6 _ _⟩
 | some a=>
  obtain⟨i0,hi,hz0,hz1,hz2⟩:=am5 bb2;obtain⟨n,hln⟩:∃n,fs.length=n:=⟨_,rfl⟩;have HLN:=hid hln;have HS:=hid hs;rw[hln]at hn ⊢;clear hs hA hln;have hown:(w.alloc (.cells #[] 9)).ownsRow w.1.size 9 1 (.slice (some ⟨w.1.size,0,none⟩) 0 0) 0 []:=b3s w #[] 0 (a8 _) dc rfl;have HO:=hid hown;clear hown;have EQ:∀W:World,(binOp .eql 148 (.slice (some a) n c) (.slice none 0 0)).run prog W=.ok (.bool false) W:=fun W=>Lib.run_eql_slice_nil W 148 9 (some a) n c 0 0 underlying148
  go_enter func205,ntmps205;go_wp2_with (at_builtin;refine b4x _ rfl _ _ 148 rfl w.1.size 9 i0 (.string ByteArray.empty) 1 16 underlying148 hi hz0 hz1 hz2 rfl dc _ _ _ rfl HO.out a n c (fs.map Value.string) rfl (by simp[HLN.out]) ?c1 ?c2 ?c3 ?c4 ?c5 ?_)
  case c1=>
   intro j u hu;rw[b0m]at hu
   have hj:j<fs.length:=by
    rcases b01 j fs.length with k|k
    ·exact k
    ·rw[t9 k]at hu;cases hu
   rw[c8 hj]at hu;injection hu with hu
   obtain⟨b,off,hA,hb,hc⟩:=HS.out j hj;injection hA with hA
   subst hA;have e1:(⟨b,off,none⟩:Addr).add j=⟨b,off+j,none⟩:=by unfold Addr.add;split<;>simp_all
   rw[e1,n5 _ _ _ hb,hc,← hu]
  case c2=>intro u hu;obtain⟨s,-,rfl⟩:=b2c.1 hu;rfl
  case c3=>unfold maxLen;omega
  case c4=>omega
  case c5=>simp
  intro v' w2 hown' hgrow _
  have HPOST:Hid (aoz fs w v' w2):=by
   obtain⟨A,c',rfl⟩:=bal hown';obtain⟨h1,h2,h3⟩:=axe hown'
   have hcap:fs.length≤c':=by
    rw[h1];rcases hown'.2 with⟨_,h0⟩|⟨g,cap,cur,hv,_,_,hn,_⟩
    ·omega
    ·injection hv with _ _ hv;omega
   have hblk:∀a,A=some a→a.block<w2.1.size:=fun a ha=>by
    subst ha;rcases hown'.2 with⟨hv,_⟩|⟨g,cap,cur,hv,_,hg,_⟩
    ·injection hv with hv;cases hv
    ·injection hv with hv
     injection hv with hv
     rw[hv];exact(o9.1 hg).1
   refine⟨A,c',by rw[h1],hcap,hblk,fun hA=>?_,h2,h3,((qa w _).grown hgrow sm (fun k hk=>(HO.out.lt k hk).1))⟩;subst hA;rcases hown'.2 with⟨hv,_⟩|⟨g,cap,cur,hv,_⟩
   ·injection hv
   ·cases hv
  clear hown' hgrow HO HS;go_wp2_with fail;go_ret;exact⟨_,rfl,HPOST.out⟩
def aya (fs:List ByteArray) (w:World) (r:Ending) (w':World):Prop:=
 ∃g,r=.returned (.pointer (some ⟨g,0,none⟩))∧ack (fun b=>w.1.size≤b∧b<g) w' g 0 fs∧w.1.size≤g∧w'.1.size=g+1∧Below w.1.size w w'
theorem bcz (A:Option Addr) (fs:List ByteArray) (c:Nat) (w:World) (hA:A=none→c=0) (hs:vw w w.1.size A fs) (hn:fs.length≤1000000) :
 Calls prog 135 #[.slice A fs.length c] w (aya fs w):=by
 have HC:=hid (a20 A fs c w hA hs hn);have HN:=hid hn;clear hs hA hn;obtain⟨n,hln⟩:∃n,fs.length=n:=⟨_,rfl⟩;rw[hln]at HC ⊢;have HLN:=hid hln;clear hln;go_enter func135,ntmps135;go_wp2_with fail;refine HC.out.mono ?_;rintro r w1 ⟨v,rfl,ht⟩;obtain⟨A',c',rfl,h1,hblk,h2,h3,h4,h5⟩:=ht
 have HPO:Hid (aya fs w (.returned (.pointer (some ⟨w1.1.size,0,none⟩))) (w1.alloc (.cells #[.bool true,.int .i64 0,.slice A' fs.length c'] 339))):=by
  have hb:Below w1.1.size w1 (w1.alloc (.cells #[.bool true,.int .i64 0,.slice A' fs.length c'] 339)):=qa _ _;refine⟨w1.1.size,rfl,⟨A',c',by simp[b8],by simp[b8],by simp[b8],fun o=>?_,by simp,fun k hk=>?_,(fun b q=>by have:=q.2;simp;omega),(fun b q=>by have:=q.2;omega),HN.out,h1⟩,h5.size,by simp,qb h5 (qa _ _)⟩
  ·rw[i9];exact qk _ _ _ (a8 _)
  ·obtain⟨b,off,e1,e2,e3⟩:=h3 k hk;exact⟨b,off,e1,⟨h4 _ e1,e2⟩,(hb.cell (p:=⟨b,off+k,none⟩) e2).trans e3⟩
 rw[HLN.out]at HPO;clear h1 h2 h3 h4 h5 hblk;rw[HLN.out];go_wp2_with fail;go_ret;exact HPO.out
variable {Q : Nat → Prop}
theorem ack.other {w w':World} {g g':Nat} {e:Int} {R:List ByteArray} {v:Value} (h:ack Q w g e R) (hf:Frm g' v w w') (h1:g≠g') (h2:v.ownBlock≠some g) (h3:∀b,Q b→b≠g'∧v.ownBlock≠some b):ack Q w' g e R:=by
 obtain⟨A,c,p0,p1,p2,p3,p4,p5,hB,p6,p7,p8⟩:=h;refine⟨A,c,(hf.cell p4 h1 h2).trans p0,(hf.cell p4 h1 h2).trans p1,(hf.cell p4 h1 h2).trans p2,fun o=>(b1l (a:=⟨g,o,none⟩) (hf.block g p4 h1 h2)).trans (p3 o),e9 p4 hf.size,fun k hk=>?_,fun b q=>e9 (hB b q) hf.size,p6,p7,p8⟩;obtain⟨b,off,e1,e2,e3⟩:=p5 k hk;exact⟨b,off,e1,e2,(hf.cell (hB b e2) (h3 b e2).1 (h3 b e2).2).trans e3⟩
section
variable {w wx w' : World} {Qr Qs : Nat → Prop} {gp gr gq gs base : Nat} {ep eq er es : Int} {vp vq : Value} {Lp Lq R S : List ByteArray}
end
