/- Layer 26: Take. Printed by genrmct.py. -/
import Derived.Test.YtdkhlkfleggbaaaGreatR30
import Derived.Test.YtdkhlkfleggbaaaGreatR23
namespace Go.Proofs.YtdkhlkfleggbaaaGreat
set_option maxHeartbeats 16000000
set_option maxRecDepth 8000
open Lib (hid)
open Tryz
set_option linter.unusedVariables false
open Go.RowKit
set_option linter.unusedSimpArgs false
abbrev blw (x:axk):Value:=bhz x.1.1 x.1.2.1 x.1.2.2.1 x.1.2.2.2.1 x.1.2.2.2.2 x.2.1 x.2.2.1.1 x.2.2.1.2 x.2.2.2.1.1 x.2.2.2.1.2 x.2.2.2.2.1.1 x.2.2.2.2.1.2 x.2.2.2.2.2.1.1 x.2.2.2.2.2.1.2 x.2.2.2.2.2.2.2.1 x.2.2.2.2.2.2.2.2 x.2.2.2.2.2.2.1.1 x.2.2.2.2.2.2.1.2.1 x.2.2.2.2.2.2.1.2.2.1 x.2.2.2.2.2.2.1.2.2.2
def aj2 (x:axk×Int) (w:World) (r:Ending) (w':World):Prop:=r=.returned (.tuple #[blw x.1,.int .i64 x.2])∧Below w.1.size w w'
theorem ag1:(Tryz.prog.info? 48).map (·.size)=some 20:=by kernel_rfl
theorem ap2 {w:World} {b:Nat} {C:Array Value} (hC:C.size=20) (h:w.rangeAt b 0 C.toList):(loadVar 48 ⟨b,0,none⟩).run Tryz.prog w=.ok (.agg C) w:=by
 have:=run_loadVar_mid (P:=Tryz.prog) w b 0 48 C.toList _ h underlying48 rfl (by rw[ag1,Array.length_toList,hC])
 simpa using this
abbrev adz (g:Nat):Obj:=.cells #[.pointer (some ⟨g,0,none⟩)] 283
abbrev fnO (P:Nat):Obj:=.cells #[.func (.func 148) #[] #[.pointer (some ⟨P,0,none⟩)]] 296
abbrev aat (P M N:Nat):Array Value:=#[.func (.func 150) #[] #[.pointer (some ⟨P,0,none⟩),.pointer (some ⟨M,0,none⟩),.pointer (some ⟨N,0,none⟩)],.func (.func 153) #[] #[.pointer (some ⟨P,0,none⟩),.pointer (some ⟨M,0,none⟩)],.func (.func 155) #[] #[.pointer (some ⟨P,0,none⟩),.pointer (some ⟨M,0,none⟩)],.func (.func 156) #[] #[.pointer (some ⟨P,0,none⟩),.pointer (some ⟨M,0,none⟩)],.func (.func 157) #[] #[.pointer (some ⟨P,0,none⟩),.pointer (some ⟨M,0,none⟩)],.func (.func 159) #[] #[.pointer (some ⟨P,0,none⟩),.pointer (some ⟨M,0,none⟩)],.func (.func 161) #[] #[.pointer (some ⟨P,0,none⟩),.pointer (some ⟨M,0,none⟩),.pointer (some ⟨N,0,none⟩)],.func (.func 163) #[] #[.pointer (some ⟨P,0,none⟩),.pointer (some ⟨M,0,none⟩)],.func (.func 165) #[] #[.pointer (some ⟨P,0,none⟩)]]
theorem anb {P:Program} {w:World} {a:Addr} {m:Mode} (f:_) (x:_) (y:_):(store a (.func f x y) m).run P w=stored P w a (.func f x y) m:=run_store P w a _ m rfl
theorem a9w {R:List ByteArray} {cb:Bool} {ch:Int} {cm:Int} {cs:Int} {cc:Int} {st:Bool} {lb:Bool} {ln:Int} {ob:Bool} {on:Int} {sb:Bool} {sn:Int} {kb:Bool} {kn:Int} {vb:Bool} {vn:Int} {db:Bool} {dd:Int} {dm:Int} {dy:Int} {r1 r2 r3 r4 r5 r6 r7 r8 r9:Rd} (hl:R.length=11∨R.length=12) (h1:Hid (air (0,R)=((cb,ch,cm,cs,cc),r1))) (h2:Hid (a9r r1=(st,r2))) (h3:Hid (acz true r2=((lb,ln),r3))) (h4:Hid (acz false r3=((ob,on),r4))) (h5:Hid (qs 1 4 2 0 999999 r4=((sb,sn),r5))) (h6:Hid (qs 1 3 2 0 36000 r5=((kb,kn),r6))) (h7:Hid (azy r6=((db,dd,dm,dy),r7))) (h8:Hid (ath r7=((vb,vn),r8))) (h9:Hid (yv r8=r9)) :
 vw R=if r9.1=0 then(((cb,ch,cm,cs,cc),st,(lb,ln),(ob,on),(sb,sn),(kb,kn),(db,dd,dm,dy),(vb,vn)),0)else(yt,r9.1):=by
 have hR:ben (0,R)=(((cb,ch,cm,cs,cc),st,(lb,ln),(ob,on),(sb,sn),(kb,kn),(db,dd,dm,dy),(vb,vn)),r8):=by
  unfold ben;simp only[agh,h1.out,h2.out,h3.out,h4.out,h5.out,h6.out,h7.out,h8.out]
 unfold vw;rw[if_neg (fun q=>by omega),hR];simp only;rw[h9.out]
theorem a4t (A:Option Addr) (n c:Nat) (R:List ByteArray) (w:World) (hl:R.length=n) (hA:A=none→c=0) (hs:vg w w.1.size A R) (hz:∀t∈R,t.size≤1000000) (hkn:Hid (n=11∨n=12)) :
 Calls Tryz.prog 103 #[.slice A n c] w (aj2 (vw R) w):=by
 obtain⟨cb,ch,cm,cs,cc,r1,h1⟩:∃cb ch cm cs cc u,Hid (air (0,R)=((cb,ch,cm,cs,cc),u)):=⟨_,_,_,_,_,_,rfl⟩;obtain⟨st,r2,h2⟩:∃st u,Hid (a9r r1=(st,u)):=⟨_,_,rfl⟩;obtain⟨lb,ln,r3,h3⟩:∃lb ln u,Hid (acz true r2=((lb,ln),u)):=⟨_,_,_,rfl⟩;obtain⟨ob,on,r4,h4⟩:∃ob on u,Hid (acz false r3=((ob,on),u)):=⟨_,_,_,rfl⟩;obtain⟨sb,sn,r5,h5⟩:∃sb sn u,Hid (qs 1 4 2 0 999999 r4=((sb,sn),u)):=⟨_,_,_,rfl⟩;obtain⟨kb,kn,r6,h6⟩:∃kb kn u,Hid (qs 1 3 2 0 36000 r5=((kb,kn),u)):=⟨_,_,_,rfl⟩;obtain⟨db,dd,dm,dy,r7,h7⟩:∃db dd dm dy u,Hid (azy r6=((db,dd,dm,dy),u)):=⟨_,_,_,_,_,rfl⟩;obtain⟨vb,vn,r8,h8⟩:∃vb vn u,Hid (ath r7=((vb,vn),u)):=⟨_,_,_,rfl⟩;obtain⟨r9,h9⟩:∃u,Hid (yv r8=u):=⟨_,rfl⟩;obtain⟨X,hX⟩:∃X,vw R=X:=⟨_,rfl⟩;have HT:Hid (X=if r9.1=0 then(((cb,ch,cm,cs,cc),st,(lb,ln),(ob,on),(sb,sn),(kb,kn),(db,dd,dm,dy),(vb,vn)),0)else(yt,r9.1)):=hX.symm.trans (a9w (by rw[hl];exact hkn.out) h1 h2 h3 h4 h5 h6 h7 h8 h9)
 rw[hX];clear hX;have HB0:=hid (qa w (.cells (xr false 0 0 0 0 false false 0 false 0 false 0 false 0 false 0 false 0 0 0) 48));have HL:=hid (akb (c:=c) hA ((hs.below HB0.out (Nat.le_refl _)).more HB0.out.size) (by have:=hkn.out;omega) hz);rw[hl]at HL;have HR0:Hid (∀o,(w.alloc (.cells (xr false 0 0 0 0 false false 0 false 0 false 0 false 0 false 0 false 0 0 0) 48)).cell? ⟨w.1.size,o,none⟩=(xr false 0 0 0 0 false false 0 false 0 false 0 false 0 false 0 false 0 0 0)[o]?):=fun o=>World.cell?_alloc_at _ _ _ _ rfl
 have HR1:Hid (∀o,(w.alloc (.cells (xr false 0 0 0 0 false false 0 false 0 false 0 false 0 false 0 false 0 0 0) 48)).frozen? ⟨w.1.size,o,none⟩=false):=fun o=>by rw[frozen?_alloc_cells];exact qj _ _ _ (Nat.le_refl _)
 have HZ0:Hid ((w.alloc (.cells (xr false 0 0 0 0 false false 0 false 0 false 0 false 0 false 0 false 0 0 0) 48)).1.size=w.1.size+1):=by show _=_;simp
 have hsf:=@anb Tryz.prog;clear hs hA hz hl;go_enter func103,ntmps103
 try dsimp only
 repeat (fail_if_success (show Code.wp _ (Code.seq (Code.region 1 _ _) _) _ _ _)
         first|go_values|go_skip|go_guarded|go_step|go_upon|go_back|(simp only[Int.not_lt,Int.not_le]at *;go_simp)|(go_ite<;>go_prune<;>(try go_simp)))
 go_cut [] (fun wx=>wx=w.alloc (.cells (xr false 0 0 0 0 false false 0 false 0 false 0 false 0 false 0 false 0 0 0) 48))
 case first=>
  rcases hkn.out with e|e
  ·have i1:((n:Int) != 11)=false:=by rw[bne_eq_false_iff_eq];omega
   clear e;go_wp2_with fail
   go_meet
   rfl
  ·have i1:((n:Int) != 11)=true:=by rw[bne_iff_ne];omega
   have i2:((n:Int) != 12)=false:=by rw[bne_eq_false_iff_eq];omega
   clear e;go_wp2_with fail
   go_meet
   rfl
 case rest=>
 subst hcut;generalize hW0:w.alloc (.cells (xr false 0 0 0 0 false false 0 false 0 false 0 false 0 false 0 false 0 0 0) 48)=W0 at *;clear hW0;go_wp2_with fail;refine HL.out.mono ?_;rintro r w1 ⟨g,rfl,hx1,hg1,hz1,hb1⟩;have hbP:=qa w1 (adz g);have hbM:=qa (w1.alloc (adz g)) (.cells (xr false 0 0 0 0 false false 0 false 0 false 0 false 0 false 0 false 0 0 0) 48);have hbN:=qa ((w1.alloc (adz g)).alloc (.cells (xr false 0 0 0 0 false false 0 false 0 false 0 false 0 false 0 false 0 0 0) 48)) (fnO w1.1.size);have hbB:=qa (((w1.alloc (adz g)).alloc (.cells (xr false 0 0 0 0 false false 0 false 0 false 0 false 0 false 0 false 0 0 0) 48)).alloc (fnO w1.1.size)) (.cells (aat w1.1.size (w1.1.size+1) (w1.1.size+1+1)) 1);have hzP:(w1.alloc (adz g)).1.size=w1.1.size+1:=by simp
 have hzM:((w1.alloc (adz g)).alloc (.cells (xr false 0 0 0 0 false false 0 false 0 false 0 false 0 false 0 false 0 0 0) 48)).1.size=w1.1.size+1+1:=by simp
 have hzN:(((w1.alloc (adz g)).alloc (.cells (xr false 0 0 0 0 false false 0 false 0 false 0 false 0 false 0 false 0 0 0) 48)).alloc (fnO w1.1.size)).1.size=w1.1.size+1+1+1:=by simp
 have hzW:((((w1.alloc (adz g)).alloc (.cells (xr false 0 0 0 0 false false 0 false 0 false 0 false 0 false 0 false 0 0 0) 48)).alloc (fnO w1.1.size)).alloc (.cells (aat w1.1.size (w1.1.size+1) (w1.1.size+1+1)) 1)).1.size=w1.1.size+1+1+1+1:=by simp
 have hb14:Below w1.1.size w1 ((((w1.alloc (adz g)).alloc (.cells (xr false 0 0 0 0 false false 0 false 0 false 0 false 0 false 0 false 0 0 0) 48)).alloc (fnO w1.1.size)).alloc (.cells (aat w1.1.size (w1.1.size+1) (w1.1.size+1+1)) 1)):=qb (qb (qb hbP hbM) hbN) hbB;have pW:Hid (((((w1.alloc (adz g)).alloc (.cells (xr false 0 0 0 0 false false 0 false 0 false 0 false 0 false 0 false 0 0 0) 48)).alloc (fnO w1.1.size)).alloc (.cells (aat w1.1.size (w1.1.size+1) (w1.1.size+1+1)) 1)).cell? ⟨w1.1.size,0,none⟩=some (.pointer (some ⟨g,0,none⟩))):=(World.cell?_alloc_past _ _ _ om).trans ((World.cell?_alloc_past _ _ _ om).trans ((World.cell?_alloc_past _ _ _ om).trans (World.cell?_alloc_at _ _ _ _ rfl)));have nW:Hid (((((w1.alloc (adz g)).alloc (.cells (xr false 0 0 0 0 false false 0 false 0 false 0 false 0 false 0 false 0 0 0) 48)).alloc (fnO w1.1.size)).alloc (.cells (aat w1.1.size (w1.1.size+1) (w1.1.size+1+1)) 1)).cell? ⟨w1.1.size+1+1,0,none⟩=some (.func (.func 148) #[] #[.pointer (some ⟨w1.1.size,0,none⟩)])):=(World.cell?_alloc_past _ _ _ om).trans (World.cell?_alloc_at _ _ _ _ hzM.symm)
 have HBW:Hid (∀o,((((w1.alloc (adz g)).alloc (.cells (xr false 0 0 0 0 false false 0 false 0 false 0 false 0 false 0 false 0 0 0) 48)).alloc (fnO w1.1.size)).alloc (.cells (aat w1.1.size (w1.1.size+1) (w1.1.size+1+1)) 1)).cell? ⟨w1.1.size+1+1+1,o,none⟩=(aat w1.1.size (w1.1.size+1) (w1.1.size+1+1))[o]?):=fun o=>World.cell?_alloc_at _ _ _ _ hzN.symm
 have T0:Hid (TkI (qw g (0,R)) g (w1.1.size+1) (xr false 0 0 0 0 false false 0 false 0 false 0 false 0 false 0 false 0 0 0) ((((w1.alloc (adz g)).alloc (.cells (xr false 0 0 0 0 false false 0 false 0 false 0 false 0 false 0 false 0 0 0) 48)).alloc (fnO w1.1.size)).alloc (.cells (aat w1.1.size (w1.1.size+1) (w1.1.size+1+1)) 1)) ((((w1.alloc (adz g)).alloc (.cells (xr false 0 0 0 0 false false 0 false 0 false 0 false 0 false 0 false 0 0 0) 48)).alloc (fnO w1.1.size)).alloc (.cells (aat w1.1.size (w1.1.size+1) (w1.1.size+1+1)) 1))):=
  ⟨hx1.keep hb14,fun j=>(World.cell?_alloc_past _ _ _ om).trans ((World.cell?_alloc_past _ _ _ om).trans (World.cell?_alloc_at _ _ _ _ hzP.symm)),fun j=>by rw[frozen?_alloc_cells,frozen?_alloc_cells,frozen?_alloc_cells];exact qj _ _ _ om,by omega,by omega,rfl,rfl,rfl,Nat.le_refl _,fun _ _ _ _=>rfl⟩
 have hz0:=HZ0.out;have sP:Hid (w1.1.size<((((w1.alloc (adz g)).alloc (.cells (xr false 0 0 0 0 false false 0 false 0 false 0 false 0 false 0 false 0 0 0) 48)).alloc (fnO w1.1.size)).alloc (.cells (aat w1.1.size (w1.1.size+1) (w1.1.size+1+1)) 1)).1.size∧w1.1.size≠g∧w1.1.size≠w1.1.size+1):=⟨by omega,by omega,by omega⟩;have sN:Hid (w1.1.size+1+1<((((w1.alloc (adz g)).alloc (.cells (xr false 0 0 0 0 false false 0 false 0 false 0 false 0 false 0 false 0 0 0) 48)).alloc (fnO w1.1.size)).alloc (.cells (aat w1.1.size (w1.1.size+1) (w1.1.size+1+1)) 1)).1.size∧w1.1.size+1+1≠g∧w1.1.size+1+1≠w1.1.size+1):=⟨by omega,by omega,by omega⟩;have sB:Hid (w1.1.size+1+1+1<((((w1.alloc (adz g)).alloc (.cells (xr false 0 0 0 0 false false 0 false 0 false 0 false 0 false 0 false 0 0 0) 48)).alloc (fnO w1.1.size)).alloc (.cells (aat w1.1.size (w1.1.size+1) (w1.1.size+1+1)) 1)).1.size∧w1.1.size+1+1+1≠g∧w1.1.size+1+1+1≠w1.1.size+1):=⟨by omega,by omega,by omega⟩
 have hb04:=qb hb1 hb14
 have HRW:Hid ((∀o,((((w1.alloc (adz g)).alloc (.cells (xr false 0 0 0 0 false false 0 false 0 false 0 false 0 false 0 false 0 0 0) 48)).alloc (fnO w1.1.size)).alloc (.cells (aat w1.1.size (w1.1.size+1) (w1.1.size+1+1)) 1)).cell? ⟨w.1.size,o,none⟩=(xr false 0 0 0 0 false false 0 false 0 false 0 false 0 false 0 false 0 0 0)[o]?) ∧(∀o,((((w1.alloc (adz g)).alloc (.cells (xr false 0 0 0 0 false false 0 false 0 false 0 false 0 false 0 false 0 0 0) 48)).alloc (fnO w1.1.size)).alloc (.cells (aat w1.1.size (w1.1.size+1) (w1.1.size+1+1)) 1)).frozen? ⟨w.1.size,o,none⟩=false)∧Below w.1.size w ((((w1.alloc (adz g)).alloc (.cells (xr false 0 0 0 0 false false 0 false 0 false 0 false 0 false 0 false 0 0 0) 48)).alloc (fnO w1.1.size)).alloc (.cells (aat w1.1.size (w1.1.size+1) (w1.1.size+1+1)) 1))):=
  ⟨fun o=>((qx hb04).1 _ o om).trans (HR0.out o),fun o=>((qx hb04).2 _ o om).trans (HR1.out o),Below.trans HB0.out (hb04.mono om)⟩
 have HLT:Hid (w.1.size<((((w1.alloc (adz g)).alloc (.cells (xr false 0 0 0 0 false false 0 false 0 false 0 false 0 false 0 false 0 0 0) 48)).alloc (fnO w1.1.size)).alloc (.cells (aat w1.1.size (w1.1.size+1) (w1.1.size+1+1)) 1)).1.size∧w.1.size<g∧w.1.size<w1.1.size+1):=⟨by omega,by omega,by omega⟩;clear hbP hbM hbN hbB hzP hzM hzN hzW hb14 hz0 hb04 hx1 hg1 hz1 hb1 HL HR0 HR1 HZ0 HB0;go_upto_region 7 with fail;generalize ((((w1.alloc (adz g)).alloc (.cells (xr false 0 0 0 0 false false 0 false 0 false 0 false 0 false 0 false 0 0 0) 48)).alloc (fnO w1.1.size)).alloc (.cells (aat w1.1.size (w1.1.size+1) (w1.1.size+1+1)) 1))=W at *;generalize w1.1.size=P at *;go_wp2_with fail;refine wp_loop_rounds 10 ?_;rw[rounds_succ];have q:=(T0.out.cell (o:=0) sB.out.1 sB.out.2.1 sB.out.2.2).trans (HBW.out 0);go_wp2_with fail;refine(avk h1 T0.out pW sP nW sN).mono ?_;rintro r x1 ⟨rfl,ht⟩;have T1:=hid ht
 clear ht T0 q;go_wp2_with fail;rw[rounds_succ];have q:=(T1.out.cell (o:=1) sB.out.1 sB.out.2.1 sB.out.2.2).trans (HBW.out 1);go_wp2_with fail;refine(avl h2 T1.out pW sP).mono ?_;rintro r x2 ⟨rfl,ht⟩;have T2:=hid ht;clear ht T1 q;go_wp2_with fail;rw[rounds_succ];have q:=(T2.out.cell (o:=2) sB.out.1 sB.out.2.1 sB.out.2.2).trans (HBW.out 2);go_wp2_with fail;refine(avm h3 T2.out pW sP).mono ?_;rintro r x3 ⟨rfl,ht⟩;have T3:=hid ht;clear ht T2 q;go_wp2_with fail;rw[rounds_succ];have q:=(T3.out.cell (o:=3) sB.out.1 sB.out.2.1 sB.out.2.2).trans (HBW.out 3);go_wp2_with fail;refine(avn h4 T3.out pW sP).mono ?_;rintro r x4 ⟨rfl,ht⟩;have T4:=hid ht;clear ht T3 q;go_wp2_with fail;rw[rounds_succ];have q:=(T4.out.cell (o:=4) sB.out.1 sB.out.2.1 sB.out.2.2).trans (HBW.out 4);go_wp2_with fail;refine(avo h5 T4.out pW sP).mono ?_;rintro r x5 ⟨rfl,ht⟩;have T5:=hid ht;clear ht T4 q;go_wp2_with fail
 rw[rounds_succ];have q:=(T5.out.cell (o:=5) sB.out.1 sB.out.2.1 sB.out.2.2).trans (HBW.out 5);go_wp2_with fail;refine(avp h6 T5.out pW sP).mono ?_;rintro r x6 ⟨rfl,ht⟩;have T6:=hid ht;clear ht T5 q;go_wp2_with fail;rw[rounds_succ];have q:=(T6.out.cell (o:=6) sB.out.1 sB.out.2.1 sB.out.2.2).trans (HBW.out 6);go_wp2_with fail;refine(avq h7 T6.out pW sP nW sN).mono ?_;rintro r x7 ⟨rfl,ht⟩;have T7:=hid ht;clear ht T6 q;go_wp2_with fail;rw[rounds_succ];have q:=(T7.out.cell (o:=7) sB.out.1 sB.out.2.1 sB.out.2.2).trans (HBW.out 7);go_wp2_with fail;refine(avr h8 T7.out pW sP).mono ?_;rintro r x8 ⟨rfl,ht⟩;have T8:=hid ht;clear ht T7 q;go_wp2_with fail;rw[rounds_succ];have q:=(T8.out.cell (o:=8) sB.out.1 sB.out.2.1 sB.out.2.2).trans (HBW.out 8);go_wp2_with fail;refine(arp h9 T8.out pW sP).mono ?_;rintro r x9 ⟨rfl,ht⟩;have T9:=hid ht;clear ht T8 q;go_wp2_with fail;rw[rounds_succ];generalize x9=y9 at *
 obtain⟨E,hE⟩:∃E,r9.1=E:=⟨_,rfl⟩;have HER:=hid (ao8 T9.out.x);rw[hE]at HER HT;clear hE;have p_:=(T9.out.cell (o:=0) sP.out.1 sP.out.2.1 sP.out.2.2).trans pW.out;have hr:∀j,y9.cell? ⟨w.1.size,j,none⟩=(xr false 0 0 0 0 false false 0 false 0 false 0 false 0 false 0 false 0 0 0)[j]?:=fun j=>(T9.out.cell (by have:=HLT.out;omega) (by have:=HLT.out;omega) (by have:=HLT.out;omega)).trans (HRW.out.1 j)
 have hf:∀j,y9.frozen? ⟨w.1.size,j,none⟩=false:=fun j=>(T9.out.frozen (by have:=HLT.out;omega) (by have:=HLT.out;omega) (by have:=HLT.out;omega)).trans (HRW.out.2.1 j)
 have HB9:Hid (Below w.1.size w y9):=Below.trans HRW.out.2.2 (T9.out.below (by have:=HLT.out;omega) (by have:=HLT.out;omega));have hm:=T9.out.c;have HR:=hid (show AtC y9 w.1.size (xr false 0 0 0 0 false false 0 false 0 false 0 false 0 false 0 false 0 0 0)from hr);have HRF:=hid hf;have HRM:=hid (azx (show AtC y9 (P+1) (xr cb ch cm cs cc st lb ln ob on sb sn kb kn vb vn db dd dm dy)from hm));clear T9 HRW hr hf hm;go_wp2_with fail;refine HER.out.mono ?_;rintro r w' ⟨rfl,rfl⟩;clear p_ HER HBW sB sN nW;generalize P+1=M at *
 by_cases hE:E=0
 ·subst hE;have HX2:Hid (X=(((cb,ch,cm,cs,cc),st,(lb,ln),(ob,on),(sb,sn),(kb,kn),(db,dd,dm,dy),(vb,vn)),0)):=HT.out.trans (if_pos rfl);clear HT;go_upto_region 15 with fail
  try (apply wp_seq_k;intro K_ HK_)
  apply wp_region_lit;refine wpList_load_mid rfl _ _ rfl M 0 rfl (xr cb ch cm cs cc st lb ln ob on sb sn kb kn vb vn db dd dm dy).toList _ HRM.out underlying48 rfl ag1 ?_;refine wpList_store_mid rfl _ _ _ rfl w.1.size 0 (xr cb ch cm cs cc st lb ln ob on sb sn kb kn vb vn db dd dm dy) rfl rfl (aae HR.out HRF.out rfl) ag1 (by simp[Value.oneCell']) ?_;have hY:=World.rangeAt_setCells_same y9 w.1.size 0 (xr cb ch cm cs cc st lb ln ob on sb sn kb kn vb vn db dd dm dy).toList (aae HR.out HRF.out rfl);have HBK:=hid (aao (Nat.le_refl _) (xr cb ch cm cs cc st lb ln ob on sb sn kb kn vb vn db dd dm dy).toList 0 y9 HB9.out);have hld:=ap2 (C:=xr cb ch cm cs cc st lb ln ob on sb sn kb kn vb vn db dd dm dy) rfl hY;clear hY HR HRF HB9;generalize World.setCells y9 w.1.size 0 (xr cb ch cm cs cc st lb ln ob on sb sn kb kn vb vn db dd dm dy).toList=Y at *;have HLD:=hid hld;clear hld;go_wp2_with fail;refine bodyPost_ret (v:=.tuple #[bhz cb ch cm cs cc st lb ln ob on sb sn kb kn vb vn db dd dm dy,.int .i64 0]) (by rw[results_cell_tmp rfl];simp[asAddr,Result.andThen,HLD.out]) rfl ?_
  rw[HX2.out];exact⟨rfl,HBK.out⟩
 ·have hne:(E != 0)=true:=by rw[bne_iff_ne];exact hE
  have HX2:Hid (X=(yt,E)):=HT.out.trans (if_neg hE);clear hE HT;go_upto_region 14 with fail
  try (apply wp_seq_k;intro K_ HK_)
  apply wp_region_lit;go_step;go_step;go_step;go_step;go_step;go_step;refine wpList_store_mid rfl _ _ _ rfl w.1.size 0 (xr false 0 0 0 0 false false 0 false 0 false 0 false 0 false 0 false 0 0 0) rfl rfl (aae HR.out HRF.out rfl) ag1 (by simp[Value.oneCell']) ?_;have hY:=World.rangeAt_setCells_same y9 w.1.size 0 (xr false 0 0 0 0 false false 0 false 0 false 0 false 0 false 0 false 0 0 0).toList (aae HR.out HRF.out rfl);have HBK:=hid (aao (Nat.le_refl _) (xr false 0 0 0 0 false false 0 false 0 false 0 false 0 false 0 false 0 0 0).toList 0 y9 HB9.out);have hld:=ap2 (C:=xr false 0 0 0 0 false false 0 false 0 false 0 false 0 false 0 false 0 0 0) rfl hY;clear hY HR HRF HB9;generalize World.setCells y9 w.1.size 0 (xr false 0 0 0 0 false false 0 false 0 false 0 false 0 false 0 false 0 0 0).toList=Y at *;have HLD:=hid hld;clear hld;go_wp2_with fail;refine bodyPost_ret (v:=.tuple #[bhz false 0 0 0 0 false false 0 false 0 false 0 false 0 false 0 false 0 0 0,.int .i64 E]) (by rw[results_cell_tmp rfl];simp[asAddr,Result.andThen,HLD.out]) rfl ?_
  rw[HX2.out];exact⟨rfl,HBK.out⟩
theorem amq (A:Option Addr) (n c:Nat) (w:World) (h:((n:Int) != 11)=true) (h2:((n:Int) != 12)=true):Calls Tryz.prog 103 #[.slice A n c] w (aj2 (yt,3) w):=by
 have HB9:=hid (qa w (.cells (xr false 0 0 0 0 false false 0 false 0 false 0 false 0 false 0 false 0 0 0) 48));have HR:Hid (AtC (w.alloc (.cells (xr false 0 0 0 0 false false 0 false 0 false 0 false 0 false 0 false 0 0 0) 48)) w.1.size (xr false 0 0 0 0 false false 0 false 0 false 0 false 0 false 0 false 0 0 0)):=fun o=>World.cell?_alloc_at _ _ _ _ rfl
 have HRF:Hid (∀o,(w.alloc (.cells (xr false 0 0 0 0 false false 0 false 0 false 0 false 0 false 0 false 0 0 0) 48)).frozen? ⟨w.1.size,o,none⟩=false):=fun o=>by rw[frozen?_alloc_cells];exact qj _ _ _ (Nat.le_refl _)
 go_enter func103,ntmps103
 try dsimp only
 repeat (fail_if_success (show Code.wp _ (Code.seq (Code.region 1 _ _) _) _ _ _)
         first|go_values|go_skip|go_guarded|go_step|go_upon|go_back|(simp only[Int.not_lt,Int.not_le]at *;go_simp)|(go_ite<;>go_prune<;>(try go_simp)))
 generalize hW0:w.alloc (.cells (xr false 0 0 0 0 false false 0 false 0 false 0 false 0 false 0 false 0 0 0) 48)=W0 at *;clear hW0;go_upto_region 2 with fail
 try (apply wp_seq_k;intro K_ HK_)
 apply wp_region_lit;go_step;go_step;go_step;refine wpList_store_mid rfl _ _ _ rfl w.1.size 0 (xr false 0 0 0 0 false false 0 false 0 false 0 false 0 false 0 false 0 0 0) rfl rfl (aae HR.out HRF.out rfl) ag1 (by simp[Value.oneCell']) ?_;have hY:=World.rangeAt_setCells_same W0 w.1.size 0 (xr false 0 0 0 0 false false 0 false 0 false 0 false 0 false 0 false 0 0 0).toList (aae HR.out HRF.out rfl);have HBK:=hid (aao (Nat.le_refl _) (xr false 0 0 0 0 false false 0 false 0 false 0 false 0 false 0 false 0 0 0).toList 0 W0 HB9.out);have hld:=ap2 (C:=xr false 0 0 0 0 false false 0 false 0 false 0 false 0 false 0 false 0 0 0) rfl hY;clear hY HR HRF HB9;generalize World.setCells W0 w.1.size 0 (xr false 0 0 0 0 false false 0 false 0 false 0 false 0 false 0 false 0 0 0).toList=Y at *;have HLD:=hid hld;clear hld;go_wp2_with fail;refine bodyPost_ret (v:=.tuple #[bhz false 0 0 0 0 false false 0 false 0 false 0 false 0 false 0 false 0 0 0,.int .i64 3]) (by rw[results_cell_tmp rfl];simp[asAddr,Result.andThen,HLD.out]) rfl ?_
 exact⟨rfl,HBK.out⟩
theorem az7 (A:Option Addr) (R:List ByteArray) (c:Nat) (w:World) (hA:A=none→c=0) (hs:vg w w.1.size A R) (hz:∀t∈R,t.size≤1000000):Calls Tryz.prog 103 #[.slice A R.length c] w (aj2 (vw R) w):=by
 by_cases h:R.length=11∨R.length=12
 ·exact a4t A R.length c R w rfl hA hs hz h
 ·rw[show vw R=(yt,3)from if_pos ⟨fun q=>h (.inl q),fun q=>h (.inr q)⟩];exact amq A R.length c w (by rw[bne_iff_ne];omega) (by rw[bne_iff_ne];omega)
structure NmD where
 k:Int
 t:ByteArray
 g:axh
 r:axk
 s:a2f
 v:V4
 u:a2g
def zV4:V4:=((false,0),(false,0),(false,0),(false,0))
def aq4:NmD:=⟨0,ByteArray.empty,ys,yt,yc,zV4,v6⟩
def gL (x:axh):List Value:=[.bool x.1.1,.int .i64 x.1.2.1,.int .i64 x.1.2.2.1,.int .i64 x.1.2.2.2.1,.int .i64 x.1.2.2.2.2,.bool x.2.1.1,.int .i64 x.2.1.2,.bool x.2.2.1.1,.int .i64 x.2.2.1.2,.int .i64 x.2.2.2.1,.bool x.2.2.2.2.1.1,.int .i64 x.2.2.2.2.1.2,.bool x.2.2.2.2.2.1.1,.int .i64 x.2.2.2.2.2.1.2,.bool x.2.2.2.2.2.2.1.1,.int .i64 x.2.2.2.2.2.2.1.2,.bool x.2.2.2.2.2.2.2.1.1,.int .i64 x.2.2.2.2.2.2.2.1.2,.bool x.2.2.2.2.2.2.2.2.1.1,.int .i64 x.2.2.2.2.2.2.2.2.1.2,.bool x.2.2.2.2.2.2.2.2.2.1,.int .i64 x.2.2.2.2.2.2.2.2.2.2]
def rL (x:axk):List Value:=[.bool x.1.1,.int .i64 x.1.2.1,.int .i64 x.1.2.2.1,.int .i64 x.1.2.2.2.1,.int .i64 x.1.2.2.2.2,.bool x.2.1,.bool x.2.2.1.1,.int .i64 x.2.2.1.2,.bool x.2.2.2.1.1,.int .i64 x.2.2.2.1.2,.bool x.2.2.2.2.1.1,.int .i64 x.2.2.2.2.1.2,.bool x.2.2.2.2.2.1.1,.int .i64 x.2.2.2.2.2.1.2,.bool x.2.2.2.2.2.2.2.1,.int .i64 x.2.2.2.2.2.2.2.2,.bool x.2.2.2.2.2.2.1.1,.int .i64 x.2.2.2.2.2.2.1.2.1,.int .i64 x.2.2.2.2.2.2.1.2.2.1,.int .i64 x.2.2.2.2.2.2.1.2.2.2]
def sL (x:a2f) (y:Value):List Value:=[.bool x.a,.int .i64 x.f,y,.bool x.p0.1,.int .i64 x.p0.2,.bool x.p1.1,.int .i64 x.p1.2,.bool x.p2.1,.int .i64 x.p2.2]
def uL (x:a2g) (y:Value):List Value:=[.int .i64 x.T,.int .i64 x.N,.int .i64 x.S,y]
def nmC (m:NmD) (x y:Value):List Value:=nmL m.k m.t (gL m.g) (rL m.r) (sL m.s x) (vy m.v) (uL m.u y)
theorem bj0 (m:NmD) (x y:Value):ab9 (gL m.g) (rL m.r) (sL m.s x) (vy m.v) (uL m.u y):=⟨rfl,rfl,rfl,rfl,rfl⟩
theorem anp (x:axh):xg (gL x):=xg.of rfl
theorem anq (x:axk):xg (rL x):=xg.of rfl
theorem xg.cons {v:Value} {L:List Value} (h:v.oneCell'=true) (hL:xg L):xg (v::L):=fun u hu=>by
 rcases List.mem_cons.1 hu with rfl|hu
 ·exact h
 ·exact hL u hu
theorem avw (x:a2f) {y:Value} (h:y.oneCell'=true):xg (sL x y):=xg.cons rfl (xg.cons rfl (xg.cons h (xg.of rfl)))
theorem ant (x:V4):xg (vy x):=xg.of rfl
theorem awv (x:a2g) {y:Value} (h:y.oneCell'=true):xg (uL x y):=xg.cons rfl (xg.cons rfl (xg.cons rfl (xg.cons h (xg.of rfl))))
theorem a7f.flatq {w:World} {B:Nat} {A:Option Addr} {L:List Int} (h:a7f w B A L):qf (fun b=>b<B) w A (L.map (Value.int .i64)):=fun j u hu=>by
 rw[List.getElem?_map]at hu;cases hj:L[j]? with
 | none=>rw[hj]at hu;cases hu
 | some z=>
  rw[hj]at hu;obtain⟨hlt,rfl⟩:=List.getElem?_eq_some_iff.1 hj;obtain⟨b,off,h1,h2,h3⟩:=h j hlt;injection hu with hu
  exact⟨b,off,h1,h2,h3.trans (by rw[← hu])⟩
def Bk (lo:Nat) (w:World) (b:Nat):Prop:=lo≤b∧b<w.1.size
theorem bij {lo:Nat} {w w':World} {A:Option Addr} {xs:List Value} (h:qf (Bk lo w) w A xs) (hb:Below w.1.size w w'):qf (Bk lo w') w' A xs:=
 (h.below hb fun b q=>q.2).less fun b q=>⟨q.1,Nat.lt_of_lt_of_le q.2 hb.size⟩
theorem bca {lo:Nat} {w W:World} {b o:Nat} {cs:List Value} {A:Option Addr} {xs:List Value} (h:qf (Bk lo w) w A xs) (hs:qp w W b o cs) (hl:b<lo):qf (Bk lo W) W A xs:=
 (h.keep fun k q=>hs.far k (fun e=>by have:=q.1;omega)).less fun k q=>⟨q.1,by rw[hs.sz];exact q.2⟩
theorem bf0 {w:World} {A:Option Addr} {l:List Int} (h:a7f w w.1.size A l):qf (Bk 0 w) w A (l.map (Value.int .i64)):=(a7f.flatq h).less fun b q=>⟨Nat.zero_le _,q⟩
theorem bjq {w:World} {A:Option Addr} {l:List V4} (h:Vws w w.1.size A l):qf (Bk 0 w) w A (vsC l):=(Vws.flatq h).less fun b q=>⟨Nat.zero_le _,q⟩
def SlI (lo:Nat) (w:World) (y:Value) (l:List Int):Prop:=∃A c,y=.slice A l.length c∧qf (Bk lo w) w A (l.map (Value.int .i64))
def SlV (lo:Nat) (w:World) (y:Value) (l:List V4):Prop:=∃A c,y=.slice A l.length c∧qf (Bk lo w) w A (vsC l)
theorem SlI.one {lo:Nat} {w:World} {y:Value} {l:List Int} (h:SlI lo w y l):y.oneCell'=true:=by obtain⟨A,c,rfl,-⟩:=h;rfl
theorem SlV.one {lo:Nat} {w:World} {y:Value} {l:List V4} (h:SlV lo w y l):y.oneCell'=true:=by obtain⟨A,c,rfl,-⟩:=h;rfl
theorem SlI.on {lo:Nat} {w w':World} {y:Value} {l:List Int} (h:SlI lo w y l) (hb:Below w.1.size w w'):SlI lo w' y l:=by
 obtain⟨A,c,h1,h2⟩:=h;exact⟨A,c,h1,bij h2 hb⟩
theorem SlV.on {lo:Nat} {w w':World} {y:Value} {l:List V4} (h:SlV lo w y l) (hb:Below w.1.size w w'):SlV lo w' y l:=by
 obtain⟨A,c,h1,h2⟩:=h;exact⟨A,c,h1,bij h2 hb⟩
theorem SlI.less {lo lo':Nat} {w:World} {y:Value} {l:List Int} (h:SlI lo w y l) (hl:lo'≤lo):SlI lo' w y l:=by
 obtain⟨A,c,h1,h2⟩:=h;exact⟨A,c,h1,h2.less fun b q=>⟨Nat.le_trans hl q.1,q.2⟩⟩
theorem SlV.less {lo lo':Nat} {w:World} {y:Value} {l:List V4} (h:SlV lo w y l) (hl:lo'≤lo):SlV lo' w y l:=by
 obtain⟨A,c,h1,h2⟩:=h;exact⟨A,c,h1,h2.less fun b q=>⟨Nat.le_trans hl q.1,q.2⟩⟩
theorem SlI.far {lo:Nat} {w W:World} {b o:Nat} {cs:List Value} {y:Value} {l:List Int} (h:SlI lo w y l) (hs:qp w W b o cs) (hl:b<lo):SlI lo W y l:=by
 obtain⟨A,c,h1,h2⟩:=h;exact⟨A,c,h1,bca h2 hs hl⟩
theorem SlV.far {lo:Nat} {w W:World} {b o:Nat} {cs:List Value} {y:Value} {l:List V4} (h:SlV lo w y l) (hs:qp w W b o cs) (hl:b<lo):SlV lo W y l:=by
 obtain⟨A,c,h1,h2⟩:=h;exact⟨A,c,h1,bca h2 hs hl⟩
theorem SlI.nil (lo:Nat) (w:World):SlI lo w (.slice none 0 0) []:=⟨none,0,rfl,qf.nil _ _ _⟩
theorem SlV.nil (lo:Nat) (w:World):SlV lo w (.slice none 0 0) []:=⟨none,0,rfl,qf.nil _ _ _⟩
def NmV (lo:Nat) (w:World) (C:Array Value) (m:NmD):Prop:=∃x y,C=(nmC m x y).toArray∧SlI lo w x m.s.ids∧SlV lo w y m.u.L
theorem NmV.on {lo:Nat} {w w':World} {C:Array Value} {m:NmD} (h:NmV lo w C m) (hb:Below w.1.size w w'):NmV lo w' C m:=by
 obtain⟨x,y,h1,h2,h3⟩:=h;exact⟨x,y,h1,h2.on hb,h3.on hb⟩
theorem NmV.less {lo lo':Nat} {w:World} {C:Array Value} {m:NmD} (h:NmV lo w C m) (hl:lo'≤lo):NmV lo' w C m:=by
 obtain⟨x,y,h1,h2,h3⟩:=h;exact⟨x,y,h1,h2.less hl,h3.less hl⟩
theorem NmV.far {lo:Nat} {w W:World} {b o:Nat} {cs:List Value} {C:Array Value} {m:NmD} (h:NmV lo w C m) (hs:qp w W b o cs) (hl:b<lo):NmV lo W C m:=by
 obtain⟨x,y,h1,h2,h3⟩:=h;exact⟨x,y,h1,h2.far hs hl,h3.far hs hl⟩
theorem a6y (m:NmD) (x y:Value):(nmC m x y).length=65:=aaz (bj0 m x y)
theorem NmV.len {lo:Nat} {w:World} {C:Array Value} {m:NmD} (h:NmV lo w C m):C.size=65:=by
 obtain⟨x,y,rfl,-⟩:=h;rw[List.size_toArray,a6y]
theorem NmV.ones {lo:Nat} {w:World} {C:Array Value} {m:NmD} (h:NmV lo w C m):C.all (·.oneCell')=true:=by
 obtain⟨x,y,rfl,h2,h3⟩:=h;exact xg.arr (vm (anp _) (anq _) (avw _ h2.one) (ant _) (awv _ h3.one))
theorem NmV.zero (lo:Nat) (w:World):NmV lo w zNm aq4:=⟨_,_,rfl,SlI.nil lo w,SlV.nil lo w⟩
def b_f (lo:Nat) (w:World) (v:Value) (m:NmD):Prop:=
 (m.k=1∧v=.iface 239 (.agg (gL m.g).toArray)) ∨(m.k=2∧v=.iface 243 (.agg (rL m.r).toArray)) ∨
 (m.k=3∧∃x,v=.iface 247 (.agg (sL m.s x).toArray)∧SlI lo w x m.s.ids) ∨(m.k=4∧v=.iface 251 (.agg (vy m.v).toArray)) ∨
 (m.k=5∧∃x,v=.iface 255 (.agg (uL m.u x).toArray)∧SlV lo w x m.u.L) ∨(¬(1≤m.k∧m.k≤5)∧v=.nilIface)
def abn (t:ByteArray) (m:NmD):NmD:=
 if m.k=1 then⟨1,t,m.g,yt,yc,zV4,v6⟩else if m.k=2 then⟨2,t,ys,m.r,yc,zV4,v6⟩else if m.k=3 then⟨3,t,ys,yt,m.s,zV4,v6⟩
 else if m.k=4 then⟨4,t,ys,yt,yc,m.v,v6⟩else if m.k=5 then⟨5,t,ys,yt,yc,zV4,m.u⟩else⟨0,t,ys,yt,yc,zV4,v6⟩
def acy (k:Int):ByteArray:=if k=1 then⟨#[71,71,65]⟩else if k=2 then⟨#[82,77,67]⟩else if k=3 then⟨#[71,83,65]⟩else if k=4 then⟨#[86,84,71]⟩else if k=5 then⟨#[71,83,86]⟩else⟨#[]⟩
theorem bdx {t:ByteArray} {m:NmD} (h:m.k=1):abn t m=⟨1,t,m.g,yt,yc,zV4,v6⟩∧acy m.k=⟨#[71,71,65]⟩:=⟨if_pos h,if_pos h⟩
theorem bdy {t:ByteArray} {m:NmD} (h:m.k=2):abn t m=⟨2,t,ys,m.r,yc,zV4,v6⟩∧acy m.k=⟨#[82,77,67]⟩:=by simp[abn,acy,h]
theorem bdz {t:ByteArray} {m:NmD} (h:m.k=3):abn t m=⟨3,t,ys,yt,m.s,zV4,v6⟩∧acy m.k=⟨#[71,83,65]⟩:=by simp[abn,acy,h]
theorem bd0 {t:ByteArray} {m:NmD} (h:m.k=4):abn t m=⟨4,t,ys,yt,yc,m.v,v6⟩∧acy m.k=⟨#[86,84,71]⟩:=by simp[abn,acy,h]
theorem bd1 {t:ByteArray} {m:NmD} (h:m.k=5):abn t m=⟨5,t,ys,yt,yc,zV4,m.u⟩∧acy m.k=⟨#[71,83,86]⟩:=by simp[abn,acy,h]
theorem a61 {t:ByteArray} {m:NmD} (h:¬(1≤m.k∧m.k≤5)):abn t m=⟨0,t,ys,yt,yc,zV4,v6⟩∧acy m.k=⟨#[]⟩:=by
 unfold abn acy;rw[if_neg om,if_neg om,if_neg om,if_neg om,if_neg om,if_neg om,if_neg om,if_neg om,if_neg om,if_neg om];exact⟨rfl,rfl⟩
theorem a4d {lo:Nat} {v:Value} {m:NmD} {w:World} {t:ByteArray} (h:b_f lo w v m) (h1:m.s.ids.length≤1000000) (h2:m.u.L.length≤1000000) :
 Calls Tryz.prog 84 #[.string t,v] w fun e w'=>∃C,e=.returned (.tuple #[.agg C,.string (acy m.k)])∧NmV w.1.size w' C (abn t m)∧Below w.1.size w w':=by
 rcases h with⟨hk,rfl⟩|⟨hk,rfl⟩|⟨hk,x,rfl,A,c,rfl,hs⟩|⟨hk,rfl⟩|⟨hk,x,rfl,A,c,rfl,hs⟩|⟨hk,rfl⟩
 ·rw[(bdx (t:=t) hk).1,(bdx (t:=t) hk).2];refine(bdo (G:=gL m.g) rfl (anp _) w).mono ?_;rintro e w' ⟨rfl,hb⟩;exact⟨_,rfl,⟨_,_,rfl,SlI.nil _ _,SlV.nil _ _⟩,hb⟩
 ·rw[(bdy (t:=t) hk).1,(bdy (t:=t) hk).2];refine(bdp (R:=rL m.r) rfl (anq _) w).mono ?_;rintro e w' ⟨rfl,hb⟩;exact⟨_,rfl,⟨_,_,rfl,SlI.nil _ _,SlV.nil _ _⟩,hb⟩
 ·rw[(bdz (t:=t) hk).1,(bdz (t:=t) hk).2];refine(bdq w (a:=m.s.a) (f:=m.s.f) (A:=A) (c:=c) (D:=m.s.ids) (b0:=m.s.p0.1) (n0:=m.s.p0.2) (b1:=m.s.p1.1) (n1:=m.s.p1.2) (b2:=m.s.p2.1) (n2:=m.s.p2.2) (hs.less fun b q=>q.2) h1).mono ?_;rintro e w' ⟨B,d,rfl,hf,hb⟩;exact⟨_,rfl,⟨_,_,rfl,⟨B,d,rfl,hf⟩,SlV.nil _ _⟩,hb⟩
 ·rw[(bd0 (t:=t) hk).1,(bd0 (t:=t) hk).2];refine(bdr (V:=vy m.v) rfl (ant _) w).mono ?_;rintro e w' ⟨rfl,hb⟩;exact⟨_,rfl,⟨_,_,rfl,SlI.nil _ _,SlV.nil _ _⟩,hb⟩
 ·rw[(bd1 (t:=t) hk).1,(bd1 (t:=t) hk).2];refine(bds w (T:=m.u.T) (N:=m.u.N) (S:=m.u.S) (A:=A) (c:=c) (D:=m.u.L) (hs.less fun b q=>q.2) h2).mono ?_;rintro e w' ⟨B,d,rfl,hf,hb⟩;exact⟨_,rfl,⟨_,_,rfl,SlI.nil _ _,⟨B,d,rfl,hf⟩⟩,hb⟩
 ·rw[(a61 (t:=t) hk).1,(a61 (t:=t) hk).2];refine(a9a w).mono ?_;rintro e w' ⟨rfl,hb⟩;exact⟨_,rfl,⟨_,_,rfl,SlI.nil _ _,SlV.nil _ _⟩,hb⟩
end Go.Proofs.YtdkhlkfleggbaaaGreat
