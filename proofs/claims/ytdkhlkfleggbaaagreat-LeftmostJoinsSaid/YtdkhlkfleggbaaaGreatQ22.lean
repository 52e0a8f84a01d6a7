/- Parts. -/
import Derived.Test.YtdkhlkfleggbaaaGreatQ21
import Derived.Test.YtdkhlkfleggbaaaGreatQ16
namespace Go.Proofs.YtdkhlkfleggbaaaGreat
set_option maxHeartbeats 16000000
set_option maxRecDepth 8000
open Lib (hid)
open Tryz
set_option linter.unusedVariables false
open Go.RowKit
set_option linter.unusedSimpArgs false
abbrev bl5 (x:at9):Value:=bh9 x.1.1 x.1.2.1 x.1.2.2.1 x.1.2.2.2.1 x.1.2.2.2.2 x.2.1 x.2.2.1.1 x.2.2.1.2 x.2.2.2.1.1 x.2.2.2.1.2 x.2.2.2.2.1.1 x.2.2.2.2.1.2 x.2.2.2.2.2.1.1 x.2.2.2.2.2.1.2 x.2.2.2.2.2.2.2.1 x.2.2.2.2.2.2.2.2 x.2.2.2.2.2.2.1.1 x.2.2.2.2.2.2.1.2.1 x.2.2.2.2.2.2.1.2.2.1 x.2.2.2.2.2.2.1.2.2.2
def aj3 (x:at9×Int) (w:World) (r:Ending) (w':World):Prop:=r=.returned (.tuple #[bl5 x.1,.int .i64 x.2])∧Below w.1.size w w'
theorem ahg:(prog.info? 48).map (·.size)=some 20:=by kernel_rfl
theorem aqg {w:World} {b:Nat} {C:Array Value} (hC:C.size=20) (h:w.rangeAt b 0 C.toList):(loadVar 48 ⟨b,0,none⟩).run prog w=.ok (.agg C) w:=by
 have:=run_loadVar_mid (P:=prog) w b 0 48 C.toList _ h underlying48 rfl (by rw[ahg,Array.length_toList,hC])
 simpa using this
abbrev aeo (g:Nat):Obj:=.cells #[.pointer (some ⟨g,0,none⟩)] 283
abbrev fnO (P:Nat):Obj:=.cells #[.func (.func 148) #[] #[.pointer (some ⟨P,0,none⟩)]] 296
abbrev aa1 (P M N:Nat):Array Value:=#[.func (.func 150) #[] #[.pointer (some ⟨P,0,none⟩),.pointer (some ⟨M,0,none⟩),.pointer (some ⟨N,0,none⟩)],.func (.func 153) #[] #[.pointer (some ⟨P,0,none⟩),.pointer (some ⟨M,0,none⟩)],.func (.func 155) #[] #[.pointer (some ⟨P,0,none⟩),.pointer (some ⟨M,0,none⟩)],.func (.func 156) #[] #[.pointer (some ⟨P,0,none⟩),.pointer (some ⟨M,0,none⟩)],.func (.func 157) #[] #[.pointer (some ⟨P,0,none⟩),.pointer (some ⟨M,0,none⟩)],.func (.func 159) #[] #[.pointer (some ⟨P,0,none⟩),.pointer (some ⟨M,0,none⟩)],.func (.func 161) #[] #[.pointer (some ⟨P,0,none⟩),.pointer (some ⟨M,0,none⟩),.pointer (some ⟨N,0,none⟩)],.func (.func 163) #[] #[.pointer (some ⟨P,0,none⟩),.pointer (some ⟨M,0,none⟩)],.func (.func 165) #[] #[.pointer (some ⟨P,0,none⟩)]]
theorem anm {P:Program} {w:World} {a:Addr} {m:Mode} (f:_) (x:_) (y:_):(store a (.func f x y) m).run P w=stored P w a (.func f x y) m:=run_store P w a _ m rfl
theorem bac {R:List ByteArray} {cb:Bool} {ch:Int} {cm:Int} {cs:Int} {cc:Int} {st:Bool} {lb:Bool} {ln:Int} {ob:Bool} {on:Int} {sb:Bool} {sn:Int} {kb:Bool} {kn:Int} {vb:Bool} {vn:Int} {db:Bool} {dd:Int} {dm:Int} {dy:Int} {r1 r2 r3 r4 r5 r6 r7 r8 r9:Rd} (hl:R.length=11∨R.length=12) (h1:Hid (ait (0,R)=((cb,ch,cm,cs,cc),r1))) (h2:Hid (a99 r1=(st,r2))) (h3:Hid (ade true r2=((lb,ln),r3))) (h4:Hid (ade false r3=((ob,on),r4))) (h5:Hid (qq 1 4 2 0 999999 r4=((sb,sn),r5))) (h6:Hid (qq 1 3 2 0 36000 r5=((kb,kn),r6))) (h7:Hid (a0f r6=((db,dd,dm,dy),r7))) (h8:Hid (atm r7=((vb,vn),r8))) (h9:Hid (aae r8=r9)) :
 yc R=if r9.1=0 then(((cb,ch,cm,cs,cc),st,(lb,ln),(ob,on),(sb,sn),(kb,kn),(db,dd,dm,dy),(vb,vn)),0)else(aaa,r9.1):=by
 have hR:be4 (0,R)=(((cb,ch,cm,cs,cc),st,(lb,ln),(ob,on),(sb,sn),(kb,kn),(db,dd,dm,dy),(vb,vn)),r8):=by
  unfold be4;simp only[agv,h1.out,h2.out,h3.out,h4.out,h5.out,h6.out,h7.out,h8.out]
 unfold yc;rw[if_neg (fun q=>by omega),hR];simp only;rw[h9.out]
theorem a48 (A:Option Addr) (n c:Nat) (R:List ByteArray) (w:World) (hl:R.length=n) (hA:A=none→c=0) (hs:vy w w.1.size A R) (hz:∀t∈R,t.size≤1000000) (hkn:Hid (n=11∨n=12)) :
 Calls prog 103 #[.slice A n c] w (aj3 (yc R) w):=by
 obtain⟨cb,ch,cm,cs,cc,r1,h1⟩:∃cb ch cm cs cc u,Hid (ait (0,R)=((cb,ch,cm,cs,cc),u)):=⟨_,_,_,_,_,_,rfl⟩;obtain⟨st,r2,h2⟩:∃st u,Hid (a99 r1=(st,u)):=⟨_,_,rfl⟩;obtain⟨lb,ln,r3,h3⟩:∃lb ln u,Hid (ade true r2=((lb,ln),u)):=⟨_,_,_,rfl⟩;obtain⟨ob,on,r4,h4⟩:∃ob on u,Hid (ade false r3=((ob,on),u)):=⟨_,_,_,rfl⟩;obtain⟨sb,sn,r5,h5⟩:∃sb sn u,Hid (qq 1 4 2 0 999999 r4=((sb,sn),u)):=⟨_,_,_,rfl⟩;obtain⟨kb,kn,r6,h6⟩:∃kb kn u,Hid (qq 1 3 2 0 36000 r5=((kb,kn),u)):=⟨_,_,_,rfl⟩;obtain⟨db,dd,dm,dy,r7,h7⟩:∃db dd dm dy u,Hid (a0f r6=((db,dd,dm,dy),u)):=⟨_,_,_,_,_,rfl⟩;obtain⟨vb,vn,r8,h8⟩:∃vb vn u,Hid (atm r7=((vb,vn),u)):=⟨_,_,_,rfl⟩;obtain⟨r9,h9⟩:∃u,Hid (aae r8=u):=⟨_,rfl⟩;obtain⟨X,hX⟩:∃X,yc R=X:=⟨_,rfl⟩;have HT:Hid (X=if r9.1=0 then(((cb,ch,cm,cs,cc),st,(lb,ln),(ob,on),(sb,sn),(kb,kn),(db,dd,dm,dy),(vb,vn)),0)else(aaa,r9.1)):=hX.symm.trans (bac (by rw[hl];exact hkn.out) h1 h2 h3 h4 h5 h6 h7 h8 h9)
 rw[hX];clear hX;have HB0:=hid (qa w (.cells (xx false 0 0 0 0 false false 0 false 0 false 0 false 0 false 0 false 0 0 0) 48));have HL:=hid (aka (c:=c) hA ((hs.below HB0.out (Nat.le_refl _)).more HB0.out.size) (by have:=hkn.out;omega) hz);rw[hl]at HL;have HR0:Hid (∀o,(w.alloc (.cells (xx false 0 0 0 0 false false 0 false 0 false 0 false 0 false 0 false 0 0 0) 48)).cell? ⟨w.1.size,o,none⟩=(xx false 0 0 0 0 false false 0 false 0 false 0 false 0 false 0 false 0 0 0)[o]?):=fun o=>World.cell?_alloc_at _ _ _ _ rfl
 have HR1:Hid (∀o,(w.alloc (.cells (xx false 0 0 0 0 false false 0 false 0 false 0 false 0 false 0 false 0 0 0) 48)).frozen? ⟨w.1.size,o,none⟩=false):=fun o=>by rw[frozen?_alloc_cells];exact qj _ _ _ (Nat.le_refl _)
 have HZ0:Hid ((w.alloc (.cells (xx false 0 0 0 0 false false 0 false 0 false 0 false 0 false 0 false 0 0 0) 48)).1.size=w.1.size+1):=by show _=_;simp
 have hsf:=@anm prog;clear hs hA hz hl;go_enter func103,ntmps103
 try dsimp only
 repeat (fail_if_success (show Code.wp _ (Code.seq (Code.region 1 _ _) _) _ _ _)
         first|go_values|go_skip|go_guarded|go_step|go_upon|go_back|(simp only[Int.not_lt,Int.not_le]at *;go_simp)|(go_ite<;>go_prune<;>(try go_simp)))
 go_cut [] (fun wx=>wx=w.alloc (.cells (xx false 0 0 0 0 false false 0 false 0 false 0 false 0 false 0 false 0 0 0) 48))
 case first=>
  rcases hkn.out with e|e
  ·have i1:((n:Int) != 11)=false:=by rw[bne_eq_false_iff_eq];omega
   clear e;go_wp2_with fail
   go_meet
   rfl
  ·have i1:((n:Int) != 11)=true:=by rw[bne_iff_ne];omega
   have i2:((n:Int) != 12)=false:=by rw[bne_eq_false_iff_eq];omega
   clear e;go_wp2_with fail
   go_meet
   rfl
 case rest=>
 subst hcut;generalize hW0:w.alloc (.cells (xx false 0 0 0 0 false false 0 false 0 false 0 false 0 false 0 false 0 0 0) 48)=W0 at *;clear hW0;go_wp2_with fail;refine HL.out.mono ?_;rintro r w1 ⟨g,rfl,hx1,hg1,hz1,hb1⟩;have hbP:=qa w1 (aeo g);have hbM:=qa (w1.alloc (aeo g)) (.cells (xx false 0 0 0 0 false false 0 false 0 false 0 false 0 false 0 false 0 0 0) 48);have hbN:=qa ((w1.alloc (aeo g)).alloc (.cells (xx false 0 0 0 0 false false 0 false 0 false 0 false 0 false 0 false 0 0 0) 48)) (fnO w1.1.size);have hbB:=qa (((w1.alloc (aeo g)).alloc (.cells (xx false 0 0 0 0 false false 0 false 0 false 0 false 0 false 0 false 0 0 0) 48)).alloc (fnO w1.1.size)) (.cells (aa1 w1.1.size (w1.1.size+1) (w1.1.size+1+1)) 1);have hzP:(w1.alloc (aeo g)).1.size=w1.1.size+1:=by simp
 have hzM:((w1.alloc (aeo g)).alloc (.cells (xx false 0 0 0 0 false false 0 false 0 false 0 false 0 false 0 false 0 0 0) 48)).1.size=w1.1.size+1+1:=by simp
 have hzN:(((w1.alloc (aeo g)).alloc (.cells (xx false 0 0 0 0 false false 0 false 0 false 0 false 0 false 0 false 0 0 0) 48)).alloc (fnO w1.1.size)).1.size=w1.1.size+1+1+1:=by simp
 have hzW:((((w1.alloc (aeo g)).alloc (.cells (xx false 0 0 0 0 false false 0 false 0 false 0 false 0 false 0 false 0 0 0) 48)).alloc (fnO w1.1.size)).alloc (.cells (aa1 w1.1.size (w1.1.size+1) (w1.1.size+1+1)) 1)).1.size=w1.1.size+1+1+1+1:=by simp
 have hb14:Below w1.1.size w1 ((((w1.alloc (aeo g)).alloc (.cells (xx false 0 0 0 0 false false 0 false 0 false 0 false 0 false 0 false 0 0 0) 48)).alloc (fnO w1.1.size)).alloc (.cells (aa1 w1.1.size (w1.1.size+1) (w1.1.size+1+1)) 1)):=qb (qb (qb hbP hbM) hbN) hbB;have pW:Hid (((((w1.alloc (aeo g)).alloc (.cells (xx false 0 0 0 0 false false 0 false 0 false 0 false 0 false 0 false 0 0 0) 48)).alloc (fnO w1.1.size)).alloc (.cells (aa1 w1.1.size (w1.1.size+1) (w1.1.size+1+1)) 1)).cell? ⟨w1.1.size,0,none⟩=some (.pointer (some ⟨g,0,none⟩))):=(World.cell?_alloc_past _ _ _ om).trans ((World.cell?_alloc_past _ _ _ om).trans ((World.cell?_alloc_past _ _ _ om).trans (World.cell?_alloc_at _ _ _ _ rfl)));have nW:Hid (((((w1.alloc (aeo g)).alloc (.cells (xx false 0 0 0 0 false false 0 false 0 false 0 false 0 false 0 false 0 0 0) 48)).alloc (fnO w1.1.size)).alloc (.cells (aa1 w1.1.size (w1.1.size+1) (w1.1.size+1+1)) 1)).cell? ⟨w1.1.size+1+1,0,none⟩=some (.func (.func 148) #[] #[.pointer (some ⟨w1.1.size,0,none⟩)])):=(World.cell?_alloc_past _ _ _ om).trans (World.cell?_alloc_at _ _ _ _ hzM.symm)
 have HBW:Hid (∀o,((((w1.alloc (aeo g)).alloc (.cells (xx false 0 0 0 0 false false 0 false 0 false 0 false 0 false 0 false 0 0 0) 48)).alloc (fnO w1.1.size)).alloc (.cells (aa1 w1.1.size (w1.1.size+1) (w1.1.size+1+1)) 1)).cell? ⟨w1.1.size+1+1+1,o,none⟩=(aa1 w1.1.size (w1.1.size+1) (w1.1.size+1+1))[o]?):=fun o=>World.cell?_alloc_at _ _ _ _ hzN.symm
 have T0:Hid (TkI (qw g (0,R)) g (w1.1.size+1) (xx false 0 0 0 0 false false 0 false 0 false 0 false 0 false 0 false 0 0 0) ((((w1.alloc (aeo g)).alloc (.cells (xx false 0 0 0 0 false false 0 false 0 false 0 false 0 false 0 false 0 0 0) 48)).alloc (fnO w1.1.size)).alloc (.cells (aa1 w1.1.size (w1.1.size+1) (w1.1.size+1+1)) 1)) ((((w1.alloc (aeo g)).alloc (.cells (xx false 0 0 0 0 false false 0 false 0 false 0 false 0 false 0 false 0 0 0) 48)).alloc (fnO w1.1.size)).alloc (.cells (aa1 w1.1.size (w1.1.size+1) (w1.1.size+1+1)) 1))):=
  ⟨hx1.keep hb14,fun j=>(World.cell?_alloc_past _ _ _ om).trans ((World.cell?_alloc_past _ _ _ om).trans (World.cell?_alloc_at _ _ _ _ hzP.symm)),fun j=>by rw[frozen?_alloc_cells,frozen?_alloc_cells,frozen?_alloc_cells];exact qj _ _ _ om,by omega,by omega,rfl,rfl,rfl,Nat.le_refl _,fun _ _ _ _=>rfl⟩
 have hz0:=HZ0.out;have sP:Hid (w1.1.size<((((w1.alloc (aeo g)).alloc (.cells (xx false 0 0 0 0 false false 0 false 0 false 0 false 0 false 0 false 0 0 0) 48)).alloc (fnO w1.1.size)).alloc (.cells (aa1 w1.1.size (w1.1.size+1) (w1.1.size+1+1)) 1)).1.size∧w1.1.size≠g∧w1.1.size≠w1.1.size+1):=⟨by omega,by omega,by omega⟩;have sN:Hid (w1.1.size+1+1<((((w1.alloc (aeo g)).alloc (.cells (xx false 0 0 0 0 false false 0 false 0 false 0 false 0 false 0 false 0 0 0) 48)).alloc (fnO w1.1.size)).alloc (.cells (aa1 w1.1.size (w1.1.size+1) (w1.1.size+1+1)) 1)).1.size∧w1.1.size+1+1≠g∧w1.1.size+1+1≠w1.1.size+1):=⟨by omega,by omega,by omega⟩;have sB:Hid (w1.1.size+1+1+1<((((w1.alloc (aeo g)).alloc (.cells (xx false 0 0 0 0 false false 0 false 0 false 0 false 0 false 0 false 0 0 0) 48)).alloc (fnO w1.1.size)).alloc (.cells (aa1 w1.1.size (w1.1.size+1) (w1.1.size+1+1)) 1)).1.size∧w1.1.size+1+1+1≠g∧w1.1.size+1+1+1≠w1.1.size+1):=⟨by omega,by omega,by omega⟩
 have hb04:=qb hb1 hb14
 have HRW:Hid ((∀o,((((w1.alloc (aeo g)).alloc (.cells (xx false 0 0 0 0 false false 0 false 0 false 0 false 0 false 0 false 0 0 0) 48)).alloc (fnO w1.1.size)).alloc (.cells (aa1 w1.1.size (w1.1.size+1) (w1.1.size+1+1)) 1)).cell? ⟨w.1.size,o,none⟩=(xx false 0 0 0 0 false false 0 false 0 false 0 false 0 false 0 false 0 0 0)[o]?) ∧(∀o,((((w1.alloc (aeo g)).alloc (.cells (xx false 0 0 0 0 false false 0 false 0 false 0 false 0 false 0 false 0 0 0) 48)).alloc (fnO w1.1.size)).alloc (.cells (aa1 w1.1.size (w1.1.size+1) (w1.1.size+1+1)) 1)).frozen? ⟨w.1.size,o,none⟩=false)∧Below w.1.size w ((((w1.alloc (aeo g)).alloc (.cells (xx false 0 0 0 0 false false 0 false 0 false 0 false 0 false 0 false 0 0 0) 48)).alloc (fnO w1.1.size)).alloc (.cells (aa1 w1.1.size (w1.1.size+1) (w1.1.size+1+1)) 1))):=
  ⟨fun o=>((qv hb04).1 _ o om).trans (HR0.out o),fun o=>((qv hb04).2 _ o om).trans (HR1.out o),Below.trans HB0.out (hb04.mono om)⟩
 have HLT:Hid (w.1.size<((((w1.alloc (aeo g)).alloc (.cells (xx false 0 0 0 0 false false 0 false 0 false 0 false 0 false 0 false 0 0 0) 48)).alloc (fnO w1.1.size)).alloc (.cells (aa1 w1.1.size (w1.1.size+1) (w1.1.size+1+1)) 1)).1.size∧w.1.size<g∧w.1.size<w1.1.size+1):=⟨by omega,by omega,by omega⟩;clear hbP hbM hbN hbB hzP hzM hzN hzW hb14 hz0 hb04 hx1 hg1 hz1 hb1 HL HR0 HR1 HZ0 HB0;go_upto_region 7 with fail;generalize ((((w1.alloc (aeo g)).alloc (.cells (xx false 0 0 0 0 false false 0 false 0 false 0 false 0 false 0 false 0 0 0) 48)).alloc (fnO w1.1.size)).alloc (.cells (aa1 w1.1.size (w1.1.size+1) (w1.1.size+1+1)) 1))=W at *;generalize w1.1.size=P at *;go_wp2_with fail;refine wp_loop_rounds 10 ?_;rw[rounds_succ];have q:=(T0.out.cell (o:=0) sB.out.1 sB.out.2.1 sB.out.2.2).trans (HBW.out 0);go_wp2_with fail;refine(av0 h1 T0.out pW sP nW sN).mono ?_;rintro r x1 ⟨rfl,ht⟩;have T1:=hid ht
 clear ht T0 q;go_wp2_with fail;rw[rounds_succ];have q:=(T1.out.cell (o:=1) sB.out.1 sB.out.2.1 sB.out.2.2).trans (HBW.out 1);go_wp2_with fail;refine(av1 h2 T1.out pW sP).mono ?_;rintro r x2 ⟨rfl,ht⟩;have T2:=hid ht;clear ht T1 q;go_wp2_with fail;rw[rounds_succ];have q:=(T2.out.cell (o:=2) sB.out.1 sB.out.2.1 sB.out.2.2).trans (HBW.out 2);go_wp2_with fail;refine(av2 h3 T2.out pW sP).mono ?_;rintro r x3 ⟨rfl,ht⟩;have T3:=hid ht;clear ht T2 q;go_wp2_with fail;rw[rounds_succ];have q:=(T3.out.cell (o:=3) sB.out.1 sB.out.2.1 sB.out.2.2).trans (HBW.out 3);go_wp2_with fail;refine(av3 h4 T3.out pW sP).mono ?_;rintro r x4 ⟨rfl,ht⟩;have T4:=hid ht;clear ht T3 q;go_wp2_with fail;rw[rounds_succ];have q:=(T4.out.cell (o:=4) sB.out.1 sB.out.2.1 sB.out.2.2).trans (HBW.out 4);go_wp2_with fail;refine(av4 h5 T4.out pW sP).mono ?_;rintro r x5 ⟨rfl,ht⟩;have T5:=hid ht;clear ht T4 q;go_wp2_with fail
 rw[rounds_succ];have q:=(T5.out.cell (o:=5) sB.out.1 sB.out.2.1 sB.out.2.2).trans (HBW.out 5);go_wp2_with fail;refine(av5 h6 T5.out pW sP).mono ?_;rintro r x6 ⟨rfl,ht⟩;have T6:=hid ht;clear ht T5 q;go_wp2_with fail;rw[rounds_succ];have q:=(T6.out.cell (o:=6) sB.out.1 sB.out.2.1 sB.out.2.2).trans (HBW.out 6);go_wp2_with fail;refine(av6 h7 T6.out pW sP nW sN).mono ?_;rintro r x7 ⟨rfl,ht⟩;have T7:=hid ht;clear ht T6 q;go_wp2_with fail;rw[rounds_succ];have q:=(T7.out.cell (o:=7) sB.out.1 sB.out.2.1 sB.out.2.2).trans (HBW.out 7);go_wp2_with fail;refine(av7 h8 T7.out pW sP).mono ?_;rintro r x8 ⟨rfl,ht⟩;have T8:=hid ht;clear ht T7 q;go_wp2_with fail;rw[rounds_succ];have q:=(T8.out.cell (o:=8) sB.out.1 sB.out.2.1 sB.out.2.2).trans (HBW.out 8);go_wp2_with fail;refine(ar2 h9 T8.out pW sP).mono ?_;rintro r x9 ⟨rfl,ht⟩;have T9:=hid ht;clear ht T8 q;go_wp2_with fail;rw[rounds_succ];generalize x9=y9 at *
 obtain⟨E,hE⟩:∃E,r9.1=E:=⟨_,rfl⟩;have HER:=hid (apk T9.out.x);rw[hE]at HER HT;clear hE;have p_:=(T9.out.cell (o:=0) sP.out.1 sP.out.2.1 sP.out.2.2).trans pW.out;have hr:∀j,y9.cell? ⟨w.1.size,j,none⟩=(xx false 0 0 0 0 false false 0 false 0 false 0 false 0 false 0 false 0 0 0)[j]?:=fun j=>(T9.out.cell (by have:=HLT.out;omega) (by have:=HLT.out;omega) (by have:=HLT.out;omega)).trans (HRW.out.1 j)
 have hf:∀j,y9.frozen? ⟨w.1.size,j,none⟩=false:=fun j=>(T9.out.frozen (by have:=HLT.out;omega) (by have:=HLT.out;omega) (by have:=HLT.out;omega)).trans (HRW.out.2.1 j)
 have HB9:Hid (Below w.1.size w y9):=Below.trans HRW.out.2.2 (T9.out.below (by have:=HLT.out;omega) (by have:=HLT.out;omega));have hm:=T9.out.c;have HR:=hid (show AtC y9 w.1.size (xx false 0 0 0 0 false false 0 false 0 false 0 false 0 false 0 false 0 0 0)from hr);have HRF:=hid hf;have HRM:=hid (a0e (show AtC y9 (P+1) (xx cb ch cm cs cc st lb ln ob on sb sn kb kn vb vn db dd dm dy)from hm));clear T9 HRW hr hf hm;go_wp2_with fail;refine HER.out.mono ?_;rintro r w' ⟨rfl,rfl⟩;clear p_ HER HBW sB sN nW;generalize P+1=M at *
 by_cases hE:E=0
 ·subst hE;have HX2:Hid (X=(((cb,ch,cm,cs,cc),st,(lb,ln),(ob,on),(sb,sn),(kb,kn),(db,dd,dm,dy),(vb,vn)),0)):=HT.out.trans (if_pos rfl);clear HT;go_upto_region 15 with fail
  try (apply wp_seq_k;intro K_ HK_)
  apply wp_region_lit;refine wpList_load_mid rfl _ _ rfl M 0 rfl (xx cb ch cm cs cc st lb ln ob on sb sn kb kn vb vn db dd dm dy).toList _ HRM.out underlying48 rfl ahg ?_;refine wpList_store_mid rfl _ _ _ rfl w.1.size 0 (xx cb ch cm cs cc st lb ln ob on sb sn kb kn vb vn db dd dm dy) rfl rfl (aam HR.out HRF.out rfl) ahg (by simp[Value.oneCell']) ?_;have hY:=World.rangeAt_setCells_same y9 w.1.size 0 (xx cb ch cm cs cc st lb ln ob on sb sn kb kn vb vn db dd dm dy).toList (aam HR.out HRF.out rfl);have HBK:=hid (aaw (Nat.le_refl _) (xx cb ch cm cs cc st lb ln ob on sb sn kb kn vb vn db dd dm dy).toList 0 y9 HB9.out);have hld:=aqg (C:=xx cb ch cm cs cc st lb ln ob on sb sn kb kn vb vn db dd dm dy) rfl hY;clear hY HR HRF HB9;generalize World.setCells y9 w.1.size 0 (xx cb ch cm cs cc st lb ln ob on sb sn kb kn vb vn db dd dm dy).toList=Y at *;have HLD:=hid hld;clear hld;go_wp2_with fail;refine bodyPost_ret (v:=.tuple #[bh9 cb ch cm cs cc st lb ln ob on sb sn kb kn vb vn db dd dm dy,.int .i64 0]) (by rw[results_cell_tmp rfl];simp[asAddr,Result.andThen,HLD.out]) rfl ?_
  rw[HX2.out];exact⟨rfl,HBK.out⟩
 ·have hne:(E != 0)=true:=by rw[bne_iff_ne];exact hE
  have HX2:Hid (X=(aaa,E)):=HT.out.trans (if_neg hE);clear hE HT;go_upto_region 14 with fail
  try (apply wp_seq_k;intro K_ HK_)
  apply wp_region_lit;go_step;go_step;go_step;go_step;go_step;go_step;refine wpList_store_mid rfl _ _ _ rfl w.1.size 0 (xx false 0 0 0 0 false false 0 false 0 false 0 false 0 false 0 false 0 0 0) rfl rfl (aam HR.out HRF.out rfl) ahg (by simp[Value.oneCell']) ?_;have hY:=World.rangeAt_setCells_same y9 w.1.size 0 (xx false 0 0 0 0 false false 0 false 0 false 0 false 0 false 0 false 0 0 0).toList (aam HR.out HRF.out rfl);have HBK:=hid (aaw (Nat.le_refl _) (xx false 0 0 0 0 false false 0 false 0 false 0 false 0 false 0 false 0 0 0).toList 0 y9 HB9.out);have hld:=aqg (C:=xx false 0 0 0 0 false false 0 false 0 false 0 false 0 false 0 false 0 0 0) rfl hY;clear hY HR HRF HB9;generalize World.setCells y9 w.1.size 0 (xx false 0 0 0 0 false false 0 false 0 false 0 false 0 false 0 false 0 0 0).toList=Y at *;have HLD:=hid hld;clear hld;go_wp2_with fail;refine bodyPost_ret (v:=.tuple #[bh9 false 0 0 0 0 false false 0 false 0 false 0 false 0 false 0 false 0 0 0,.int .i64 E]) (by rw[results_cell_tmp rfl];simp[asAddr,Result.andThen,HLD.out]) rfl ?_
  rw[HX2.out];exact⟨rfl,HBK.out⟩
theorem am1 (A:Option Addr) (n c:Nat) (w:World) (h:((n:Int) != 11)=true) (h2:((n:Int) != 12)=true):Calls prog 103 #[.slice A n c] w (aj3 (aaa,3) w):=by
 have HB9:=hid (qa w (.cells (xx false 0 0 0 0 false false 0 false 0 false 0 false 0 false 0 false 0 0 0) 48));have HR:Hid (AtC (w.alloc (.cells (xx false 0 0 0 0 false false 0 false 0 false 0 false 0 false 0 false 0 0 0) 48)) w.1.size (xx false 0 0 0 0 false false 0 false 0 false 0 false 0 false 0 false 0 0 0)):=fun o=>World.cell?_alloc_at _ _ _ _ rfl
 have HRF:Hid (∀o,(w.alloc (.cells (xx false 0 0 0 0 false false 0 false 0 false 0 false 0 false 0 false 0 0 0) 48)).frozen? ⟨w.1.size,o,none⟩=false):=fun o=>by rw[frozen?_alloc_cells];exact qj _ _ _ (Nat.le_refl _)
 go_enter func103,ntmps103
 try dsimp only
 repeat (fail_if_success (show Code.wp _ (Code.seq (Code.region 1 _ _) _) _ _ _)
         first|go_values|go_skip|go_guarded|go_step|go_upon|go_back|(simp only[Int.not_lt,Int.not_le]at *;go_simp)|(go_ite<;>go_prune<;>(try go_simp)))
 generalize hW0:w.alloc (.cells (xx false 0 0 0 0 false false 0 false 0 false 0 false 0 false 0 false 0 0 0) 48)=W0 at *;clear hW0;go_upto_region 2 with fail
 try (apply wp_seq_k;intro K_ HK_)
 apply wp_region_lit;go_step;go_step;go_step;refine wpList_store_mid rfl _ _ _ rfl w.1.size 0 (xx false 0 0 0 0 false false 0 false 0 false 0 false 0 false 0 false 0 0 0) rfl rfl (aam HR.out HRF.out rfl) ahg (by simp[Value.oneCell']) ?_;have hY:=World.rangeAt_setCells_same W0 w.1.size 0 (xx false 0 0 0 0 false false 0 false 0 false 0 false 0 false 0 false 0 0 0).toList (aam HR.out HRF.out rfl);have HBK:=hid (aaw (Nat.le_refl _) (xx false 0 0 0 0 false false 0 false 0 false 0 false 0 false 0 false 0 0 0).toList 0 W0 HB9.out);have hld:=aqg (C:=xx false 0 0 0 0 false false 0 false 0 false 0 false 0 false 0 false 0 0 0) rfl hY;clear hY HR HRF HB9;generalize World.setCells W0 w.1.size 0 (xx false 0 0 0 0 false false 0 false 0 false 0 false 0 false 0 false 0 0 0).toList=Y at *;have HLD:=hid hld;clear hld;go_wp2_with fail;refine bodyPost_ret (v:=.tuple #[bh9 false 0 0 0 0 false false 0 false 0 false 0 false 0 false 0 false 0 0 0,.int .i64 3]) (by rw[results_cell_tmp rfl];simp[asAddr,Result.andThen,HLD.out]) rfl ?_
 exact⟨rfl,HBK.out⟩
theorem a0p (A:Option Addr) (R:List ByteArray) (c:Nat) (w:World) (hA:A=none→c=0) (hs:vy w w.1.size A R) (hz:∀t∈R,t.size≤1000000):Calls prog 103 #[.slice A R.length c] w (aj3 (yc R) w):=by
 by_cases h:R.length=11∨R.length=12
 ·exact a48 A R.length c R w rfl hA hs hz h
 ·rw[show yc R=(aaa,3)from if_pos ⟨fun q=>h (.inl q),fun q=>h (.inr q)⟩];exact am1 A R.length c w (by rw[bne_iff_ne];omega) (by rw[bne_iff_ne];omega)
structure NmD where
 k:Int
 t:ByteArray
 g:at7
 r:at9
 s:a2o
 v:V4
 u:a2p
def zV4:V4:=((false,0),(false,0),(false,0),(false,0))
def arg:NmD:=⟨0,ByteArray.empty,yz,aaa,ye,zV4,vt⟩
def gL (x:at7):List Value:=[.bool x.1.1,.int .i64 x.1.2.1,.int .i64 x.1.2.2.1,.int .i64 x.1.2.2.2.1,.int .i64 x.1.2.2.2.2,.bool x.2.1.1,.int .i64 x.2.1.2,.bool x.2.2.1.1,.int .i64 x.2.2.1.2,.int .i64 x.2.2.2.1,.bool x.2.2.2.2.1.1,.int .i64 x.2.2.2.2.1.2,.bool x.2.2.2.2.2.1.1,.int .i64 x.2.2.2.2.2.1.2,.bool x.2.2.2.2.2.2.1.1,.int .i64 x.2.2.2.2.2.2.1.2,.bool x.2.2.2.2.2.2.2.1.1,.int .i64 x.2.2.2.2.2.2.2.1.2,.bool x.2.2.2.2.2.2.2.2.1.1,.int .i64 x.2.2.2.2.2.2.2.2.1.2,.bool x.2.2.2.2.2.2.2.2.2.1,.int .i64 x.2.2.2.2.2.2.2.2.2.2]
def rL (x:at9):List Value:=[.bool x.1.1,.int .i64 x.1.2.1,.int .i64 x.1.2.2.1,.int .i64 x.1.2.2.2.1,.int .i64 x.1.2.2.2.2,.bool x.2.1,.bool x.2.2.1.1,.int .i64 x.2.2.1.2,.bool x.2.2.2.1.1,.int .i64 x.2.2.2.1.2,.bool x.2.2.2.2.1.1,.int .i64 x.2.2.2.2.1.2,.bool x.2.2.2.2.2.1.1,.int .i64 x.2.2.2.2.2.1.2,.bool x.2.2.2.2.2.2.2.1,.int .i64 x.2.2.2.2.2.2.2.2,.bool x.2.2.2.2.2.2.1.1,.int .i64 x.2.2.2.2.2.2.1.2.1,.int .i64 x.2.2.2.2.2.2.1.2.2.1,.int .i64 x.2.2.2.2.2.2.1.2.2.2]
def sL (x:a2o) (y:Value):List Value:=[.bool x.a,.int .i64 x.f,y,.bool x.p0.1,.int .i64 x.p0.2,.bool x.p1.1,.int .i64 x.p1.2,.bool x.p2.1,.int .i64 x.p2.2]
def uL (x:a2p) (y:Value):List Value:=[.int .i64 x.T,.int .i64 x.N,.int .i64 x.S,y]
def nmC (m:NmD) (x y:Value):List Value:=nmL m.k m.t (gL m.g) (rL m.r) (sL m.s x) (j5 m.v) (uL m.u y)
theorem ad7 (m:NmD) (x y:Value):ab5 (gL m.g) (rL m.r) (sL m.s x) (j5 m.v) (uL m.u y):=⟨rfl,rfl,rfl,rfl,rfl⟩
theorem an5 (x:at7):xj (gL x):=xj.of rfl
theorem an6 (x:at9):xj (rL x):=xj.of rfl
theorem xj.cons {v:Value} {L:List Value} (h:v.oneCell'=true) (hL:xj L):xj (v::L):=fun u hu=>by
 rcases List.mem_cons.1 hu with rfl|hu
 ·exact h
 ·exact hL u hu
theorem av9 (x:a2o) {y:Value} (h:y.oneCell'=true):xj (sL x y):=xj.cons rfl (xj.cons rfl (xj.cons h (xj.of rfl)))
theorem an9 (x:V4):xj (j5 x):=xj.of rfl
theorem aw7 (x:a2p) {y:Value} (h:y.oneCell'=true):xj (uL x y):=xj.cons rfl (xj.cons rfl (xj.cons rfl (xj.cons h (xj.of rfl))))
theorem agz.flatq {w:World} {B:Nat} {A:Option Addr} {L:List Int} (h:agz w B A L):qf (fun b=>b<B) w A (L.map (Value.int .i64)):=fun j u hu=>by
 rw[List.getElem?_map]at hu;cases hj:L[j]? with
 | none=>rw[hj]at hu;cases hu
 | some z=>
  rw[hj]at hu;obtain⟨hlt,rfl⟩:=List.getElem?_eq_some_iff.1 hj;obtain⟨b,off,h1,h2,h3⟩:=h j hlt;injection hu with hu
  exact⟨b,off,h1,h2,h3.trans (by rw[← hu])⟩
theorem qf.ints {Q:Nat→Prop} {w:World} {A:Option Addr} {L:List Int} (h:qf Q w A (L.map (Value.int .i64))):agz w w.1.size A L:=fun k hk=>by
 obtain⟨b,off,h1,-,h3⟩:=h k (.int .i64 L[k]) (by rw[List.getElem?_map,List.getElem?_eq_getElem hk];rfl);exact⟨b,off,h1,World.block_lt_of_cell? w _ h3,h3⟩
def Bk (lo:Nat) (w:World) (b:Nat):Prop:=lo≤b∧b<w.1.size
theorem ass {lo:Nat} {w w':World} {A:Option Addr} {xs:List Value} (h:qf (Bk lo w) w A xs) (hb:Below w.1.size w w'):qf (Bk lo w') w' A xs:=
 (h.below hb fun b q=>q.2).less fun b q=>⟨q.1,Nat.lt_of_lt_of_le q.2 hb.size⟩
theorem bcp {lo:Nat} {w W:World} {b o:Nat} {cs:List Value} {A:Option Addr} {xs:List Value} (h:qf (Bk lo w) w A xs) (hs:qz w W b o cs) (hl:b<lo):qf (Bk lo W) W A xs:=
 (h.keep fun k q=>hs.far k (fun e=>by have:=q.1;omega)).less fun k q=>⟨q.1,by rw[hs.sz];exact q.2⟩
theorem bgg {w:World} {A:Option Addr} {l:List Int} (h:agz w w.1.size A l):qf (Bk 0 w) w A (l.map (Value.int .i64)):=(agz.flatq h).less fun b q=>⟨Nat.zero_le _,q⟩
theorem bjt {w:World} {A:Option Addr} {l:List V4} (h:Vws w w.1.size A l):qf (Bk 0 w) w A (vsC l):=(Vws.flatq h).less fun b q=>⟨Nat.zero_le _,q⟩
def SlI (lo:Nat) (w:World) (y:Value) (l:List Int):Prop:=∃A c,y=.slice A l.length c∧qf (Bk lo w) w A (l.map (Value.int .i64))
def SlV (lo:Nat) (w:World) (y:Value) (l:List V4):Prop:=∃A c,y=.slice A l.length c∧qf (Bk lo w) w A (vsC l)
theorem SlI.one {lo:Nat} {w:World} {y:Value} {l:List Int} (h:SlI lo w y l):y.oneCell'=true:=by obtain⟨A,c,rfl,-⟩:=h;rfl
theorem SlV.one {lo:Nat} {w:World} {y:Value} {l:List V4} (h:SlV lo w y l):y.oneCell'=true:=by obtain⟨A,c,rfl,-⟩:=h;rfl
theorem SlI.on {lo:Nat} {w w':World} {y:Value} {l:List Int} (h:SlI lo w y l) (hb:Below w.1.size w w'):SlI lo w' y l:=by
 obtain⟨A,c,h1,h2⟩:=h;exact⟨A,c,h1,ass h2 hb⟩
theorem SlV.on {lo:Nat} {w w':World} {y:Value} {l:List V4} (h:SlV lo w y l) (hb:Below w.1.size w w'):SlV lo w' y l:=by
 obtain⟨A,c,h1,h2⟩:=h;exact⟨A,c,h1,ass h2 hb⟩
theorem SlI.less {lo lo':Nat} {w:World} {y:Value} {l:List Int} (h:SlI lo w y l) (hl:lo'≤lo):SlI lo' w y l:=by
 obtain⟨A,c,h1,h2⟩:=h;exact⟨A,c,h1,h2.less fun b q=>⟨Nat.le_trans hl q.1,q.2⟩⟩
theorem SlV.less {lo lo':Nat} {w:World} {y:Value} {l:List V4} (h:SlV lo w y l) (hl:lo'≤lo):SlV lo' w y l:=by
 obtain⟨A,c,h1,h2⟩:=h;exact⟨A,c,h1,h2.less fun b q=>⟨Nat.le_trans hl q.1,q.2⟩⟩
theorem SlI.far {lo:Nat} {w W:World} {b o:Nat} {cs:List Value} {y:Value} {l:List Int} (h:SlI lo w y l) (hs:qz w W b o cs) (hl:b<lo):SlI lo W y l:=by
 obtain⟨A,c,h1,h2⟩:=h;exact⟨A,c,h1,bcp h2 hs hl⟩
theorem SlV.far {lo:Nat} {w W:World} {b o:Nat} {cs:List Value} {y:Value} {l:List V4} (h:SlV lo w y l) (hs:qz w W b o cs) (hl:b<lo):SlV lo W y l:=by
 obtain⟨A,c,h1,h2⟩:=h;exact⟨A,c,h1,bcp h2 hs hl⟩
theorem SlI.nil (lo:Nat) (w:World):SlI lo w (.slice none 0 0) []:=⟨none,0,rfl,qf.nil _ _ _⟩
theorem SlV.nil (lo:Nat) (w:World):SlV lo w (.slice none 0 0) []:=⟨none,0,rfl,qf.nil _ _ _⟩
def NmV (lo:Nat) (w:World) (C:Array Value) (m:NmD):Prop:=∃x y,C=(nmC m x y).toArray∧SlI lo w x m.s.ids∧SlV lo w y m.u.L
theorem NmV.on {lo:Nat} {w w':World} {C:Array Value} {m:NmD} (h:NmV lo w C m) (hb:Below w.1.size w w'):NmV lo w' C m:=by
 obtain⟨x,y,h1,h2,h3⟩:=h;exact⟨x,y,h1,h2.on hb,h3.on hb⟩
theorem NmV.less {lo lo':Nat} {w:World} {C:Array Value} {m:NmD} (h:NmV lo w C m) (hl:lo'≤lo):NmV lo' w C m:=by
 obtain⟨x,y,h1,h2,h3⟩:=h;exact⟨x,y,h1,h2.less hl,h3.less hl⟩
theorem NmV.far {lo:Nat} {w W:World} {b o:Nat} {cs:List Value} {C:Array Value} {m:NmD} (h:NmV lo w C m) (hs:qz w W b o cs) (hl:b<lo):NmV lo W C m:=by
 obtain⟨x,y,h1,h2,h3⟩:=h;exact⟨x,y,h1,h2.far hs hl,h3.far hs hl⟩
theorem a7c (m:NmD) (x y:Value):(nmC m x y).length=65:=aa6 (ad7 m x y)
theorem NmV.len {lo:Nat} {w:World} {C:Array Value} {m:NmD} (h:NmV lo w C m):C.size=65:=by
 obtain⟨x,y,rfl,-⟩:=h;rw[List.size_toArray,a7c]
theorem NmV.ones {lo:Nat} {w:World} {C:Array Value} {m:NmD} (h:NmV lo w C m):C.all (·.oneCell')=true:=by
 obtain⟨x,y,rfl,h2,h3⟩:=h;exact xj.arr (v5 (an5 _) (an6 _) (av9 _ h2.one) (an9 _) (aw7 _ h3.one))
theorem NmV.zero (lo:Nat) (w:World):NmV lo w zNm arg:=⟨_,_,rfl,SlI.nil lo w,SlV.nil lo w⟩
def bin (lo:Nat) (w:World) (v:Value) (m:NmD):Prop:=
 (m.k=1∧v=.iface 239 (.agg (gL m.g).toArray)) ∨(m.k=2∧v=.iface 243 (.agg (rL m.r).toArray)) ∨
 (m.k=3∧∃x,v=.iface 247 (.agg (sL m.s x).toArray)∧SlI lo w x m.s.ids) ∨(m.k=4∧v=.iface 251 (.agg (j5 m.v).toArray)) ∨
 (m.k=5∧∃x,v=.iface 255 (.agg (uL m.u x).toArray)∧SlV lo w x m.u.L) ∨(¬(1≤m.k∧m.k≤5)∧v=.nilIface)
def aat (t:ByteArray) (m:NmD):NmD:=
 if m.k=1 then⟨1,t,m.g,aaa,ye,zV4,vt⟩else if m.k=2 then⟨2,t,yz,m.r,ye,zV4,vt⟩else if m.k=3 then⟨3,t,yz,aaa,m.s,zV4,vt⟩
 else if m.k=4 then⟨4,t,yz,aaa,ye,m.v,vt⟩else if m.k=5 then⟨5,t,yz,aaa,ye,zV4,m.u⟩else⟨0,t,yz,aaa,ye,zV4,vt⟩
def ada (k:Int):ByteArray:=if k=1 then⟨#[71,71,65]⟩else if k=2 then⟨#[82,77,67]⟩else if k=3 then⟨#[71,83,65]⟩else if k=4 then⟨#[86,84,71]⟩else if k=5 then⟨#[71,83,86]⟩else⟨#[]⟩
theorem bej {t:ByteArray} {m:NmD} (h:m.k=1):aat t m=⟨1,t,m.g,aaa,ye,zV4,vt⟩∧ada m.k=⟨#[71,71,65]⟩:=⟨if_pos h,if_pos h⟩
theorem bek {t:ByteArray} {m:NmD} (h:m.k=2):aat t m=⟨2,t,yz,m.r,ye,zV4,vt⟩∧ada m.k=⟨#[82,77,67]⟩:=by simp[aat,ada,h]
theorem bem {t:ByteArray} {m:NmD} (h:m.k=3):aat t m=⟨3,t,yz,aaa,m.s,zV4,vt⟩∧ada m.k=⟨#[71,83,65]⟩:=by simp[aat,ada,h]
theorem ben {t:ByteArray} {m:NmD} (h:m.k=4):aat t m=⟨4,t,yz,aaa,ye,m.v,vt⟩∧ada m.k=⟨#[86,84,71]⟩:=by simp[aat,ada,h]
theorem beo {t:ByteArray} {m:NmD} (h:m.k=5):aat t m=⟨5,t,yz,aaa,ye,zV4,m.u⟩∧ada m.k=⟨#[71,83,86]⟩:=by simp[aat,ada,h]
theorem a7f {t:ByteArray} {m:NmD} (h:¬(1≤m.k∧m.k≤5)):aat t m=⟨0,t,yz,aaa,ye,zV4,vt⟩∧ada m.k=⟨#[]⟩:=by
 unfold aat ada;rw[if_neg om,if_neg om,if_neg om,if_neg om,if_neg om,if_neg om,if_neg om,if_neg om,if_neg om,if_neg om];exact⟨rfl,rfl⟩
theorem a4j {lo:Nat} {v:Value} {m:NmD} {w:World} {t:ByteArray} (h:bin lo w v m) (h1:m.s.ids.length≤1000000) (h2:m.u.L.length≤1000000) :
 Calls prog 84 #[.string t,v] w fun e w'=>∃C,e=.returned (.tuple #[.agg C,.string (ada m.k)])∧NmV w.1.size w' C (aat t m)∧Below w.1.size w w':=by
 rcases h with⟨hk,rfl⟩|⟨hk,rfl⟩|⟨hk,x,rfl,A,c,rfl,hs⟩|⟨hk,rfl⟩|⟨hk,x,rfl,A,c,rfl,hs⟩|⟨hk,rfl⟩
 ·rw[(bej (t:=t) hk).1,(bej (t:=t) hk).2];refine(bea (G:=gL m.g) rfl (an5 _) w).mono ?_;rintro e w' ⟨rfl,hb⟩;exact⟨_,rfl,⟨_,_,rfl,SlI.nil _ _,SlV.nil _ _⟩,hb⟩
 ·rw[(bek (t:=t) hk).1,(bek (t:=t) hk).2];refine(beb (R:=rL m.r) rfl (an6 _) w).mono ?_;rintro e w' ⟨rfl,hb⟩;exact⟨_,rfl,⟨_,_,rfl,SlI.nil _ _,SlV.nil _ _⟩,hb⟩
 ·rw[(bem (t:=t) hk).1,(bem (t:=t) hk).2];refine(bec w (a:=m.s.a) (f:=m.s.f) (A:=A) (c:=c) (D:=m.s.ids) (b0:=m.s.p0.1) (n0:=m.s.p0.2) (b1:=m.s.p1.1) (n1:=m.s.p1.2) (b2:=m.s.p2.1) (n2:=m.s.p2.2) (hs.less fun b q=>q.2) h1).mono ?_;rintro e w' ⟨B,d,rfl,hf,hb⟩;exact⟨_,rfl,⟨_,_,rfl,⟨B,d,rfl,hf⟩,SlV.nil _ _⟩,hb⟩
 ·rw[(ben (t:=t) hk).1,(ben (t:=t) hk).2];refine(bed (V:=j5 m.v) rfl (an9 _) w).mono ?_;rintro e w' ⟨rfl,hb⟩;exact⟨_,rfl,⟨_,_,rfl,SlI.nil _ _,SlV.nil _ _⟩,hb⟩
 ·rw[(beo (t:=t) hk).1,(beo (t:=t) hk).2];refine(bee w (T:=m.u.T) (N:=m.u.N) (S:=m.u.S) (A:=A) (c:=c) (D:=m.u.L) (hs.less fun b q=>q.2) h2).mono ?_;rintro e w' ⟨B,d,rfl,hf,hb⟩;exact⟨_,rfl,⟨_,_,rfl,SlI.nil _ _,⟨B,d,rfl,hf⟩⟩,hb⟩
 ·rw[(a7f (t:=t) hk).1,(a7f (t:=t) hk).2];refine(a9s w).mono ?_;rintro e w' ⟨rfl,hb⟩;exact⟨_,rfl,⟨_,_,rfl,SlI.nil _ _,SlV.nil _ _⟩,hb⟩
