/- Layer 27: the reference's Take. Printed by gengsar.py. -/
import Derived.Test.YtdkhlkfleggbaaaGreatR31
import Derived.Test.YtdkhlkfleggbaaaGreatR34
import Derived.Test.YtdkhlkfleggbaaaGreatR36
import Derived.Test.YtdkhlkfleggbaaaGreatR39
import Derived.Test.YtdkhlkfleggbaaaGreatR41
namespace Go.Proofs.YtdkhlkfleggbaaaGreat
set_option maxHeartbeats 4000000
set_option maxRecDepth 8000
open Lib (hid)
open Tryz
set_option linter.unusedVariables false
open Go.RowKit
theorem ay4 (A:Option Addr) (R:List ByteArray) (c:Nat) (w:World) (hA:A=none→c=0) (hs:vg w w.1.size A R) (hz:∀t∈R,t.size≤1000000):Calls Tryz.prog 104 #[.slice A R.length c] w (ajz (js R) w):=by
 by_cases h:R.length=17
 ·exact a3z A R.length c R w rfl hA hs hz h
 ·have:js R=(yc,3):=by unfold js;rw[if_pos h]
  rw[this];exact amh A R.length c w (by rw[bne_iff_ne];omega)
theorem a09 (R:List ByteArray):(js R).1.ids.length≤12:=by
 unfold js
 split
 ·exact Nat.zero_le _
 ·split
  ·exact atg 12 _
  ·exact Nat.zero_le _
section
variable {P : Program} {ops : Array Oper} {rest : List Oper} {o : Oper} {a : Act} {w : World} {Q : Exit → Act → World → Prop}
end
theorem ae0 {w:World} {B:Nat} {A:Option Addr} {fs:List ByteArray} (hs:vg w B A fs) (hf:fs≠[]):∀c:Nat,A=none→c=0:=fun c h=>by
 cases fs with
 | nil=>exact absurd rfl hf
 | cons x l=>
  obtain⟨b,off,h1,-⟩:=hs 0 sm;rw[h]at h1;cases h1
theorem ayx (A:Option Addr) (R:List ByteArray) (c:Nat) (w:World) (hs:vg w w.1.size A R) (hz:∀t∈R,t.size≤1000000):Calls Tryz.prog 102 #[.slice A R.length c] w (ajy (vv R) w):=by
 by_cases h:R=[]
 ·subst h;rw[show vv []=(ys,3)from if_pos dc];exact amf A 0 c w rfl
 ·exact ayy A R c w (ae0 hs h c) hs hz
theorem az6 (A:Option Addr) (R:List ByteArray) (c:Nat) (w:World) (hs:vg w w.1.size A R) (hz:∀t∈R,t.size≤1000000):Calls Tryz.prog 103 #[.slice A R.length c] w (aj2 (vw R) w):=by
 by_cases h:R=[]
 ·subst h;rw[show vw []=(yt,3)from if_pos dc];exact amq A 0 c w rfl rfl
 ·exact az7 A R c w (ae0 hs h c) hs hz
theorem ay3 (A:Option Addr) (R:List ByteArray) (c:Nat) (w:World) (hs:vg w w.1.size A R) (hz:∀t∈R,t.size≤1000000):Calls Tryz.prog 104 #[.slice A R.length c] w (ajz (js R) w):=by
 by_cases h:R=[]
 ·subst h;rw[show js []=(yc,3)from if_pos dc];exact amh A 0 c w rfl
 ·exact ay4 A R c w (ae0 hs h c) hs hz
theorem a1w (A:Option Addr) (R:List ByteArray) (c:Nat) (w:World) (hs:vg w w.1.size A R) (hn:R.length≤1000000) (hz:∀t∈R,t.size≤1000000):Calls Tryz.prog 105 #[.slice A R.length c] w (aj4 (jc R) w):=by
 by_cases h:R=[]
 ·subst h;rw[show jc []=(aen,3)from if_pos dc];exact amy A 0 c w rfl rfl
 ·exact a1x A R c w (ae0 hs h c) hs hn hz
theorem ay6 (A:Option Addr) (R:List ByteArray) (c:Nat) (w:World) (hs:vg w w.1.size A R) (hn:R.length≤1000000) (hz:∀t∈R,t.size≤1000000):Calls Tryz.prog 106 #[.slice A R.length c] w (aj0 (zt R) w):=by
 by_cases h:R=[]
 ·subst h;rw[show zt []=(v6,3)from if_pos (.inl dc)];exact ami A 0 c w (.inl dc) om
 ·exact ay7 A R c w (ae0 hs h c) hs hn hz
def l4v (N:List (Bool×Int)):V4:=(N.getD 0 (false,0),N.getD 1 (false,0),N.getD 2 (false,0),N.getD 3 (false,0))
theorem bbh {N:List (Bool×Int)} (h:N.length=4):a7b N=.agg (vy (l4v N)).toArray:=by
 match N,h with
 | [a,b,c,d],_=>rfl
def aeu (y:ByteArray) (fs:List ByteArray):NmD×Int:=
 if y=⟨#[71,71,65]⟩then(⟨1,ByteArray.empty,(vv fs).1,yt,yc,zV4,v6⟩,(vv fs).2)else if y=⟨#[82,77,67]⟩then(⟨2,ByteArray.empty,ys,(vw fs).1,yc,zV4,v6⟩,(vw fs).2)else if y=⟨#[71,83,65]⟩then(⟨3,ByteArray.empty,ys,yt,(js fs).1,zV4,v6⟩,(js fs).2)else if y=⟨#[86,84,71]⟩then(⟨4,ByteArray.empty,ys,yt,yc,l4v (jc fs).1,v6⟩,(jc fs).2)else if y=⟨#[71,83,86]⟩then(⟨5,ByteArray.empty,ys,yt,yc,zV4,(zt fs).1⟩,(zt fs).2)else(aq4,6)
def aha (t y:ByteArray) (fs:List ByteArray):NmD×Int:=if(aeu y fs).2=0 then(abn t (aeu y fs).1,0)else(aq4,(aeu y fs).2)
theorem bfn (w:World):(zeroValue 44).run Tryz.prog w=.ok (.agg zw.toArray) w:=by kernel_rfl
theorem bfq (w:World):(zeroValue 48).run Tryz.prog w=.ok (.agg zx.toArray) w:=by kernel_rfl
theorem bfo (w:World):(zeroValue 51).run Tryz.prog w=.ok (.agg xp.toArray) w:=by kernel_rfl
theorem bfr (w:World):(zeroValue 53).run Tryz.prog w=.ok (.agg xe.toArray) w:=by kernel_rfl
theorem bfp (w:World):(zeroValue 56).run Tryz.prog w=.ok (.agg xt.toArray) w:=by kernel_rfl
def aik (k:Nat) (S:World→List Value→Prop) (E:Int) (w:World) (e:Ending) (w':World):Prop:=∃G:List Value,e=.returned (.tuple #[.agg G.toArray,.int .i64 E])∧G.length=k∧xg G∧S w' G∧Below w.1.size w w'
def anz (T:TypeId) (S:World→List Value→Prop) (E:Int) (w:World) (e:Ending) (w':World):Prop:=∃G:List Value,e=.returned (.tuple #[.iface T (.agg G.toArray),.int .i64 E])∧S w' G∧Below w.1.size w w'
theorem bdi {t:ByteArray} {A:Option Addr} {n c:Nat} {S:World→List Value→Prop} {E:Int} {w:World} (hS:Hid (∀w w' G,S w G→Below w.1.size w w'→S w' G)) (HP:∀W,Below w.1.size w W→Hid (Calls Tryz.prog 102 #[.slice A n c] W (aik 22 S E W))):Calls Tryz.prog 83 #[.agg #[.string t,.string ⟨#[71,71,65]⟩,.slice A n c]] w (anz 239 S E w):=by
 have HB0:=hid (qa w (.cells #[.string t,.string ⟨#[71,71,65]⟩,.slice A n c] 150));go_enter func83,ntmps83;go_wp2_with fail;refine(HP _ HB0.out).out.mono ?_;rintro e W2 ⟨G,rfl,hl,ho,hs,hb⟩;have HL:=hid hl;have HO:=hid ho;have HBE:=hid (qb HB0.out hb);have HSS:=hid hs;have HLT:Hid (w.1.size≤W2.1.size):=HBE.out.size;have HZ:Hid ((Tryz.prog.info? 44).map (·.size)=some G.length):=by rw[HL.out];exact ajf
 clear hl ho hs hb HP HB0
 go_wp2_with (first
  | (refine qc rfl 44 rfl zw.toArray (bfn _) ?_;intro W4 hW4;have HK:=hid (Blk.newL (L:=zw) hW4 rfl);have HBE4:=hid (qb HBE.out hW4.bel);have HS4:=hid (hS.out _ _ _ HSS.out hW4.bel);have HB4:=hid hW4.bel;clear hW4 HBE)
  | (refine qe rfl 44 _ _ rfl W2.1.size 0 G.toArray rfl rfl (HK.out.thereA HL.out) (by rw[List.size_toArray];exact HZ.out) (xg.arr HO.out) ?_;intro W5 hW5;have HK5:Hid (Blk W5 W2.1.size G):=HK.out.all hW5 HL.out;have HBE5:=hid (HBE4.out.trans (hW5.below (by have:=HBE4.out.size;exact HLT.out)));have HS5:=hid (hS.out _ _ _ HSS.out (HB4.out.trans (hW5.below (Nat.le_refl _))));clear hW5 HK HBE4 HS4 HB4)
  | refine wpList_load_mid rfl 44 _ rfl W2.1.size 0 rfl G _ HK5.out.rg underlying44 rfl HZ.out ?_
  | refine zg (u:=.agg G.toArray) rfl 239 0 _ rfl rfl (axv G HL.out _) ?_)
 go_ret2
 exact⟨G,rfl,HS5.out,HBE5.out⟩
theorem bdj {t:ByteArray} {A:Option Addr} {n c:Nat} {S:World→List Value→Prop} {E:Int} {w:World} (hS:Hid (∀w w' G,S w G→Below w.1.size w w'→S w' G)) (HP:∀W,Below w.1.size w W→Hid (Calls Tryz.prog 103 #[.slice A n c] W (aik 20 S E W))):Calls Tryz.prog 83 #[.agg #[.string t,.string ⟨#[82,77,67]⟩,.slice A n c]] w (anz 243 S E w):=by
 have HB0:=hid (qa w (.cells #[.string t,.string ⟨#[82,77,67]⟩,.slice A n c] 150));go_enter func83,ntmps83;go_wp2_with fail;refine(HP _ HB0.out).out.mono ?_;rintro e W2 ⟨G,rfl,hl,ho,hs,hb⟩;have HL:=hid hl;have HO:=hid ho;have HBE:=hid (qb HB0.out hb);have HSS:=hid hs;have HLT:Hid (w.1.size≤W2.1.size):=HBE.out.size;have HZ:Hid ((Tryz.prog.info? 48).map (·.size)=some G.length):=by rw[HL.out];exact aji
 clear hl ho hs hb HP HB0
 go_wp2_with (first
  | (refine qc rfl 48 rfl zx.toArray (bfq _) ?_;intro W4 hW4;have HK:=hid (Blk.newL (L:=zx) hW4 rfl);have HBE4:=hid (qb HBE.out hW4.bel);have HS4:=hid (hS.out _ _ _ HSS.out hW4.bel);have HB4:=hid hW4.bel;clear hW4 HBE)
  | (refine qe rfl 48 _ _ rfl W2.1.size 0 G.toArray rfl rfl (HK.out.thereA HL.out) (by rw[List.size_toArray];exact HZ.out) (xg.arr HO.out) ?_;intro W5 hW5;have HK5:Hid (Blk W5 W2.1.size G):=HK.out.all hW5 HL.out;have HBE5:=hid (HBE4.out.trans (hW5.below (by have:=HBE4.out.size;exact HLT.out)));have HS5:=hid (hS.out _ _ _ HSS.out (HB4.out.trans (hW5.below (Nat.le_refl _))));clear hW5 HK HBE4 HS4 HB4)
  | refine wpList_load_mid rfl 48 _ rfl W2.1.size 0 rfl G _ HK5.out.rg underlying48 rfl HZ.out ?_
  | refine zg (u:=.agg G.toArray) rfl 243 0 _ rfl rfl (axy G HL.out _) ?_)
 go_ret2
 exact⟨G,rfl,HS5.out,HBE5.out⟩
theorem bdk {t:ByteArray} {A:Option Addr} {n c:Nat} {S:World→List Value→Prop} {E:Int} {w:World} (hS:Hid (∀w w' G,S w G→Below w.1.size w w'→S w' G)) (HP:∀W,Below w.1.size w W→Hid (Calls Tryz.prog 104 #[.slice A n c] W (aik 9 S E W))):Calls Tryz.prog 83 #[.agg #[.string t,.string ⟨#[71,83,65]⟩,.slice A n c]] w (anz 247 S E w):=by
 have HB0:=hid (qa w (.cells #[.string t,.string ⟨#[71,83,65]⟩,.slice A n c] 150));go_enter func83,ntmps83;go_wp2_with fail;refine(HP _ HB0.out).out.mono ?_;rintro e W2 ⟨G,rfl,hl,ho,hs,hb⟩;have HL:=hid hl;have HO:=hid ho;have HBE:=hid (qb HB0.out hb);have HSS:=hid hs;have HLT:Hid (w.1.size≤W2.1.size):=HBE.out.size;have HZ:Hid ((Tryz.prog.info? 51).map (·.size)=some G.length):=by rw[HL.out];exact ajg
 clear hl ho hs hb HP HB0
 go_wp2_with (first
  | (refine qc rfl 51 rfl xp.toArray (bfo _) ?_;intro W4 hW4;have HK:=hid (Blk.newL (L:=xp) hW4 rfl);have HBE4:=hid (qb HBE.out hW4.bel);have HS4:=hid (hS.out _ _ _ HSS.out hW4.bel);have HB4:=hid hW4.bel;clear hW4 HBE)
  | (refine qe rfl 51 _ _ rfl W2.1.size 0 G.toArray rfl rfl (HK.out.thereA HL.out) (by rw[List.size_toArray];exact HZ.out) (xg.arr HO.out) ?_;intro W5 hW5;have HK5:Hid (Blk W5 W2.1.size G):=HK.out.all hW5 HL.out;have HBE5:=hid (HBE4.out.trans (hW5.below (by have:=HBE4.out.size;exact HLT.out)));have HS5:=hid (hS.out _ _ _ HSS.out (HB4.out.trans (hW5.below (Nat.le_refl _))));clear hW5 HK HBE4 HS4 HB4)
  | refine wpList_load_mid rfl 51 _ rfl W2.1.size 0 rfl G _ HK5.out.rg underlying51 rfl HZ.out ?_
  | refine zg (u:=.agg G.toArray) rfl 247 0 _ rfl rfl (axw G HL.out _) ?_)
 go_ret2
 exact⟨G,rfl,HS5.out,HBE5.out⟩
theorem bdl {t:ByteArray} {A:Option Addr} {n c:Nat} {S:World→List Value→Prop} {E:Int} {w:World} (hS:Hid (∀w w' G,S w G→Below w.1.size w w'→S w' G)) (HP:∀W,Below w.1.size w W→Hid (Calls Tryz.prog 105 #[.slice A n c] W (aik 8 S E W))):Calls Tryz.prog 83 #[.agg #[.string t,.string ⟨#[86,84,71]⟩,.slice A n c]] w (anz 251 S E w):=by
 have HB0:=hid (qa w (.cells #[.string t,.string ⟨#[86,84,71]⟩,.slice A n c] 150));go_enter func83,ntmps83;go_wp2_with fail;refine(HP _ HB0.out).out.mono ?_;rintro e W2 ⟨G,rfl,hl,ho,hs,hb⟩;have HL:=hid hl;have HO:=hid ho;have HBE:=hid (qb HB0.out hb);have HSS:=hid hs;have HLT:Hid (w.1.size≤W2.1.size):=HBE.out.size;have HZ:Hid ((Tryz.prog.info? 53).map (·.size)=some G.length):=by rw[HL.out];exact ajj
 clear hl ho hs hb HP HB0
 go_wp2_with (first
  | (refine qc rfl 53 rfl xe.toArray (bfr _) ?_;intro W4 hW4;have HK:=hid (Blk.newL (L:=xe) hW4 rfl);have HBE4:=hid (qb HBE.out hW4.bel);have HS4:=hid (hS.out _ _ _ HSS.out hW4.bel);have HB4:=hid hW4.bel;clear hW4 HBE)
  | (refine qe rfl 53 _ _ rfl W2.1.size 0 G.toArray rfl rfl (HK.out.thereA HL.out) (by rw[List.size_toArray];exact HZ.out) (xg.arr HO.out) ?_;intro W5 hW5;have HK5:Hid (Blk W5 W2.1.size G):=HK.out.all hW5 HL.out;have HBE5:=hid (HBE4.out.trans (hW5.below (by have:=HBE4.out.size;exact HLT.out)));have HS5:=hid (hS.out _ _ _ HSS.out (HB4.out.trans (hW5.below (Nat.le_refl _))));clear hW5 HK HBE4 HS4 HB4)
  | refine wpList_load_mid rfl 53 _ rfl W2.1.size 0 rfl G _ HK5.out.rg underlying53 rfl HZ.out ?_
  | refine zg (u:=.agg G.toArray) rfl 251 0 _ rfl rfl (axz G HL.out _) ?_)
 go_ret2
 exact⟨G,rfl,HS5.out,HBE5.out⟩
theorem bdm {t:ByteArray} {A:Option Addr} {n c:Nat} {S:World→List Value→Prop} {E:Int} {w:World} (hS:Hid (∀w w' G,S w G→Below w.1.size w w'→S w' G)) (HP:∀W,Below w.1.size w W→Hid (Calls Tryz.prog 106 #[.slice A n c] W (aik 4 S E W))):Calls Tryz.prog 83 #[.agg #[.string t,.string ⟨#[71,83,86]⟩,.slice A n c]] w (anz 255 S E w):=by
 have HB0:=hid (qa w (.cells #[.string t,.string ⟨#[71,83,86]⟩,.slice A n c] 150));go_enter func83,ntmps83;go_wp2_with fail;refine(HP _ HB0.out).out.mono ?_;rintro e W2 ⟨G,rfl,hl,ho,hs,hb⟩;have HL:=hid hl;have HO:=hid ho;have HBE:=hid (qb HB0.out hb);have HSS:=hid hs;have HLT:Hid (w.1.size≤W2.1.size):=HBE.out.size;have HZ:Hid ((Tryz.prog.info? 56).map (·.size)=some G.length):=by rw[HL.out];exact ajh
 clear hl ho hs hb HP HB0
 go_wp2_with (first
  | (refine qc rfl 56 rfl xt.toArray (bfp _) ?_;intro W4 hW4;have HK:=hid (Blk.newL (L:=xt) hW4 rfl);have HBE4:=hid (qb HBE.out hW4.bel);have HS4:=hid (hS.out _ _ _ HSS.out hW4.bel);have HB4:=hid hW4.bel;clear hW4 HBE)
  | (refine qe rfl 56 _ _ rfl W2.1.size 0 G.toArray rfl rfl (HK.out.thereA HL.out) (by rw[List.size_toArray];exact HZ.out) (xg.arr HO.out) ?_;intro W5 hW5;have HK5:Hid (Blk W5 W2.1.size G):=HK.out.all hW5 HL.out;have HBE5:=hid (HBE4.out.trans (hW5.below (by have:=HBE4.out.size;exact HLT.out)));have HS5:=hid (hS.out _ _ _ HSS.out (HB4.out.trans (hW5.below (Nat.le_refl _))));clear hW5 HK HBE4 HS4 HB4)
  | refine wpList_load_mid rfl 56 _ rfl W2.1.size 0 rfl G _ HK5.out.rg underlying56 rfl HZ.out ?_
  | refine zg (u:=.agg G.toArray) rfl 255 0 _ rfl rfl (axx G HL.out _) ?_)
 go_ret2
 exact⟨G,rfl,HS5.out,HBE5.out⟩
theorem a89 {t y:ByteArray} {A:Option Addr} {n c:Nat} {w:World} (h1:(y.toList==[71,71,65])=false) (h2:(y.toList==[82,77,67])=false) (h3:(y.toList==[71,83,65])=false) (h4:(y.toList==[86,84,71])=false) (h5:(y.toList==[71,83,86])=false):Calls Tryz.prog 83 #[.agg #[.string t,.string y,.slice A n c]] w fun e w'=>e=.returned (.tuple #[.nilIface,.int .i64 6])∧Below w.1.size w w':=by
 have HB0:=hid (qa w (.cells #[.string t,.string y,.slice A n c] 150));go_enter func83,ntmps83;go_wp2_with fail
 go_ret2
 exact⟨rfl,HB0.out⟩
theorem a5s (t:ByteArray) (a b c:UInt8):(t.toList==[a,b,c])=decide (t=⟨#[a,b,c]⟩):=by
 have l:(⟨#[a,b,c]⟩:ByteArray).toList=[a,b,c]:=by rw[ByteArray.toList_eq]
 rw[← aep,l]
theorem ahc {t:ByteArray} {a b c:UInt8} (h:t ≠⟨#[a,b,c]⟩):(t.toList==[a,b,c])=false:=by rw[a5s];exact decide_eq_false h
def SI (l:List Int) (f:Value→List Value) (w:World) (G:List Value):Prop:=∃x,G=f x∧SlI 0 w x l
def SV (l:List V4) (f:Value→List Value) (w:World) (G:List Value):Prop:=∃x,G=f x∧SlV 0 w x l
theorem SI.on {l:List Int} {f:Value→List Value} {w w':World} {G:List Value} (h:SI l f w G) (hb:Below w.1.size w w'):SI l f w' G:=by
 obtain⟨x,h1,h2⟩:=h;exact⟨x,h1,h2.on hb⟩
theorem SV.on {l:List V4} {f:Value→List Value} {w w':World} {G:List Value} (h:SV l f w G) (hb:Below w.1.size w w'):SV l f w' G:=by
 obtain⟨x,h1,h2⟩:=h;exact⟨x,h1,h2.on hb⟩
theorem ayw {fs:List ByteArray} {w:World} {e:Ending} {w':World} (h:ajy (vv fs) w e w'):aik 22 (fun _ G=>G=gL (vv fs).1) (vv fs).2 w e w':=
 ⟨_,h.1,rfl,anp _,rfl,h.2⟩
theorem az5 {fs:List ByteArray} {w:World} {e:Ending} {w':World} (h:aj2 (vw fs) w e w'):aik 20 (fun _ G=>G=rL (vw fs).1) (vw fs).2 w e w':=
 ⟨_,h.1,rfl,anq _,rfl,h.2⟩
theorem ay2 {fs:List ByteArray} {w:World} {e:Ending} {w':World} (h:ajz (js fs) w e w'):aik 9 (SI (js fs).1.ids (sL (js fs).1)) (js fs).2 w e w':=by
 obtain⟨A,n,c,h1,rfl,h3,h4⟩:=h;exact⟨_,h1,rfl,avw _ (y:=.slice A (js fs).1.ids.length c) rfl,⟨_,rfl,A,c,rfl,bf0 h3⟩,h4⟩
theorem a1v {fs:List ByteArray} {w:World} {e:Ending} {w':World} (h:aj4 (jc fs) w e w'):aik 8 (fun _ G=>G=vy (l4v (jc fs).1)) (jc fs).2 w e w':=
 ⟨_,by rw[h.1,bbh (a1b fs)],rfl,ant _,rfl,h.2⟩
theorem ay5 {fs:List ByteArray} {w:World} {e:Ending} {w':World} (h:aj0 (zt fs) w e w'):aik 4 (SV (zt fs).1.L (uL (zt fs).1)) (zt fs).2 w e w':=by
 obtain⟨A,c,h1,h3,h4⟩:=h;exact⟨_,h1,rfl,awv _ (y:=.slice A (zt fs).1.L.length c) rfl,⟨_,rfl,A,c,rfl,bjq h3⟩,h4⟩
theorem bkp (fs:List ByteArray):aeu ⟨#[71,71,65]⟩ fs=(⟨1,ByteArray.empty,(vv fs).1,yt,yc,zV4,v6⟩,(vv fs).2):=by
 unfold aeu;rw[if_pos rfl]
theorem bkq (fs:List ByteArray):aeu ⟨#[82,77,67]⟩ fs=(⟨2,ByteArray.empty,ys,(vw fs).1,yc,zV4,v6⟩,(vw fs).2):=by
 unfold aeu;rw[if_neg dc];rw[if_pos rfl]
theorem bkr (fs:List ByteArray):aeu ⟨#[71,83,65]⟩ fs=(⟨3,ByteArray.empty,ys,yt,(js fs).1,zV4,v6⟩,(js fs).2):=by
 unfold aeu;rw[if_neg dc];rw[if_neg dc];rw[if_pos rfl]
theorem bks (fs:List ByteArray):aeu ⟨#[86,84,71]⟩ fs=(⟨4,ByteArray.empty,ys,yt,yc,l4v (jc fs).1,v6⟩,(jc fs).2):=by
 unfold aeu;rw[if_neg dc];rw[if_neg dc];rw[if_neg dc];rw[if_pos rfl]
theorem bkt (fs:List ByteArray):aeu ⟨#[71,83,86]⟩ fs=(⟨5,ByteArray.empty,ys,yt,yc,zV4,(zt fs).1⟩,(zt fs).2):=by
 unfold aeu;rw[if_neg dc];rw[if_neg dc];rw[if_neg dc];rw[if_neg dc];rw[if_pos rfl]
theorem bhy {y:ByteArray} (fs:List ByteArray) (h1:y ≠⟨#[71,71,65]⟩) (h2:y ≠⟨#[82,77,67]⟩) (h3:y ≠⟨#[71,83,65]⟩) (h4:y ≠⟨#[86,84,71]⟩) (h5:y ≠⟨#[71,83,86]⟩):aeu y fs=(aq4,6):=by
 unfold aeu;rw[if_neg h1,if_neg h2,if_neg h3,if_neg h4,if_neg h5]
def a6m (x:NmD×Int) (w:World) (e:Ending) (w':World):Prop:=∃v,e=.returned (.tuple #[v,.int .i64 x.2])∧b_f 0 w' v x.1∧Below w.1.size w w'
theorem a4b {t y:ByteArray} {fs:List ByteArray} {A:Option Addr} {c:Nat} {w:World} (hs:vg w w.1.size A fs) (hn:fs.length≤1000000) (hz:∀f∈fs,f.size≤1000000) :
 Calls Tryz.prog 83 #[.agg #[.string t,.string y,.slice A fs.length c]] w (a6m (aeu y fs) w):=by
 have hst:∀W,Below w.1.size w W→vg W W.1.size A fs:=fun W hb=>(hs.below hb (Nat.le_refl _)).more hb.size
 by_cases h1:y=⟨#[71,71,65]⟩
 ·subst h1;rw[bkp];refine(bdi (S:=(fun _ G=>G=gL (vv fs).1)) (E:=(vv fs).2) (fun _ _ _ h _=>h) (fun W hb=>(ayx A fs c W (hst W hb) hz).mono fun _ _ h=>ayw h)).mono ?_;rintro e w' ⟨G,rfl,hs,hb⟩;exact⟨_,rfl,.inl ⟨rfl,by rw[hs]⟩,hb⟩
 by_cases h2:y=⟨#[82,77,67]⟩
 ·subst h2;rw[bkq];refine(bdj (S:=(fun _ G=>G=rL (vw fs).1)) (E:=(vw fs).2) (fun _ _ _ h _=>h) (fun W hb=>(az6 A fs c W (hst W hb) hz).mono fun _ _ h=>az5 h)).mono ?_;rintro e w' ⟨G,rfl,hs,hb⟩;exact⟨_,rfl,.inr (.inl ⟨rfl,by rw[hs]⟩),hb⟩
 by_cases h3:y=⟨#[71,83,65]⟩
 ·subst h3;rw[bkr];refine(bdk (S:=(SI (js fs).1.ids (sL (js fs).1))) (E:=(js fs).2) (fun _ _ _ h hb=>h.on hb) (fun W hb=>(ay3 A fs c W (hst W hb) hz).mono fun _ _ h=>ay2 h)).mono ?_;rintro e w' ⟨G,rfl,hs,hb⟩;obtain⟨x,rfl,hx⟩:=hs;exact⟨_,rfl,.inr (.inr (.inl ⟨rfl,x,rfl,hx⟩)),hb⟩
 by_cases h4:y=⟨#[86,84,71]⟩
 ·subst h4;rw[bks];refine(bdl (S:=(fun _ G=>G=vy (l4v (jc fs).1))) (E:=(jc fs).2) (fun _ _ _ h _=>h) (fun W hb=>(a1w A fs c W (hst W hb) hn hz).mono fun _ _ h=>a1v h)).mono ?_;rintro e w' ⟨G,rfl,hs,hb⟩;exact⟨_,rfl,.inr (.inr (.inr (.inl ⟨rfl,by rw[hs]⟩))),hb⟩
 by_cases h5:y=⟨#[71,83,86]⟩
 ·subst h5;rw[bkt];refine(bdm (S:=(SV (zt fs).1.L (uL (zt fs).1))) (E:=(zt fs).2) (fun _ _ _ h hb=>h.on hb) (fun W hb=>(ay6 A fs c W (hst W hb) hn hz).mono fun _ _ h=>ay5 h)).mono ?_;rintro e w' ⟨G,rfl,hs,hb⟩;obtain⟨x,rfl,hx⟩:=hs;exact⟨_,rfl,.inr (.inr (.inr (.inr (.inl ⟨rfl,x,rfl,hx⟩)))),hb⟩
 rw[bhy fs h1 h2 h3 h4 h5];refine(a89 (ahc h1) (ahc h2) (ahc h3) (ahc h4) (ahc h5)).mono ?_;rintro e w' ⟨rfl,hb⟩;exact⟨_,rfl,.inr (.inr (.inr (.inr (.inr ⟨by decide,rfl⟩)))),hb⟩
theorem beg (y:ByteArray) (fs:List ByteArray):(aeu y fs).1.s.ids.length≤1000000 ∧(aeu y fs).1.u.L.length≤1000000:=by
 have h1:=a09 fs;have h2:=a1a fs;have e1:yc.ids.length≤1000000:=by decide
 have e2:v6.L.length≤1000000:=by decide
 unfold aeu
 split
 ·exact⟨e1,e2⟩
 split
 ·exact⟨e1,e2⟩
 split
 ·exact⟨Nat.le_trans h1 om,e2⟩
 split
 ·exact⟨e1,e2⟩
 split
 ·exact⟨e1,Nat.le_trans h2 om⟩
 ·exact⟨e1,e2⟩
def bid (x:NmD×Int) (w:World) (e:Ending) (w':World):Prop:=∃C,e=.returned (.tuple #[.agg C,.int .i64 x.2])∧NmV w.1.size w' C x.1∧Below w.1.size w w'
theorem y8 {lo:Nat} {w:World} {C:Array Value} {m:NmD} (h:NmV lo w C m):(Tryz.prog.info? 58).map (·.size)=some C.size:=by rw[h.len];exact a6z
theorem adf {w w':World} {b:Nat} {k:Int} {t:ByteArray} {G R S V U:List Value} {lo:Nat} {C:Array Value} {m:NmD} (h:Blk w b (nmL k t G R S V U)) (hl:ab9 G R S V U) (hC:NmV lo w' C m):w.there b 0 C.size:=by rw[hC.len];exact h.nm65 hl
theorem ahv {lo:Nat} {w:World} {C:Array Value} {m:NmD} (h:NmV lo w C m):C.toList.length=(nmL 0 ByteArray.empty zw zx xp xe xt).length:=by rw[Array.length_toList,h.len,aaz qq]
theorem a4c {t y:ByteArray} {fs:List ByteArray} {A:Option Addr} {c:Nat} {w:World} (hs:vg w w.1.size A fs) (hn:fs.length≤1000000) (hz:∀f∈fs,f.size≤1000000) :
 Calls Tryz.prog 63 #[.agg #[.string t,.string y,.slice A fs.length c]] w (bid (aha t y fs) w):=by
 obtain⟨⟨m,E⟩,hmE⟩:∃x,aeu y fs=x:=⟨_,rfl⟩;obtain⟨n,hfn⟩:∃n,fs.length=n:=⟨_,rfl⟩;have HID:Hid (m.s.ids.length≤1000000∧m.u.L.length≤1000000):=by have:=beg y fs;rw[hmE]at this;exact this
 have HR:∀W,Below w.1.size w W→Hid (Calls Tryz.prog 83 #[.agg #[.string t,.string y,.slice A n c]] W (a6m (m,E) W)):=fun W hb=>by
  have:=a4b (t:=t) (y:=y) (c:=c) ((hs.below hb (Nat.le_refl _)).more hb.size) hn hz;rw[hmE,hfn]at this;exact this
 have HT:Hid (aha t y fs=if E=0 then(abn t m,0)else(aq4,E)):=by unfold aha;rw[hmE];exact rfl
 rw[hfn];clear hs hn hz hmE hfn;go_enter func63,ntmps63
 go_wp2_with (first
  | (refine ab6 rfl _ _ rfl #[.string t,.string y,.slice A n c] rfl ?_;intro W0 hW0;have HS0:=hid (Blk.newL (L:=[.string t,.string y,.slice A n c]) hW0 rfl);have HBE0:=hid hW0.bel;have HZ0:=hid hW0.sz;clear hW0)
  | (refine qc rfl 58 rfl zNm (aco _) ?_;intro W1 hW1;have HR1:=hid (Blk.newL (L:=nmL 0 ByteArray.empty zw zx xp xe xt) hW1 rfl);have HBE1:=hid (qb HBE0.out hW1.bel);have HS1:=hid (HS0.out.grew hW1);have HZ1:=hid hW1.sz;clear hW1 HBE0 HS0)
  | refine wpList_load_mid rfl 150 _ rfl w.1.size 0 rfl [.string t,.string y,.slice A n c] _ HS1.out.rg underlying150 rfl aku ?_)
 refine(HR _ HBE1.out).out.mono ?_;rintro e W2 ⟨v,rfl,hp,hb⟩;have HP:=hid hp;have HR2:=hid (HR1.out.on hb);have HS2:=hid (HS1.out.on hb);have HBE2:=hid (qb HBE1.out hb);have HZ2:Hid (W0.1.size<W2.1.size):=HR2.out.lt;have HBE2l:Hid (w.1.size≤W2.1.size):=HBE2.out.size;have c0:=HS2.out.cell 0 rfl;clear hp hb HR1 HS1 HBE1 HR;dsimp only
 by_cases h0:E=0
 ·subst h0;have HX:Hid (aha t y fs=(abn t m,0)):=HT.out.trans (if_pos rfl);clear HT;go_wp2_with fail;refine(a4d (t:=t) HP.out HID.out.1 HID.out.2).mono ?_;rintro e W4 ⟨D,rfl,hd,hb⟩;have HD:=hid hd;have HR4:=hid (HR2.out.on hb);have HBE4:=hid (qb HBE2.out hb);clear hd hb HR2 HS2 HBE2 HP c0
  go_wp2_with (first
   | (refine qc rfl 58 rfl zNm (aco _) ?_;intro W5 hW5;have HA:=hid (Blk.newL (L:=nmL 0 ByteArray.empty zw zx xp xe xt) hW5 rfl);have HR5:=hid (HR4.out.grew hW5);have HBE5:=hid (qb HBE4.out hW5.bel);have HD5:=hid (HD.out.on hW5.bel);have HL5:=hid hW5.bel;have HW4:Hid (W0.1.size<W4.1.size):=HR4.out.lt;clear hW5 HR4)
   | (refine qe rfl 58 _ _ rfl W4.1.size 0 D rfl rfl (adf HA.out qq HD.out) (y8 HD.out) HD.out.ones ?_;intro W6 hW6;have HM6:Hid (Blk W6 W4.1.size D.toList):=HA.out.all hW6 (ahv HD.out);have HR6:=hid (HR5.out.far hW6 (by have:=HW4.out;omega));have HL6:=hid (HL5.out.trans (hW6.below (Nat.le_refl _)));have HBE6:=hid (HBE5.out.trans (hW6.below (by have:=HBE4.out.size;omega)));clear hW6 HR5 HBE5 HA)
   | refine wpList_load_mid rfl 58 _ rfl W4.1.size 0 rfl D.toList _ HM6.out.rg underlying58 rfl (by rw[Array.length_toList];exact y8 HD.out) ?_
   | (refine qe rfl 58 _ _ rfl W0.1.size 0 D rfl rfl (adf HR6.out qq HD.out) (y8 HD.out) HD.out.ones ?_;intro W7 hW7;have HM7:Hid (Blk W7 W0.1.size D.toList):=HR6.out.all hW7 (ahv HD.out);have HBE7:=hid (HBE6.out.trans (hW7.below (by have:=HZ0.out;omega)));have HD7:=hid ((HD.out.on HL6.out).far hW7 HZ2.out);clear hW7 HR6 HBE6))
  have HLD:=hid (run_loadVar_mid (P:=Tryz.prog) _ W0.1.size 0 58 _ _ HM7.out.rg underlying58 rfl (by rw[Array.length_toList];exact y8 HD.out));refine bodyPost_ret (v:=.tuple #[.agg D,.int .i64 0]) (by rw[results_cell_tmp rfl];simp[asAddr,Result.andThen,HLD.out]) rfl ?_;rw[HX.out];exact⟨D,rfl,HD7.out.less (by have:=HBE2l.out;omega),HBE7.out⟩
 ·have HX:Hid (aha t y fs=(aq4,E)):=HT.out.trans (if_neg h0);have hne:(E != 0)=true:=by rw[bne_iff_ne];exact h0
  clear HT
  go_wp2_with (first
   | refine zn rfl 58 rfl (asl _) ?_
   | (refine qe rfl 58 _ _ rfl W0.1.size 0 zNm rfl rfl (adf HR2.out qq (NmV.zero 0 w)) (y8 (NmV.zero 0 w)) (NmV.zero 0 w).ones ?_;intro W7 hW7;have HM7:Hid (Blk W7 W0.1.size zNm.toList):=HR2.out.all hW7 (ahv (NmV.zero 0 w));have HBE7:=hid (HBE2.out.trans (hW7.below (by have:=HZ0.out;omega)));clear hW7 HR2 HBE2))
  have HLD:=hid (run_loadVar_mid (P:=Tryz.prog) _ W0.1.size 0 58 _ _ HM7.out.rg underlying58 rfl (by rw[Array.length_toList];exact y8 (NmV.zero 0 w)));refine bodyPost_ret (v:=.tuple #[.agg zNm,.int .i64 E]) (by rw[results_cell_tmp rfl];simp[asAddr,Result.andThen,HLD.out]) rfl ?_;rw[HX.out];exact⟨zNm,rfl,NmV.zero _ _,HBE7.out⟩
end Go.Proofs.YtdkhlkfleggbaaaGreat
