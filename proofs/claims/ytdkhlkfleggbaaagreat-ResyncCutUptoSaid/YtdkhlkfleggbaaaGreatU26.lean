/- Parts. -/
import Derived.Test.YtdkhlkfleggbaaaGreatU25
import Derived.Test.YtdkhlkfleggbaaaGreatU24
import Derived.Test.YtdkhlkfleggbaaaGreatU28
import Derived.Test.YtdkhlkfleggbaaaGreatU29
namespace Go.Proofs.YtdkhlkfleggbaaaGreat
set_option maxHeartbeats 4000000
set_option maxRecDepth 8000
open Lib (hid)
open Tryz
set_option linter.unusedVariables false
open Go.RowKit
theorem bjj {R:List ByteArray} (h:R.length≠8∧R.length≠9):ji R=(ae8,3):=by unfold ji;rw[if_pos h]
theorem a2t (A:Option Addr) (R:List ByteArray) (c:Nat) (w:World) (hA:A=none→c=0) (hs:vw w w.1.size A R) (hn:R.length≤1000000) (hz:∀t∈R,t.size≤1000000) :
 Calls prog 105 #[.slice A R.length c] w (akl (ji R) w):=by
 by_cases h:R.length≠8∧R.length≠9
 ·rw[bjj h];exact anm A R.length c w (by rw[b0g];omega) (by rw[b0g];omega)
 ·refine arl A R.length c R w rfl hA hs hn hz ?_ h;rcases(by omega:R.length=8∨R.length=9)with q|q
  ·exact .inl (by rw[q];rfl)
  ·exact .inr ⟨by rw[q];rfl,by rw[q];rfl⟩
theorem afl {w:World} {B:Nat} {A:Option Addr} {fs:List ByteArray} (hs:vw w B A fs) (hf:fs≠[]):∀c:Nat,A=none→c=0:=fun c h=>by
 cases fs with
 | nil=>exact absurd rfl hf
 | cons x l=>
  obtain⟨b,off,h1,-⟩:=hs 0 sm;rw[h]at h1;cases h1
theorem azs (A:Option Addr) (R:List ByteArray) (c:Nat) (w:World) (hs:vw w w.1.size A R) (hz:∀t∈R,t.size≤1000000):Calls prog 102 #[.slice A R.length c] w (akf (yf R) w):=by
 by_cases h:R=[]
 ·subst h;rw[show yf []=(aab,3)from if_pos dc];exact am1 A 0 c w rfl
 ·exact azt A R c w (afl hs h c) hs hz
theorem a05 (A:Option Addr) (R:List ByteArray) (c:Nat) (w:World) (hs:vw w w.1.size A R) (hz:∀t∈R,t.size≤1000000):Calls prog 103 #[.slice A R.length c] w (akj (yg R) w):=by
 by_cases h:R=[]
 ·subst h;rw[show yg []=(aac,3)from if_pos dc];exact anc A 0 c w rfl rfl
 ·exact a06 A R c w (afl hs h c) hs hz
theorem azz (A:Option Addr) (R:List ByteArray) (c:Nat) (w:World) (hs:vw w w.1.size A R) (hz:∀t∈R,t.size≤1000000):Calls prog 104 #[.slice A R.length c] w (akg (jy R) w):=by
 by_cases h:R=[]
 ·subst h;rw[show jy []=(yi,3)from if_pos dc];exact am3 A 0 c w rfl
 ·exact az0 A R c w (afl hs h c) hs hz
theorem a2s (A:Option Addr) (R:List ByteArray) (c:Nat) (w:World) (hs:vw w w.1.size A R) (hn:R.length≤1000000) (hz:∀t∈R,t.size≤1000000):Calls prog 105 #[.slice A R.length c] w (akl (ji R) w):=by
 by_cases h:R=[]
 ·subst h;rw[show ji []=(ae8,3)from if_pos dc];exact anm A 0 c w rfl rfl
 ·exact a2t A R c w (afl hs h c) hs hn hz
theorem az2 (A:Option Addr) (R:List ByteArray) (c:Nat) (w:World) (hs:vw w w.1.size A R) (hn:R.length≤1000000) (hz:∀t∈R,t.size≤1000000):Calls prog 106 #[.slice A R.length c] w (akh (zw R) w):=by
 by_cases h:R=[]
 ·subst h;rw[show zw []=(vr,3)from if_pos (.inl dc)];exact am4 A 0 c w (.inl dc) om
 ·exact az3 A R c w (afl hs h c) hs hn hz
def l4v (N:List (Bool×Int)):V4:=(N.getD 0 (false,0),N.getD 1 (false,0),N.getD 2 (false,0),N.getD 3 (false,0))
theorem bco {N:List (Bool×Int)} (h:N.length=4):a8g N=.agg (j4 (l4v N)).toArray:=by
 match N,h with
 | [a,b,c,d],_=>rfl
def afg (y:ByteArray) (fs:List ByteArray):NmD×Int:=
 if y=⟨#[71,71,65]⟩then(⟨1,ByteArray.empty,(yf fs).1,aac,yi,zV4,vr⟩,(yf fs).2)else if y=⟨#[82,77,67]⟩then(⟨2,ByteArray.empty,aab,(yg fs).1,yi,zV4,vr⟩,(yg fs).2)else if y=⟨#[71,83,65]⟩then(⟨3,ByteArray.empty,aab,aac,(jy fs).1,zV4,vr⟩,(jy fs).2)else if y=⟨#[86,84,71]⟩then(⟨4,ByteArray.empty,aab,aac,yi,l4v (ji fs).1,vr⟩,(ji fs).2)else if y=⟨#[71,83,86]⟩then(⟨5,ByteArray.empty,aab,aac,yi,zV4,(zw fs).1⟩,(zw fs).2)else(art,6)
def aeh (t y:ByteArray) (fs:List ByteArray):NmD×Int:=if(afg y fs).2=0 then(aau t (afg y fs).1,0)else(art,(afg y fs).2)
theorem bgz (w:World):(zeroValue 44).run prog w=.ok (.agg zy.toArray) w:=by kernel_rfl
theorem bg2 (w:World):(zeroValue 48).run prog w=.ok (.agg xd.toArray) w:=by kernel_rfl
theorem bg0 (w:World):(zeroValue 51).run prog w=.ok (.agg xw.toArray) w:=by kernel_rfl
theorem bg3 (w:World):(zeroValue 53).run prog w=.ok (.agg xh.toArray) w:=by kernel_rfl
theorem bg1 (w:World):(zeroValue 56).run prog w=.ok (.agg ja.toArray) w:=by kernel_rfl
def ai2 (k:Nat) (S:World→List Value→Prop) (E:Int) (w:World) (e:Ending) (w':World):Prop:=∃G:List Value,e=.returned (.tuple #[.agg G.toArray,.int .i64 E])∧G.length=k∧xj G∧S w' G∧Below w.1.size w w'
def aop (T:TypeId) (S:World→List Value→Prop) (E:Int) (w:World) (e:Ending) (w':World):Prop:=∃G:List Value,e=.returned (.tuple #[.iface T (.agg G.toArray),.int .i64 E])∧S w' G∧Below w.1.size w w'
theorem bev {t:ByteArray} {A:Option Addr} {n c:Nat} {S:World→List Value→Prop} {E:Int} {w:World} (hS:Hid (∀w w' G,S w G→Below w.1.size w w'→S w' G)) (HP:∀W,Below w.1.size w W→Hid (Calls prog 102 #[.slice A n c] W (ai2 22 S E W))):Calls prog 83 #[.agg #[.string t,.string ⟨#[71,71,65]⟩,.slice A n c]] w (aop 239 S E w):=by
 have HB0:=hid (qa w (.cells #[.string t,.string ⟨#[71,71,65]⟩,.slice A n c] 150));go_enter func83,ntmps83;go_wp2_with fail;refine(HP _ HB0.out).out.mono ?_;rintro e W2 ⟨G,rfl,hl,ho,hs,hb⟩;have HL:=hid hl;have HO:=hid ho;have HBE:=hid (qb HB0.out hb);have HSS:=hid hs;have HLT:Hid (w.1.size≤W2.1.size):=HBE.out.size;have HZ:Hid ((prog.info? 44).map (·.size)=some G.length):=by rw[HL.out];exact ad6
 clear hl ho hs hb HP HB0
 go_wp2_with (first
  | (refine qc rfl 44 rfl zy.toArray (bgz _) ?_;intro W4 hW4;have HK:=hid (Blk.newL (L:=zy) hW4 rfl);have HBE4:=hid (qb HBE.out hW4.bel);have HS4:=hid (hS.out _ _ _ HSS.out hW4.bel);have HB4:=hid hW4.bel;clear hW4 HBE)
  | (refine qe rfl 44 _ _ rfl W2.1.size 0 G.toArray rfl rfl (HK.out.thereA HL.out) (by rw[o6];exact HZ.out) (xj.arr HO.out) ?_;intro W5 hW5;have HK5:Hid (Blk W5 W2.1.size G):=HK.out.all hW5 HL.out;have HBE5:=hid (HBE4.out.trans (hW5.below (by have:=HBE4.out.size;exact HLT.out)));have HS5:=hid (hS.out _ _ _ HSS.out (HB4.out.trans (hW5.below (a8 _))));clear hW5 HK HBE4 HS4 HB4)
  | refine b0i rfl 44 _ rfl W2.1.size 0 rfl G _ HK5.out.rg underlying44 rfl HZ.out ?_
  | refine zh (u:=.agg G.toArray) rfl 239 0 _ rfl rfl (aym G HL.out _) ?_)
 go_ret2
 exact⟨G,rfl,HS5.out,HBE5.out⟩
theorem bew {t:ByteArray} {A:Option Addr} {n c:Nat} {S:World→List Value→Prop} {E:Int} {w:World} (hS:Hid (∀w w' G,S w G→Below w.1.size w w'→S w' G)) (HP:∀W,Below w.1.size w W→Hid (Calls prog 103 #[.slice A n c] W (ai2 20 S E W))):Calls prog 83 #[.agg #[.string t,.string ⟨#[82,77,67]⟩,.slice A n c]] w (aop 243 S E w):=by
 have HB0:=hid (qa w (.cells #[.string t,.string ⟨#[82,77,67]⟩,.slice A n c] 150));go_enter func83,ntmps83;go_wp2_with fail;refine(HP _ HB0.out).out.mono ?_;rintro e W2 ⟨G,rfl,hl,ho,hs,hb⟩;have HL:=hid hl;have HO:=hid ho;have HBE:=hid (qb HB0.out hb);have HSS:=hid hs;have HLT:Hid (w.1.size≤W2.1.size):=HBE.out.size;have HZ:Hid ((prog.info? 48).map (·.size)=some G.length):=by rw[HL.out];exact ad9
 clear hl ho hs hb HP HB0
 go_wp2_with (first
  | (refine qc rfl 48 rfl xd.toArray (bg2 _) ?_;intro W4 hW4;have HK:=hid (Blk.newL (L:=xd) hW4 rfl);have HBE4:=hid (qb HBE.out hW4.bel);have HS4:=hid (hS.out _ _ _ HSS.out hW4.bel);have HB4:=hid hW4.bel;clear hW4 HBE)
  | (refine qe rfl 48 _ _ rfl W2.1.size 0 G.toArray rfl rfl (HK.out.thereA HL.out) (by rw[o6];exact HZ.out) (xj.arr HO.out) ?_;intro W5 hW5;have HK5:Hid (Blk W5 W2.1.size G):=HK.out.all hW5 HL.out;have HBE5:=hid (HBE4.out.trans (hW5.below (by have:=HBE4.out.size;exact HLT.out)));have HS5:=hid (hS.out _ _ _ HSS.out (HB4.out.trans (hW5.below (a8 _))));clear hW5 HK HBE4 HS4 HB4)
  | refine b0i rfl 48 _ rfl W2.1.size 0 rfl G _ HK5.out.rg underlying48 rfl HZ.out ?_
  | refine zh (u:=.agg G.toArray) rfl 243 0 _ rfl rfl (ayp G HL.out _) ?_)
 go_ret2
 exact⟨G,rfl,HS5.out,HBE5.out⟩
theorem bex {t:ByteArray} {A:Option Addr} {n c:Nat} {S:World→List Value→Prop} {E:Int} {w:World} (hS:Hid (∀w w' G,S w G→Below w.1.size w w'→S w' G)) (HP:∀W,Below w.1.size w W→Hid (Calls prog 104 #[.slice A n c] W (ai2 9 S E W))):Calls prog 83 #[.agg #[.string t,.string ⟨#[71,83,65]⟩,.slice A n c]] w (aop 247 S E w):=by
 have HB0:=hid (qa w (.cells #[.string t,.string ⟨#[71,83,65]⟩,.slice A n c] 150));go_enter func83,ntmps83;go_wp2_with fail;refine(HP _ HB0.out).out.mono ?_;rintro e W2 ⟨G,rfl,hl,ho,hs,hb⟩;have HL:=hid hl;have HO:=hid ho;have HBE:=hid (qb HB0.out hb);have HSS:=hid hs;have HLT:Hid (w.1.size≤W2.1.size):=HBE.out.size;have HZ:Hid ((prog.info? 51).map (·.size)=some G.length):=by rw[HL.out];exact ad7
 clear hl ho hs hb HP HB0
 go_wp2_with (first
  | (refine qc rfl 51 rfl xw.toArray (bg0 _) ?_;intro W4 hW4;have HK:=hid (Blk.newL (L:=xw) hW4 rfl);have HBE4:=hid (qb HBE.out hW4.bel);have HS4:=hid (hS.out _ _ _ HSS.out hW4.bel);have HB4:=hid hW4.bel;clear hW4 HBE)
  | (refine qe rfl 51 _ _ rfl W2.1.size 0 G.toArray rfl rfl (HK.out.thereA HL.out) (by rw[o6];exact HZ.out) (xj.arr HO.out) ?_;intro W5 hW5;have HK5:Hid (Blk W5 W2.1.size G):=HK.out.all hW5 HL.out;have HBE5:=hid (HBE4.out.trans (hW5.below (by have:=HBE4.out.size;exact HLT.out)));have HS5:=hid (hS.out _ _ _ HSS.out (HB4.out.trans (hW5.below (a8 _))));clear hW5 HK HBE4 HS4 HB4)
  | refine b0i rfl 51 _ rfl W2.1.size 0 rfl G _ HK5.out.rg underlying51 rfl HZ.out ?_
  | refine zh (u:=.agg G.toArray) rfl 247 0 _ rfl rfl (ayn G HL.out _) ?_)
 go_ret2
 exact⟨G,rfl,HS5.out,HBE5.out⟩
theorem bey {t:ByteArray} {A:Option Addr} {n c:Nat} {S:World→List Value→Prop} {E:Int} {w:World} (hS:Hid (∀w w' G,S w G→Below w.1.size w w'→S w' G)) (HP:∀W,Below w.1.size w W→Hid (Calls prog 105 #[.slice A n c] W (ai2 8 S E W))):Calls prog 83 #[.agg #[.string t,.string ⟨#[86,84,71]⟩,.slice A n c]] w (aop 251 S E w):=by
 have HB0:=hid (qa w (.cells #[.string t,.string ⟨#[86,84,71]⟩,.slice A n c] 150));go_enter func83,ntmps83;go_wp2_with fail;refine(HP _ HB0.out).out.mono ?_;rintro e W2 ⟨G,rfl,hl,ho,hs,hb⟩;have HL:=hid hl;have HO:=hid ho;have HBE:=hid (qb HB0.out hb);have HSS:=hid hs;have HLT:Hid (w.1.size≤W2.1.size):=HBE.out.size;have HZ:Hid ((prog.info? 53).map (·.size)=some G.length):=by rw[HL.out];exact aea
 clear hl ho hs hb HP HB0
 go_wp2_with (first
  | (refine qc rfl 53 rfl xh.toArray (bg3 _) ?_;intro W4 hW4;have HK:=hid (Blk.newL (L:=xh) hW4 rfl);have HBE4:=hid (qb HBE.out hW4.bel);have HS4:=hid (hS.out _ _ _ HSS.out hW4.bel);have HB4:=hid hW4.bel;clear hW4 HBE)
  | (refine qe rfl 53 _ _ rfl W2.1.size 0 G.toArray rfl rfl (HK.out.thereA HL.out) (by rw[o6];exact HZ.out) (xj.arr HO.out) ?_;intro W5 hW5;have HK5:Hid (Blk W5 W2.1.size G):=HK.out.all hW5 HL.out;have HBE5:=hid (HBE4.out.trans (hW5.below (by have:=HBE4.out.size;exact HLT.out)));have HS5:=hid (hS.out _ _ _ HSS.out (HB4.out.trans (hW5.below (a8 _))));clear hW5 HK HBE4 HS4 HB4)
  | refine b0i rfl 53 _ rfl W2.1.size 0 rfl G _ HK5.out.rg underlying53 rfl HZ.out ?_
  | refine zh (u:=.agg G.toArray) rfl 251 0 _ rfl rfl (ayq G HL.out _) ?_)
 go_ret2
 exact⟨G,rfl,HS5.out,HBE5.out⟩
theorem bez {t:ByteArray} {A:Option Addr} {n c:Nat} {S:World→List Value→Prop} {E:Int} {w:World} (hS:Hid (∀w w' G,S w G→Below w.1.size w w'→S w' G)) (HP:∀W,Below w.1.size w W→Hid (Calls prog 106 #[.slice A n c] W (ai2 4 S E W))):Calls prog 83 #[.agg #[.string t,.string ⟨#[71,83,86]⟩,.slice A n c]] w (aop 255 S E w):=by
 have HB0:=hid (qa w (.cells #[.string t,.string ⟨#[71,83,86]⟩,.slice A n c] 150));go_enter func83,ntmps83;go_wp2_with fail;refine(HP _ HB0.out).out.mono ?_;rintro e W2 ⟨G,rfl,hl,ho,hs,hb⟩;have HL:=hid hl;have HO:=hid ho;have HBE:=hid (qb HB0.out hb);have HSS:=hid hs;have HLT:Hid (w.1.size≤W2.1.size):=HBE.out.size;have HZ:Hid ((prog.info? 56).map (·.size)=some G.length):=by rw[HL.out];exact ad8
 clear hl ho hs hb HP HB0
 go_wp2_with (first
  | (refine qc rfl 56 rfl ja.toArray (bg1 _) ?_;intro W4 hW4;have HK:=hid (Blk.newL (L:=ja) hW4 rfl);have HBE4:=hid (qb HBE.out hW4.bel);have HS4:=hid (hS.out _ _ _ HSS.out hW4.bel);have HB4:=hid hW4.bel;clear hW4 HBE)
  | (refine qe rfl 56 _ _ rfl W2.1.size 0 G.toArray rfl rfl (HK.out.thereA HL.out) (by rw[o6];exact HZ.out) (xj.arr HO.out) ?_;intro W5 hW5;have HK5:Hid (Blk W5 W2.1.size G):=HK.out.all hW5 HL.out;have HBE5:=hid (HBE4.out.trans (hW5.below (by have:=HBE4.out.size;exact HLT.out)));have HS5:=hid (hS.out _ _ _ HSS.out (HB4.out.trans (hW5.below (a8 _))));clear hW5 HK HBE4 HS4 HB4)
  | refine b0i rfl 56 _ rfl W2.1.size 0 rfl G _ HK5.out.rg underlying56 rfl HZ.out ?_
  | refine zh (u:=.agg G.toArray) rfl 255 0 _ rfl rfl (ayo G HL.out _) ?_)
 go_ret2
 exact⟨G,rfl,HS5.out,HBE5.out⟩
theorem bah {t y:ByteArray} {A:Option Addr} {n c:Nat} {w:World} (h1:(y.toList==[71,71,65])=false) (h2:(y.toList==[82,77,67])=false) (h3:(y.toList==[71,83,65])=false) (h4:(y.toList==[86,84,71])=false) (h5:(y.toList==[71,83,86])=false):Calls prog 83 #[.agg #[.string t,.string y,.slice A n c]] w fun e w'=>e=.returned (.tuple #[.nilIface,.int .i64 6])∧Below w.1.size w w':=by
 have HB0:=hid (qa w (.cells #[.string t,.string y,.slice A n c] 150));go_enter func83,ntmps83;go_wp2_with fail
 go_ret2
 exact⟨rfl,HB0.out⟩
theorem a6x (t:ByteArray) (a b c:UInt8):(t.toList==[a,b,c])=decide (t=⟨#[a,b,c]⟩):=by
 have l:(⟨#[a,b,c]⟩:ByteArray).toList=[a,b,c]:=by rw[b0x]
 rw[← afa,l]
theorem ah0 {t:ByteArray} {a b c:UInt8} (h:t ≠⟨#[a,b,c]⟩):(t.toList==[a,b,c])=false:=by rw[a6x];exact o3 h
def SI (l:List Int) (f:Value→List Value) (w:World) (G:List Value):Prop:=∃x,G=f x∧SlI 0 w x l
def SV (l:List V4) (f:Value→List Value) (w:World) (G:List Value):Prop:=∃x,G=f x∧SlV 0 w x l
theorem SI.on {l:List Int} {f:Value→List Value} {w w':World} {G:List Value} (h:SI l f w G) (hb:Below w.1.size w w'):SI l f w' G:=by
 obtain⟨x,h1,h2⟩:=h;exact⟨x,h1,h2.on hb⟩
theorem SV.on {l:List V4} {f:Value→List Value} {w w':World} {G:List Value} (h:SV l f w G) (hb:Below w.1.size w w'):SV l f w' G:=by
 obtain⟨x,h1,h2⟩:=h;exact⟨x,h1,h2.on hb⟩
theorem azr {fs:List ByteArray} {w:World} {e:Ending} {w':World} (h:akf (yf fs) w e w'):ai2 22 (fun _ G=>G=gL (yf fs).1) (yf fs).2 w e w':=
 ⟨_,h.1,rfl,aoe _,rfl,h.2⟩
theorem a04 {fs:List ByteArray} {w:World} {e:Ending} {w':World} (h:akj (yg fs) w e w'):ai2 20 (fun _ G=>G=rL (yg fs).1) (yg fs).2 w e w':=
 ⟨_,h.1,rfl,aof _,rfl,h.2⟩
theorem azy {fs:List ByteArray} {w:World} {e:Ending} {w':World} (h:akg (jy fs) w e w'):ai2 9 (SI (jy fs).1.ids (sL (jy fs).1)) (jy fs).2 w e w':=by
 obtain⟨A,n,c,h1,rfl,h3,h4⟩:=h;exact⟨_,h1,rfl,awo _ (y:=.slice A (jy fs).1.ids.length c) rfl,⟨_,rfl,A,c,rfl,bhb h3⟩,h4⟩
theorem a2r {fs:List ByteArray} {w:World} {e:Ending} {w':World} (h:akl (ji fs) w e w'):ai2 8 (fun _ G=>G=j4 (l4v (ji fs).1)) (ji fs).2 w e w':=
 ⟨_,by rw[h.1,bco (a17 fs)],rfl,aoi _,rfl,h.2⟩
theorem az1 {fs:List ByteArray} {w:World} {e:Ending} {w':World} (h:akh (zw fs) w e w'):ai2 4 (SV (zw fs).1.L (uL (zw fs).1)) (zw fs).2 w e w':=by
 obtain⟨A,c,h1,h3,h4⟩:=h;exact⟨_,h1,rfl,axn _ (y:=.slice A (zw fs).1.L.length c) rfl,⟨_,rfl,A,c,rfl,bkw h3⟩,h4⟩
theorem bl1 (fs:List ByteArray):afg ⟨#[71,71,65]⟩ fs=(⟨1,ByteArray.empty,(yf fs).1,aac,yi,zV4,vr⟩,(yf fs).2):=by
 unfold afg;rw[if_pos rfl]
theorem bl2 (fs:List ByteArray):afg ⟨#[82,77,67]⟩ fs=(⟨2,ByteArray.empty,aab,(yg fs).1,yi,zV4,vr⟩,(yg fs).2):=by
 unfold afg;rw[if_neg dc];rw[if_pos rfl]
theorem bl3 (fs:List ByteArray):afg ⟨#[71,83,65]⟩ fs=(⟨3,ByteArray.empty,aab,aac,(jy fs).1,zV4,vr⟩,(jy fs).2):=by
 unfold afg;rw[if_neg dc];rw[if_neg dc];rw[if_pos rfl]
theorem bl4 (fs:List ByteArray):afg ⟨#[86,84,71]⟩ fs=(⟨4,ByteArray.empty,aab,aac,yi,l4v (ji fs).1,vr⟩,(ji fs).2):=by
 unfold afg;rw[if_neg dc];rw[if_neg dc];rw[if_neg dc];rw[if_pos rfl]
theorem bl5 (fs:List ByteArray):afg ⟨#[71,83,86]⟩ fs=(⟨5,ByteArray.empty,aab,aac,yi,zV4,(zw fs).1⟩,(zw fs).2):=by
 unfold afg;rw[if_neg dc];rw[if_neg dc];rw[if_neg dc];rw[if_neg dc];rw[if_pos rfl]
theorem bi6 {y:ByteArray} (fs:List ByteArray) (h1:y ≠⟨#[71,71,65]⟩) (h2:y ≠⟨#[82,77,67]⟩) (h3:y ≠⟨#[71,83,65]⟩) (h4:y ≠⟨#[86,84,71]⟩) (h5:y ≠⟨#[71,83,86]⟩):afg y fs=(art,6):=by
 unfold afg;rw[if_neg h1,if_neg h2,if_neg h3,if_neg h4,if_neg h5]
def a7r (x:NmD×Int) (w:World) (e:Ending) (w':World):Prop:=∃v,e=.returned (.tuple #[v,.int .i64 x.2])∧bjn 0 w' v x.1∧Below w.1.size w w'
theorem a47 {t y:ByteArray} {fs:List ByteArray} {A:Option Addr} {c:Nat} {w:World} (hs:vw w w.1.size A fs) (hn:fs.length≤1000000) (hz:∀f∈fs,f.size≤1000000) :
 Calls prog 83 #[.agg #[.string t,.string y,.slice A fs.length c]] w (a7r (afg y fs) w):=by
 have hst:∀W,Below w.1.size w W→vw W W.1.size A fs:=fun W hb=>(hs.below hb (a8 _)).more hb.size
 by_cases h1:y=⟨#[71,71,65]⟩
 ·subst h1;rw[bl1];refine(bev (S:=(fun _ G=>G=gL (yf fs).1)) (E:=(yf fs).2) (fun _ _ _ h _=>h) (fun W hb=>(azs A fs c W (hst W hb) hz).mono fun _ _ h=>azr h)).mono ?_;rintro e w' ⟨G,rfl,hs,hb⟩;exact⟨_,rfl,.inl ⟨rfl,by rw[hs]⟩,hb⟩
 by_cases h2:y=⟨#[82,77,67]⟩
 ·subst h2;rw[bl2];refine(bew (S:=(fun _ G=>G=rL (yg fs).1)) (E:=(yg fs).2) (fun _ _ _ h _=>h) (fun W hb=>(a05 A fs c W (hst W hb) hz).mono fun _ _ h=>a04 h)).mono ?_;rintro e w' ⟨G,rfl,hs,hb⟩;exact⟨_,rfl,.inr (.inl ⟨rfl,by rw[hs]⟩),hb⟩
 by_cases h3:y=⟨#[71,83,65]⟩
 ·subst h3;rw[bl3];refine(bex (S:=(SI (jy fs).1.ids (sL (jy fs).1))) (E:=(jy fs).2) (fun _ _ _ h hb=>h.on hb) (fun W hb=>(azz A fs c W (hst W hb) hz).mono fun _ _ h=>azy h)).mono ?_;rintro e w' ⟨G,rfl,hs,hb⟩;obtain⟨x,rfl,hx⟩:=hs;exact⟨_,rfl,.inr (.inr (.inl ⟨rfl,x,rfl,hx⟩)),hb⟩
 by_cases h4:y=⟨#[86,84,71]⟩
 ·subst h4;rw[bl4];refine(bey (S:=(fun _ G=>G=j4 (l4v (ji fs).1))) (E:=(ji fs).2) (fun _ _ _ h _=>h) (fun W hb=>(a2s A fs c W (hst W hb) hn hz).mono fun _ _ h=>a2r h)).mono ?_;rintro e w' ⟨G,rfl,hs,hb⟩;exact⟨_,rfl,.inr (.inr (.inr (.inl ⟨rfl,by rw[hs]⟩))),hb⟩
 by_cases h5:y=⟨#[71,83,86]⟩
 ·subst h5;rw[bl5];refine(bez (S:=(SV (zw fs).1.L (uL (zw fs).1))) (E:=(zw fs).2) (fun _ _ _ h hb=>h.on hb) (fun W hb=>(az2 A fs c W (hst W hb) hn hz).mono fun _ _ h=>az1 h)).mono ?_;rintro e w' ⟨G,rfl,hs,hb⟩;obtain⟨x,rfl,hx⟩:=hs;exact⟨_,rfl,.inr (.inr (.inr (.inr (.inl ⟨rfl,x,rfl,hx⟩)))),hb⟩
 rw[bi6 fs h1 h2 h3 h4 h5];refine(bah (ah0 h1) (ah0 h2) (ah0 h3) (ah0 h4) (ah0 h5)).mono ?_;rintro e w' ⟨rfl,hb⟩;exact⟨_,rfl,.inr (.inr (.inr (.inr (.inr ⟨by decide,rfl⟩)))),hb⟩
theorem aqm (y:ByteArray) (fs:List ByteArray):(afg y fs).1.s.ids.length≤1000000 ∧(afg y fs).1.u.L.length≤1000000:=by
 have h1:=a15 fs;have h2:=a16 fs;have e1:yi.ids.length≤1000000:=by decide
 have e2:vr.L.length≤1000000:=by decide
 unfold afg
 split
 ·exact⟨e1,e2⟩
 split
 ·exact⟨e1,e2⟩
 split
 ·exact⟨o8 h1 om,e2⟩
 split
 ·exact⟨e1,e2⟩
 split
 ·exact⟨e1,o8 h2 om⟩
 ·exact⟨e1,e2⟩
def bjl (x:NmD×Int) (w:World) (e:Ending) (w':World):Prop:=∃C,e=.returned (.tuple #[.agg C,.int .i64 x.2])∧NmV w.1.size w' C x.1∧Below w.1.size w w'
theorem aaj {lo:Nat} {w:World} {C:Array Value} {m:NmD} (h:NmV lo w C m):(prog.info? 58).map (·.size)=some C.size:=by rw[h.len];exact a75
theorem adq {w w':World} {b:Nat} {k:Int} {t:ByteArray} {G R S V U:List Value} {lo:Nat} {C:Array Value} {m:NmD} (h:Blk w b (nmL k t G R S V U)) (hl:ab8 G R S V U) (hC:NmV lo w' C m):w.there b 0 C.size:=by rw[hC.len];exact h.nm65 hl
theorem aif {lo:Nat} {w:World} {C:Array Value} {m:NmD} (h:NmV lo w C m):C.toList.length=(nmL 0 ByteArray.empty zy xd xw xh ja).length:=by rw[b1j,h.len,abb qq]
theorem a48 {t y:ByteArray} {fs:List ByteArray} {A:Option Addr} {c:Nat} {w:World} (hs:vw w w.1.size A fs) (hn:fs.length≤1000000) (hz:∀f∈fs,f.size≤1000000) :
 Calls prog 63 #[.agg #[.string t,.string y,.slice A fs.length c]] w (bjl (aeh t y fs) w):=by
 obtain⟨⟨m,E⟩,hmE⟩:∃x,afg y fs=x:=⟨_,rfl⟩;obtain⟨n,hfn⟩:∃n,fs.length=n:=⟨_,rfl⟩;have HID:Hid (m.s.ids.length≤1000000∧m.u.L.length≤1000000):=by have:=aqm y fs;rw[hmE]at this;exact this
 have HR:∀W,Below w.1.size w W→Hid (Calls prog 83 #[.agg #[.string t,.string y,.slice A n c]] W (a7r (m,E) W)):=fun W hb=>by
  have:=a47 (t:=t) (y:=y) (c:=c) ((hs.below hb (a8 _)).more hb.size) hn hz;rw[hmE,hfn]at this;exact this
 have HT:Hid (aeh t y fs=if E=0 then(aau t m,0)else(art,E)):=by unfold aeh;rw[hmE];exact rfl
 rw[hfn];clear hs hn hz hmE hfn;go_enter func63,ntmps63
 go_wp2_with (first
  | (refine qu rfl _ _ rfl #[.string t,.string y,.slice A n c] rfl ?_;intro W0 hW0;have HS0:=hid (Blk.newL (L:=[.string t,.string y,.slice A n c]) hW0 rfl);have HBE0:=hid hW0.bel;have HZ0:=hid hW0.sz;clear hW0)
  | (refine qc rfl 58 rfl zNm (acz _) ?_;intro W1 hW1;have HR1:=hid (Blk.newL (L:=nmL 0 ByteArray.empty zy xd xw xh ja) hW1 rfl);have HBE1:=hid (qb HBE0.out hW1.bel);have HS1:=hid (HS0.out.grew hW1);have HZ1:=hid hW1.sz;clear hW1 HBE0 HS0)
  | refine b0i rfl 150 _ rfl w.1.size 0 rfl [.string t,.string y,.slice A n c] _ HS1.out.rg underlying150 rfl alc ?_)
 refine(HR _ HBE1.out).out.mono ?_;rintro e W2 ⟨v,rfl,hp,hb⟩;have HP:=hid hp;have HR2:=hid (HR1.out.on hb);have HS2:=hid (HS1.out.on hb);have HBE2:=hid (qb HBE1.out hb);have HZ2:Hid (W0.1.size<W2.1.size):=HR2.out.lt;have HBE2l:Hid (w.1.size≤W2.1.size):=HBE2.out.size;have c0:=HS2.out.cell 0 rfl;clear hp hb HR1 HS1 HBE1 HR;dsimp only
 by_cases h0:E=0
 ·subst h0;have HX:Hid (aeh t y fs=(aau t m,0)):=HT.out.trans (if_pos rfl);clear HT;go_wp2_with fail;refine(a49 (t:=t) HP.out HID.out.1 HID.out.2).mono ?_;rintro e W4 ⟨D,rfl,hd,hb⟩;have HD:=hid hd;have HR4:=hid (HR2.out.on hb);have HBE4:=hid (qb HBE2.out hb);clear hd hb HR2 HS2 HBE2 HP c0
  go_wp2_with (first
   | (refine qc rfl 58 rfl zNm (acz _) ?_;intro W5 hW5;have HA:=hid (Blk.newL (L:=nmL 0 ByteArray.empty zy xd xw xh ja) hW5 rfl);have HR5:=hid (HR4.out.grew hW5);have HBE5:=hid (qb HBE4.out hW5.bel);have HD5:=hid (HD.out.on hW5.bel);have HL5:=hid hW5.bel;have HW4:Hid (W0.1.size<W4.1.size):=HR4.out.lt;clear hW5 HR4)
   | (refine qe rfl 58 _ _ rfl W4.1.size 0 D rfl rfl (adq HA.out qq HD.out) (aaj HD.out) HD.out.ones ?_;intro W6 hW6;have HM6:Hid (Blk W6 W4.1.size D.toList):=HA.out.all hW6 (aif HD.out);have HR6:=hid (HR5.out.far hW6 (by have:=HW4.out;omega));have HL6:=hid (HL5.out.trans (hW6.below (a8 _)));have HBE6:=hid (HBE5.out.trans (hW6.below (by have:=HBE4.out.size;omega)));clear hW6 HR5 HBE5 HA)
   | refine b0i rfl 58 _ rfl W4.1.size 0 rfl D.toList _ HM6.out.rg underlying58 rfl (by rw[b1j];exact aaj HD.out) ?_
   | (refine qe rfl 58 _ _ rfl W0.1.size 0 D rfl rfl (adq HR6.out qq HD.out) (aaj HD.out) HD.out.ones ?_;intro W7 hW7;have HM7:Hid (Blk W7 W0.1.size D.toList):=HR6.out.all hW7 (aif HD.out);have HBE7:=hid (HBE6.out.trans (hW7.below (by have:=HZ0.out;omega)));have HD7:=hid ((HD.out.on HL6.out).far hW7 HZ2.out);clear hW7 HR6 HBE6))
  have HLD:=hid (t6 (P:=prog) _ W0.1.size 0 58 _ _ HM7.out.rg underlying58 rfl (by rw[b1j];exact aaj HD.out));refine b9 (v:=.tuple #[.agg D,.int .i64 0]) (by rw[b1g rfl];simp[asAddr,Result.andThen,HLD.out]) rfl ?_;rw[HX.out];exact⟨D,rfl,HD7.out.less (by have:=HBE2l.out;omega),HBE7.out⟩
 ·have HX:Hid (aeh t y fs=(art,E)):=HT.out.trans (if_neg h0);have hne:(E != 0)=true:=by rw[b0g];exact h0
  clear HT
  go_wp2_with (first
   | refine zo rfl 58 rfl (as8 _) ?_
   | (refine qe rfl 58 _ _ rfl W0.1.size 0 zNm rfl rfl (adq HR2.out qq (NmV.zero 0 w)) (aaj (NmV.zero 0 w)) (NmV.zero 0 w).ones ?_;intro W7 hW7;have HM7:Hid (Blk W7 W0.1.size zNm.toList):=HR2.out.all hW7 (aif (NmV.zero 0 w));have HBE7:=hid (HBE2.out.trans (hW7.below (by have:=HZ0.out;omega)));clear hW7 HR2 HBE2))
  have HLD:=hid (t6 (P:=prog) _ W0.1.size 0 58 _ _ HM7.out.rg underlying58 rfl (by rw[b1j];exact aaj (NmV.zero 0 w)));refine b9 (v:=.tuple #[.agg zNm,.int .i64 E]) (by rw[b1g rfl];simp[asAddr,Result.andThen,HLD.out]) rfl ?_;rw[HX.out];exact⟨zNm,rfl,NmV.zero _ _,HBE7.out⟩
