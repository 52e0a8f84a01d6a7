/- Parts. -/
import Derived.Test.YtdkhlkfleggbaaaGreatQ24
import Derived.Test.YtdkhlkfleggbaaaGreatQ23
import Derived.Test.YtdkhlkfleggbaaaGreatQ26
import Derived.Test.YtdkhlkfleggbaaaGreatQ28
namespace Go.Proofs.YtdkhlkfleggbaaaGreat
set_option maxHeartbeats 4000000
set_option maxRecDepth 8000
open Lib (hid)
open Tryz
set_option linter.unusedVariables false
open Go.RowKit
theorem bik {R:List ByteArray} (h:R.length≠8∧R.length≠9):jh R=(afa,3):=by unfold jh;rw[if_pos h]
theorem a2d (A:Option Addr) (R:List ByteArray) (c:Nat) (w:World) (hA:A=none→c=0) (hs:vy w w.1.size A R) (hn:R.length≤1000000) (hz:∀t∈R,t.size≤1000000) :
 Calls prog 105 #[.slice A R.length c] w (aj4 (jh R) w):=by
 by_cases h:R.length≠8∧R.length≠9
 ·rw[bik h];exact am8 A R.length c w (by rw[bne_iff_ne];omega) (by rw[bne_iff_ne];omega)
 ·refine aq9 A R.length c R w rfl hA hs hn hz ?_ h;rcases(by omega:R.length=8∨R.length=9)with q|q
  ·exact .inl (by rw[q];rfl)
  ·exact .inr ⟨by rw[q];rfl,by rw[q];rfl⟩
theorem afq {w:World} {B:Nat} {A:Option Addr} {fs:List ByteArray} (hs:vy w B A fs) (hf:fs≠[]):∀c:Nat,A=none→c=0:=fun c h=>by
 cases fs with
 | nil=>exact absurd rfl hf
 | cons x l=>
  obtain⟨b,off,h1,-⟩:=hs 0 sm;rw[h]at h1;cases h1
theorem azb (A:Option Addr) (R:List ByteArray) (c:Nat) (w:World) (hs:vy w w.1.size A R) (hz:∀t∈R,t.size≤1000000):Calls prog 102 #[.slice A R.length c] w (ajz (yb R) w):=by
 by_cases h:R=[]
 ·subst h;rw[show yb []=(yz,3)from if_pos dc];exact amq A 0 c w rfl
 ·exact azc A R c w (afq hs h c) hs hz
theorem a0o (A:Option Addr) (R:List ByteArray) (c:Nat) (w:World) (hs:vy w w.1.size A R) (hz:∀t∈R,t.size≤1000000):Calls prog 103 #[.slice A R.length c] w (aj3 (yc R) w):=by
 by_cases h:R=[]
 ·subst h;rw[show yc []=(aaa,3)from if_pos dc];exact am1 A 0 c w rfl rfl
 ·exact a0p A R c w (afq hs h c) hs hz
theorem azh (A:Option Addr) (R:List ByteArray) (c:Nat) (w:World) (hs:vy w w.1.size A R) (hz:∀t∈R,t.size≤1000000):Calls prog 104 #[.slice A R.length c] w (aj0 (jz R) w):=by
 by_cases h:R=[]
 ·subst h;rw[show jz []=(ye,3)from if_pos dc];exact ams A 0 c w rfl
 ·exact azi A R c w (afq hs h c) hs hz
theorem a2c (A:Option Addr) (R:List ByteArray) (c:Nat) (w:World) (hs:vy w w.1.size A R) (hn:R.length≤1000000) (hz:∀t∈R,t.size≤1000000):Calls prog 105 #[.slice A R.length c] w (aj4 (jh R) w):=by
 by_cases h:R=[]
 ·subst h;rw[show jh []=(afa,3)from if_pos dc];exact am8 A 0 c w rfl rfl
 ·exact a2d A R c w (afq hs h c) hs hn hz
theorem azk (A:Option Addr) (R:List ByteArray) (c:Nat) (w:World) (hs:vy w w.1.size A R) (hn:R.length≤1000000) (hz:∀t∈R,t.size≤1000000):Calls prog 106 #[.slice A R.length c] w (aj1 (zw R) w):=by
 by_cases h:R=[]
 ·subst h;rw[show zw []=(vt,3)from if_pos (.inl dc)];exact amt A 0 c w (.inl dc) om
 ·exact azl A R c w (afq hs h c) hs hn hz
def l4v (N:List (Bool×Int)):V4:=(N.getD 0 (false,0),N.getD 1 (false,0),N.getD 2 (false,0),N.getD 3 (false,0))
theorem bbx {N:List (Bool×Int)} (h:N.length=4):a7r N=.agg (j5 (l4v N)).toArray:=by
 match N,h with
 | [a,b,c,d],_=>rfl
def afk (y:ByteArray) (fs:List ByteArray):NmD×Int:=
 if y=⟨#[71,71,65]⟩then(⟨1,ByteArray.empty,(yb fs).1,aaa,ye,zV4,vt⟩,(yb fs).2)else if y=⟨#[82,77,67]⟩then(⟨2,ByteArray.empty,yz,(yc fs).1,ye,zV4,vt⟩,(yc fs).2)else if y=⟨#[71,83,65]⟩then(⟨3,ByteArray.empty,yz,aaa,(jz fs).1,zV4,vt⟩,(jz fs).2)else if y=⟨#[86,84,71]⟩then(⟨4,ByteArray.empty,yz,aaa,ye,l4v (jh fs).1,vt⟩,(jh fs).2)else if y=⟨#[71,83,86]⟩then(⟨5,ByteArray.empty,yz,aaa,ye,zV4,(zw fs).1⟩,(zw fs).2)else(arg,6)
def aei (t y:ByteArray) (fs:List ByteArray):NmD×Int:=if(afk y fs).2=0 then(aat t (afk y fs).1,0)else(arg,(afk y fs).2)
theorem bf4 (w:World):(zeroValue 44).run prog w=.ok (.agg zz.toArray) w:=by kernel_rfl
theorem bf7 (w:World):(zeroValue 48).run prog w=.ok (.agg xd.toArray) w:=by kernel_rfl
theorem bf5 (w:World):(zeroValue 51).run prog w=.ok (.agg xt.toArray) w:=by kernel_rfl
theorem bf8 (w:World):(zeroValue 53).run prog w=.ok (.agg xh.toArray) w:=by kernel_rfl
theorem bf6 (w:World):(zeroValue 56).run prog w=.ok (.agg xy.toArray) w:=by kernel_rfl
def ain (k:Nat) (S:World→List Value→Prop) (E:Int) (w:World) (e:Ending) (w':World):Prop:=∃G:List Value,e=.returned (.tuple #[.agg G.toArray,.int .i64 E])∧G.length=k∧xj G∧S w' G∧Below w.1.size w w'
def aog (T:TypeId) (S:World→List Value→Prop) (E:Int) (w:World) (e:Ending) (w':World):Prop:=∃G:List Value,e=.returned (.tuple #[.iface T (.agg G.toArray),.int .i64 E])∧S w' G∧Below w.1.size w w'
theorem bd4 {t:ByteArray} {A:Option Addr} {n c:Nat} {S:World→List Value→Prop} {E:Int} {w:World} (hS:Hid (∀w w' G,S w G→Below w.1.size w w'→S w' G)) (HP:∀W,Below w.1.size w W→Hid (Calls prog 102 #[.slice A n c] W (ain 22 S E W))):Calls prog 83 #[.agg #[.string t,.string ⟨#[71,71,65]⟩,.slice A n c]] w (aog 239 S E w):=by
 have HB0:=hid (qa w (.cells #[.string t,.string ⟨#[71,71,65]⟩,.slice A n c] 150));go_enter func83,ntmps83;go_wp2_with fail;refine(HP _ HB0.out).out.mono ?_;rintro e W2 ⟨G,rfl,hl,ho,hs,hb⟩;have HL:=hid hl;have HO:=hid ho;have HBE:=hid (qb HB0.out hb);have HSS:=hid hs;have HLT:Hid (w.1.size≤W2.1.size):=HBE.out.size;have HZ:Hid ((prog.info? 44).map (·.size)=some G.length):=by rw[HL.out];exact ad8
 clear hl ho hs hb HP HB0
 go_wp2_with (first
  | (refine qc rfl 44 rfl zz.toArray (bf4 _) ?_;intro W4 hW4;have HK:=hid (Blk.newL (L:=zz) hW4 rfl);have HBE4:=hid (qb HBE.out hW4.bel);have HS4:=hid (hS.out _ _ _ HSS.out hW4.bel);have HB4:=hid hW4.bel;clear hW4 HBE)
  | (refine qe rfl 44 _ _ rfl W2.1.size 0 G.toArray rfl rfl (HK.out.thereA HL.out) (by rw[List.size_toArray];exact HZ.out) (xj.arr HO.out) ?_;intro W5 hW5;have HK5:Hid (Blk W5 W2.1.size G):=HK.out.all hW5 HL.out;have HBE5:=hid (HBE4.out.trans (hW5.below (by have:=HBE4.out.size;exact HLT.out)));have HS5:=hid (hS.out _ _ _ HSS.out (HB4.out.trans (hW5.below (Nat.le_refl _))));clear hW5 HK HBE4 HS4 HB4)
  | refine wpList_load_mid rfl 44 _ rfl W2.1.size 0 rfl G _ HK5.out.rg underlying44 rfl HZ.out ?_
  | refine zo (u:=.agg G.toArray) rfl 239 0 _ rfl rfl (ax7 G HL.out _) ?_)
 go_ret2
 exact⟨G,rfl,HS5.out,HBE5.out⟩
theorem bd5 {t:ByteArray} {A:Option Addr} {n c:Nat} {S:World→List Value→Prop} {E:Int} {w:World} (hS:Hid (∀w w' G,S w G→Below w.1.size w w'→S w' G)) (HP:∀W,Below w.1.size w W→Hid (Calls prog 103 #[.slice A n c] W (ain 20 S E W))):Calls prog 83 #[.agg #[.string t,.string ⟨#[82,77,67]⟩,.slice A n c]] w (aog 243 S E w):=by
 have HB0:=hid (qa w (.cells #[.string t,.string ⟨#[82,77,67]⟩,.slice A n c] 150));go_enter func83,ntmps83;go_wp2_with fail;refine(HP _ HB0.out).out.mono ?_;rintro e W2 ⟨G,rfl,hl,ho,hs,hb⟩;have HL:=hid hl;have HO:=hid ho;have HBE:=hid (qb HB0.out hb);have HSS:=hid hs;have HLT:Hid (w.1.size≤W2.1.size):=HBE.out.size;have HZ:Hid ((prog.info? 48).map (·.size)=some G.length):=by rw[HL.out];exact aeb
 clear hl ho hs hb HP HB0
 go_wp2_with (first
  | (refine qc rfl 48 rfl xd.toArray (bf7 _) ?_;intro W4 hW4;have HK:=hid (Blk.newL (L:=xd) hW4 rfl);have HBE4:=hid (qb HBE.out hW4.bel);have HS4:=hid (hS.out _ _ _ HSS.out hW4.bel);have HB4:=hid hW4.bel;clear hW4 HBE)
  | (refine qe rfl 48 _ _ rfl W2.1.size 0 G.toArray rfl rfl (HK.out.thereA HL.out) (by rw[List.size_toArray];exact HZ.out) (xj.arr HO.out) ?_;intro W5 hW5;have HK5:Hid (Blk W5 W2.1.size G):=HK.out.all hW5 HL.out;have HBE5:=hid (HBE4.out.trans (hW5.below (by have:=HBE4.out.size;exact HLT.out)));have HS5:=hid (hS.out _ _ _ HSS.out (HB4.out.trans (hW5.below (Nat.le_refl _))));clear hW5 HK HBE4 HS4 HB4)
  | refine wpList_load_mid rfl 48 _ rfl W2.1.size 0 rfl G _ HK5.out.rg underlying48 rfl HZ.out ?_
  | refine zo (u:=.agg G.toArray) rfl 243 0 _ rfl rfl (aya G HL.out _) ?_)
 go_ret2
 exact⟨G,rfl,HS5.out,HBE5.out⟩
theorem bd6 {t:ByteArray} {A:Option Addr} {n c:Nat} {S:World→List Value→Prop} {E:Int} {w:World} (hS:Hid (∀w w' G,S w G→Below w.1.size w w'→S w' G)) (HP:∀W,Below w.1.size w W→Hid (Calls prog 104 #[.slice A n c] W (ain 9 S E W))):Calls prog 83 #[.agg #[.string t,.string ⟨#[71,83,65]⟩,.slice A n c]] w (aog 247 S E w):=by
 have HB0:=hid (qa w (.cells #[.string t,.string ⟨#[71,83,65]⟩,.slice A n c] 150));go_enter func83,ntmps83;go_wp2_with fail;refine(HP _ HB0.out).out.mono ?_;rintro e W2 ⟨G,rfl,hl,ho,hs,hb⟩;have HL:=hid hl;have HO:=hid ho;have HBE:=hid (qb HB0.out hb);have HSS:=hid hs;have HLT:Hid (w.1.size≤W2.1.size):=HBE.out.size;have HZ:Hid ((prog.info? 51).map (·.size)=some G.length):=by rw[HL.out];exact ad9
 clear hl ho hs hb HP HB0
 go_wp2_with (first
  | (refine qc rfl 51 rfl xt.toArray (bf5 _) ?_;intro W4 hW4;have HK:=hid (Blk.newL (L:=xt) hW4 rfl);have HBE4:=hid (qb HBE.out hW4.bel);have HS4:=hid (hS.out _ _ _ HSS.out hW4.bel);have HB4:=hid hW4.bel;clear hW4 HBE)
  | (refine qe rfl 51 _ _ rfl W2.1.size 0 G.toArray rfl rfl (HK.out.thereA HL.out) (by rw[List.size_toArray];exact HZ.out) (xj.arr HO.out) ?_;intro W5 hW5;have HK5:Hid (Blk W5 W2.1.size G):=HK.out.all hW5 HL.out;have HBE5:=hid (HBE4.out.trans (hW5.below (by have:=HBE4.out.size;exact HLT.out)));have HS5:=hid (hS.out _ _ _ HSS.out (HB4.out.trans (hW5.below (Nat.le_refl _))));clear hW5 HK HBE4 HS4 HB4)
  | refine wpList_load_mid rfl 51 _ rfl W2.1.size 0 rfl G _ HK5.out.rg underlying51 rfl HZ.out ?_
  | refine zo (u:=.agg G.toArray) rfl 247 0 _ rfl rfl (ax8 G HL.out _) ?_)
 go_ret2
 exact⟨G,rfl,HS5.out,HBE5.out⟩
theorem bd7 {t:ByteArray} {A:Option Addr} {n c:Nat} {S:World→List Value→Prop} {E:Int} {w:World} (hS:Hid (∀w w' G,S w G→Below w.1.size w w'→S w' G)) (HP:∀W,Below w.1.size w W→Hid (Calls prog 105 #[.slice A n c] W (ain 8 S E W))):Calls prog 83 #[.agg #[.string t,.string ⟨#[86,84,71]⟩,.slice A n c]] w (aog 251 S E w):=by
 have HB0:=hid (qa w (.cells #[.string t,.string ⟨#[86,84,71]⟩,.slice A n c] 150));go_enter func83,ntmps83;go_wp2_with fail;refine(HP _ HB0.out).out.mono ?_;rintro e W2 ⟨G,rfl,hl,ho,hs,hb⟩;have HL:=hid hl;have HO:=hid ho;have HBE:=hid (qb HB0.out hb);have HSS:=hid hs;have HLT:Hid (w.1.size≤W2.1.size):=HBE.out.size;have HZ:Hid ((prog.info? 53).map (·.size)=some G.length):=by rw[HL.out];exact aec
 clear hl ho hs hb HP HB0
 go_wp2_with (first
  | (refine qc rfl 53 rfl xh.toArray (bf8 _) ?_;intro W4 hW4;have HK:=hid (Blk.newL (L:=xh) hW4 rfl);have HBE4:=hid (qb HBE.out hW4.bel);have HS4:=hid (hS.out _ _ _ HSS.out hW4.bel);have HB4:=hid hW4.bel;clear hW4 HBE)
  | (refine qe rfl 53 _ _ rfl W2.1.size 0 G.toArray rfl rfl (HK.out.thereA HL.out) (by rw[List.size_toArray];exact HZ.out) (xj.arr HO.out) ?_;intro W5 hW5;have HK5:Hid (Blk W5 W2.1.size G):=HK.out.all hW5 HL.out;have HBE5:=hid (HBE4.out.trans (hW5.below (by have:=HBE4.out.size;exact HLT.out)));have HS5:=hid (hS.out _ _ _ HSS.out (HB4.out.trans (hW5.below (Nat.le_refl _))));clear hW5 HK HBE4 HS4 HB4)
  | refine wpList_load_mid rfl 53 _ rfl W2.1.size 0 rfl G _ HK5.out.rg underlying53 rfl HZ.out ?_
  | refine zo (u:=.agg G.toArray) rfl 251 0 _ rfl rfl (ayb G HL.out _) ?_)
 go_ret2
 exact⟨G,rfl,HS5.out,HBE5.out⟩
theorem bd8 {t:ByteArray} {A:Option Addr} {n c:Nat} {S:World→List Value→Prop} {E:Int} {w:World} (hS:Hid (∀w w' G,S w G→Below w.1.size w w'→S w' G)) (HP:∀W,Below w.1.size w W→Hid (Calls prog 106 #[.slice A n c] W (ain 4 S E W))):Calls prog 83 #[.agg #[.string t,.string ⟨#[71,83,86]⟩,.slice A n c]] w (aog 255 S E w):=by
 have HB0:=hid (qa w (.cells #[.string t,.string ⟨#[71,83,86]⟩,.slice A n c] 150));go_enter func83,ntmps83;go_wp2_with fail;refine(HP _ HB0.out).out.mono ?_;rintro e W2 ⟨G,rfl,hl,ho,hs,hb⟩;have HL:=hid hl;have HO:=hid ho;have HBE:=hid (qb HB0.out hb);have HSS:=hid hs;have HLT:Hid (w.1.size≤W2.1.size):=HBE.out.size;have HZ:Hid ((prog.info? 56).map (·.size)=some G.length):=by rw[HL.out];exact aea
 clear hl ho hs hb HP HB0
 go_wp2_with (first
  | (refine qc rfl 56 rfl xy.toArray (bf6 _) ?_;intro W4 hW4;have HK:=hid (Blk.newL (L:=xy) hW4 rfl);have HBE4:=hid (qb HBE.out hW4.bel);have HS4:=hid (hS.out _ _ _ HSS.out hW4.bel);have HB4:=hid hW4.bel;clear hW4 HBE)
  | (refine qe rfl 56 _ _ rfl W2.1.size 0 G.toArray rfl rfl (HK.out.thereA HL.out) (by rw[List.size_toArray];exact HZ.out) (xj.arr HO.out) ?_;intro W5 hW5;have HK5:Hid (Blk W5 W2.1.size G):=HK.out.all hW5 HL.out;have HBE5:=hid (HBE4.out.trans (hW5.below (by have:=HBE4.out.size;exact HLT.out)));have HS5:=hid (hS.out _ _ _ HSS.out (HB4.out.trans (hW5.below (Nat.le_refl _))));clear hW5 HK HBE4 HS4 HB4)
  | refine wpList_load_mid rfl 56 _ rfl W2.1.size 0 rfl G _ HK5.out.rg underlying56 rfl HZ.out ?_
  | refine zo (u:=.agg G.toArray) rfl 255 0 _ rfl rfl (ax9 G HL.out _) ?_)
 go_ret2
 exact⟨G,rfl,HS5.out,HBE5.out⟩
theorem a9r {t y:ByteArray} {A:Option Addr} {n c:Nat} {w:World} (h1:(y.toList==[71,71,65])=false) (h2:(y.toList==[82,77,67])=false) (h3:(y.toList==[71,83,65])=false) (h4:(y.toList==[86,84,71])=false) (h5:(y.toList==[71,83,86])=false):Calls prog 83 #[.agg #[.string t,.string y,.slice A n c]] w fun e w'=>e=.returned (.tuple #[.nilIface,.int .i64 6])∧Below w.1.size w w':=by
 have HB0:=hid (qa w (.cells #[.string t,.string y,.slice A n c] 150));go_enter func83,ntmps83;go_wp2_with fail
 go_ret2
 exact⟨rfl,HB0.out⟩
theorem a58 (t:ByteArray) (a b c:UInt8):(t.toList==[a,b,c])=decide (t=⟨#[a,b,c]⟩):=by
 have l:(⟨#[a,b,c]⟩:ByteArray).toList=[a,b,c]:=by rw[ByteArray.toList_eq]
 rw[← afb,l]
theorem aho {t:ByteArray} {a b c:UInt8} (h:t ≠⟨#[a,b,c]⟩):(t.toList==[a,b,c])=false:=by rw[a58];exact decide_eq_false h
def SI (l:List Int) (f:Value→List Value) (w:World) (G:List Value):Prop:=∃x,G=f x∧SlI 0 w x l
def SV (l:List V4) (f:Value→List Value) (w:World) (G:List Value):Prop:=∃x,G=f x∧SlV 0 w x l
theorem SI.on {l:List Int} {f:Value→List Value} {w w':World} {G:List Value} (h:SI l f w G) (hb:Below w.1.size w w'):SI l f w' G:=by
 obtain⟨x,h1,h2⟩:=h;exact⟨x,h1,h2.on hb⟩
theorem SV.on {l:List V4} {f:Value→List Value} {w w':World} {G:List Value} (h:SV l f w G) (hb:Below w.1.size w w'):SV l f w' G:=by
 obtain⟨x,h1,h2⟩:=h;exact⟨x,h1,h2.on hb⟩
theorem aza {fs:List ByteArray} {w:World} {e:Ending} {w':World} (h:ajz (yb fs) w e w'):ain 22 (fun _ G=>G=gL (yb fs).1) (yb fs).2 w e w':=
 ⟨_,h.1,rfl,an5 _,rfl,h.2⟩
theorem a0n {fs:List ByteArray} {w:World} {e:Ending} {w':World} (h:aj3 (yc fs) w e w'):ain 20 (fun _ G=>G=rL (yc fs).1) (yc fs).2 w e w':=
 ⟨_,h.1,rfl,an6 _,rfl,h.2⟩
theorem azg {fs:List ByteArray} {w:World} {e:Ending} {w':World} (h:aj0 (jz fs) w e w'):ain 9 (SI (jz fs).1.ids (sL (jz fs).1)) (jz fs).2 w e w':=by
 obtain⟨A,n,c,h1,rfl,h3,h4⟩:=h;exact⟨_,h1,rfl,av9 _ (y:=.slice A (jz fs).1.ids.length c) rfl,⟨_,rfl,A,c,rfl,bgg h3⟩,h4⟩
theorem a2b {fs:List ByteArray} {w:World} {e:Ending} {w':World} (h:aj4 (jh fs) w e w'):ain 8 (fun _ G=>G=j5 (l4v (jh fs).1)) (jh fs).2 w e w':=
 ⟨_,by rw[h.1,bbx (a1q fs)],rfl,an9 _,rfl,h.2⟩
theorem azj {fs:List ByteArray} {w:World} {e:Ending} {w':World} (h:aj1 (zw fs) w e w'):ain 4 (SV (zw fs).1.L (uL (zw fs).1)) (zw fs).2 w e w':=by
 obtain⟨A,c,h1,h3,h4⟩:=h;exact⟨_,h1,rfl,aw7 _ (y:=.slice A (zw fs).1.L.length c) rfl,⟨_,rfl,A,c,rfl,bjt h3⟩,h4⟩
theorem bkv (fs:List ByteArray):afk ⟨#[71,71,65]⟩ fs=(⟨1,ByteArray.empty,(yb fs).1,aaa,ye,zV4,vt⟩,(yb fs).2):=by
 unfold afk;rw[if_pos rfl]
theorem bkw (fs:List ByteArray):afk ⟨#[82,77,67]⟩ fs=(⟨2,ByteArray.empty,yz,(yc fs).1,ye,zV4,vt⟩,(yc fs).2):=by
 unfold afk;rw[if_neg dc];rw[if_pos rfl]
theorem bkx (fs:List ByteArray):afk ⟨#[71,83,65]⟩ fs=(⟨3,ByteArray.empty,yz,aaa,(jz fs).1,zV4,vt⟩,(jz fs).2):=by
 unfold afk;rw[if_neg dc];rw[if_neg dc];rw[if_pos rfl]
theorem bky (fs:List ByteArray):afk ⟨#[86,84,71]⟩ fs=(⟨4,ByteArray.empty,yz,aaa,ye,l4v (jh fs).1,vt⟩,(jh fs).2):=by
 unfold afk;rw[if_neg dc];rw[if_neg dc];rw[if_neg dc];rw[if_pos rfl]
theorem bkz (fs:List ByteArray):afk ⟨#[71,83,86]⟩ fs=(⟨5,ByteArray.empty,yz,aaa,ye,zV4,(zw fs).1⟩,(zw fs).2):=by
 unfold afk;rw[if_neg dc];rw[if_neg dc];rw[if_neg dc];rw[if_neg dc];rw[if_pos rfl]
theorem bh8 {y:ByteArray} (fs:List ByteArray) (h1:y ≠⟨#[71,71,65]⟩) (h2:y ≠⟨#[82,77,67]⟩) (h3:y ≠⟨#[71,83,65]⟩) (h4:y ≠⟨#[86,84,71]⟩) (h5:y ≠⟨#[71,83,86]⟩):afk y fs=(arg,6):=by
 unfold afk;rw[if_neg h1,if_neg h2,if_neg h3,if_neg h4,if_neg h5]
def a60 (x:NmD×Int) (w:World) (e:Ending) (w':World):Prop:=∃v,e=.returned (.tuple #[v,.int .i64 x.2])∧bin 0 w' v x.1∧Below w.1.size w w'
theorem a4h {t y:ByteArray} {fs:List ByteArray} {A:Option Addr} {c:Nat} {w:World} (hs:vy w w.1.size A fs) (hn:fs.length≤1000000) (hz:∀f∈fs,f.size≤1000000) :
 Calls prog 83 #[.agg #[.string t,.string y,.slice A fs.length c]] w (a60 (afk y fs) w):=by
 have hst:∀W,Below w.1.size w W→vy W W.1.size A fs:=fun W hb=>(hs.below hb (Nat.le_refl _)).more hb.size
 by_cases h1:y=⟨#[71,71,65]⟩
 ·subst h1;rw[bkv];refine(bd4 (S:=(fun _ G=>G=gL (yb fs).1)) (E:=(yb fs).2) (fun _ _ _ h _=>h) (fun W hb=>(azb A fs c W (hst W hb) hz).mono fun _ _ h=>aza h)).mono ?_;rintro e w' ⟨G,rfl,hs,hb⟩;exact⟨_,rfl,.inl ⟨rfl,by rw[hs]⟩,hb⟩
 by_cases h2:y=⟨#[82,77,67]⟩
 ·subst h2;rw[bkw];refine(bd5 (S:=(fun _ G=>G=rL (yc fs).1)) (E:=(yc fs).2) (fun _ _ _ h _=>h) (fun W hb=>(a0o A fs c W (hst W hb) hz).mono fun _ _ h=>a0n h)).mono ?_;rintro e w' ⟨G,rfl,hs,hb⟩;exact⟨_,rfl,.inr (.inl ⟨rfl,by rw[hs]⟩),hb⟩
 by_cases h3:y=⟨#[71,83,65]⟩
 ·subst h3;rw[bkx];refine(bd6 (S:=(SI (jz fs).1.ids (sL (jz fs).1))) (E:=(jz fs).2) (fun _ _ _ h hb=>h.on hb) (fun W hb=>(azh A fs c W (hst W hb) hz).mono fun _ _ h=>azg h)).mono ?_;rintro e w' ⟨G,rfl,hs,hb⟩;obtain⟨x,rfl,hx⟩:=hs;exact⟨_,rfl,.inr (.inr (.inl ⟨rfl,x,rfl,hx⟩)),hb⟩
 by_cases h4:y=⟨#[86,84,71]⟩
 ·subst h4;rw[bky];refine(bd7 (S:=(fun _ G=>G=j5 (l4v (jh fs).1))) (E:=(jh fs).2) (fun _ _ _ h _=>h) (fun W hb=>(a2c A fs c W (hst W hb) hn hz).mono fun _ _ h=>a2b h)).mono ?_;rintro e w' ⟨G,rfl,hs,hb⟩;exact⟨_,rfl,.inr (.inr (.inr (.inl ⟨rfl,by rw[hs]⟩))),hb⟩
 by_cases h5:y=⟨#[71,83,86]⟩
 ·subst h5;rw[bkz];refine(bd8 (S:=(SV (zw fs).1.L (uL (zw fs).1))) (E:=(zw fs).2) (fun _ _ _ h hb=>h.on hb) (fun W hb=>(azk A fs c W (hst W hb) hn hz).mono fun _ _ h=>azj h)).mono ?_;rintro e w' ⟨G,rfl,hs,hb⟩;obtain⟨x,rfl,hx⟩:=hs;exact⟨_,rfl,.inr (.inr (.inr (.inr (.inl ⟨rfl,x,rfl,hx⟩)))),hb⟩
 rw[bh8 fs h1 h2 h3 h4 h5];refine(a9r (aho h1) (aho h2) (aho h3) (aho h4) (aho h5)).mono ?_;rintro e w' ⟨rfl,hb⟩;exact⟨_,rfl,.inr (.inr (.inr (.inr (.inr ⟨by decide,rfl⟩)))),hb⟩
theorem aqb (y:ByteArray) (fs:List ByteArray):(afk y fs).1.s.ids.length≤1000000 ∧(afk y fs).1.u.L.length≤1000000:=by
 have h1:=a1o fs;have h2:=a1p fs;have e1:ye.ids.length≤1000000:=by decide
 have e2:vt.L.length≤1000000:=by decide
 unfold afk
 split
 ·exact⟨e1,e2⟩
 split
 ·exact⟨e1,e2⟩
 split
 ·exact⟨Nat.le_trans h1 om,e2⟩
 split
 ·exact⟨e1,e2⟩
 split
 ·exact⟨e1,Nat.le_trans h2 om⟩
 ·exact⟨e1,e2⟩
def bim (x:NmD×Int) (w:World) (e:Ending) (w':World):Prop:=∃C,e=.returned (.tuple #[.agg C,.int .i64 x.2])∧NmV w.1.size w' C x.1∧Below w.1.size w w'
theorem aah {lo:Nat} {w:World} {C:Array Value} {m:NmD} (h:NmV lo w C m):(prog.info? 58).map (·.size)=some C.size:=by rw[h.len];exact a7d
theorem adt {w w':World} {b:Nat} {k:Int} {t:ByteArray} {G R S V U:List Value} {lo:Nat} {C:Array Value} {m:NmD} (h:Blk w b (nmL k t G R S V U)) (hl:ab5 G R S V U) (hC:NmV lo w' C m):w.there b 0 C.size:=by rw[hC.len];exact h.nm65 hl
theorem ah1 {lo:Nat} {w:World} {C:Array Value} {m:NmD} (h:NmV lo w C m):C.toList.length=(nmL 0 ByteArray.empty zz xd xt xh xy).length:=by rw[Array.length_toList,h.len,aa6 qo]
theorem a4i {t y:ByteArray} {fs:List ByteArray} {A:Option Addr} {c:Nat} {w:World} (hs:vy w w.1.size A fs) (hn:fs.length≤1000000) (hz:∀f∈fs,f.size≤1000000) :
 Calls prog 63 #[.agg #[.string t,.string y,.slice A fs.length c]] w (bim (aei t y fs) w):=by
 obtain⟨⟨m,E⟩,hmE⟩:∃x,afk y fs=x:=⟨_,rfl⟩;obtain⟨n,hfn⟩:∃n,fs.length=n:=⟨_,rfl⟩;have HID:Hid (m.s.ids.length≤1000000∧m.u.L.length≤1000000):=by have:=aqb y fs;rw[hmE]at this;exact this
 have HR:∀W,Below w.1.size w W→Hid (Calls prog 83 #[.agg #[.string t,.string y,.slice A n c]] W (a60 (m,E) W)):=fun W hb=>by
  have:=a4h (t:=t) (y:=y) (c:=c) ((hs.below hb (Nat.le_refl _)).more hb.size) hn hz;rw[hmE,hfn]at this;exact this
 have HT:Hid (aei t y fs=if E=0 then(aat t m,0)else(arg,E)):=by unfold aei;rw[hmE];exact rfl
 rw[hfn];clear hs hn hz hmE hfn;go_enter func63,ntmps63
 go_wp2_with (first
  | (refine qr rfl _ _ rfl #[.string t,.string y,.slice A n c] rfl ?_;intro W0 hW0;have HS0:=hid (Blk.newL (L:=[.string t,.string y,.slice A n c]) hW0 rfl);have HBE0:=hid hW0.bel;have HZ0:=hid hW0.sz;clear hW0)
  | (refine qc rfl 58 rfl zNm (acx _) ?_;intro W1 hW1;have HR1:=hid (Blk.newL (L:=nmL 0 ByteArray.empty zz xd xt xh xy) hW1 rfl);have HBE1:=hid (qb HBE0.out hW1.bel);have HS1:=hid (HS0.out.grew hW1);have HZ1:=hid hW1.sz;clear hW1 HBE0 HS0)
  | refine wpList_load_mid rfl 150 _ rfl w.1.size 0 rfl [.string t,.string y,.slice A n c] _ HS1.out.rg underlying150 rfl aku ?_)
 refine(HR _ HBE1.out).out.mono ?_;rintro e W2 ⟨v,rfl,hp,hb⟩;have HP:=hid hp;have HR2:=hid (HR1.out.on hb);have HS2:=hid (HS1.out.on hb);have HBE2:=hid (qb HBE1.out hb);have HZ2:Hid (W0.1.size<W2.1.size):=HR2.out.lt;have HBE2l:Hid (w.1.size≤W2.1.size):=HBE2.out.size;have c0:=HS2.out.cell 0 rfl;clear hp hb HR1 HS1 HBE1 HR;dsimp only
 by_cases h0:E=0
 ·subst h0;have HX:Hid (aei t y fs=(aat t m,0)):=HT.out.trans (if_pos rfl);clear HT;go_wp2_with fail;refine(a4j (t:=t) HP.out HID.out.1 HID.out.2).mono ?_;rintro e W4 ⟨D,rfl,hd,hb⟩;have HD:=hid hd;have HR4:=hid (HR2.out.on hb);have HBE4:=hid (qb HBE2.out hb);clear hd hb HR2 HS2 HBE2 HP c0
  go_wp2_with (first
   | (refine qc rfl 58 rfl zNm (acx _) ?_;intro W5 hW5;have HA:=hid (Blk.newL (L:=nmL 0 ByteArray.empty zz xd xt xh xy) hW5 rfl);have HR5:=hid (HR4.out.grew hW5);have HBE5:=hid (qb HBE4.out hW5.bel);have HD5:=hid (HD.out.on hW5.bel);have HL5:=hid hW5.bel;have HW4:Hid (W0.1.size<W4.1.size):=HR4.out.lt;clear hW5 HR4)
   | (refine qe rfl 58 _ _ rfl W4.1.size 0 D rfl rfl (adt HA.out qo HD.out) (aah HD.out) HD.out.ones ?_;intro W6 hW6;have HM6:Hid (Blk W6 W4.1.size D.toList):=HA.out.all hW6 (ah1 HD.out);have HR6:=hid (HR5.out.far hW6 (by have:=HW4.out;omega));have HL6:=hid (HL5.out.trans (hW6.below (Nat.le_refl _)));have HBE6:=hid (HBE5.out.trans (hW6.below (by have:=HBE4.out.size;omega)));clear hW6 HR5 HBE5 HA)
   | refine wpList_load_mid rfl 58 _ rfl W4.1.size 0 rfl D.toList _ HM6.out.rg underlying58 rfl (by rw[Array.length_toList];exact aah HD.out) ?_
   | (refine qe rfl 58 _ _ rfl W0.1.size 0 D rfl rfl (adt HR6.out qo HD.out) (aah HD.out) HD.out.ones ?_;intro W7 hW7;have HM7:Hid (Blk W7 W0.1.size D.toList):=HR6.out.all hW7 (ah1 HD.out);have HBE7:=hid (HBE6.out.trans (hW7.below (by have:=HZ0.out;omega)));have HD7:=hid ((HD.out.on HL6.out).far hW7 HZ2.out);clear hW7 HR6 HBE6))
  have HLD:=hid (run_loadVar_mid (P:=prog) _ W0.1.size 0 58 _ _ HM7.out.rg underlying58 rfl (by rw[Array.length_toList];exact aah HD.out));refine bodyPost_ret (v:=.tuple #[.agg D,.int .i64 0]) (by rw[results_cell_tmp rfl];simp[asAddr,Result.andThen,HLD.out]) rfl ?_;rw[HX.out];exact⟨D,rfl,HD7.out.less (by have:=HBE2l.out;omega),HBE7.out⟩
 ·have HX:Hid (aei t y fs=(arg,E)):=HT.out.trans (if_neg h0);have hne:(E != 0)=true:=by rw[bne_iff_ne];exact h0
  clear HT
  go_wp2_with (first
   | refine zy rfl 58 rfl (asv _) ?_
   | (refine qe rfl 58 _ _ rfl W0.1.size 0 zNm rfl rfl (adt HR2.out qo (NmV.zero 0 w)) (aah (NmV.zero 0 w)) (NmV.zero 0 w).ones ?_;intro W7 hW7;have HM7:Hid (Blk W7 W0.1.size zNm.toList):=HR2.out.all hW7 (ah1 (NmV.zero 0 w));have HBE7:=hid (HBE2.out.trans (hW7.below (by have:=HZ0.out;omega)));clear hW7 HR2 HBE2))
  have HLD:=hid (run_loadVar_mid (P:=prog) _ W0.1.size 0 58 _ _ HM7.out.rg underlying58 rfl (by rw[Array.length_toList];exact aah (NmV.zero 0 w)));refine bodyPost_ret (v:=.tuple #[.agg zNm,.int .i64 E]) (by rw[results_cell_tmp rfl];simp[asAddr,Result.andThen,HLD.out]) rfl ?_;rw[HX.out];exact⟨zNm,rfl,NmV.zero _ _,HBE7.out⟩
