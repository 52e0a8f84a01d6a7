/- Parts. -/
import Derived.Test.YtdkhlkfleggbaaaGreatV20
import Derived.Test.YtdkhlkfleggbaaaGreatV22
import Derived.Test.YtdkhlkfleggbaaaGreatV23
namespace Go.Proofs.YtdkhlkfleggbaaaGreat
set_option maxHeartbeats 4000000
set_option maxRecDepth 8000
open Tryz
set_option linter.unusedVariables false
open Go.RowKit
theorem bkt {R:List ByteArray} (h:R.length≠8/\R.length≠9):jj R=(afg,3):=by unfold jj;rw[if_pos h]
theorem a3r (A:Option Addr) (R:List ByteArray) (c:Nat) (w:World) (hA:A=none->c=0) (hs:v6 w w.1.size A R) (hn:R.length<=1100000) (hz:∀t∈R,t.size<=1100000) :
 Calls prog 105 #[.slice A R.length c] w (aks (jj R) w):=by
 by_cases h:R.length≠8/\R.length≠9
 ·rw[bkt h];exact an2 A R.length c w (by rw[b0r];omega) (by rw[b0r];omega)
 ·refine ary A R.length c R w rfl hA hs hn hz ?_ h;rcases(by omega:R.length=8\/R.length=9)with q|q
  ·exact .inl (by rw[q];rfl)
  ·exact .inr ⟨by rw[q];rfl,by rw[q];rfl⟩
theorem afw {w:World} {B:Nat} {A:Option Addr} {fs:List ByteArray} (hs:v6 w B A fs) (hf:fs≠[]):∀c:Nat,A=none->c=0:=λc h=>by
 cases fs with
 | nil=>exact absurd rfl hf
 | cons x l=>
  obtain⟨b,off,h1,-⟩:=hs 0 sm;rw[h]at h1;cases h1
theorem a0k (A:Option Addr) (R:List ByteArray) (c:Nat) (w:World) (hs:v6 w w.1.size A R) (hz:∀t∈R,t.size<=1100000):Calls prog 102 #[.slice A R.length c] w (akn (yh R) w):=by
 by_cases h:R=[]
 ·subst h;rw[show yh []=(aag,3)from if_pos dc];exact ani A 0 c w rfl
 ·exact a0l A R c w (afw hs h c) hs hz
theorem a10 (A:Option Addr) (R:List ByteArray) (c:Nat) (w:World) (hs:v6 w w.1.size A R) (hz:∀t∈R,t.size<=1100000):Calls prog 103 #[.slice A R.length c] w (akr (yi R) w):=by
 by_cases h:R=[]
 ·subst h;rw[show yi []=(aah,3)from if_pos dc];exact ant A 0 c w rfl rfl
 ·exact a11 A R c w (afw hs h c) hs hz
theorem a0r (A:Option Addr) (R:List ByteArray) (c:Nat) (w:World) (hs:v6 w w.1.size A R) (hz:∀t∈R,t.size<=1100000):Calls prog 104 #[.slice A R.length c] w (ako (jz R) w):=by
 by_cases h:R=[]
 ·subst h;rw[show jz []=(yk,3)from if_pos dc];exact ank A 0 c w rfl
 ·exact a0s A R c w (afw hs h c) hs hz
theorem a3q (A:Option Addr) (R:List ByteArray) (c:Nat) (w:World) (hs:v6 w w.1.size A R) (hn:R.length<=1100000) (hz:∀t∈R,t.size<=1100000):Calls prog 105 #[.slice A R.length c] w (aks (jj R) w):=by
 by_cases h:R=[]
 ·subst h;rw[show jj []=(afg,3)from if_pos dc];exact an2 A 0 c w rfl rfl
 ·exact a3r A R c w (afw hs h c) hs hn hz
theorem a0u (A:Option Addr) (R:List ByteArray) (c:Nat) (w:World) (hs:v6 w w.1.size A R) (hn:R.length<=1100000) (hz:∀t∈R,t.size<=1100000):Calls prog 106 #[.slice A R.length c] w (akp (zx R) w):=by
 by_cases h:R=[]
 ·subst h;rw[show zx []=(vv,3)from if_pos (.inl dc)];exact anl A 0 c w (.inl dc) om
 ·exact a0v A R c w (afw hs h c) hs hn hz
def l4v (N:List (Bool×Int)):V4:=(N.getD 0 (false,0),N.getD 1 (false,0),N.getD 2 (false,0),N.getD 3 (false,0))
theorem bdv {N:List (Bool×Int)} (h:N.length=4):a9m N=.agg (j5 (l4v N)).toArray:=by
 match N,h with
 | [a,b,c,d],_=>rfl
def afr (y:ByteArray) (fs:List ByteArray):NmD×Int:=
 if y=⟨#[71,71,65]⟩then(⟨1,ByteArray.empty,(yh fs).1,aah,yk,zV4,vv⟩,(yh fs).2)else if y=⟨#[82,77,67]⟩then(⟨2,ByteArray.empty,aag,(yi fs).1,yk,zV4,vv⟩,(yi fs).2)else if y=⟨#[71,83,65]⟩then(⟨3,ByteArray.empty,aag,aah,(jz fs).1,zV4,vv⟩,(jz fs).2)else if y=⟨#[86,84,71]⟩then(⟨4,ByteArray.empty,aag,aah,yk,l4v (jj fs).1,vv⟩,(jj fs).2)else if y=⟨#[71,83,86]⟩then(⟨5,ByteArray.empty,aag,aah,yk,zV4,(zx fs).1⟩,(zx fs).2)else(ar4,6)
def aen (t y:ByteArray) (fs:List ByteArray):NmD×Int:=if(afr y fs).2=0 then(aay t (afr y fs).1,0)else(ar4,(afr y fs).2)
theorem bh7 (w:World):(zeroValue 44).run prog w=.ok (.agg zz.toArray) w:=by kernel_rfl
theorem bia (w:World):(zeroValue 48).run prog w=.ok (.agg xd.toArray) w:=by kernel_rfl
theorem bh8 (w:World):(zeroValue 51).run prog w=.ok (.agg xx.toArray) w:=by kernel_rfl
theorem bib (w:World):(zeroValue 53).run prog w=.ok (.agg xi.toArray) w:=by kernel_rfl
theorem bh9 (w:World):(zeroValue 56).run prog w=.ok (.agg jc.toArray) w:=by kernel_rfl
def aja (k:Nat) (S:World->List Value->Prop) (E:Int) (w:World) (e:Ending) (w':World):Prop:=∃G:List Value,e=.returned (.tuple #[.agg G.toArray,.int .i64 E])/\G.length=k/\xk G/\S w' G/\Below w.1.size w w'
def ao8 (T:TypeId) (S:World->List Value->Prop) (E:Int) (w:World) (e:Ending) (w':World):Prop:=∃G:List Value,e=.returned (.tuple #[.iface T (.agg G.toArray),.int .i64 E])/\S w' G/\Below w.1.size w w'
theorem bf5 {t:ByteArray} {A:Option Addr} {n c:Nat} {S:World->List Value->Prop} {E:Int} {w:World} (hS:Q_ (∀w w' G,S w G->Below w.1.size w w'->S w' G)) (HP:∀W,Below w.1.size w W->Q_ (Calls prog 102 #[.slice A n c] W (aja 22 S E W))):Calls prog 83 #[.agg #[.string t,.string ⟨#[71,71,65]⟩,.slice A n c]] w (ao8 239 S E w):=by
 have HB0:=q_ (qa w (.cells #[.string t,.string ⟨#[71,71,65]⟩,.slice A n c] 150));go_enter func83,ntmps83;go_wp2_with fail;refine(HP _ HB0.o).o.mono ?_;rintro e W2 ⟨G,rfl,hl,ho,hs,hb⟩;have HL:=q_ hl;have HO:=q_ ho;have HBE:=q_ (qb HB0.o hb);have HSS:=q_ hs;have HLT:Q_ (w.1.size<=W2.1.size):=HBE.o.size;have HZ:Q_ ((prog.info? 44).map (·.size)=some G.length):=by rw[HL.o];exact aed
 clear hl ho hs hb HP HB0
 go_wp2_with (first
  | (refine qc rfl 44 rfl zz.toArray (bh7 _) ?_;intro W4 hW4;have HK:=q_ (Blk.newL (L:=zz) hW4 rfl);have HBE4:=q_ (qb HBE.o hW4.bel);have HS4:=q_ (hS.o _ _ _ HSS.o hW4.bel);have HB4:=q_ hW4.bel;clear hW4 HBE)
  | (refine qe rfl 44 _ _ rfl W2.1.size 0 G.toArray rfl rfl (HK.o.thereA HL.o) (by rw[o6];exact HZ.o) (xk.arr HO.o) ?_;intro W5 hW5;have HK5:Q_ (Blk W5 W2.1.size G):=HK.o.all hW5 HL.o;have HBE5:=q_ (HBE4.o.trans (hW5.below (by have:=HBE4.o.size;exact HLT.o)));have HS5:=q_ (hS.o _ _ _ HSS.o (HB4.o.trans (hW5.below (a8 _))));clear hW5 HK HBE4 HS4 HB4)
  | refine b0q rfl 44 _ rfl W2.1.size 0 rfl G _ HK5.o.rg underlying44 rfl HZ.o ?_
  | refine zf (u:=.agg G.toArray) rfl 239 0 _ rfl rfl (azd G HL.o _) ?_)
 go_ret2
 exact⟨G,rfl,HS5.o,HBE5.o⟩
theorem bf6 {t:ByteArray} {A:Option Addr} {n c:Nat} {S:World->List Value->Prop} {E:Int} {w:World} (hS:Q_ (∀w w' G,S w G->Below w.1.size w w'->S w' G)) (HP:∀W,Below w.1.size w W->Q_ (Calls prog 103 #[.slice A n c] W (aja 20 S E W))):Calls prog 83 #[.agg #[.string t,.string ⟨#[82,77,67]⟩,.slice A n c]] w (ao8 243 S E w):=by
 have HB0:=q_ (qa w (.cells #[.string t,.string ⟨#[82,77,67]⟩,.slice A n c] 150));go_enter func83,ntmps83;go_wp2_with fail;refine(HP _ HB0.o).o.mono ?_;rintro e W2 ⟨G,rfl,hl,ho,hs,hb⟩;have HL:=q_ hl;have HO:=q_ ho;have HBE:=q_ (qb HB0.o hb);have HSS:=q_ hs;have HLT:Q_ (w.1.size<=W2.1.size):=HBE.o.size;have HZ:Q_ ((prog.info? 48).map (·.size)=some G.length):=by rw[HL.o];exact aeg
 clear hl ho hs hb HP HB0
 go_wp2_with (first
  | (refine qc rfl 48 rfl xd.toArray (bia _) ?_;intro W4 hW4;have HK:=q_ (Blk.newL (L:=xd) hW4 rfl);have HBE4:=q_ (qb HBE.o hW4.bel);have HS4:=q_ (hS.o _ _ _ HSS.o hW4.bel);have HB4:=q_ hW4.bel;clear hW4 HBE)
  | (refine qe rfl 48 _ _ rfl W2.1.size 0 G.toArray rfl rfl (HK.o.thereA HL.o) (by rw[o6];exact HZ.o) (xk.arr HO.o) ?_;intro W5 hW5;have HK5:Q_ (Blk W5 W2.1.size G):=HK.o.all hW5 HL.o;have HBE5:=q_ (HBE4.o.trans (hW5.below (by have:=HBE4.o.size;exact HLT.o)));have HS5:=q_ (hS.o _ _ _ HSS.o (HB4.o.trans (hW5.below (a8 _))));clear hW5 HK HBE4 HS4 HB4)
  | refine b0q rfl 48 _ rfl W2.1.size 0 rfl G _ HK5.o.rg underlying48 rfl HZ.o ?_
  | refine zf (u:=.agg G.toArray) rfl 243 0 _ rfl rfl (azg G HL.o _) ?_)
 go_ret2
 exact⟨G,rfl,HS5.o,HBE5.o⟩
theorem bf7 {t:ByteArray} {A:Option Addr} {n c:Nat} {S:World->List Value->Prop} {E:Int} {w:World} (hS:Q_ (∀w w' G,S w G->Below w.1.size w w'->S w' G)) (HP:∀W,Below w.1.size w W->Q_ (Calls prog 104 #[.slice A n c] W (aja 9 S E W))):Calls prog 83 #[.agg #[.string t,.string ⟨#[71,83,65]⟩,.slice A n c]] w (ao8 247 S E w):=by
 have HB0:=q_ (qa w (.cells #[.string t,.string ⟨#[71,83,65]⟩,.slice A n c] 150));go_enter func83,ntmps83;go_wp2_with fail;refine(HP _ HB0.o).o.mono ?_;rintro e W2 ⟨G,rfl,hl,ho,hs,hb⟩;have HL:=q_ hl;have HO:=q_ ho;have HBE:=q_ (qb HB0.o hb);have HSS:=q_ hs;have HLT:Q_ (w.1.size<=W2.1.size):=HBE.o.size;have HZ:Q_ ((prog.info? 51).map (·.size)=some G.length):=by rw[HL.o];exact aee
 clear hl ho hs hb HP HB0
 go_wp2_with (first
  | (refine qc rfl 51 rfl xx.toArray (bh8 _) ?_;intro W4 hW4;have HK:=q_ (Blk.newL (L:=xx) hW4 rfl);have HBE4:=q_ (qb HBE.o hW4.bel);have HS4:=q_ (hS.o _ _ _ HSS.o hW4.bel);have HB4:=q_ hW4.bel;clear hW4 HBE)
  | (refine qe rfl 51 _ _ rfl W2.1.size 0 G.toArray rfl rfl (HK.o.thereA HL.o) (by rw[o6];exact HZ.o) (xk.arr HO.o) ?_;intro W5 hW5;have HK5:Q_ (Blk W5 W2.1.size G):=HK.o.all hW5 HL.o;have HBE5:=q_ (HBE4.o.trans (hW5.below (by have:=HBE4.o.size;exact HLT.o)));have HS5:=q_ (hS.o _ _ _ HSS.o (HB4.o.trans (hW5.below (a8 _))));clear hW5 HK HBE4 HS4 HB4)
  | refine b0q rfl 51 _ rfl W2.1.size 0 rfl G _ HK5.o.rg underlying51 rfl HZ.o ?_
  | refine zf (u:=.agg G.toArray) rfl 247 0 _ rfl rfl (aze G HL.o _) ?_)
 go_ret2
 exact⟨G,rfl,HS5.o,HBE5.o⟩
theorem bf8 {t:ByteArray} {A:Option Addr} {n c:Nat} {S:World->List Value->Prop} {E:Int} {w:World} (hS:Q_ (∀w w' G,S w G->Below w.1.size w w'->S w' G)) (HP:∀W,Below w.1.size w W->Q_ (Calls prog 105 #[.slice A n c] W (aja 8 S E W))):Calls prog 83 #[.agg #[.string t,.string ⟨#[86,84,71]⟩,.slice A n c]] w (ao8 251 S E w):=by
 have HB0:=q_ (qa w (.cells #[.string t,.string ⟨#[86,84,71]⟩,.slice A n c] 150));go_enter func83,ntmps83;go_wp2_with fail;refine(HP _ HB0.o).o.mono ?_;rintro e W2 ⟨G,rfl,hl,ho,hs,hb⟩;have HL:=q_ hl;have HO:=q_ ho;have HBE:=q_ (qb HB0.o hb);have HSS:=q_ hs;have HLT:Q_ (w.1.size<=W2.1.size):=HBE.o.size;have HZ:Q_ ((prog.info? 53).map (·.size)=some G.length):=by rw[HL.o];exact aeh
 clear hl ho hs hb HP HB0
 go_wp2_with (first
  | (refine qc rfl 53 rfl xi.toArray (bib _) ?_;intro W4 hW4;have HK:=q_ (Blk.newL (L:=xi) hW4 rfl);have HBE4:=q_ (qb HBE.o hW4.bel);have HS4:=q_ (hS.o _ _ _ HSS.o hW4.bel);have HB4:=q_ hW4.bel;clear hW4 HBE)
  | (refine qe rfl 53 _ _ rfl W2.1.size 0 G.toArray rfl rfl (HK.o.thereA HL.o) (by rw[o6];exact HZ.o) (xk.arr HO.o) ?_;intro W5 hW5;have HK5:Q_ (Blk W5 W2.1.size G):=HK.o.all hW5 HL.o;have HBE5:=q_ (HBE4.o.trans (hW5.below (by have:=HBE4.o.size;exact HLT.o)));have HS5:=q_ (hS.o _ _ _ HSS.o (HB4.o.trans (hW5.below (a8 _))));clear hW5 HK HBE4 HS4 HB4)
  | refine b0q rfl 53 _ rfl W2.1.size 0 rfl G _ HK5.o.rg underlying53 rfl HZ.o ?_
  | refine zf (u:=.agg G.toArray) rfl 251 0 _ rfl rfl (azh G HL.o _) ?_)
 go_ret2
 exact⟨G,rfl,HS5.o,HBE5.o⟩
theorem bf9 {t:ByteArray} {A:Option Addr} {n c:Nat} {S:World->List Value->Prop} {E:Int} {w:World} (hS:Q_ (∀w w' G,S w G->Below w.1.size w w'->S w' G)) (HP:∀W,Below w.1.size w W->Q_ (Calls prog 106 #[.slice A n c] W (aja 4 S E W))):Calls prog 83 #[.agg #[.string t,.string ⟨#[71,83,86]⟩,.slice A n c]] w (ao8 255 S E w):=by
 have HB0:=q_ (qa w (.cells #[.string t,.string ⟨#[71,83,86]⟩,.slice A n c] 150));go_enter func83,ntmps83;go_wp2_with fail;refine(HP _ HB0.o).o.mono ?_;rintro e W2 ⟨G,rfl,hl,ho,hs,hb⟩;have HL:=q_ hl;have HO:=q_ ho;have HBE:=q_ (qb HB0.o hb);have HSS:=q_ hs;have HLT:Q_ (w.1.size<=W2.1.size):=HBE.o.size;have HZ:Q_ ((prog.info? 56).map (·.size)=some G.length):=by rw[HL.o];exact aef
 clear hl ho hs hb HP HB0
 go_wp2_with (first
  | (refine qc rfl 56 rfl jc.toArray (bh9 _) ?_;intro W4 hW4;have HK:=q_ (Blk.newL (L:=jc) hW4 rfl);have HBE4:=q_ (qb HBE.o hW4.bel);have HS4:=q_ (hS.o _ _ _ HSS.o hW4.bel);have HB4:=q_ hW4.bel;clear hW4 HBE)
  | (refine qe rfl 56 _ _ rfl W2.1.size 0 G.toArray rfl rfl (HK.o.thereA HL.o) (by rw[o6];exact HZ.o) (xk.arr HO.o) ?_;intro W5 hW5;have HK5:Q_ (Blk W5 W2.1.size G):=HK.o.all hW5 HL.o;have HBE5:=q_ (HBE4.o.trans (hW5.below (by have:=HBE4.o.size;exact HLT.o)));have HS5:=q_ (hS.o _ _ _ HSS.o (HB4.o.trans (hW5.below (a8 _))));clear hW5 HK HBE4 HS4 HB4)
  | refine b0q rfl 56 _ rfl W2.1.size 0 rfl G _ HK5.o.rg underlying56 rfl HZ.o ?_
  | refine zf (u:=.agg G.toArray) rfl 255 0 _ rfl rfl (azf G HL.o _) ?_)
 go_ret2
 exact⟨G,rfl,HS5.o,HBE5.o⟩
theorem bbr {t y:ByteArray} {A:Option Addr} {n c:Nat} {w:World} (h1:(y.toList==[71,71,65])=false) (h2:(y.toList==[82,77,67])=false) (h3:(y.toList==[71,83,65])=false) (h4:(y.toList==[86,84,71])=false) (h5:(y.toList==[71,83,86])=false):Calls prog 83 #[.agg #[.string t,.string y,.slice A n c]] w λe w'=>e=.returned (.tuple #[.nilIface,.int .i64 6])/\Below w.1.size w w':=by
 have HB0:=q_ (qa w (.cells #[.string t,.string y,.slice A n c] 150));go_enter func83,ntmps83;go_wp2_with fail
 go_ret2
 exact⟨rfl,HB0.o⟩
theorem a73 (t:ByteArray) (a b c:UInt8):(t.toList==[a,b,c])=decide (t=⟨#[a,b,c]⟩):=by
 have l:(⟨#[a,b,c]⟩:ByteArray).toList=[a,b,c]:=by rw[b07]
 rw[<- afj,l]
theorem ah6 {t:ByteArray} {a b c:UInt8} (h:t ≠⟨#[a,b,c]⟩):(t.toList==[a,b,c])=false:=by rw[a73];exact o7 h
def SI (l:List Int) (f:Value->List Value) (w:World) (G:List Value):Prop:=∃x,G=f x/\SlI 0 w x l
def SV (l:List V4) (f:Value->List Value) (w:World) (G:List Value):Prop:=∃x,G=f x/\SlV 0 w x l
theorem SI.on {l:List Int} {f:Value->List Value} {w w':World} {G:List Value} (h:SI l f w G) (hb:Below w.1.size w w'):SI l f w' G:=by
 obtain⟨x,h1,h2⟩:=h;exact⟨x,h1,h2.on hb⟩
theorem SV.on {l:List V4} {f:Value->List Value} {w w':World} {G:List Value} (h:SV l f w G) (hb:Below w.1.size w w'):SV l f w' G:=by
 obtain⟨x,h1,h2⟩:=h;exact⟨x,h1,h2.on hb⟩
theorem a0j {fs:List ByteArray} {w:World} {e:Ending} {w':World} (h:akn (yh fs) w e w'):aja 22 (λ_ G=>G=gL (yh fs).1) (yh fs).2 w e w':=
 ⟨_,h.1,rfl,aow _,rfl,h.2⟩
theorem a1z {fs:List ByteArray} {w:World} {e:Ending} {w':World} (h:akr (yi fs) w e w'):aja 20 (λ_ G=>G=rL (yi fs).1) (yi fs).2 w e w':=
 ⟨_,h.1,rfl,aox _,rfl,h.2⟩
theorem a0q {fs:List ByteArray} {w:World} {e:Ending} {w':World} (h:ako (jz fs) w e w'):aja 9 (SI (jz fs).1.ids (sL (jz fs).1)) (jz fs).2 w e w':=by
 obtain⟨A,n,c,h1,rfl,h3,h4⟩:=h;exact⟨_,h1,rfl,axc _ (y:=.slice A (jz fs).1.ids.length c) rfl,⟨_,rfl,A,c,rfl,bik h3⟩,h4⟩
theorem a3p {fs:List ByteArray} {w:World} {e:Ending} {w':World} (h:aks (jj fs) w e w'):aja 8 (λ_ G=>G=j5 (l4v (jj fs).1)) (jj fs).2 w e w':=
 ⟨_,by rw[h.1,bdv (a25 fs)],rfl,ao0 _,rfl,h.2⟩
theorem a0t {fs:List ByteArray} {w:World} {e:Ending} {w':World} (h:akp (zx fs) w e w'):aja 4 (SV (zx fs).1.L (uL (zx fs).1)) (zx fs).2 w e w':=by
 obtain⟨A,c,h1,h3,h4⟩:=h;exact⟨_,h1,rfl,ayb _ (y:=.slice A (zx fs).1.L.length c) rfl,⟨_,rfl,A,c,rfl,bl7 h3⟩,h4⟩
theorem bnc (fs:List ByteArray):afr ⟨#[71,71,65]⟩ fs=(⟨1,ByteArray.empty,(yh fs).1,aah,yk,zV4,vv⟩,(yh fs).2):=by
 unfold afr;rw[if_pos rfl]
theorem bnd (fs:List ByteArray):afr ⟨#[82,77,67]⟩ fs=(⟨2,ByteArray.empty,aag,(yi fs).1,yk,zV4,vv⟩,(yi fs).2):=by
 unfold afr;rw[if_neg dc];rw[if_pos rfl]
theorem bne (fs:List ByteArray):afr ⟨#[71,83,65]⟩ fs=(⟨3,ByteArray.empty,aag,aah,(jz fs).1,zV4,vv⟩,(jz fs).2):=by
 unfold afr;rw[if_neg dc];rw[if_neg dc];rw[if_pos rfl]
theorem bnf (fs:List ByteArray):afr ⟨#[86,84,71]⟩ fs=(⟨4,ByteArray.empty,aag,aah,yk,l4v (jj fs).1,vv⟩,(jj fs).2):=by
 unfold afr;rw[if_neg dc];rw[if_neg dc];rw[if_neg dc];rw[if_pos rfl]
theorem bng (fs:List ByteArray):afr ⟨#[71,83,86]⟩ fs=(⟨5,ByteArray.empty,aag,aah,yk,zV4,(zx fs).1⟩,(zx fs).2):=by
 unfold afr;rw[if_neg dc];rw[if_neg dc];rw[if_neg dc];rw[if_neg dc];rw[if_pos rfl]
theorem bkh {y:ByteArray} (fs:List ByteArray) (h1:y ≠⟨#[71,71,65]⟩) (h2:y ≠⟨#[82,77,67]⟩) (h3:y ≠⟨#[71,83,65]⟩) (h4:y ≠⟨#[86,84,71]⟩) (h5:y ≠⟨#[71,83,86]⟩):afr y fs=(ar4,6):=by
 unfold afr;rw[if_neg h1,if_neg h2,if_neg h3,if_neg h4,if_neg h5]
def a8y (x:NmD×Int) (w:World) (e:Ending) (w':World):Prop:=∃v,e=.returned (.tuple #[v,.int .i64 x.2])/\bkx 0 w' v x.1/\Below w.1.size w w'
theorem a57 {t y:ByteArray} {fs:List ByteArray} {A:Option Addr} {c:Nat} {w:World} (hs:v6 w w.1.size A fs) (hn:fs.length<=1100000) (hz:∀f∈fs,f.size<=1100000) :
 Calls prog 83 #[.agg #[.string t,.string y,.slice A fs.length c]] w (a8y (afr y fs) w):=by
 have hst:∀W,Below w.1.size w W->v6 W W.1.size A fs:=λW hb=>(hs.below hb (a8 _)).more hb.size
 by_cases h1:y=⟨#[71,71,65]⟩
 ·subst h1;rw[bnc];refine(bf5 (S:=(λ_ G=>G=gL (yh fs).1)) (E:=(yh fs).2) (λ_ _ _ h _=>h) (λW hb=>(a0k A fs c W (hst W hb) hz).mono λ_ _ h=>a0j h)).mono ?_;rintro e w' ⟨G,rfl,hs,hb⟩;exact⟨_,rfl,.inl ⟨rfl,by rw[hs]⟩,hb⟩
 by_cases h2:y=⟨#[82,77,67]⟩
 ·subst h2;rw[bnd];refine(bf6 (S:=(λ_ G=>G=rL (yi fs).1)) (E:=(yi fs).2) (λ_ _ _ h _=>h) (λW hb=>(a10 A fs c W (hst W hb) hz).mono λ_ _ h=>a1z h)).mono ?_;rintro e w' ⟨G,rfl,hs,hb⟩;exact⟨_,rfl,.inr (.inl ⟨rfl,by rw[hs]⟩),hb⟩
 by_cases h3:y=⟨#[71,83,65]⟩
 ·subst h3;rw[bne];refine(bf7 (S:=(SI (jz fs).1.ids (sL (jz fs).1))) (E:=(jz fs).2) (λ_ _ _ h hb=>h.on hb) (λW hb=>(a0r A fs c W (hst W hb) hz).mono λ_ _ h=>a0q h)).mono ?_;rintro e w' ⟨G,rfl,hs,hb⟩;obtain⟨x,rfl,hx⟩:=hs;exact⟨_,rfl,.inr (.inr (.inl ⟨rfl,x,rfl,hx⟩)),hb⟩
 by_cases h4:y=⟨#[86,84,71]⟩
 ·subst h4;rw[bnf];refine(bf8 (S:=(λ_ G=>G=j5 (l4v (jj fs).1))) (E:=(jj fs).2) (λ_ _ _ h _=>h) (λW hb=>(a3q A fs c W (hst W hb) hn hz).mono λ_ _ h=>a3p h)).mono ?_;rintro e w' ⟨G,rfl,hs,hb⟩;exact⟨_,rfl,.inr (.inr (.inr (.inl ⟨rfl,by rw[hs]⟩))),hb⟩
 by_cases h5:y=⟨#[71,83,86]⟩
 ·subst h5;rw[bng];refine(bf9 (S:=(SV (zx fs).1.L (uL (zx fs).1))) (E:=(zx fs).2) (λ_ _ _ h hb=>h.on hb) (λW hb=>(a0u A fs c W (hst W hb) hn hz).mono λ_ _ h=>a0t h)).mono ?_;rintro e w' ⟨G,rfl,hs,hb⟩;obtain⟨x,rfl,hx⟩:=hs;exact⟨_,rfl,.inr (.inr (.inr (.inr (.inl ⟨rfl,x,rfl,hx⟩)))),hb⟩
 rw[bkh fs h1 h2 h3 h4 h5];refine(bbr (ah6 h1) (ah6 h2) (ah6 h3) (ah6 h4) (ah6 h5)).mono ?_;rintro e w' ⟨rfl,hb⟩;exact⟨_,rfl,.inr (.inr (.inr (.inr (.inr ⟨by decide,rfl⟩)))),hb⟩
theorem aqz (y:ByteArray) (fs:List ByteArray):(afr y fs).1.s.ids.length<=1100000 /\(afr y fs).1.u.L.length<=1100000:=by
 have h1:=a23 fs;have h2:=a24 fs;have e1:yk.ids.length<=1100000:=by decide
 have e2:vv.L.length<=1100000:=by decide
 unfold afr
 split
 ·exact⟨e1,e2⟩
 split
 ·exact⟨e1,e2⟩
 split
 ·exact⟨p9 h1 om,e2⟩
 split
 ·exact⟨e1,e2⟩
 split
 ·exact⟨e1,p9 h2 om⟩
 ·exact⟨e1,e2⟩
def bkv (x:NmD×Int) (w:World) (e:Ending) (w':World):Prop:=∃C,e=.returned (.tuple #[.agg C,.int .i64 x.2])/\NmV w.1.size w' C x.1/\Below w.1.size w w'
theorem aan {lo:Nat} {w:World} {C:Array Value} {m:NmD} (h:NmV lo w C m):(prog.info? 58).map (·.size)=some C.size:=by rw[h.len];exact a9b
theorem adw {w w':World} {b:Nat} {k:Int} {t:ByteArray} {G R S V U:List Value} {lo:Nat} {C:Array Value} {m:NmD} (h:Blk w b (nmL k t G R S V U)) (hl:aca G R S V U) (hC:NmV lo w' C m):w.there b 0 C.size:=by rw[hC.len];exact h.nm65 hl
theorem ain {lo:Nat} {w:World} {C:Array Value} {m:NmD} (h:NmV lo w C m):C.toList.length=(nmL 0 ByteArray.empty zz xd xx xi jc).length:=by rw[b0h,h.len,abf qs]
theorem a58 {t y:ByteArray} {fs:List ByteArray} {A:Option Addr} {c:Nat} {w:World} (hs:v6 w w.1.size A fs) (hn:fs.length<=1100000) (hz:∀f∈fs,f.size<=1100000) :
 Calls prog 63 #[.agg #[.string t,.string y,.slice A fs.length c]] w (bkv (aen t y fs) w):=by
 obtain⟨⟨m,E⟩,hmE⟩:∃x,afr y fs=x:=⟨_,rfl⟩;obtain⟨n,hfn⟩:∃n,fs.length=n:=⟨_,rfl⟩;have HID:Q_ (m.s.ids.length<=1100000/\m.u.L.length<=1100000):=by have:=aqz y fs;rw[hmE]at this;exact this
 have HR:∀W,Below w.1.size w W->Q_ (Calls prog 83 #[.agg #[.string t,.string y,.slice A n c]] W (a8y (m,E) W)):=λW hb=>by
  have:=a57 (t:=t) (y:=y) (c:=c) ((hs.below hb (a8 _)).more hb.size) hn hz;rw[hmE,hfn]at this;exact this
 have HT:Q_ (aen t y fs=if E=0 then(aay t m,0)else(ar4,E)):=by unfold aen;rw[hmE];exact rfl
 rw[hfn];clear hs hn hz hmE hfn;go_enter func63,ntmps63
 go_wp2_with (first
  | (refine qr rfl _ _ rfl #[.string t,.string y,.slice A n c] rfl ?_;intro W0 hW0;have HS0:=q_ (Blk.newL (L:=[.string t,.string y,.slice A n c]) hW0 rfl);have HBE0:=q_ hW0.bel;have HZ0:=q_ hW0.sz;clear hW0)
  | (refine qc rfl 58 rfl zNm (ac1 _) ?_;intro W1 hW1;have HR1:=q_ (Blk.newL (L:=nmL 0 ByteArray.empty zz xd xx xi jc) hW1 rfl);have HBE1:=q_ (qb HBE0.o hW1.bel);have HS1:=q_ (HS0.o.grew hW1);have HZ1:=q_ hW1.sz;clear hW1 HBE0 HS0)
  | refine b0q rfl 150 _ rfl w.1.size 0 rfl [.string t,.string y,.slice A n c] _ HS1.o.rg underlying150 rfl ali ?_)
 refine(HR _ HBE1.o).o.mono ?_;rintro e W2 ⟨v,rfl,hp,hb⟩;have HP:=q_ hp;have HR2:=q_ (HR1.o.on hb);have HS2:=q_ (HS1.o.on hb);have HBE2:=q_ (qb HBE1.o hb);have HZ2:Q_ (W0.1.size<W2.1.size):=HR2.o.lt;have HBE2l:Q_ (w.1.size<=W2.1.size):=HBE2.o.size;have c0:=HS2.o.cell 0 rfl;clear hp hb HR1 HS1 HBE1 HR;dsimp only
 by_cases h0:E=0
 ·subst h0;have HX:Q_ (aen t y fs=(aay t m,0)):=HT.o.trans (if_pos rfl);clear HT;go_wp2_with fail;refine(a59 (t:=t) HP.o HID.o.1 HID.o.2).mono ?_;rintro e W4 ⟨D,rfl,hd,hb⟩;have HD:=q_ hd;have HR4:=q_ (HR2.o.on hb);have HBE4:=q_ (qb HBE2.o hb);clear hd hb HR2 HS2 HBE2 HP c0
  go_wp2_with (first
   | (refine qc rfl 58 rfl zNm (ac1 _) ?_;intro W5 hW5;have HA:=q_ (Blk.newL (L:=nmL 0 ByteArray.empty zz xd xx xi jc) hW5 rfl);have HR5:=q_ (HR4.o.grew hW5);have HBE5:=q_ (qb HBE4.o hW5.bel);have HD5:=q_ (HD.o.on hW5.bel);have HL5:=q_ hW5.bel;have HW4:Q_ (W0.1.size<W4.1.size):=HR4.o.lt;clear hW5 HR4)
   | (refine qe rfl 58 _ _ rfl W4.1.size 0 D rfl rfl (adw HA.o qs HD.o) (aan HD.o) HD.o.ones ?_;intro W6 hW6;have HM6:Q_ (Blk W6 W4.1.size D.toList):=HA.o.all hW6 (ain HD.o);have HR6:=q_ (HR5.o.far hW6 (by have:=HW4.o;omega));have HL6:=q_ (HL5.o.trans (hW6.below (a8 _)));have HBE6:=q_ (HBE5.o.trans (hW6.below (by have:=HBE4.o.size;omega)));clear hW6 HR5 HBE5 HA)
   | refine b0q rfl 58 _ rfl W4.1.size 0 rfl D.toList _ HM6.o.rg underlying58 rfl (by rw[b0h];exact aan HD.o) ?_
   | (refine qe rfl 58 _ _ rfl W0.1.size 0 D rfl rfl (adw HR6.o qs HD.o) (aan HD.o) HD.o.ones ?_;intro W7 hW7;have HM7:Q_ (Blk W7 W0.1.size D.toList):=HR6.o.all hW7 (ain HD.o);have HBE7:=q_ (HBE6.o.trans (hW7.below (by have:=HZ0.o;omega)));have HD7:=q_ ((HD.o.on HL6.o).far hW7 HZ2.o);clear hW7 HR6 HBE6))
  have HLD:=q_ (t9 (P:=prog) _ W0.1.size 0 58 _ _ HM7.o.rg underlying58 rfl (by rw[b0h];exact aan HD.o));refine b9 (v:=.tuple #[.agg D,.int .i64 0]) (by rw[b1p rfl];simp[asAddr,Result.andThen,HLD.o]) rfl ?_;rw[HX.o];exact⟨D,rfl,HD7.o.less (by have:=HBE2l.o;omega),HBE7.o⟩
 ·have HX:Q_ (aen t y fs=(ar4,E)):=HT.o.trans (if_neg h0);have hne:(E != 0)=true:=by rw[b0r];exact h0
  clear HT
  go_wp2_with (first
   | refine zo rfl 58 rfl (ato _) ?_
   | (refine qe rfl 58 _ _ rfl W0.1.size 0 zNm rfl rfl (adw HR2.o qs (NmV.zero 0 w)) (aan (NmV.zero 0 w)) (NmV.zero 0 w).ones ?_;intro W7 hW7;have HM7:Q_ (Blk W7 W0.1.size zNm.toList):=HR2.o.all hW7 (ain (NmV.zero 0 w));have HBE7:=q_ (HBE2.o.trans (hW7.below (by have:=HZ0.o;omega)));clear hW7 HR2 HBE2))
  have HLD:=q_ (t9 (P:=prog) _ W0.1.size 0 58 _ _ HM7.o.rg underlying58 rfl (by rw[b0h];exact aan (NmV.zero 0 w)));refine b9 (v:=.tuple #[.agg zNm,.int .i64 E]) (by rw[b1p rfl];simp[asAddr,Result.andThen,HLD.o]) rfl ?_;rw[HX.o];exact⟨zNm,rfl,NmV.zero _ _,HBE7.o⟩
