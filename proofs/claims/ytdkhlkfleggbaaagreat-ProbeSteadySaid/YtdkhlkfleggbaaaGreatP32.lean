/- Layer 27: the reference's Take. Printed by gengsar.py. -/
import Derived.Test.YtdkhlkfleggbaaaGreatP28
import Derived.Test.YtdkhlkfleggbaaaGreatP31
import Derived.Test.YtdkhlkfleggbaaaGreatP34
import Derived.Test.YtdkhlkfleggbaaaGreatP36
import Derived.Test.YtdkhlkfleggbaaaGreatP20
import Derived.Test.YtdkhlkfleggbaaaGreatP30
import Derived.Test.YtdkhlkfleggbaaaGreatP39
import Derived.Test.YtdkhlkfleggbaaaGreatP41
namespace Go.Proofs.YtdkhlkfleggbaaaGreat
set_option maxHeartbeats 8000000
set_option maxRecDepth 8000
open Lib (hid)
set_option linter.unusedVariables false
open Go.RowKit
theorem as1 (A B:Option Addr) (n c d:Nat) (L:List Int) (w:World) (hn:Hid (L.length=n)) (hA:Hid (af1 w w.heap.size A L)) (hB:Hid (af1 w w.heap.size B L)) (h0:n≤1000000) :
 Calls Tryz.prog 51 #[.slice A n c,.slice B n d] w fun e w'=>e=.returned (.bool true)∧Below w.heap.size w w':=by
 have hb:((n:Int) != (n:Int))=false:=by rw[bne_eq_false_iff_eq]
 go_enter Tryz.func51,Tryz.ntmps51
 go_wp2
 go_loopw [5] (fun i wr=>∃k nq:Nat,k≤n∧i=.int .i64 k∧wr=w.drewN nq) (fun i _=>n-(intOf i).toNat)
 case atStart=>exact⟨0,0,Nat.zero_le _,rfl,rfl⟩
 case round=>
  obtain⟨k,nq,hk,rfl,rfl⟩:=hrel
  by_cases hlt:k<n
  ·have hkl:k<L.length:=by rw[hn.out];exact hlt
   obtain⟨b1,o1,hA1,hb1,hc1⟩:=hA.out k hkl
   obtain⟨b2,o2,hA2,hb2,hc2⟩:=hB.out k hkl
   subst hA1 hA2
   generalize L[k]=v at *
   have hv:(v != v)=false:=by rw[bne_eq_false_iff_eq]
   have i1:(0:Int) ≤(k:Int):=Int.natCast_nonneg _
   have i2:(k:Int)<(n:Int):=by omega
   clear hkl
   go_wp2_with fail
   go_quiet (fail)
   go_wp2_with fail
   go_roundw
   case rel=>exact⟨k+1,_,by omega,by go_num,rfl⟩
   case measure=>simp[intOf];omega
  ·go_wp2_with fail
   go_ret
   exact⟨by rfl,v4 (Below.refl _ _) _⟩
theorem atm (a:Bool) (f:Int) (b0:Bool) (n0:Int) (b1:Bool) (n1:Int) (b2:Bool) (n2:Int) (A B:Option Addr) (n c d:Nat) (L:List Int) (w:World) (hn:Hid (L.length=n)) (hA:Hid (af1 w w.heap.size A L)) (hB:Hid (af1 w w.heap.size B L)) (h0:n≤1000000) :
 Calls Tryz.prog 49 #[a6f a f A n c b0 n0 b1 n1 b2 n2,a6f a f B n d b0 n0 b1 n1 b2 n2] w fun e w'=>e=.returned (.bool true)∧Below w.heap.size w w':=by
 have hbb:Below w.heap.size w ((w.alloc (.cells (j5 a f A n c b0 n0 b1 n1 b2 n2) 51)).alloc (.cells (j5 a f B n d b0 n0 b1 n1 b2 n2) 51)):=qb (qa _ _) (qa _ _)
 have HV:Hid (Calls Tryz.prog 51 #[.slice A n c,.slice B n d] ((w.alloc (.cells (j5 a f A n c b0 n0 b1 n1 b2 n2) 51)).alloc (.cells (j5 a f B n d b0 n0 b1 n1 b2 n2) 51)) fun e w'=>e=.returned (.bool true)∧Below ((w.alloc (.cells (j5 a f A n c b0 n0 b1 n1 b2 n2) 51)).alloc (.cells (j5 a f B n d b0 n0 b1 n1 b2 n2) 51)).heap.size ((w.alloc (.cells (j5 a f A n c b0 n0 b1 n1 b2 n2) 51)).alloc (.cells (j5 a f B n d b0 n0 b1 n1 b2 n2) 51)) w'):=
  as1 A B n c d L _ hn ((hA.out.below hbb (Nat.le_refl _)).more hbb.size) ((hB.out.below hbb (Nat.le_refl _)).more hbb.size) h0
 have HB:=hid hbb
 have HC1:Hid (∀o,((w.alloc (.cells (j5 a f A n c b0 n0 b1 n1 b2 n2) 51)).alloc (.cells (j5 a f B n d b0 n0 b1 n1 b2 n2) 51)).cell? ⟨w.heap.size,o,none⟩=(j5 a f A n c b0 n0 b1 n1 b2 n2)[o]?):=fun o=>(World.cell?_alloc_past _ _ _ (by simp)).trans (World.cell?_alloc_at _ _ _ _ rfl)
 have HC2:Hid (∀o,((w.alloc (.cells (j5 a f A n c b0 n0 b1 n1 b2 n2) 51)).alloc (.cells (j5 a f B n d b0 n0 b1 n1 b2 n2) 51)).cell? ⟨w.heap.size+1,o,none⟩=(j5 a f B n d b0 n0 b1 n1 b2 n2)[o]?):=fun o=>World.cell?_alloc_at _ _ _ _ (by simp)
 have HZ:Hid (((w.alloc (.cells (j5 a f A n c b0 n0 b1 n1 b2 n2) 51)).alloc (.cells (j5 a f B n d b0 n0 b1 n1 b2 n2) 51)).heap.size=w.heap.size+2):=by show _=_;simp
 have hv:(f==f)=true:=by simp
 have hv0:(n0==n0)=true:=by simp
 have hv1:(n1==n1)=true:=by simp
 have hv2:(n2==n2)=true:=by simp
 clear hA hB hbb
 go_enter Tryz.func49,Tryz.ntmps49
 go_wp2_with fail
 refine HV.out.mono ?_
 rintro r w1 ⟨rfl,hb1⟩
 have hz:=HZ.out
 have HC1':Hid (∀o,w1.cell? ⟨w.heap.size,o,none⟩=(j5 a f A n c b0 n0 b1 n1 b2 n2)[o]?):=fun o=>((qv hb1).1 _ o (by omega)).trans (HC1.out o)
 have HC2':Hid (∀o,w1.cell? ⟨w.heap.size+1,o,none⟩=(j5 a f B n d b0 n0 b1 n1 b2 n2)[o]?):=fun o=>((qv hb1).1 _ o (by omega)).trans (HC2.out o)
 have HB1:=hid (qb HB.out hb1)
 clear hz hb1 HC1 HC2 HB HV HZ
 have x3:=HC1'.out 3
 have y3:=HC2'.out 3
 have x4:=HC1'.out 4
 have y4:=HC2'.out 4
 have x5:=HC1'.out 5
 have y5:=HC2'.out 5
 have x6:=HC1'.out 6
 have y6:=HC2'.out 6
 have x7:=HC1'.out 7
 have y7:=HC2'.out 7
 have x8:=HC1'.out 8
 have y8:=HC2'.out 8
 go_wp2_with fail
 go_ret
 exact⟨by first|rfl|simp,HB1.out⟩
theorem ay9 (A:Option Addr) (R:List ByteArray) (c:Nat) (w:World) (hA:A=none→c=0) (hs:vf w w.heap.size A R) (hz:∀t∈R,t.size≤1000000):Calls Tryz.prog 104 #[.slice A R.length c] w (ajc (jk R) w):=by
 by_cases h:R.length=17
 ·exact a0g A R.length c R w rfl hA hs hz h
 ·have:jk R=(kz,3):=by unfold jk;rw[if_pos h]
  rw[this]
  exact alk A R.length c w (by rw[bne_iff_ne];omega)
theorem azq (R:List ByteArray):(jk R).1.ids.length≤12:=by
 unfold jk
 split
 ·exact Nat.zero_le _
 ·split
  ·exact arn 12 _
  ·exact Nat.zero_le _
section
variable {P : Program} {ops : Array Oper} {rest : List Oper} {o : Oper} {a : Act} {w : World} {Q : Exit → Act → World → Prop}
end
theorem bgc (x:att) (w:World):(binOp .eql 44 (.agg (gL x).toArray) (.agg (gL x).toArray)).run Tryz.prog w=.ok (.bool true) w:=by
 unfold gL
 simp[go_sem]
theorem bfz (x:aus) (w:World):(binOp .eql 48 (.agg (rL x).toArray) (.agg (rL x).toArray)).run Tryz.prog w=.ok (.bool true) w:=by
 unfold rL
 simp[go_sem]
theorem bgp (x:V4) (w:World):(binOp .eql 53 (.agg (jj x).toArray) (.agg (jj x).toArray)).run Tryz.prog w=.ok (.bool true) w:=by
 unfold jj
 simp[go_sem]
theorem Blk.nm {w:World} {b:Nat} {k:Int} {t:ByteArray} {G R S V U:List Value} (h:Blk w b (nmL k t G R S V U)) (hl:abf G R S V U):bhg w b k t G R S V U:=(baa hl).1 h.rg
theorem a31 {m:NmD} {A B A' B':Option Addr} {n c c' p d d':Nat} {w:World}
 (HS:∀W,Below w.heap.size w W→Hid (Calls Tryz.prog 49 #[.agg (sL m.s (.slice A n c)).toArray,.agg (sL m.s (.slice A' n c')).toArray] W fun e w'=>e=.returned (.bool true)∧Below W.heap.size W w'))
 (HV:∀W,Below w.heap.size w W→Hid (Calls Tryz.prog 50 #[.agg (uL m.u (.slice B p d)).toArray,.agg (uL m.u (.slice B' p d')).toArray] W fun e w'=>e=.returned (.bool true)∧Below W.heap.size W w')) :
 Calls Tryz.prog 28 #[.agg (nmC m (.slice A n c) (.slice B p d)).toArray,.agg (nmC m (.slice A' n c') (.slice B' p d')).toArray] w fun e w'=>e=.returned (.bool true)∧Below w.heap.size w w':=by
 have EG:∀W:World,(binOp .eql 44 (.agg (gL m.g).toArray) (.agg (gL m.g).toArray)).run Tryz.prog W=.ok (.bool true) W:=fun W=>bgc m.g W
 have ER:∀W:World,(binOp .eql 48 (.agg (rL m.r).toArray) (.agg (rL m.r).toArray)).run Tryz.prog W=.ok (.bool true) W:=fun W=>bfz m.r W
 have EV:∀W:World,(binOp .eql 53 (.agg (jj m.v).toArray) (.agg (jj m.v).toArray)).run Tryz.prog W=.ok (.bool true) W:=fun W=>bgp m.v W
 go_enter Tryz.func28,Tryz.ntmps28
 go_upto_region 1 with(first
  | (refine qr rfl _ _ rfl (nmC m (.slice A n c) (.slice B p d)).toArray rfl ?_;intro W1 hW1;have H1:Hid (Blk W1 w.heap.size (nmC m (.slice A n c) (.slice B p d))):=Blk.new hW1;have HB1:=hid hW1.bel;clear hW1)
  | (refine qr rfl _ _ rfl (nmC m (.slice A' n c') (.slice B' p d')).toArray rfl ?_;intro W2 hW2;have H2:Hid (Blk W2 W1.heap.size (nmC m (.slice A' n c') (.slice B' p d'))):=Blk.new hW2;have H12:=hid (H1.out.grew hW2);have HB2:=hid (qb HB1.out hW2.bel);clear hW2 H1 HB1))
 have a0:=H12.out.cell 0 rfl
 have a1:=H12.out.cell 1 rfl
 have c0:=H2.out.cell 0 rfl
 have c1:=H2.out.cell 1 rfl
 try (apply wp_seq_k;intro K_ HK_)
 apply wp_region_lit
 repeat (fail_if_success (show Oper.wp _ ⟨some 19,_,_,_,_,_⟩ _ _ _ _)
         first|go_values|go_skip|go_guarded|go_step|go_upon)
 refine wp_load_mid _ _ rfl w.heap.size 2 rfl (gL m.g) _ (H12.out.nm (ado m _ _)).g Tryz.underlying44 rfl adp ?_
 repeat (fail_if_success (show Oper.wp _ ⟨some 21,_,_,_,_,_⟩ _ _ _ _)
         first|go_values|go_skip|go_guarded|go_step|go_upon)
 refine wp_load_mid _ _ rfl W1.heap.size 2 rfl (gL m.g) _ (H2.out.nm (ado m _ _)).g Tryz.underlying44 rfl adp ?_
 repeat (fail_if_success (show Oper.wp _ ⟨some 26,_,_,_,_,_⟩ _ _ _ _)
         first|go_values|go_skip|go_guarded|go_step|go_upon)
 refine wp_load_mid _ _ rfl w.heap.size 24 rfl (rL m.r) _ (H12.out.nm (ado m _ _)).r Tryz.underlying48 rfl ac8 ?_
 repeat (fail_if_success (show Oper.wp _ ⟨some 28,_,_,_,_,_⟩ _ _ _ _)
         first|go_values|go_skip|go_guarded|go_step|go_upon)
 refine wp_load_mid _ _ rfl W1.heap.size 24 rfl (rL m.r) _ (H2.out.nm (ado m _ _)).r Tryz.underlying48 rfl ac8 ?_
 clear a0 a1 c0 c1
 repeat (fail_if_success (show Oper.wp _ ⟨some 33,_,_,_,_,_⟩ _ _ _ _)
         first|go_values|go_skip|go_guarded|go_step|go_upon)
 refine wp_load_mid _ _ rfl w.heap.size 44 rfl (sL m.s (.slice A n c)) _ (H12.out.nm (ado m _ _)).s Tryz.underlying51 rfl adb ?_
 repeat (fail_if_success (show Oper.wp _ ⟨some 35,_,_,_,_,_⟩ _ _ _ _)
         first|go_values|go_skip|go_guarded|go_step|go_upon)
 refine wp_load_mid _ _ rfl W1.heap.size 44 rfl (sL m.s (.slice A' n c')) _ (H2.out.nm (ado m _ _)).s Tryz.underlying51 rfl adb ?_
 repeat (fail_if_success (show Calls _ _ _ _ _)
         first|go_values|go_skip|go_guarded|go_step|go_upon)
 refine(HS _ HB2.out).out.mono ?_
 rintro e W3 ⟨rfl,hb⟩
 have H13:=hid (H12.out.on hb)
 have H3:=hid (H2.out.on hb)
 have HB3:=hid (qb HB2.out hb)
 clear hb H12 H2 HB2 HS
 dsimp only
 repeat (fail_if_success (show Oper.wp _ ⟨some 40,_,_,_,_,_⟩ _ _ _ _)
         first|go_values|go_skip|go_guarded|go_step|go_upon)
 refine wp_load_mid _ _ rfl w.heap.size 53 rfl (jj m.v) _ (H13.out.nm (ado m _ _)).v Tryz.underlying53 rfl ac6 ?_
 repeat (fail_if_success (show Oper.wp _ ⟨some 42,_,_,_,_,_⟩ _ _ _ _)
         first|go_values|go_skip|go_guarded|go_step|go_upon)
 refine wp_load_mid _ _ rfl W1.heap.size 53 rfl (jj m.v) _ (H3.out.nm (ado m _ _)).v Tryz.underlying53 rfl ac6 ?_
 repeat (fail_if_success (show Oper.wp _ ⟨some 47,_,_,_,_,_⟩ _ _ _ _)
         first|go_values|go_skip|go_guarded|go_step|go_upon)
 refine wp_load_mid _ _ rfl w.heap.size 61 rfl (uL m.u (.slice B p d)) _ (H13.out.nm (ado m _ _)).u Tryz.underlying56 rfl ac5 ?_
 repeat (fail_if_success (show Oper.wp _ ⟨some 49,_,_,_,_,_⟩ _ _ _ _)
         first|go_values|go_skip|go_guarded|go_step|go_upon)
 refine wp_load_mid _ _ rfl W1.heap.size 61 rfl (uL m.u (.slice B' p d')) _ (H3.out.nm (ado m _ _)).u Tryz.underlying56 rfl ac5 ?_
 repeat (fail_if_success (show Calls _ _ _ _ _)
         first|go_values|go_skip|go_guarded|go_step|go_upon)
 refine(HV _ HB3.out).out.mono ?_
 rintro e W4 ⟨rfl,hb⟩
 have HB4:=hid (qb HB3.out hb)
 clear hb H13 H3 HB3 HV
 go_wp2_with fail
 go_ret
 exact⟨rfl,HB4.out⟩
theorem aeu {w:World} {B:Nat} {A:Option Addr} {fs:List ByteArray} (hs:vf w B A fs) (hf:fs≠[]):∀c:Nat,A=none→c=0:=fun c h=>by
 cases fs with
 | nil=>exact absurd rfl hf
 | cons x l=>
  obtain⟨b,off,h1,-⟩:=hs 0 (by simp)
  rw[h]at h1
  cases h1
theorem ax4 (A:Option Addr) (R:List ByteArray) (c:Nat) (w:World) (hs:vf w w.heap.size A R) (hz:∀t∈R,t.size≤1000000):Calls Tryz.prog 102 #[.slice A R.length c] w (aiw (ve R) w):=by
 by_cases h:R=[]
 ·subst h;rw[show ve []=(v8,3)from if_pos (by decide)];exact ak6 A 0 c w rfl
 ·exact ay2 A R c w (aeu hs h c) hs hz
theorem axm (A:Option Addr) (R:List ByteArray) (c:Nat) (w:World) (hs:vf w w.heap.size A R) (hz:∀t∈R,t.size≤1000000):Calls Tryz.prog 103 #[.slice A R.length c] w (ajv (vd R) w):=by
 by_cases h:R=[]
 ·subst h;rw[show vd []=(yb,3)from if_pos (by decide)];exact alm A 0 c w rfl rfl
 ·exact aw9 A R c w (aeu hs h c) hs hz
theorem ax1 (A:Option Addr) (R:List ByteArray) (c:Nat) (w:World) (hs:vf w w.heap.size A R) (hz:∀t∈R,t.size≤1000000):Calls Tryz.prog 104 #[.slice A R.length c] w (ajc (jk R) w):=by
 by_cases h:R=[]
 ·subst h;rw[show jk []=(kz,3)from if_pos (by decide)];exact alk A 0 c w rfl
 ·exact ay9 A R c w (aeu hs h c) hs hz
theorem avp (A:Option Addr) (R:List ByteArray) (c:Nat) (w:World) (hs:vf w w.heap.size A R) (hn:R.length≤1000000) (hz:∀t∈R,t.size≤1000000):Calls Tryz.prog 105 #[.slice A R.length c] w (aje (xu R) w):=by
 by_cases h:R=[]
 ·subst h;rw[show xu []=(aed,3)from if_pos (by decide)];exact ak8 A 0 c w rfl rfl
 ·exact awi A R c w (aeu hs h c) hs hn hz
theorem aye (A:Option Addr) (R:List ByteArray) (c:Nat) (w:World) (hs:vf w w.heap.size A R) (hn:R.length≤1000000) (hz:∀t∈R,t.size≤1000000):Calls Tryz.prog 106 #[.slice A R.length c] w (ai5 (zl R) w):=by
 by_cases h:R=[]
 ·subst h;rw[show zl []=(ku,3)from if_pos (.inl (by decide))];exact alb A 0 c w (.inl (by decide)) (by omega)
 ·exact ax3 A R c w (aeu hs h c) hs hn hz
def l4v (N:List (Bool×Int)):V4:=(N.getD 0 (false,0),N.getD 1 (false,0),N.getD 2 (false,0),N.getD 3 (false,0))
theorem a8e {N:List (Bool×Int)} (h:N.length=4):a4m N=.agg (jj (l4v N)).toArray:=by
 match N,h with
 | [a,b,c,d],_=>rfl
def aeg (y:ByteArray) (fs:List ByteArray):NmD×Int:=
 if y=⟨#[71,71,65]⟩then(⟨1,ByteArray.empty,(ve fs).1,yb,kz,zV4,ku⟩,(ve fs).2)else if y=⟨#[82,77,67]⟩then(⟨2,ByteArray.empty,v8,(vd fs).1,kz,zV4,ku⟩,(vd fs).2)else if y=⟨#[71,83,65]⟩then(⟨3,ByteArray.empty,v8,yb,(jk fs).1,zV4,ku⟩,(jk fs).2)else if y=⟨#[86,84,71]⟩then(⟨4,ByteArray.empty,v8,yb,kz,l4v (xu fs).1,ku⟩,(xu fs).2)else if y=⟨#[71,83,86]⟩then(⟨5,ByteArray.empty,v8,yb,kz,zV4,(zl fs).1⟩,(zl fs).2)else(amm,6)
def ac0 (t y:ByteArray) (fs:List ByteArray):NmD×Int:=if(aeg y fs).2=0 then(yw t (aeg y fs).1,0)else(amm,(aeg y fs).2)
theorem bb5 (w:World):(zeroValue 44).run Tryz.prog w=.ok (.agg zq.toArray) w:=by kernel_rfl
theorem a99 (w:World):(zeroValue 48).run Tryz.prog w=.ok (.agg zr.toArray) w:=by kernel_rfl
theorem bb9 (w:World):(zeroValue 51).run Tryz.prog w=.ok (.agg xf.toArray) w:=by kernel_rfl
theorem bbs (w:World):(zeroValue 53).run Tryz.prog w=.ok (.agg zw.toArray) w:=by kernel_rfl
theorem a97 (w:World):(zeroValue 56).run Tryz.prog w=.ok (.agg xj.toArray) w:=by kernel_rfl
def ahw (k:Nat) (S:World→List Value→Prop) (E:Int) (w:World) (e:Ending) (w':World):Prop:=∃G:List Value,e=.returned (.tuple #[.agg G.toArray,.int .i64 E])∧G.length=k∧zz G∧S w' G∧Below w.heap.size w w'
def an1 (T:TypeId) (S:World→List Value→Prop) (E:Int) (w:World) (e:Ending) (w':World):Prop:=∃G:List Value,e=.returned (.tuple #[.iface T (.agg G.toArray),.int .i64 E])∧S w' G∧Below w.heap.size w w'
theorem a9k {t:ByteArray} {A:Option Addr} {n c:Nat} {S:World→List Value→Prop} {E:Int} {w:World} (hS:Hid (∀w w' G,S w G→Below w.heap.size w w'→S w' G)) (HP:∀W,Below w.heap.size w W→Hid (Calls Tryz.prog 102 #[.slice A n c] W (ahw 22 S E W))):Calls Tryz.prog 83 #[.agg #[.string t,.string ⟨#[71,71,65]⟩,.slice A n c]] w (an1 239 S E w):=by
 have HB0:=hid (qa w (.cells #[.string t,.string ⟨#[71,71,65]⟩,.slice A n c] 150))
 go_enter Tryz.func83,Tryz.ntmps83
 go_wp2_with fail
 refine(HP _ HB0.out).out.mono ?_
 rintro e W2 ⟨G,rfl,hl,ho,hs,hb⟩
 have HL:=hid hl
 have HO:=hid ho
 have HBE:=hid (qb HB0.out hb)
 have HSS:=hid hs
 have HLT:Hid (w.heap.size≤W2.heap.size):=HBE.out.size
 have HZ:Hid ((Tryz.prog.info? 44).map (·.size)=some G.length):=by rw[HL.out];exact adp
 clear hl ho hs hb HP HB0
 go_wp2_with (first
  | (refine qc rfl 44 rfl zq.toArray (bb5 _) ?_;intro W4 hW4;have HK:=hid (Blk.newL (L:=zq) hW4 rfl);have HBE4:=hid (qb HBE.out hW4.bel);have HS4:=hid (hS.out _ _ _ HSS.out hW4.bel);have HB4:=hid hW4.bel;clear hW4 HBE)
  | (refine qe rfl 44 _ _ rfl W2.heap.size 0 G.toArray rfl rfl (HK.out.thereA HL.out) (by rw[List.size_toArray];exact HZ.out) (zz.arr HO.out) ?_;intro W5 hW5;have HK5:Hid (Blk W5 W2.heap.size G):=HK.out.all hW5 HL.out;have HBE5:=hid (HBE4.out.trans (hW5.below (by have:=HBE4.out.size;exact HLT.out)));have HS5:=hid (hS.out _ _ _ HSS.out (HB4.out.trans (hW5.below (Nat.le_refl _))));clear hW5 HK HBE4 HS4 HB4)
  | refine wpList_load_mid rfl 44 _ rfl W2.heap.size 0 rfl G _ HK5.out.rg Tryz.underlying44 rfl HZ.out ?_
  | refine zg (u:=.agg G.toArray) rfl 239 0 _ rfl rfl (aw4 G HL.out _) ?_)
 go_ret2
 exact⟨G,rfl,HS5.out,HBE5.out⟩
theorem bb0 {t:ByteArray} {A:Option Addr} {n c:Nat} {S:World→List Value→Prop} {E:Int} {w:World} (hS:Hid (∀w w' G,S w G→Below w.heap.size w w'→S w' G)) (HP:∀W,Below w.heap.size w W→Hid (Calls Tryz.prog 103 #[.slice A n c] W (ahw 20 S E W))):Calls Tryz.prog 83 #[.agg #[.string t,.string ⟨#[82,77,67]⟩,.slice A n c]] w (an1 243 S E w):=by
 have HB0:=hid (qa w (.cells #[.string t,.string ⟨#[82,77,67]⟩,.slice A n c] 150))
 go_enter Tryz.func83,Tryz.ntmps83
 go_wp2_with fail
 refine(HP _ HB0.out).out.mono ?_
 rintro e W2 ⟨G,rfl,hl,ho,hs,hb⟩
 have HL:=hid hl
 have HO:=hid ho
 have HBE:=hid (qb HB0.out hb)
 have HSS:=hid hs
 have HLT:Hid (w.heap.size≤W2.heap.size):=HBE.out.size
 have HZ:Hid ((Tryz.prog.info? 48).map (·.size)=some G.length):=by rw[HL.out];exact ac8
 clear hl ho hs hb HP HB0
 go_wp2_with (first
  | (refine qc rfl 48 rfl zr.toArray (a99 _) ?_;intro W4 hW4;have HK:=hid (Blk.newL (L:=zr) hW4 rfl);have HBE4:=hid (qb HBE.out hW4.bel);have HS4:=hid (hS.out _ _ _ HSS.out hW4.bel);have HB4:=hid hW4.bel;clear hW4 HBE)
  | (refine qe rfl 48 _ _ rfl W2.heap.size 0 G.toArray rfl rfl (HK.out.thereA HL.out) (by rw[List.size_toArray];exact HZ.out) (zz.arr HO.out) ?_;intro W5 hW5;have HK5:Hid (Blk W5 W2.heap.size G):=HK.out.all hW5 HL.out;have HBE5:=hid (HBE4.out.trans (hW5.below (by have:=HBE4.out.size;exact HLT.out)));have HS5:=hid (hS.out _ _ _ HSS.out (HB4.out.trans (hW5.below (Nat.le_refl _))));clear hW5 HK HBE4 HS4 HB4)
  | refine wpList_load_mid rfl 48 _ rfl W2.heap.size 0 rfl G _ HK5.out.rg Tryz.underlying48 rfl HZ.out ?_
  | refine zg (u:=.agg G.toArray) rfl 243 0 _ rfl rfl (aw8 G HL.out _) ?_)
 go_ret2
 exact⟨G,rfl,HS5.out,HBE5.out⟩
theorem baw {t:ByteArray} {A:Option Addr} {n c:Nat} {S:World→List Value→Prop} {E:Int} {w:World} (hS:Hid (∀w w' G,S w G→Below w.heap.size w w'→S w' G)) (HP:∀W,Below w.heap.size w W→Hid (Calls Tryz.prog 104 #[.slice A n c] W (ahw 9 S E W))):Calls Tryz.prog 83 #[.agg #[.string t,.string ⟨#[71,83,65]⟩,.slice A n c]] w (an1 247 S E w):=by
 have HB0:=hid (qa w (.cells #[.string t,.string ⟨#[71,83,65]⟩,.slice A n c] 150))
 go_enter Tryz.func83,Tryz.ntmps83
 go_wp2_with fail
 refine(HP _ HB0.out).out.mono ?_
 rintro e W2 ⟨G,rfl,hl,ho,hs,hb⟩
 have HL:=hid hl
 have HO:=hid ho
 have HBE:=hid (qb HB0.out hb)
 have HSS:=hid hs
 have HLT:Hid (w.heap.size≤W2.heap.size):=HBE.out.size
 have HZ:Hid ((Tryz.prog.info? 51).map (·.size)=some G.length):=by rw[HL.out];exact adb
 clear hl ho hs hb HP HB0
 go_wp2_with (first
  | (refine qc rfl 51 rfl xf.toArray (bb9 _) ?_;intro W4 hW4;have HK:=hid (Blk.newL (L:=xf) hW4 rfl);have HBE4:=hid (qb HBE.out hW4.bel);have HS4:=hid (hS.out _ _ _ HSS.out hW4.bel);have HB4:=hid hW4.bel;clear hW4 HBE)
  | (refine qe rfl 51 _ _ rfl W2.heap.size 0 G.toArray rfl rfl (HK.out.thereA HL.out) (by rw[List.size_toArray];exact HZ.out) (zz.arr HO.out) ?_;intro W5 hW5;have HK5:Hid (Blk W5 W2.heap.size G):=HK.out.all hW5 HL.out;have HBE5:=hid (HBE4.out.trans (hW5.below (by have:=HBE4.out.size;exact HLT.out)));have HS5:=hid (hS.out _ _ _ HSS.out (HB4.out.trans (hW5.below (Nat.le_refl _))));clear hW5 HK HBE4 HS4 HB4)
  | refine wpList_load_mid rfl 51 _ rfl W2.heap.size 0 rfl G _ HK5.out.rg Tryz.underlying51 rfl HZ.out ?_
  | refine zg (u:=.agg G.toArray) rfl 247 0 _ rfl rfl (axk G HL.out _) ?_)
 go_ret2
 exact⟨G,rfl,HS5.out,HBE5.out⟩
theorem a9b {t:ByteArray} {A:Option Addr} {n c:Nat} {S:World→List Value→Prop} {E:Int} {w:World} (hS:Hid (∀w w' G,S w G→Below w.heap.size w w'→S w' G)) (HP:∀W,Below w.heap.size w W→Hid (Calls Tryz.prog 105 #[.slice A n c] W (ahw 8 S E W))):Calls Tryz.prog 83 #[.agg #[.string t,.string ⟨#[86,84,71]⟩,.slice A n c]] w (an1 251 S E w):=by
 have HB0:=hid (qa w (.cells #[.string t,.string ⟨#[86,84,71]⟩,.slice A n c] 150))
 go_enter Tryz.func83,Tryz.ntmps83
 go_wp2_with fail
 refine(HP _ HB0.out).out.mono ?_
 rintro e W2 ⟨G,rfl,hl,ho,hs,hb⟩
 have HL:=hid hl
 have HO:=hid ho
 have HBE:=hid (qb HB0.out hb)
 have HSS:=hid hs
 have HLT:Hid (w.heap.size≤W2.heap.size):=HBE.out.size
 have HZ:Hid ((Tryz.prog.info? 53).map (·.size)=some G.length):=by rw[HL.out];exact ac6
 clear hl ho hs hb HP HB0
 go_wp2_with (first
  | (refine qc rfl 53 rfl zw.toArray (bbs _) ?_;intro W4 hW4;have HK:=hid (Blk.newL (L:=zw) hW4 rfl);have HBE4:=hid (qb HBE.out hW4.bel);have HS4:=hid (hS.out _ _ _ HSS.out hW4.bel);have HB4:=hid hW4.bel;clear hW4 HBE)
  | (refine qe rfl 53 _ _ rfl W2.heap.size 0 G.toArray rfl rfl (HK.out.thereA HL.out) (by rw[List.size_toArray];exact HZ.out) (zz.arr HO.out) ?_;intro W5 hW5;have HK5:Hid (Blk W5 W2.heap.size G):=HK.out.all hW5 HL.out;have HBE5:=hid (HBE4.out.trans (hW5.below (by have:=HBE4.out.size;exact HLT.out)));have HS5:=hid (hS.out _ _ _ HSS.out (HB4.out.trans (hW5.below (Nat.le_refl _))));clear hW5 HK HBE4 HS4 HB4)
  | refine wpList_load_mid rfl 53 _ rfl W2.heap.size 0 rfl G _ HK5.out.rg Tryz.underlying53 rfl HZ.out ?_
  | refine zg (u:=.agg G.toArray) rfl 251 0 _ rfl rfl (awh G HL.out _) ?_)
 go_ret2
 exact⟨G,rfl,HS5.out,HBE5.out⟩
theorem bbq {t:ByteArray} {A:Option Addr} {n c:Nat} {S:World→List Value→Prop} {E:Int} {w:World} (hS:Hid (∀w w' G,S w G→Below w.heap.size w w'→S w' G)) (HP:∀W,Below w.heap.size w W→Hid (Calls Tryz.prog 106 #[.slice A n c] W (ahw 4 S E W))):Calls Tryz.prog 83 #[.agg #[.string t,.string ⟨#[71,83,86]⟩,.slice A n c]] w (an1 255 S E w):=by
 have HB0:=hid (qa w (.cells #[.string t,.string ⟨#[71,83,86]⟩,.slice A n c] 150))
 go_enter Tryz.func83,Tryz.ntmps83
 go_wp2_with fail
 refine(HP _ HB0.out).out.mono ?_
 rintro e W2 ⟨G,rfl,hl,ho,hs,hb⟩
 have HL:=hid hl
 have HO:=hid ho
 have HBE:=hid (qb HB0.out hb)
 have HSS:=hid hs
 have HLT:Hid (w.heap.size≤W2.heap.size):=HBE.out.size
 have HZ:Hid ((Tryz.prog.info? 56).map (·.size)=some G.length):=by rw[HL.out];exact ac5
 clear hl ho hs hb HP HB0
 go_wp2_with (first
  | (refine qc rfl 56 rfl xj.toArray (a97 _) ?_;intro W4 hW4;have HK:=hid (Blk.newL (L:=xj) hW4 rfl);have HBE4:=hid (qb HBE.out hW4.bel);have HS4:=hid (hS.out _ _ _ HSS.out hW4.bel);have HB4:=hid hW4.bel;clear hW4 HBE)
  | (refine qe rfl 56 _ _ rfl W2.heap.size 0 G.toArray rfl rfl (HK.out.thereA HL.out) (by rw[List.size_toArray];exact HZ.out) (zz.arr HO.out) ?_;intro W5 hW5;have HK5:Hid (Blk W5 W2.heap.size G):=HK.out.all hW5 HL.out;have HBE5:=hid (HBE4.out.trans (hW5.below (by have:=HBE4.out.size;exact HLT.out)));have HS5:=hid (hS.out _ _ _ HSS.out (HB4.out.trans (hW5.below (Nat.le_refl _))));clear hW5 HK HBE4 HS4 HB4)
  | refine wpList_load_mid rfl 56 _ rfl W2.heap.size 0 rfl G _ HK5.out.rg Tryz.underlying56 rfl HZ.out ?_
  | refine zg (u:=.agg G.toArray) rfl 255 0 _ rfl rfl (ayf G HL.out _) ?_)
 go_ret2
 exact⟨G,rfl,HS5.out,HBE5.out⟩
theorem a6j {t y:ByteArray} {A:Option Addr} {n c:Nat} {w:World} (h1:(y.toList==[71,71,65])=false) (h2:(y.toList==[82,77,67])=false) (h3:(y.toList==[71,83,65])=false) (h4:(y.toList==[86,84,71])=false) (h5:(y.toList==[71,83,86])=false):Calls Tryz.prog 83 #[.agg #[.string t,.string y,.slice A n c]] w fun e w'=>e=.returned (.tuple #[.nilIface,.int .i64 6])∧Below w.heap.size w w':=by
 have HB0:=hid (qa w (.cells #[.string t,.string y,.slice A n c] 150))
 go_enter Tryz.func83,Tryz.ntmps83
 go_wp2_with fail
 go_ret2
 exact⟨rfl,HB0.out⟩
theorem az0 (t:ByteArray) (a b c:UInt8):(t.toList==[a,b,c])=decide (t=⟨#[a,b,c]⟩):=by
 have l:(⟨#[a,b,c]⟩:ByteArray).toList=[a,b,c]:=by rw[ByteArray.toList_eq]
 rw[← aes,l]
theorem af5 {t:ByteArray} {a b c:UInt8} (h:t ≠⟨#[a,b,c]⟩):(t.toList==[a,b,c])=false:=by rw[az0];exact decide_eq_false h
def SI (l:List Int) (f:Value→List Value) (w:World) (G:List Value):Prop:=∃x,G=f x∧SlI 0 w x l
def SV (l:List V4) (f:Value→List Value) (w:World) (G:List Value):Prop:=∃x,G=f x∧SlV 0 w x l
theorem SI.on {l:List Int} {f:Value→List Value} {w w':World} {G:List Value} (h:SI l f w G) (hb:Below w.heap.size w w'):SI l f w' G:=by
 obtain⟨x,h1,h2⟩:=h;exact⟨x,h1,h2.on hb⟩
theorem SV.on {l:List V4} {f:Value→List Value} {w w':World} {G:List Value} (h:SV l f w G) (hb:Below w.heap.size w w'):SV l f w' G:=by
 obtain⟨x,h1,h2⟩:=h;exact⟨x,h1,h2.on hb⟩
theorem azv {fs:List ByteArray} {w:World} {e:Ending} {w':World} (h:aiw (ve fs) w e w'):ahw 22 (fun _ G=>G=gL (ve fs).1) (ve fs).2 w e w':=
 ⟨_,h.1,rfl,al8 _,rfl,h.2⟩
theorem axr {fs:List ByteArray} {w:World} {e:Ending} {w':World} (h:ajv (vd fs) w e w'):ahw 20 (fun _ G=>G=rL (vd fs).1) (vd fs).2 w e w':=
 ⟨_,h.1,rfl,ami _,rfl,h.2⟩
theorem axh {fs:List ByteArray} {w:World} {e:Ending} {w':World} (h:ajc (jk fs) w e w'):ahw 9 (SI (jk fs).1.ids (sL (jk fs).1)) (jk fs).2 w e w':=by
 obtain⟨A,n,c,h1,rfl,h3,h4⟩:=h
 exact⟨_,h1,rfl,aup _ (y:=.slice A (jk fs).1.ids.length c) rfl,⟨_,rfl,A,c,rfl,bc3 h3⟩,h4⟩
theorem aw6 {fs:List ByteArray} {w:World} {e:Ending} {w':World} (h:aje (xu fs) w e w'):ahw 8 (fun _ G=>G=jj (l4v (xu fs).1)) (xu fs).2 w e w':=
 ⟨_,by rw[h.1,a8e (azg fs)],rfl,amh _,rfl,h.2⟩
theorem awx {fs:List ByteArray} {w:World} {e:Ending} {w':World} (h:ai5 (zl fs) w e w'):ahw 4 (SV (zl fs).1.L (uL (zl fs).1)) (zl fs).2 w e w':=by
 obtain⟨A,c,h1,h3,h4⟩:=h
 exact⟨_,h1,rfl,atv _ (y:=.slice A (zl fs).1.L.length c) rfl,⟨_,rfl,A,c,rfl,bhc h3⟩,h4⟩
theorem bf4 (fs:List ByteArray):aeg ⟨#[71,71,65]⟩ fs=(⟨1,ByteArray.empty,(ve fs).1,yb,kz,zV4,ku⟩,(ve fs).2):=by
 unfold aeg
 rw[if_pos rfl]
theorem bgn (fs:List ByteArray):aeg ⟨#[82,77,67]⟩ fs=(⟨2,ByteArray.empty,v8,(vd fs).1,kz,zV4,ku⟩,(vd fs).2):=by
 unfold aeg
 rw[if_neg (by decide)]
 rw[if_pos rfl]
theorem bgl (fs:List ByteArray):aeg ⟨#[71,83,65]⟩ fs=(⟨3,ByteArray.empty,v8,yb,(jk fs).1,zV4,ku⟩,(jk fs).2):=by
 unfold aeg
 rw[if_neg (by decide)]
 rw[if_neg (by decide)]
 rw[if_pos rfl]
theorem bg2 (fs:List ByteArray):aeg ⟨#[86,84,71]⟩ fs=(⟨4,ByteArray.empty,v8,yb,kz,l4v (xu fs).1,ku⟩,(xu fs).2):=by
 unfold aeg
 rw[if_neg (by decide)]
 rw[if_neg (by decide)]
 rw[if_neg (by decide)]
 rw[if_pos rfl]
theorem bgb (fs:List ByteArray):aeg ⟨#[71,83,86]⟩ fs=(⟨5,ByteArray.empty,v8,yb,kz,zV4,(zl fs).1⟩,(zl fs).2):=by
 unfold aeg
 rw[if_neg (by decide)]
 rw[if_neg (by decide)]
 rw[if_neg (by decide)]
 rw[if_neg (by decide)]
 rw[if_pos rfl]
theorem bcz {y:ByteArray} (fs:List ByteArray) (h1:y ≠⟨#[71,71,65]⟩) (h2:y ≠⟨#[82,77,67]⟩) (h3:y ≠⟨#[71,83,65]⟩) (h4:y ≠⟨#[86,84,71]⟩) (h5:y ≠⟨#[71,83,86]⟩):aeg y fs=(amm,6):=by
 unfold aeg
 rw[if_neg h1,if_neg h2,if_neg h3,if_neg h4,if_neg h5]
def a4k (x:NmD×Int) (w:World) (e:Ending) (w':World):Prop:=∃v,e=.returned (.tuple #[v,.int .i64 x.2])∧bft 0 w' v x.1∧Below w.heap.size w w'
theorem a2b {t y:ByteArray} {fs:List ByteArray} {A:Option Addr} {c:Nat} {w:World} (hs:vf w w.heap.size A fs) (hn:fs.length≤1000000) (hz:∀f∈fs,f.size≤1000000) :
 Calls Tryz.prog 83 #[.agg #[.string t,.string y,.slice A fs.length c]] w (a4k (aeg y fs) w):=by
 have hst:∀W,Below w.heap.size w W→vf W W.heap.size A fs:=fun W hb=>(hs.below hb (Nat.le_refl _)).more hb.size
 by_cases h1:y=⟨#[71,71,65]⟩
 ·subst h1
  rw[bf4]
  refine(a9k (S:=(fun _ G=>G=gL (ve fs).1)) (E:=(ve fs).2) (fun _ _ _ h _=>h) (fun W hb=>(ax4 A fs c W (hst W hb) hz).mono fun _ _ h=>azv h)).mono ?_
  rintro e w' ⟨G,rfl,hs,hb⟩
  exact⟨_,rfl,.inl ⟨rfl,by rw[hs]⟩,hb⟩
 by_cases h2:y=⟨#[82,77,67]⟩
 ·subst h2
  rw[bgn]
  refine(bb0 (S:=(fun _ G=>G=rL (vd fs).1)) (E:=(vd fs).2) (fun _ _ _ h _=>h) (fun W hb=>(axm A fs c W (hst W hb) hz).mono fun _ _ h=>axr h)).mono ?_
  rintro e w' ⟨G,rfl,hs,hb⟩
  exact⟨_,rfl,.inr (.inl ⟨rfl,by rw[hs]⟩),hb⟩
 by_cases h3:y=⟨#[71,83,65]⟩
 ·subst h3
  rw[bgl]
  refine(baw (S:=(SI (jk fs).1.ids (sL (jk fs).1))) (E:=(jk fs).2) (fun _ _ _ h hb=>h.on hb) (fun W hb=>(ax1 A fs c W (hst W hb) hz).mono fun _ _ h=>axh h)).mono ?_
  rintro e w' ⟨G,rfl,hs,hb⟩
  obtain⟨x,rfl,hx⟩:=hs
  exact⟨_,rfl,.inr (.inr (.inl ⟨rfl,x,rfl,hx⟩)),hb⟩
 by_cases h4:y=⟨#[86,84,71]⟩
 ·subst h4
  rw[bg2]
  refine(a9b (S:=(fun _ G=>G=jj (l4v (xu fs).1))) (E:=(xu fs).2) (fun _ _ _ h _=>h) (fun W hb=>(avp A fs c W (hst W hb) hn hz).mono fun _ _ h=>aw6 h)).mono ?_
  rintro e w' ⟨G,rfl,hs,hb⟩
  exact⟨_,rfl,.inr (.inr (.inr (.inl ⟨rfl,by rw[hs]⟩))),hb⟩
 by_cases h5:y=⟨#[71,83,86]⟩
 ·subst h5
  rw[bgb]
  refine(bbq (S:=(SV (zl fs).1.L (uL (zl fs).1))) (E:=(zl fs).2) (fun _ _ _ h hb=>h.on hb) (fun W hb=>(aye A fs c W (hst W hb) hn hz).mono fun _ _ h=>awx h)).mono ?_
  rintro e w' ⟨G,rfl,hs,hb⟩
  obtain⟨x,rfl,hx⟩:=hs
  exact⟨_,rfl,.inr (.inr (.inr (.inr (.inl ⟨rfl,x,rfl,hx⟩)))),hb⟩
 rw[bcz fs h1 h2 h3 h4 h5]
 refine(a6j (af5 h1) (af5 h2) (af5 h3) (af5 h4) (af5 h5)).mono ?_
 rintro e w' ⟨rfl,hb⟩
 exact⟨_,rfl,.inr (.inr (.inr (.inr (.inr ⟨by decide,rfl⟩)))),hb⟩
theorem amu (y:ByteArray) (fs:List ByteArray):(aeg y fs).1.s.ids.length≤1000000 ∧(aeg y fs).1.u.L.length≤1000000:=by
 have h1:=azq fs
 have h2:=awf fs
 have e1:kz.ids.length≤1000000:=by decide
 have e2:ku.L.length≤1000000:=by decide
 unfold aeg
 split
 ·exact⟨e1,e2⟩
 split
 ·exact⟨e1,e2⟩
 split
 ·exact⟨Nat.le_trans h1 (by omega),e2⟩
 split
 ·exact⟨e1,e2⟩
 split
 ·exact⟨e1,Nat.le_trans h2 (by omega)⟩
 ·exact⟨e1,e2⟩
def bfu (x:NmD×Int) (w:World) (e:Ending) (w':World):Prop:=∃C,e=.returned (.tuple #[.agg C,.int .i64 x.2])∧NmV w.heap.size w' C x.1∧Below w.heap.size w w'
theorem yn {lo:Nat} {w:World} {C:Array Value} {m:NmD} (h:NmV lo w C m):(Tryz.prog.info? 58).map (·.size)=some C.size:=by rw[h.len];exact a4a
theorem acy {w w':World} {b:Nat} {k:Int} {t:ByteArray} {G R S V U:List Value} {lo:Nat} {C:Array Value} {m:NmD} (h:Blk w b (nmL k t G R S V U)) (hl:abf G R S V U) (hC:NmV lo w' C m):w.there b 0 C.size:=by rw[hC.len];exact h.nm65 hl
theorem ag2 {lo:Nat} {w:World} {C:Array Value} {m:NmD} (h:NmV lo w C m):C.toList.length=(nmL 0 ByteArray.empty zq zr xf zw xj).length:=by rw[Array.length_toList,h.len,aak qn]
theorem a3s {t y:ByteArray} {fs:List ByteArray} {A:Option Addr} {c:Nat} {w:World} (hs:vf w w.heap.size A fs) (hn:fs.length≤1000000) (hz:∀f∈fs,f.size≤1000000) :
 Calls Tryz.prog 63 #[.agg #[.string t,.string y,.slice A fs.length c]] w (bfu (ac0 t y fs) w):=by
 obtain⟨⟨m,E⟩,hmE⟩:∃x,aeg y fs=x:=⟨_,rfl⟩
 obtain⟨n,hfn⟩:∃n,fs.length=n:=⟨_,rfl⟩
 have HID:Hid (m.s.ids.length≤1000000∧m.u.L.length≤1000000):=by have:=amu y fs;rw[hmE]at this;exact this
 have HR:∀W,Below w.heap.size w W→Hid (Calls Tryz.prog 83 #[.agg #[.string t,.string y,.slice A n c]] W (a4k (m,E) W)):=fun W hb=>by
  have:=a2b (t:=t) (y:=y) (c:=c) ((hs.below hb (Nat.le_refl _)).more hb.size) hn hz
  rw[hmE,hfn]at this
  exact this
 have HT:Hid (ac0 t y fs=if E=0 then(yw t m,0)else(amm,E)):=by unfold ac0;rw[hmE];exact rfl
 rw[hfn]
 clear hs hn hz hmE hfn
 go_enter Tryz.func63,Tryz.ntmps63
 go_wp2_with (first
  | (refine qr rfl _ _ rfl #[.string t,.string y,.slice A n c] rfl ?_;intro W0 hW0;have HS0:=hid (Blk.newL (L:=[.string t,.string y,.slice A n c]) hW0 rfl);have HBE0:=hid hW0.bel;have HZ0:=hid hW0.sz;clear hW0)
  | (refine qc rfl 58 rfl zNm (ab5 _) ?_;intro W1 hW1;have HR1:=hid (Blk.newL (L:=nmL 0 ByteArray.empty zq zr xf zw xj) hW1 rfl);have HBE1:=hid (qb HBE0.out hW1.bel);have HS1:=hid (HS0.out.grew hW1);have HZ1:=hid hW1.sz;clear hW1 HBE0 HS0)
  | refine wpList_load_mid rfl 150 _ rfl w.heap.size 0 rfl [.string t,.string y,.slice A n c] _ HS1.out.rg Tryz.underlying150 rfl aiy ?_)
 refine(HR _ HBE1.out).out.mono ?_
 rintro e W2 ⟨v,rfl,hp,hb⟩
 have HP:=hid hp
 have HR2:=hid (HR1.out.on hb)
 have HS2:=hid (HS1.out.on hb)
 have HBE2:=hid (qb HBE1.out hb)
 have HZ2:Hid (W0.heap.size<W2.heap.size):=HR2.out.lt
 have HBE2l:Hid (w.heap.size≤W2.heap.size):=HBE2.out.size
 have c0:=HS2.out.cell 0 rfl
 clear hp hb HR1 HS1 HBE1 HR
 dsimp only
 by_cases h0:E=0
 ·subst h0
  have HX:Hid (ac0 t y fs=(yw t m,0)):=HT.out.trans (if_pos rfl)
  clear HT
  go_wp2_with fail
  refine(a3w (t:=t) HP.out HID.out.1 HID.out.2).mono ?_
  rintro e W4 ⟨D,rfl,hd,hb⟩
  have HD:=hid hd
  have HR4:=hid (HR2.out.on hb)
  have HBE4:=hid (qb HBE2.out hb)
  clear hd hb HR2 HS2 HBE2 HP c0
  go_wp2_with (first
   | (refine qc rfl 58 rfl zNm (ab5 _) ?_;intro W5 hW5;have HA:=hid (Blk.newL (L:=nmL 0 ByteArray.empty zq zr xf zw xj) hW5 rfl);have HR5:=hid (HR4.out.grew hW5);have HBE5:=hid (qb HBE4.out hW5.bel);have HD5:=hid (HD.out.on hW5.bel);have HL5:=hid hW5.bel;have HW4:Hid (W0.heap.size<W4.heap.size):=HR4.out.lt;clear hW5 HR4)
   | (refine qe rfl 58 _ _ rfl W4.heap.size 0 D rfl rfl (acy HA.out qn HD.out) (yn HD.out) HD.out.ones ?_;intro W6 hW6;have HM6:Hid (Blk W6 W4.heap.size D.toList):=HA.out.all hW6 (ag2 HD.out);have HR6:=hid (HR5.out.far hW6 (by have:=HW4.out;omega));have HL6:=hid (HL5.out.trans (hW6.below (Nat.le_refl _)));have HBE6:=hid (HBE5.out.trans (hW6.below (by have:=HBE4.out.size;omega)));clear hW6 HR5 HBE5 HA)
   | refine wpList_load_mid rfl 58 _ rfl W4.heap.size 0 rfl D.toList _ HM6.out.rg Tryz.underlying58 rfl (by rw[Array.length_toList];exact yn HD.out) ?_
   | (refine qe rfl 58 _ _ rfl W0.heap.size 0 D rfl rfl (acy HR6.out qn HD.out) (yn HD.out) HD.out.ones ?_;intro W7 hW7;have HM7:Hid (Blk W7 W0.heap.size D.toList):=HR6.out.all hW7 (ag2 HD.out);have HBE7:=hid (HBE6.out.trans (hW7.below (by have:=HZ0.out;omega)));have HD7:=hid ((HD.out.on HL6.out).far hW7 HZ2.out);clear hW7 HR6 HBE6))
  have HLD:=hid (run_loadVar_mid (P:=Tryz.prog) _ W0.heap.size 0 58 _ _ HM7.out.rg Tryz.underlying58 rfl (by rw[Array.length_toList];exact yn HD.out))
  refine bodyPost_ret (v:=.tuple #[.agg D,.int .i64 0]) (by rw[results_cell_tmp rfl];simp[asAddr,Result.andThen,HLD.out]) rfl ?_
  rw[HX.out]
  exact⟨D,rfl,HD7.out.less (by have:=HBE2l.out;omega),HBE7.out⟩
 ·have HX:Hid (ac0 t y fs=(amm,E)):=HT.out.trans (if_neg h0)
  have hne:(E != 0)=true:=by rw[bne_iff_ne];exact h0
  clear HT
  go_wp2_with (first
   | refine zh rfl 58 rfl (art _) ?_
   | (refine qe rfl 58 _ _ rfl W0.heap.size 0 zNm rfl rfl (acy HR2.out qn (NmV.zero 0 w)) (yn (NmV.zero 0 w)) (NmV.zero 0 w).ones ?_;intro W7 hW7;have HM7:Hid (Blk W7 W0.heap.size zNm.toList):=HR2.out.all hW7 (ag2 (NmV.zero 0 w));have HBE7:=hid (HBE2.out.trans (hW7.below (by have:=HZ0.out;omega)));clear hW7 HR2 HBE2))
  have HLD:=hid (run_loadVar_mid (P:=Tryz.prog) _ W0.heap.size 0 58 _ _ HM7.out.rg Tryz.underlying58 rfl (by rw[Array.length_toList];exact yn (NmV.zero 0 w)))
  refine bodyPost_ret (v:=.tuple #[.agg zNm,.int .i64 E]) (by rw[results_cell_tmp rfl];simp[asAddr,Result.andThen,HLD.out]) rfl ?_
  rw[HX.out]
  exact⟨zNm,rfl,NmV.zero _ _,HBE7.out⟩
end Go.Proofs.YtdkhlkfleggbaaaGreat
