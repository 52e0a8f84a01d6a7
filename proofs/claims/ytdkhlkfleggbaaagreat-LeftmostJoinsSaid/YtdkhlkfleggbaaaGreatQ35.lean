/- Parts. -/
import Derived.Test.YtdkhlkfleggbaaaGreatQ34
namespace Go.Proofs.YtdkhlkfleggbaaaGreat
set_option maxHeartbeats 4000000
set_option maxRecDepth 8000
open Lib (hid)
open Tryz
set_option linter.unusedVariables false
open Go.RowKit
theorem arf {P:Program} {ops:Array Oper} {S:World→Prop} {o:Oper} {a:Act} (hw:Region.wanted o (yielded ops a.tmps)=true) (bo:BinOp) (xT:TypeId) (x y:Operand) (yT:TypeId) (ho:o.op=.binOp bo xT x y yT) {u v r:Value} (hx:a.eval x=u) (hy:a.eval y=v) (hg:∀w,(eqGuard bo xT x y u v).run P w=.ok () w) (hr:∀w,(binOp bo xT u v).run P w=.ok r w):YieldsIf P ops S o r a:=
 .inl ⟨hw,fun w _=>by
  unfold execOp;rw[ho];simp only[hx,hy,Sem.run_bind,hg,hr,Result.andThen_ok,Sem.run_pure]⟩
theorem bc5 (C D:Array Value) (x y:Operand) (w:World):(eqGuard .eql 78 x y (.agg C) (.agg D)).run prog w=.ok () w:=by kernel_rfl
theorem xz.onB {B:Nat} {v:Value} {X:List ItD} {w w':World} (h:xz B v X w) (hb:Below w.1.size w w'):xz B v X w':=h.kept (fun k _ r=>hb.block k r) hb.size
theorem apw (A:Option Addr) (c:Nat) (n:Nat) (B:Option Addr) (d:Nat) (m:Nat) (w:World) (hn:n≤maxLen) (hm:m≤maxLen) (h:2000<n∨2000<m) :
 Calls prog 5 #[.slice A n c,.slice B m d] w fun e w'=>e=.returned (.bool true)∧Below w.1.size w w':=by
 have HK:=hid (amv w);unfold maxLen at hn hm
 by_cases h1:2000<n
 ·have i1:(2000:Int)<(n:Int):=by omega
  clear h;go_enter func5,ntmps5;go_wp2_with fail;refine HK.out.mono ?_;rintro e w1 ⟨rfl,hb⟩;go_wp2_with fail;go_ret;exact⟨rfl,hb⟩
 ·have i1:(n:Int)≤2000:=by omega
  have i2:(2000:Int)<(m:Int):=by omega
  clear h;go_enter func5,ntmps5;go_wp2_with fail;refine HK.out.mono ?_;rintro e w1 ⟨rfl,hb⟩;go_wp2_with fail;go_ret;exact⟨rfl,hb⟩
theorem ang (A:Option Addr) (c:Nat) (a:List UInt8) (B:Option Addr) (d:Nat) (b:List UInt8) (w:World) (ha:a.length≤2000) (hb:b.length≤2000) (hc:a.length≤c) (hd:b.length≤d) (fa:qf (fun k=>k<w.1.size) w A (bsV a)) (fb:qf (fun k=>k<w.1.size) w B (bsV b)) :
 Calls prog 5 #[.slice A a.length c,.slice B b.length d] w fun e w'=>e=.returned (.bool true)∧Below w.1.size w w':=by
 have HK:=hid (amv w);have HZ:=fun W=>hid (arh W)
 have fl:∀{X:Option Addr} {l:List UInt8} {W:World},qf (fun k=>k<w.1.size) w X (bsV l)→Below w.1.size w W→qf (fun k=>k<W.1.size) W X (bsV l):=fun h q=>(h.below q fun k r=>r).less fun k r=>Nat.lt_of_lt_of_le r q.size
 have HPA:∀W,Below w.1.size w W→Hid _:=fun W q=>hid (ahb (w:=W) (fl fa q) om hc)
 have HPB:∀W,Below w.1.size w W→Hid _:=fun W q=>hid (ahb (w:=W) (fl fb q) om hd)
 obtain⟨ab,hab⟩:∃ab,a++b=ab:=⟨_,rfl⟩;have hal:ab.length≤4000:=by rw[← hab,List.length_append];omega
 have HJB:∀W,Below w.1.size w W→Hid (∃A1 c1 W2 A2 c2 W3,(Builtin.append_ #[22,22] 22 #[.slice (some ⟨W.1.size,0,none⟩) 0 0,.slice A a.length c]).run prog (W.alloc (.cells #[] 5))=.ok (.slice A1 a.length c1) W2 ∧
  (Builtin.append_ #[22,22] 22 #[.slice A1 a.length c1,.slice B b.length d]).run prog W2=.ok (.slice A2 ab.length c2) W3∧ab.length≤c2∧qf (fun k=>k<W3.1.size) W3 A2 (bsV ab)∧Below W.1.size W W3):=fun W q=>hid (by rw[← hab];exact bcs (W:=W) c d (fl fa q) (fl fb q) om)
 have HPJ:∀W AJ cJ,qf (fun k=>k<W.1.size) W AJ (bsV ab)→ab.length≤cJ→Hid _:=fun W AJ cJ q r=>hid (ahb (w:=W) q om r)
 have i1:(a.length:Int)≤2000:=by omega
 have i2:(b.length:Int)≤2000:=by omega
 have HLN:=hid (And.intro ha hb)
 have hra:(q6 a).2.length≤a.length:=by
  obtain⟨-,-,P,hP,-⟩:=ah3 a;have:=congrArg List.length hP;rw[List.length_append]at this;omega
 have HAB:=hid hab;have HOKA:Hid (yj (aac a) 1000000000∧yj (aac b) 1000000000):=hid ⟨fun k=>by have h1:=auo a k;have h2:=ac2 a;omega,fun k=>by have h1:=auo b k;have h2:=ac2 b;omega⟩;have HEQ:=fun W=>hid (bc6 (jf ab) (fun k=>by have h1:=auo ab k;have h2:=ac2 ab;omega) W)
 clear ha hb hc hd fa fb fl hab;go_enter func5,ntmps5;go_wp2_with fail;refine HK.out.mono ?_;rintro e w1 ⟨rfl,hb1⟩;have HP1:=HPA w1 hb1;have HB1:=hid hb1;clear hb1 HK HPA;go_wp2_with fail;refine HP1.out.mono ?_;rintro e w2 ⟨vA,rfl,hi2,hb2⟩;obtain⟨AX,cX,rfl,-⟩:=hi2.slice;have HRA2:Hid (xz w.1.size (.slice AX (xw (q6 a).1).length cX) (xw (q6 a).1) w2):=hid (hi2.lower HB1.out.size);have HB2:=hid (qb HB1.out hb2);clear hi2 hb2 HP1 HB1
 go_upto_region 4 with(first
  | (refine qc rfl 78 rfl (vr z13) (HZ _).out ?_;intro W3 hW;have HC3:=hid (Blk.newL (L:=z13.map (Value.int .i64)) hW rfl);have HB3:=hid hW.bel;clear hW)
  | (refine qe rfl 78 _ _ rfl w2.1.size 0 (vr (aac a)) rfl rfl (HC3.out.there 0 (vr (aac a)).size (by unfold vr;rw[List.size_toArray,List.length_map,jf];decide)) (acz (jf _)) (aff _) ?_;intro W4 hs;have HC4:Hid (Blk W4 w2.1.size ((aac a).map (Value.int .i64))):=hid (HC3.out.all hs (by rw[List.length_map,jf];rfl));have HB4:Hid (Below w2.1.size w2 W4):=hid (HB3.out.trans (hs.below (Nat.le_refl _)));clear hs))
 have HA4:=hid (HRA2.out.onB HB4.out);have HW4:=hid (qb HB2.out HB4.out);clear HC3 HB3 HB4 HRA2 HB2;generalize w2.1.size=p6 at *
 by_cases hr:(q6 a).2.length=0
 ·have HSA:Hid ((q6 a).2=[]):=hid (List.eq_nil_of_length_eq_zero hr);rw[hr];clear hra hr;have HP4:=HPB W4 HW4.out;go_wp2_with fail;refine HP4.out.mono ?_;rintro e w5 ⟨vB,rfl,hi5,hb5⟩;obtain⟨AY,cY,rfl,-⟩:=hi5.slice;have HRB5:Hid (xz w.1.size (.slice AY (xw (q6 b).1).length cY) (xw (q6 b).1) w5):=hid (hi5.lower HW4.out.size);have HA5:=hid (HA4.out.onB hb5);have HC5:=hid (HC4.out.on hb5);have HW5:=hid (qb HW4.out hb5);clear hi5 hb5 HP4 HPB HA4 HC4 HW4
  go_upto_region 7 with(first
   | (refine qc rfl 78 rfl (vr z13) (HZ _).out ?_;intro W6 hW;have HC6:=hid (Blk.newL (L:=z13.map (Value.int .i64)) hW rfl);have HB6:=hid hW.bel;clear hW)
   | (refine qe rfl 78 _ _ rfl w5.1.size 0 (vr (aac b)) rfl rfl (HC6.out.there 0 (vr (aac b)).size (by unfold vr;rw[List.size_toArray,List.length_map,jf];decide)) (acz (jf _)) (aff _) ?_;intro W7 hs;have HC9:Hid (Blk W7 w5.1.size ((aac b).map (Value.int .i64))):=hid (HC6.out.all hs (by rw[List.length_map,jf];rfl));have HB7:Hid (Below w5.1.size w5 W7):=hid (HB6.out.trans (hs.below (Nat.le_refl _)));clear hs))
  have HA7:=hid (HA5.out.onB HB7.out);have HD7:=hid (HRB5.out.onB HB7.out);have HE7:=hid (HC5.out.on HB7.out);have HW7:=hid (qb HW5.out HB7.out);clear HC6 HB6 HB7 HA5 HRB5 HC5 HW5;generalize w5.1.size=p9 at *;obtain⟨A1,c1,W8,A2,c2,W9,r1,r2,hc2,hf9,hb9⟩:=(HJB W7 HW7.out).out;have HR1:=hid r1;have HR2:=hid r2;have HP9:=HPJ W9 A2 c2 hf9 hc2;have HB9:=hid hb9;clear r1 r2 hc2 hf9 hb9 HJB HPJ
  go_wp2_with (first
   | (at_builtin;refine zf rfl _ _ 22 rfl _ _ _ rfl rfl HR1.out ?_)
   | (at_builtin;refine zf rfl _ _ 22 rfl _ _ _ rfl rfl HR2.out ?_))
  have HWX:=hid (HW7.out.trans (HB9.out.mono HW7.out.size));refine HP9.out.mono ?_;rintro e w10 ⟨vZ,rfl,hiz,hb10⟩;have esc:=a0w a b;rw[HSA.out,List.nil_append,HAB.out]at esc;have e1:xw (q6 ab).1=xw (q6 a).1++xw (q6 b).1:=by rw[esc,apt]
  have e2:(q6 ab).2=(q6 b).2:=by rw[esc]
  have HJN:=hid (a8l (b:=b) HSA.out);rw[HAB.out]at HJN;have HIDS:Hid (∀x∈xw (q6 ab).1,amk x):=hid (be7 ab);have HLZ:Hid ((xw (q6 a).1).length +(xw (q6 b).1).length≤20000000):=hid (by have h1:=ajg (q6 a).1;have h2:=ajg (q6 b).1;have h3:=ac2 a;have h4:=ac2 b;have h5:=HLN.out;omega);rw[e1]at hiz;rw[e1]at HIDS;rw[e2];obtain⟨Z,hZ⟩:∃Z,xw (q6 a).1++xw (q6 b).1=Z:=⟨_,rfl⟩;have HZZ:=hid hZ;rw[hZ]at hiz;rw[hZ]at HIDS;clear hZ esc e1 e2;obtain⟨AZ,cZ,rfl,-⟩:=hiz.slice;have HZ10:Hid (xz w.1.size (.slice AZ Z.length cZ) Z w10):=hid (hiz.lower (Nat.le_trans HW7.out.size HB9.out.size));have HA10:=hid ((HA7.out.onB HB9.out).onB hb10);have HD10:=hid ((HD7.out.onB HB9.out).onB hb10);have HE10:=hid ((HE7.out.on HB9.out).on hb10);have HC10:=hid ((HC9.out.on HB9.out).on hb10);have HW10:=hid (qb HWX.out hb10);clear hiz hb10 HP9 HA7 HD7 HE7 HC9 HWX HW7 HB9 HR1 HR2
  go_upto_region 8 with(first
   | (refine qc rfl 78 rfl (vr z13) (HZ _).out ?_;intro W11 hW;have HC11:=hid (Blk.newL (L:=z13.map (Value.int .i64)) hW rfl);have HB11:=hid hW.bel;clear hW)
   | (refine qe rfl 78 _ _ rfl w10.1.size 0 (vr (aac ab)) rfl rfl (HC11.out.there 0 (vr (aac ab)).size (by unfold vr;rw[List.size_toArray,List.length_map,jf];decide)) (acz (jf _)) (aff _) ?_;intro W12 hs;have HC12:Hid (Blk W12 w10.1.size ((aac ab).map (Value.int .i64))):=hid (HC11.out.all hs (by rw[List.length_map,jf];rfl));have HB12:Hid (Below w10.1.size w10 W12):=hid (HB11.out.trans (hs.below (Nat.le_refl _)));clear hs))
  have HRA:=hid (HA10.out.onB HB12.out);have HRB:=hid (HD10.out.onB HB12.out);have HRZ:=hid (HZ10.out.onB HB12.out);have HC6:=hid (HE10.out.on HB12.out);have HC9:=hid (HC10.out.on HB12.out);have HW12:=hid (qb HW10.out HB12.out);clear HC11 HB11 HB12 HA10 HD10 HZ10 HE10 HC10 HW10;generalize w10.1.size=p12 at *;generalize xw (q6 a).1=X at *;generalize xw (q6 b).1=Y at *
  have HIJ:Hid (∃A1 c1 W2 A2 c2 W3,(Builtin.append_ #[75,75] 75 #[.slice (some ⟨W12.drew.1.size,0,none⟩) 0 0,.slice AX X.length cX]).run prog (W12.drew.alloc (.cells #[] 64))=.ok (.slice A1 X.length c1) W2 ∧
   (Builtin.append_ #[75,75] 75 #[.slice A1 X.length c1,.slice AY Y.length cY]).run prog W2=.ok (.slice A2 Z.length c2) W3∧xz w.1.size (.slice A2 Z.length c2) Z W3∧Below W12.drew.1.size W12.drew W2∧Below W12.drew.1.size W12.drew W3):=hid (by
    rw[← HZZ.out];exact bdj (HRA.out.onB (Below.refl _ _).drew) (HRB.out.onB (Below.refl _ _).drew) HW12.out.size HLZ.out)
  obtain⟨A1,c1,W13,A2,c2,W14,r1,r2,i9,b8,b9⟩:=HIJ.out;have HR1:=hid r1;have HR2:=hid r2;have hdr:Below W12.1.size W12 W12.drew:=(Below.refl _ _).drew;have HB8:Hid (Below W12.1.size W12 W13):=hid (hdr.trans b8);have HB9:Hid (Below W12.1.size W12 W14):=hid (hdr.trans b9);have HBA:Hid (Below W12.1.size W12 (W12.drew.alloc (.cells #[] 64))):=hid (hdr.trans (qa W12.drew _))
  have HIT:=hid (a4a cZ c2 (w:=W14) (A:=AZ) (B:=A2) (X:=Z) (by
   obtain⟨A',c',e,-,q⟩:=(HRZ.out.onB HB9.out).rowQ;injection e with e _ _
   rw[e];exact q) (by
   obtain⟨A',c',e,-,q⟩:=i9.rowQ;injection e with e _ _
   rw[e];exact q) HIDS.out (by rw[← HZZ.out,List.length_append];exact HLZ.out))
  have HSM:∀W,Hid (Calls prog 18 #[.agg (vr (aac a)),.agg (vr (aac b))] W fun e w'=>e=.returned (.agg (vr (aac ab)))∧Below W.1.size W w'):=fun W=>hid (by
   have:=avy (w:=W) (jf a) (jf b) HOKA.out.1 HOKA.out.2
   rwa [HJN.out]at this)
  clear r1 r2 i9 b8 b9 HIJ HRA HRB HRZ;generalize (q6 b).2.length=rb at *;refine wp_region_held_drew (S:=fun w'=>Below W12.1.size W12 w') kr hdr (fun hHeld0=>?_);refine tkA 0 59 rfl ?_
  try go_frame
  refine tkA 2 61 rfl ?_
  try go_frame
  refine tkA 4 63 rfl ?_
  try go_frame
  refine rdB 1 60 rfl fun K hK=>?_
  go_step
  try go_frame
  refine hK.out _ _ (HBA.out) (fun hHeld=>?_);clear hK K
  try go_frame
  refine rdB 3 62 rfl fun K hK=>?_
  refine jm _ _ 75 rfl _ _ _ rfl rfl HR1.out ?_
  try go_frame
  refine hK.out _ _ (HB8.out) (fun hHeld=>?_);clear hK K
  try go_frame
  refine rdB 5 64 rfl fun K hK=>?_
  refine jm _ _ 75 rfl _ _ _ rfl rfl HR2.out ?_
  try go_frame
  refine hK.out _ _ (HB9.out) (fun hHeld=>?_);clear hK K
  try go_frame
  refine rdB 6 65 rfl fun K hK=>?_
  go_step;refine HIT.out.mono ?_;rintro e w15 ⟨rfl,hb⟩;have HB15:Hid (Below W12.1.size W12 w15):=hid (HB9.out.trans (hb.mono HB9.out.size));clear hb
  try go_frame
  refine hK.out _ _ (HB15.out) (fun hHeld=>?_);clear hK K
  try go_frame
  refine tkA 7 66 rfl ?_
  try go_frame
  refine tkQ (i:=8) (oi:=⟨some 67,_,_,_,_,_⟩) (v:=_) rfl (yieldsIf_load_mid (by rfl) 78 _ rfl p12 0 rfl ((aac ab).map (Value.int .i64)) _ (fun w' hSw=>zl HC12.out.rg hSw HC12.out.lt) underlying78 rfl (afg (jf _))) ?_
  try go_frame
  refine tkQ (i:=9) (oi:=⟨some 68,_,_,_,_,_⟩) (v:=_) rfl (yieldsIf_load_mid (by rfl) 78 _ rfl p6 0 rfl ((aac a).map (Value.int .i64)) _ (fun w' hSw=>zl HC6.out.rg hSw HC6.out.lt) underlying78 rfl (afg (jf _))) ?_
  try go_frame
  refine tkQ (i:=10) (oi:=⟨some 69,_,_,_,_,_⟩) (v:=_) rfl (yieldsIf_load_mid (by rfl) 78 _ rfl p9 0 rfl ((aac b).map (Value.int .i64)) _ (fun w' hSw=>zl HC9.out.rg hSw HC9.out.lt) underlying78 rfl (afg (jf _))) ?_
  try go_frame
  refine rdB 11 70 rfl fun K hK=>?_
  go_step;refine(HSM w15).out.mono ?_;rintro e w16 ⟨rfl,hb⟩;have HB16:Hid (Below W12.1.size W12 w16):=hid (HB15.out.trans (hb.mono HB15.out.size));clear hb
  try go_frame
  refine hK.out _ _ (HB16.out) (fun hHeld=>?_);clear hK K
  try go_frame
  refine tkQ (i:=12) (oi:=⟨some 71,_,_,_,_,_⟩) (v:=.bool true) rfl (arf (by rfl) .eql 78 _ _ 78 rfl (u:=.agg (vr (aac ab))) (v:=.agg (vr (aac ab))) rfl rfl (fun w=>bc5 _ _ _ _ w) (fun w=>(HEQ w).out)) ?_
  try go_frame
  refine tkA 13 72 rfl ?_
  try go_frame
  refine tkA 14 73 rfl ?_
  try go_frame
  refine tkA 15 74 rfl ?_
  try go_frame
  refine tkA 16 75 rfl ?_
  try go_frame
  refine tkA 17 76 rfl ?_
  try go_frame
  refine tkA 18 77 rfl ?_
  try go_frame
  refine tkA 19 4 rfl ?_
  try go_frame
  refine wpAnyH_done kr ?_ _
  try go_frame
  go_wp2_with fail;go_ret;exact⟨rfl,HW12.out.trans (HB16.out.mono HW12.out.size)⟩
 ·have i3:(0:Int)<((q6 a).2.length:Int):=by omega
  have i4:((q6 a).2.length:Int) ≤(a.length:Int):=by omega
  have i5:(((q6 a).2.length:Int) != 0)=true:=by rw[bne_iff_ne];omega
  generalize (q6 a).2.length=ra at *;go_wp2_with fail;go_ret;exact⟨rfl,HW4.out⟩
theorem leftJoins_any (A:Option Addr) (c:Nat) (a:List UInt8) (B:Option Addr) (d:Nat) (b:List UInt8) (w:World) (hn:a.length≤maxLen) (hc:a.length≤c) (_:A=none→c=0) (fa:qf (fun k=>k<w.1.size) w A (bsV a)) (hm:b.length≤maxLen) (hd:b.length≤d) (_:B=none→d=0) (fb:qf (fun k=>k<w.1.size) w B (bsV b)) :
 Calls prog 5 #[.slice A a.length c,.slice B b.length d] w fun e w'=>e=.returned (.bool true)∧Below w.1.size w w':=by
 by_cases h:2000<a.length∨2000<b.length
 ·exact apw A c _ B d _ w hn hm h
 ·exact ang A c a B d b w om om hc hd fa fb
