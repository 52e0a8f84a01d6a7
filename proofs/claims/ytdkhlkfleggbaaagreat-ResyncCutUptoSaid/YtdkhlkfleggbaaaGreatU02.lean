/- Parts. -/
import Derived.Test.YtdkhlkfleggbaaaGreatU01
import Derived.StillTailTactics
namespace Go.Proofs.YtdkhlkfleggbaaaGreat
set_option maxHeartbeats 4000000
set_option maxRecDepth 8000
open Lib (hid)
open Tryz
set_option linter.unusedVariables false
open Go.RowKit
theorem ajl {P:Program} {ops:Array Oper} {rest:List Oper} {o:Oper} {a:Act} {w:World} {Q:Exit→Act→World→Prop} (hgd:o.guard=none) (t:TypeId) (i j k:Nat) (x y z:Operand) (ho:o.op=.build t #[(i,x),(j,y),(k,z)]) {u u' u'' v:Value} (hx:a.eval x=u) (hy:a.eval y=u') (hz:a.eval z=u'') (hr:(Instr.build t #[(i,u),(j,u'),(k,u'')]).run P w=.ok v w)
 (h:wpList P ops Q rest (a.put o.dst v) w):wpList P ops Q (o::rest) a w:=abd hgd t _ ho #[(i,u),(j,u'),(k,u'')] (by simp[hx,hy,hz]) hr h
theorem a85 (w:World):(Instr.build 64 #[(2,.agg aaw)]).run prog w=.ok (.agg adl) w:=by kernel_rfl
theorem a72:adl.all (·.oneCell')=true:=by decide +kernel
theorem a73:(prog.info? 64).map (·.size)=some adl.size:=by kernel_rfl
theorem bat {w:World} {V:Value} (n E:Int) (HF:∀W,Below w.1.size w W→Hid (Calls prog 42 #[V] W fun e w'=>e=.returned (.tuple #[.agg aaw,.int .i64 n,.int .i64 E])∧Below W.1.size W w')) :
 Calls prog 41 #[V] w fun e w'=>e=.returned (.tuple #[.agg adl,.int .i64 n,.int .i64 E])∧Below w.1.size w w':=by
 have HZ:=fun W=>hid (acy W)
 have HZU:=fun W=>hid (aft W)
 have HB0:=fun W=>hid (a85 W)
 go_enter func41,ntmps41;go_wp2_with (refine qc rfl 64 rfl adl (HZ _).out ?_;intro W1 hW1;have HK1:=hid (Blk.newL (L:=adm) hW1 rfl);have HB1:=hid hW1.bel;clear hW1);refine(HF _ HB1.out).out.mono ?_;rintro e w1 ⟨rfl,hb⟩;have HK2:=hid (HK1.out.on hb);have HB2:=hid (qb HB1.out hb);clear hb HB1 HK1 HF
 go_wp2_with (first
  | (refine qc rfl 38 rfl aaw (HZU _).out ?_;intro W2 hW2;have HU2:=hid (Blk.newL (L:=jt) hW2 rfl);have HK3:=hid (HK2.out.on hW2.bel);have HB3:=hid (qb HB2.out hW2.bel);have HL2:=hid (hW2.sz);clear hW2)
  | (refine qe rfl 38 _ _ rfl w1.1.size 0 aaw rfl rfl (HU2.out.there 0 48 (a8 _)) kr (by decide +kernel) ?_;intro W3 hs;have HU3:=hid (HU2.out.all hs rfl);have HK4:=hid (HK3.out.far hs (by have:=HK2.out.lt;omega));have HB4:=hid (HB3.out.trans (hs.below HB2.out.size));clear hs)
  | refine b0i rfl 38 _ rfl w1.1.size 0 rfl jt _ HU3.out.rg underlying38 rfl kr ?_
  | refine zh (u:=.agg aaw) rfl 64 2 _ rfl rfl (HB0 _).out ?_
  | (refine qe rfl 64 _ _ rfl w.1.size 0 adl rfl rfl (HK4.out.there 0 120 (a8 _)) a73 a72 ?_;intro W5 hs;have HK5:=hid (HK4.out.all hs rfl);have HB5:=hid (HB4.out.trans (hs.below (a8 _)));clear hs))
 have HLD:=hid (t6 (P:=prog) W5 w.1.size 0 64 adl.toList _ HK5.out.rg underlying64 rfl kr);refine b9 (v:=.tuple #[.agg adl,.int .i64 n,.int .i64 E]) (by rw[zl rfl];simp[asAddr,Result.andThen,HLD.out]) rfl ⟨rfl,HB5.out⟩
theorem atd (F:Nat) (W:World):(Instr.field 94 (.agg #[.func (Fn.func F) #[] #[]]) 0).run prog W=.ok (.func (Fn.func F) #[] #[]) W:=by kernel_rfl
theorem bdj (p:Int) (x:Value) (W:World):(callFunc (aqc p) #[x]).run prog W=.ok (.enter (aqc p) #[x]) W:=by
 unfold aqc
 split
 ·kernel_rfl
 split
 ·kernel_rfl
 ·kernel_rfl
def aoj (d p n e:Int) (w:World) (r:Ending) (w':World):Prop:=r=.returned (.agg (veA d p n e))∧Below w.1.size w w'
theorem bar (A:Option Addr) (c:Nat) (w:World):Calls prog 10 #[.slice A 0 c] w (aoj 0 0 0 0 w):=by
 have HZ:=fun W=>hid (aex W)
 have HB0:=fun W=>hid (a86 W)
 go_enter func10,ntmps10
 go_wp2_with (first
  | (refine qc rfl 66 rfl (veA 0 0 0 0) (HZ _).out ?_;intro W1 hW1;have HK1:=hid (Blk.newL (L:=veL 0 0 0 0 adm) hW1 rfl);have HB1:=hid hW1.bel;clear hW1)
  | refine zo rfl 66 rfl (HB0 _).out ?_
  | (refine qe rfl 66 _ _ rfl w.1.size 0 (veA 0 0 0 0) rfl rfl (HK1.out.there 0 124 (a8 _)) (ags _ _ _ _) (agr _ _ _ _) ?_;intro W5 hs;have HK5:=hid (HK1.out.all hs rfl);have HB5:=hid (HB1.out.trans (hs.below (a8 _)));clear hs))
 try go_frame
 have HLD:=hid (t6 (P:=prog) W5 w.1.size 0 66 (veA 0 0 0 0).toList _ HK5.out.rg underlying66 rfl kr);refine b9 (v:=.agg (veA 0 0 0 0)) (by rw[yk rfl];simp[asAddr,Result.andThen,HLD.out]) rfl ⟨rfl,HB5.out⟩
theorem a5j {Q:Nat→Prop} {w:World} (A:Option Addr) (c:Nat) (x:UInt8) (l:List UInt8) (h:qf Q w A (bsV (x::l))) (hp:xr x=0) (hm:(x::l).length≤maxLen) :
 Calls prog 10 #[.slice A (x::l).length c] w (aoj 1 0 0 3 w):=by
 unfold maxLen at hm;have HZ:=fun W=>hid (aex W)
 have HB0:=fun W=>hid (a3t W)
 have HP:∀W,Hid (Calls prog 13 #[.int .u8 (x.toNat:Int)] W fun e w'=>e=.returned (.int .i64 0)∧W=w'):=fun W=>hid (by have:=aii x W;rw[hp]at this;exact this)
 obtain⟨b,off,rfl,-,hc⟩:=h 0 (bV x) rfl;have hb:=aa3 hc;have HC:∀W,Below w.1.size w W→Hid (W.cell? ⟨b,off,none⟩=some (.int .u8 (x.toNat:Int))):=fun W hW=>hid ((hW.cell (p:=⟨b,off+0,none⟩) hb).trans hc)
 have hl:(0:Int)<((x::l).length:Int):=by simp only[n7];omega
 generalize (x::l).length=L at *;have hl0:((L:Int)==0)=false:=by rw[l6];omega
 clear hc hb hp h;go_enter func10,ntmps10;go_upto_region 3 with(refine qc rfl 66 rfl (veA 0 0 0 0) (HZ _).out ?_;intro W1 hW1;have HK1:=hid (Blk.newL (L:=veL 0 0 0 0 adm) hW1 rfl);have HB1:=hid hW1.bel;clear hW1)
 have c0:=(HC _ HB1.out).out
 go_wp2_with (first
  | (refine(HP _).out.mono ?_;rintro e w' ⟨rfl,rfl⟩)
  | refine acx (u:=.int .i64 1) (u':=.int .i64 3) rfl 66 0 3 _ _ rfl rfl rfl (HB0 _).out ?_
  | (refine qe rfl 66 _ _ rfl w.1.size 0 (veA 1 0 0 3) rfl rfl (HK1.out.there 0 124 (a8 _)) (ags _ _ _ _) (agr _ _ _ _) ?_;intro W5 hs;have HK5:=hid (HK1.out.all hs rfl);have HB5:=hid (HB1.out.trans (hs.below (a8 _)));clear hs))
 try go_frame
 have HLD:=hid (t6 (P:=prog) W5 w.1.size 0 66 (veA 1 0 0 3).toList _ HK5.out.rg underlying66 rfl kr);refine b9 (v:=.agg (veA 1 0 0 3)) (by rw[yk rfl];simp[asAddr,Result.andThen,HLD.out]) rfl ⟨rfl,HB5.out⟩
theorem bfo {Q:Nat→Prop} {w:World} (A:Option Addr) (c:Nat) (x:UInt8) (l:List UInt8) (p E:Int) (h:qf Q w A (bsV (x::l))) (hp:xr x=p) (hp0:p≠0) (hE:E≠0) (hm:(x::l).length≤maxLen)
 (HF:∀W,Below w.1.size w W→Hid (Calls prog (aqc p) #[.slice A (x::l).length c] W fun e w'=>e=.returned (.tuple #[.agg adl,.int .i64 0,.int .i64 E])∧Below W.1.size W w')) :
 Calls prog 10 #[.slice A (x::l).length c] w (aoj (if E=2 then 0 else 1) p 0 (if E=2 then 0 else E) w):=by
 unfold maxLen at hm;have HZ:=fun W=>hid (aex W)
 have HZI:=fun W=>hid (acy W)
 have HB1:=fun W=>hid (apm 0 p W)
 have HB2:=fun W=>hid (amu 1 p E W)
 have HP:∀W,Hid (Calls prog 13 #[.int .u8 (x.toNat:Int)] W fun e w'=>e=.returned (.int .i64 p)∧W=w'):=fun W=>hid (by have:=aii x W;rw[hp]at this;exact this)
 have HO:∀W,Hid (Calls prog 26 #[.int .i64 p] W fun e w'=>e=.returned (.agg #[.func (Fn.func (aqc p)) #[] #[]])∧Below W.1.size W w'):=fun W=>hid (atx p W)
 obtain⟨b,off,rfl,-,hc⟩:=h 0 (bV x) rfl;have hb:=aa3 hc;have HC:∀W,Below w.1.size w W→Hid (W.cell? ⟨b,off,none⟩=some (.int .u8 (x.toNat:Int))):=fun W hW=>hid ((hW.cell (p:=⟨b,off+0,none⟩) hb).trans hc)
 have hl:(0:Int)<((x::l).length:Int):=by simp only[n7];omega
 generalize (x::l).length=L at *;have HCL:=fun x W=>bdj p x W
 generalize aqc p=F at *;have hl0:((L:Int)==0)=false:=by rw[l6];omega
 have hpb:(p==0)=false:=by rw[l6];exact hp0
 have heb:(E==0)=false:=by rw[l6];exact hE
 have heb2:(E != 0)=true:=by rw[b0g];exact hE
 obtain⟨d,hd⟩:∃d:Int,(if E=2 then 0 else 1)=d:=⟨_,rfl⟩;obtain⟨f,hf⟩:∃f:Int,(if E=2 then 0 else E)=f:=⟨_,rfl⟩;rw[hd,hf];have HDF:=hid (o4 hd hf);clear hc hb hp h hp0 hE hd hf;have HFD:=fun W=>atd F W
 go_enter func10,ntmps10;go_upto_region 3 with(refine qc rfl 66 rfl (veA 0 0 0 0) (HZ _).out ?_;intro W1 hW1;have HK1:=hid (Blk.newL (L:=veL 0 0 0 0 adm) hW1 rfl);have HBB1:=hid hW1.bel;clear hW1)
 have c0:=(HC _ HBB1.out).out;go_wp2_with (refine(HP _).out.mono ?_;rintro e w' ⟨rfl,rfl⟩);refine(HO _).out.mono ?_;rintro e w2 ⟨rfl,hb⟩;have HK2:=hid (HK1.out.on hb);have HBB2:=hid (qb HBB1.out hb);clear hb HK1 HBB1 c0 HO;go_wp2_with fail;refine(HF _ HBB2.out).out.mono ?_;rintro e w3 ⟨rfl,hb⟩;have HK3:=hid (HK2.out.on hb);have HBB3:=hid (qb HBB2.out hb);clear hb HK2 HBB2 HF
 go_upto_region 7 with(first
  | (refine qc rfl 64 rfl adl (HZI _).out ?_;intro W4 hW;have HI4:=hid (Blk.newL (L:=adm) hW rfl);have HK4:=hid (HK3.out.on hW.bel);have HBB4:=hid (qb HBB3.out hW.bel);clear hW)
  | (refine qe rfl 64 _ _ rfl w3.1.size 0 adl rfl rfl (HI4.out.there 0 120 (a8 _)) a73 a72 ?_;intro W5 hs;have HI5:=hid (HI4.out.all hs rfl);have HK5:=hid (HK4.out.far hs (by have:=HK3.out.lt;omega));have HBB5:=hid (HBB4.out.trans (hs.below HBB3.out.size));clear hs))
 have i0:=HI5.out.cell 0 (v:=.int .i64 0) rfl;have j0:=HI5.out.fz 0;have hst:qp W5 (W5.setCell ⟨w3.1.size,0,none⟩ (.int .i64 p)) w3.1.size 0 [.int .i64 p]:=ze (HI5.out.there 0 1 dc);have HK6:Hid (Blk (W5.setCell ⟨w3.1.size,0,none⟩ (.int .i64 p)) w.1.size (veL 0 0 0 0 adm)):=hid (HK5.out.far hst (by have:=HK3.out.lt;omega));have HBB6:Hid (Below w.1.size w (W5.setCell ⟨w3.1.size,0,none⟩ (.int .i64 p))):=hid (HBB5.out.trans (hst.below HBB3.out.size));clear hst HK5 HBB5 HBB4 HK4 HI4;go_upto_region 8 with fail;clear i0 j0 HI5;generalize W5.setCell ⟨w3.1.size,0,none⟩ (.int .i64 p)=W6 at *
 by_cases h2:E=2
 ·subst h2;obtain⟨rfl,rfl⟩:=HDF.out
  go_wp2_with (first
   | refine acx (u:=.int .i64 0) (u':=.int .i64 p) rfl 66 0 1 _ _ rfl rfl rfl (HB1 _).out ?_
   | (refine qe rfl 66 _ _ rfl w.1.size 0 (veA 0 p 0 0) rfl rfl (HK6.out.there 0 124 (a8 _)) (ags _ _ _ _) (agr _ _ _ _) ?_;intro W7 hs;have HK7:=hid (HK6.out.all hs rfl);have HB7:=hid (HBB6.out.trans (hs.below (a8 _)));clear hs))
  try go_frame
  have HLD:=hid (t6 (P:=prog) W7 w.1.size 0 66 (veA 0 p 0 0).toList _ HK7.out.rg underlying66 rfl kr);refine b9 (v:=.agg (veA 0 p 0 0)) (by rw[yk rfl];simp[asAddr,Result.andThen,HLD.out]) rfl ⟨rfl,HB7.out⟩
 ·have he2:(E==2)=false:=by rw[l6];exact h2
  have e1:=HDF.out.1;have e2:=HDF.out.2;rw[if_neg h2]at e1 e2;subst e1 e2;clear h2 HDF
  go_wp2_with (first
   | refine ajl (u:=.int .i64 1) (u':=.int .i64 p) (u'':=.int .i64 E) rfl 66 0 1 3 _ _ _ rfl rfl rfl rfl (HB2 _).out ?_
   | (refine qe rfl 66 _ _ rfl w.1.size 0 (veA 1 p 0 E) rfl rfl (HK6.out.there 0 124 (a8 _)) (ags _ _ _ _) (agr _ _ _ _) ?_;intro W7 hs;have HK7:=hid (HK6.out.all hs rfl);have HB7:=hid (HBB6.out.trans (hs.below (a8 _)));clear hs))
  try go_frame
  have HLD:=hid (t6 (P:=prog) W7 w.1.size 0 66 (veA 1 p 0 E).toList _ HK7.out.rg underlying66 rfl kr);refine b9 (v:=.agg (veA 1 p 0 E)) (by rw[yk rfl];simp[asAddr,Result.andThen,HLD.out]) rfl ⟨rfl,HB7.out⟩
theorem zm {fn:Func} {p u:Tmp} {ty:TypeId} (h:fn.results=#[.cell p ty,.tmp u]) (tmps:Array Value) (P:Program) (w:World) :
 (results fn tmps).run P w =
  ((asAddr (tmps.getD p undef)).run P w).andThen fun a w₁=>((loadVar ty a).run P w₁).andThen fun v' w₂=>.ok (.tuple #[v',tmps.getD u undef]) w₂:=by
 simp only[results,h];simp[Result.andThen]
theorem ail {Q0:Nat→Prop} {w:World} {fs:List Fld} {b:List UInt8} {X:Option Addr} {d:Nat} (hr:fs.all yu=true) (hn:fs.length≤1000) (hB:qf Q0 w X (bsV b)) (hm:b.length≤1000000) :
 ∀A c W1 W2,Below w.1.size w W1→qf (fun b=>W1.1.size≤b∧b<W2.1.size) W2 A (acl fs)→Below W1.1.size W1 W2→Hid (Calls prog 91 #[.slice A fs.length c,.slice X b.length d] W2 (ky (xk fs b) W2)):=fun A c W1 W2 h1 hA h2=>
 hid (ang A X c d fs b (hA.less fun b q=>q.2) hr hn (hB.lt.below (qb h1 h2) (fun b q=>q.2)) hm)
theorem abv {fs:List Fld} {b:List UInt8} (h:(xk fs b).1=0):(xk fs b).2.length=fs.length:=by
 unfold xk at *
 split at h
 ·simp at h
 ·rename_i h1
  split at h
  ·simp at h
  ·rename_i h2;rw[if_neg h1,if_neg h2];cases ht:aan fs b with
   | none=>rw[ht]at h;simp at h
   | some v=>exact ami fs b ht
theorem alg:∀(l:List Fld) (b:List UInt8) {v:List Int},aan l b=some v→∀k (hk:k<l.length),∃x,v[k]?=some x∧l[k].lo≤x∧x≤l[k].hi
 | [],_,v,_,k,hk=>absurd hk (b0v _)
 | f::l,b,v,h,k,hk=>by
  unfold aan at h
  split at h
  ·rename_i hx;obtain⟨v',h',rfl⟩:=b2u.1 h;cases k with
   | zero=>exact⟨_,rfl,hx⟩
   | succ k=>exact alg l _ h' k (by simpa using hk)
  ·cases h
theorem ald {fs:List Fld} {b:List UInt8} (h:(xk fs b).1=0):aan fs b=some (xk fs b).2:=by
 unfold xk at *
 split at h
 ·simp at h
 ·rename_i h1
  split at h
  ·simp at h
  ·rename_i h2;rw[if_neg h1,if_neg h2];cases ht:aan fs b with
   | none=>rw[ht]at h;simp at h
   | some v=>rfl
theorem afe {w:World} {Q:Nat→Prop} {A:Option Addr} {v:List Int} (h:qf Q w A (qr v)) (hl:0<v.length):∃b off,A=some ⟨b,off,none⟩∧Q b∧b<w.1.size∧∀k (hk:k<v.length),w.cell? ⟨b,off+k,none⟩=some (.int .i64 v[k]):=by
 have e:∀k (hk:k<v.length),(qr v)[k]?=some (.int .i64 v[k]):=fun k hk=>by unfold qr;rw[b0m,c8 hk];rfl
 obtain⟨b,off,hA,hb,h0⟩:=h 0 _ (e 0 hl);refine⟨b,off,hA,hb,aa3 h0,fun k hk=>?_⟩;obtain⟨b',off',hA',-,h1⟩:=h k _ (e k hk);rw[hA]at hA';injection hA' with hA';injection hA' with q1 q2;subst q1 q2
 exact h1
def ahd (b:List UInt8):Int×List Int:=if(xk alz b).1=0 then xk alz b else((xk alz b).1,List.replicate 8 0)
theorem bmo (w:World):(zeroValue 31).run prog w=.ok (.agg #[.int .i64 0,.int .i64 0,.int .i64 0,.int .i64 0,.int .i64 0,.int .i64 0,.int .i64 0,.int .i64 0]) w:=by kernel_rfl
theorem bkx (w:World):(Instr.build 31 #[]).run prog w=.ok (.agg #[.int .i64 0,.int .i64 0,.int .i64 0,.int .i64 0,.int .i64 0,.int .i64 0,.int .i64 0,.int .i64 0]) w:=by kernel_rfl
theorem ay9 {Q0:Nat→Prop} {w:World} (X:Option Addr) (d:Nat) (b:List UInt8) (hB:qf Q0 w X (bsV b)) (hm:b.length≤1000000) :
 Calls prog 277 #[.slice X b.length d] w fun e w'=>e=.returned (.tuple #[.agg (qr (ahd b).2).toArray,.int .i64 (ahd b).1])∧Below w.1.size w w':=by
 have HF:=fun W=>hid (ar7 W)
 have HS:=ail (d:=d) apu dc hB hm;have HZ:=fun W=>hid (bmo W)
 have HB0:=fun W=>hid (bkx W)
 have HLN:=hid (fun h=>(abv (fs:=alz) (b:=b) h));unfold ahd;obtain⟨⟨E,v⟩,hr⟩:∃r,xk alz b=r:=⟨_,rfl⟩;rw[hr]at HS HLN ⊢;dsimp only at *;generalize hL:b.length=L at *;unfold ac5 at HF;rw[show alz.length=8 from rfl]at *;clear hB hr hL
 by_cases hE:E=0
 ·subst hE;have hl:=HLN.out rfl
  obtain⟨x0,x1,x2,x3,x4,x5,x6,x7,rfl⟩:∃x0 x1 x2 x3 x4 x5 x6 x7,v=[x0,x1,x2,x3,x4,x5,x6,x7]:=by
   rcases v with _|⟨a0,_|⟨a1,_|⟨a2,_|⟨a3,_|⟨a4,_|⟨a5,_|⟨a6,_|⟨a7,_|⟨z,_⟩⟩⟩⟩⟩⟩⟩⟩⟩<;>first|exact⟨_,_,_,_,_,_,_,_,rfl⟩|(simp at hl)
  rw[if_pos rfl];clear hl HLN;show Calls prog _ _ w fun e w'=>e=.returned (.tuple #[.agg #[.int .i64 x0,.int .i64 x1,.int .i64 x2,.int .i64 x3,.int .i64 x4,.int .i64 x5,.int .i64 x6,.int .i64 x7],.int .i64 0])∧Below w.1.size w w'
  go_enter func277,ntmps277;go_wp2_with (refine qc rfl 31 rfl #[.int .i64 0,.int .i64 0,.int .i64 0,.int .i64 0,.int .i64 0,.int .i64 0,.int .i64 0,.int .i64 0] (HZ _).out ?_;intro W1 hW1;have HK1:=hid (Blk.newL (L:=[.int .i64 0,.int .i64 0,.int .i64 0,.int .i64 0,.int .i64 0,.int .i64 0,.int .i64 0,.int .i64 0]) hW1 rfl);have HB1:=hid hW1.bel;clear hW1);refine(HF _).out.mono ?_;rintro e w2 ⟨A,c,rfl,hf,hb⟩;have HT:=HS _ c _ _ HB1.out hf hb;have HK2:=hid (HK1.out.on hb);have HB2:=hid (qb HB1.out hb);clear hf hb HS HK1 HB1;go_wp2_with fail;refine HT.out.mono ?_;rintro e w3 ⟨A3,c3,rfl,hf,hb⟩;have HFL:=hid hf;have HK3:=hid (HK2.out.on hb);have HB3:=hid (qb HB2.out hb);clear hf hb HK2 HB2 HT;obtain⟨ab,ao,rfl,-,hablt,hcell⟩:=afe HFL.out sm;have HCE:Hid (∀W,Below w3.1.size w3 W→W.cell? ⟨ab,ao,none⟩=some (.int .i64 x0)∧W.cell? ⟨ab,ao+1,none⟩=some (.int .i64 x1)∧W.cell? ⟨ab,ao+2,none⟩=some (.int .i64 x2)∧W.cell? ⟨ab,ao+3,none⟩=some (.int .i64 x3)∧W.cell? ⟨ab,ao+4,none⟩=some (.int .i64 x4)∧W.cell? ⟨ab,ao+5,none⟩=some (.int .i64 x5)∧W.cell? ⟨ab,ao+6,none⟩=some (.int .i64 x6)∧W.cell? ⟨ab,ao+7,none⟩=some (.int .i64 x7)):=hid fun W hW=>⟨(hW.cell (p:=⟨ab,ao,none⟩) hablt).trans (hcell 0 sm),(hW.cell (p:=⟨ab,ao+1,none⟩) hablt).trans (hcell 1 sm),(hW.cell (p:=⟨ab,ao+2,none⟩) hablt).trans (hcell 2 sm),(hW.cell (p:=⟨ab,ao+3,none⟩) hablt).trans (hcell 3 sm),(hW.cell (p:=⟨ab,ao+4,none⟩) hablt).trans (hcell 4 sm),(hW.cell (p:=⟨ab,ao+5,none⟩) hablt).trans (hcell 5 sm),(hW.cell (p:=⟨ab,ao+6,none⟩) hablt).trans (hcell 6 sm),(hW.cell (p:=⟨ab,ao+7,none⟩) hablt).trans (hcell 7 sm)⟩
  clear hcell;go_upto_region 4 with fail;have cc:=HCE.out w3.drew ((n6 _ _).drew);obtain⟨cc0,cc1,cc2,cc3,cc4,cc5,cc6,cc7⟩:=cc
  go_still_tail 25,kr
  change wpList _ _ _ _ _ w3.drew;clear cc0 cc1 cc2 cc3 cc4 cc5 cc6 cc7;have HK4:Hid (Blk w3.drew w.1.size [.int .i64 0,.int .i64 0,.int .i64 0,.int .i64 0,.int .i64 0,.int .i64 0,.int .i64 0,.int .i64 0]):=hid HK3.out.drew;have HB4:Hid (Below w.1.size w w3.drew):=hid HB3.out.drew;generalize w3.drew=w4 at *;have g0:=HK4.out.cell 0 (v:=.int .i64 0) rfl;have z0:=HK4.out.fz 0;have g1:=HK4.out.cell 1 (v:=.int .i64 0) rfl;have z1:=HK4.out.fz 1;have g2:=HK4.out.cell 2 (v:=.int .i64 0) rfl;have z2:=HK4.out.fz 2;have g3:=HK4.out.cell 3 (v:=.int .i64 0) rfl;have z3:=HK4.out.fz 3;have g4:=HK4.out.cell 4 (v:=.int .i64 0) rfl;have z4:=HK4.out.fz 4;have g5:=HK4.out.cell 5 (v:=.int .i64 0) rfl;have z5:=HK4.out.fz 5;have g6:=HK4.out.cell 6 (v:=.int .i64 0) rfl;have z6:=HK4.out.fz 6;have g7:=HK4.out.cell 7 (v:=.int .i64 0) rfl;have z7:=HK4.out.fz 7;go_wp2_with fail;have hs:qp w4 (((((((((w4.setCell ⟨w.1.size,0,none⟩ (.int .i64 x0)).setCell ⟨w.1.size,1,none⟩ (.int .i64 x1)).setCell ⟨w.1.size,2,none⟩ (.int .i64 x2)).setCell ⟨w.1.size,3,none⟩ (.int .i64 x3)).setCell ⟨w.1.size,4,none⟩ (.int .i64 x4)).setCell ⟨w.1.size,5,none⟩ (.int .i64 x5)).setCell ⟨w.1.size,6,none⟩ (.int .i64 x6)).setCell ⟨w.1.size,7,none⟩ (.int .i64 x7))) w.1.size 0 [.int .i64 x0,.int .i64 x1,.int .i64 x2,.int .i64 x3,.int .i64 x4,.int .i64 x5,.int .i64 x6,.int .i64 x7]:=qo (cs:=[.int .i64 x0,.int .i64 x1,.int .i64 x2,.int .i64 x3,.int .i64 x4,.int .i64 x5,.int .i64 x6,.int .i64 x7]) (HK4.out.there 0 8 (a8 _))
  have HK5:Hid (Blk (((((((((w4.setCell ⟨w.1.size,0,none⟩ (.int .i64 x0)).setCell ⟨w.1.size,1,none⟩ (.int .i64 x1)).setCell ⟨w.1.size,2,none⟩ (.int .i64 x2)).setCell ⟨w.1.size,3,none⟩ (.int .i64 x3)).setCell ⟨w.1.size,4,none⟩ (.int .i64 x4)).setCell ⟨w.1.size,5,none⟩ (.int .i64 x5)).setCell ⟨w.1.size,6,none⟩ (.int .i64 x6)).setCell ⟨w.1.size,7,none⟩ (.int .i64 x7))) w.1.size [.int .i64 x0,.int .i64 x1,.int .i64 x2,.int .i64 x3,.int .i64 x4,.int .i64 x5,.int .i64 x6,.int .i64 x7]):=hid (HK4.out.all hs rfl);have HB5:Hid (Below w.1.size w (((((((((w4.setCell ⟨w.1.size,0,none⟩ (.int .i64 x0)).setCell ⟨w.1.size,1,none⟩ (.int .i64 x1)).setCell ⟨w.1.size,2,none⟩ (.int .i64 x2)).setCell ⟨w.1.size,3,none⟩ (.int .i64 x3)).setCell ⟨w.1.size,4,none⟩ (.int .i64 x4)).setCell ⟨w.1.size,5,none⟩ (.int .i64 x5)).setCell ⟨w.1.size,6,none⟩ (.int .i64 x6)).setCell ⟨w.1.size,7,none⟩ (.int .i64 x7)))):=hid (HB4.out.trans (hs.below (a8 _)))
  clear hs g0 z0 g1 z1 g2 z2 g3 z3 g4 z4 g5 z5 g6 z6 g7 z7;generalize ((((((((w4.setCell ⟨w.1.size,0,none⟩ (.int .i64 x0)).setCell ⟨w.1.size,1,none⟩ (.int .i64 x1)).setCell ⟨w.1.size,2,none⟩ (.int .i64 x2)).setCell ⟨w.1.size,3,none⟩ (.int .i64 x3)).setCell ⟨w.1.size,4,none⟩ (.int .i64 x4)).setCell ⟨w.1.size,5,none⟩ (.int .i64 x5)).setCell ⟨w.1.size,6,none⟩ (.int .i64 x6)).setCell ⟨w.1.size,7,none⟩ (.int .i64 x7))=W5 at *;have HLD:=hid (t6 (P:=prog) W5 w.1.size 0 31 [.int .i64 x0,.int .i64 x1,.int .i64 x2,.int .i64 x3,.int .i64 x4,.int .i64 x5,.int .i64 x6,.int .i64 x7] _ HK5.out.rg underlying31 rfl kr);exact b9 (v:=.tuple #[.agg #[.int .i64 x0,.int .i64 x1,.int .i64 x2,.int .i64 x3,.int .i64 x4,.int .i64 x5,.int .i64 x6,.int .i64 x7],.int .i64 0]) (by rw[zm rfl];simp[asAddr,Result.andThen];rw[HLD.out]) rfl ⟨rfl,HB5.out⟩
 ·have hE2:(E != 0)=true:=by rw[b0g];exact hE
  have hE3:(E==0)=false:=by rw[l6];exact hE
  rw[if_neg hE];clear HLN;clear hE;show Calls prog _ _ w fun e w'=>e=.returned (.tuple #[.agg #[.int .i64 0,.int .i64 0,.int .i64 0,.int .i64 0,.int .i64 0,.int .i64 0,.int .i64 0,.int .i64 0],.int .i64 E])∧Below w.1.size w w'
  go_enter func277,ntmps277;go_wp2_with (refine qc rfl 31 rfl #[.int .i64 0,.int .i64 0,.int .i64 0,.int .i64 0,.int .i64 0,.int .i64 0,.int .i64 0,.int .i64 0] (HZ _).out ?_;intro W1 hW1;have HK1:=hid (Blk.newL (L:=[.int .i64 0,.int .i64 0,.int .i64 0,.int .i64 0,.int .i64 0,.int .i64 0,.int .i64 0,.int .i64 0]) hW1 rfl);have HB1:=hid hW1.bel;clear hW1);refine(HF _).out.mono ?_;rintro e w2 ⟨A,c,rfl,hf,hb⟩;have HT:=HS _ c _ _ HB1.out hf hb;have HK2:=hid (HK1.out.on hb);have HB2:=hid (qb HB1.out hb);clear hf hb HS HK1 HB1;go_wp2_with fail;refine HT.out.mono ?_;rintro e w3 ⟨A3,c3,rfl,hf,hb⟩;have HFL:=hid hf;have HK3:=hid (HK2.out.on hb);have HB3:=hid (qb HB2.out hb);clear hf hb HK2 HB2 HT;have g0:=HK3.out.cell 0 (v:=.int .i64 0) rfl;have z0:=HK3.out.fz 0;have g1:=HK3.out.cell 1 (v:=.int .i64 0) rfl;have z1:=HK3.out.fz 1;have g2:=HK3.out.cell 2 (v:=.int .i64 0) rfl;have z2:=HK3.out.fz 2
  have g3:=HK3.out.cell 3 (v:=.int .i64 0) rfl;have z3:=HK3.out.fz 3;have g4:=HK3.out.cell 4 (v:=.int .i64 0) rfl;have z4:=HK3.out.fz 4;have g5:=HK3.out.cell 5 (v:=.int .i64 0) rfl;have z5:=HK3.out.fz 5;have g6:=HK3.out.cell 6 (v:=.int .i64 0) rfl;have z6:=HK3.out.fz 6;have g7:=HK3.out.cell 7 (v:=.int .i64 0) rfl;have z7:=HK3.out.fz 7;go_wp2_with fail;have hs:qp w3 (((((((((w3.setCell ⟨w.1.size,0,none⟩ (.int .i64 0)).setCell ⟨w.1.size,1,none⟩ (.int .i64 0)).setCell ⟨w.1.size,2,none⟩ (.int .i64 0)).setCell ⟨w.1.size,3,none⟩ (.int .i64 0)).setCell ⟨w.1.size,4,none⟩ (.int .i64 0)).setCell ⟨w.1.size,5,none⟩ (.int .i64 0)).setCell ⟨w.1.size,6,none⟩ (.int .i64 0)).setCell ⟨w.1.size,7,none⟩ (.int .i64 0))) w.1.size 0 [.int .i64 0,.int .i64 0,.int .i64 0,.int .i64 0,.int .i64 0,.int .i64 0,.int .i64 0,.int .i64 0]:=qo (cs:=[.int .i64 0,.int .i64 0,.int .i64 0,.int .i64 0,.int .i64 0,.int .i64 0,.int .i64 0,.int .i64 0]) (HK3.out.there 0 8 (a8 _))
  have HK5:Hid (Blk (((((((((w3.setCell ⟨w.1.size,0,none⟩ (.int .i64 0)).setCell ⟨w.1.size,1,none⟩ (.int .i64 0)).setCell ⟨w.1.size,2,none⟩ (.int .i64 0)).setCell ⟨w.1.size,3,none⟩ (.int .i64 0)).setCell ⟨w.1.size,4,none⟩ (.int .i64 0)).setCell ⟨w.1.size,5,none⟩ (.int .i64 0)).setCell ⟨w.1.size,6,none⟩ (.int .i64 0)).setCell ⟨w.1.size,7,none⟩ (.int .i64 0))) w.1.size [.int .i64 0,.int .i64 0,.int .i64 0,.int .i64 0,.int .i64 0,.int .i64 0,.int .i64 0,.int .i64 0]):=hid (HK3.out.all hs rfl);have HB5:Hid (Below w.1.size w (((((((((w3.setCell ⟨w.1.size,0,none⟩ (.int .i64 0)).setCell ⟨w.1.size,1,none⟩ (.int .i64 0)).setCell ⟨w.1.size,2,none⟩ (.int .i64 0)).setCell ⟨w.1.size,3,none⟩ (.int .i64 0)).setCell ⟨w.1.size,4,none⟩ (.int .i64 0)).setCell ⟨w.1.size,5,none⟩ (.int .i64 0)).setCell ⟨w.1.size,6,none⟩ (.int .i64 0)).setCell ⟨w.1.size,7,none⟩ (.int .i64 0)))):=hid (HB3.out.trans (hs.below (a8 _)))
  clear hs g0 z0 g1 z1 g2 z2 g3 z3 g4 z4 g5 z5 g6 z6 g7 z7;generalize ((((((((w3.setCell ⟨w.1.size,0,none⟩ (.int .i64 0)).setCell ⟨w.1.size,1,none⟩ (.int .i64 0)).setCell ⟨w.1.size,2,none⟩ (.int .i64 0)).setCell ⟨w.1.size,3,none⟩ (.int .i64 0)).setCell ⟨w.1.size,4,none⟩ (.int .i64 0)).setCell ⟨w.1.size,5,none⟩ (.int .i64 0)).setCell ⟨w.1.size,6,none⟩ (.int .i64 0)).setCell ⟨w.1.size,7,none⟩ (.int .i64 0))=W5 at *;have HLD:=hid (t6 (P:=prog) W5 w.1.size 0 31 [.int .i64 0,.int .i64 0,.int .i64 0,.int .i64 0,.int .i64 0,.int .i64 0,.int .i64 0,.int .i64 0] _ HK5.out.rg underlying31 rfl kr);exact b9 (v:=.tuple #[.agg #[.int .i64 0,.int .i64 0,.int .i64 0,.int .i64 0,.int .i64 0,.int .i64 0,.int .i64 0,.int .i64 0],.int .i64 E]) (by rw[zm rfl];simp[asAddr,Result.andThen];rw[HLD.out]) rfl ⟨rfl,HB5.out⟩
def afw (b:List UInt8):Int×List Int:=if(xk ayg b).1=0 then xk ayg b else((xk ayg b).1,List.replicate 2 0)
theorem bmj (w:World):(zeroValue 33).run prog w=.ok (.agg #[.bool false,.int .i64 0,.int .i64 0]) w:=by kernel_rfl
theorem bkt (w:World):(Instr.build 33 #[]).run prog w=.ok (.agg #[.bool false,.int .i64 0,.int .i64 0]) w:=by kernel_rfl
theorem ayh {Q0:Nat→Prop} {w:World} (X:Option Addr) (d:Nat) (b:List UInt8) (yes:Bool) (hB:qf Q0 w X (bsV b)) (hm:b.length≤1000000) :
 Calls prog 283 #[.slice X b.length d,.bool yes] w fun e w'=>e=.returned (.tuple #[.agg (.bool (yes && decide ((afw b).1=0))::qr (afw b).2).toArray,.int .i64 (afw b).1])∧Below w.1.size w w':=by
 have HF:=fun W=>hid (ar2 W)
 have HS:=ail (d:=d) ao1 dc hB hm;have HZ:=fun W=>hid (bmj W)
 have HB0:=fun W=>hid (bkt W)
 have HLN:=hid (fun h=>(abv (fs:=ayg) (b:=b) h));unfold afw;obtain⟨⟨E,v⟩,hr⟩:∃r,xk ayg b=r:=⟨_,rfl⟩;rw[hr]at HS HLN ⊢;dsimp only at *;generalize hL:b.length=L at *;unfold ac5 at HF;rw[show ayg.length=2 from rfl]at *;clear hB hr hL
 by_cases hE:E=0
 ·subst hE;have hl:=HLN.out rfl
  obtain⟨x0,x1,rfl⟩:∃x0 x1,v=[x0,x1]:=by
   rcases v with _|⟨a0,_|⟨a1,_|⟨z,_⟩⟩⟩<;>first|exact⟨_,_,rfl⟩|(simp at hl)
  rw[if_pos rfl];clear hl HLN;simp only[Bool.and_true,decide_true]at *;show Calls prog _ _ w fun e w'=>e=.returned (.tuple #[.agg #[.bool yes,.int .i64 x0,.int .i64 x1],.int .i64 0])∧Below w.1.size w w'
  go_enter func283,ntmps283;go_wp2_with (refine qc rfl 33 rfl #[.bool false,.int .i64 0,.int .i64 0] (HZ _).out ?_;intro W1 hW1;have HK1:=hid (Blk.newL (L:=[.bool false,.int .i64 0,.int .i64 0]) hW1 rfl);have HB1:=hid hW1.bel;clear hW1);refine(HF _).out.mono ?_;rintro e w2 ⟨A,c,rfl,hf,hb⟩;have HT:=HS _ c _ _ HB1.out hf hb;have HK2:=hid (HK1.out.on hb);have HB2:=hid (qb HB1.out hb);clear hf hb HS HK1 HB1;go_wp2_with fail;refine HT.out.mono ?_;rintro e w3 ⟨A3,c3,rfl,hf,hb⟩;have HFL:=hid hf;have HK3:=hid (HK2.out.on hb);have HB3:=hid (qb HB2.out hb);clear hf hb HK2 HB2 HT;obtain⟨ab,ao,rfl,-,hablt,hcell⟩:=afe HFL.out sm;have HCE:Hid (∀W,Below w3.1.size w3 W→W.cell? ⟨ab,ao,none⟩=some (.int .i64 x0)∧W.cell? ⟨ab,ao+1,none⟩=some (.int .i64 x1)):=hid fun W hW=>⟨(hW.cell (p:=⟨ab,ao,none⟩) hablt).trans (hcell 0 sm),(hW.cell (p:=⟨ab,ao+1,none⟩) hablt).trans (hcell 1 sm)⟩
  clear hcell;go_upto_region 4 with fail;have cc:=HCE.out w3.drew ((n6 _ _).drew);obtain⟨cc0,cc1⟩:=cc
  go_still_tail 8,kr
  change wpList _ _ _ _ _ w3.drew;clear cc0 cc1;have HK4:Hid (Blk w3.drew w.1.size [.bool false,.int .i64 0,.int .i64 0]):=hid HK3.out.drew;have HB4:Hid (Below w.1.size w w3.drew):=hid HB3.out.drew;generalize w3.drew=w4 at *;have g0:=HK4.out.cell 0 (v:=.bool false) rfl;have z0:=HK4.out.fz 0;have g1:=HK4.out.cell 1 (v:=.int .i64 0) rfl;have z1:=HK4.out.fz 1;have g2:=HK4.out.cell 2 (v:=.int .i64 0) rfl;have z2:=HK4.out.fz 2;go_wp2_with fail;have hs:qp w4 ((((w4.setCell ⟨w.1.size,0,none⟩ (.bool yes)).setCell ⟨w.1.size,1,none⟩ (.int .i64 x0)).setCell ⟨w.1.size,2,none⟩ (.int .i64 x1))) w.1.size 0 [.bool yes,.int .i64 x0,.int .i64 x1]:=qo (cs:=[.bool yes,.int .i64 x0,.int .i64 x1]) (HK4.out.there 0 3 (a8 _));have HK5:Hid (Blk ((((w4.setCell ⟨w.1.size,0,none⟩ (.bool yes)).setCell ⟨w.1.size,1,none⟩ (.int .i64 x0)).setCell ⟨w.1.size,2,none⟩ (.int .i64 x1))) w.1.size [.bool yes,.int .i64 x0,.int .i64 x1]):=hid (HK4.out.all hs rfl)
  have HB5:Hid (Below w.1.size w ((((w4.setCell ⟨w.1.size,0,none⟩ (.bool yes)).setCell ⟨w.1.size,1,none⟩ (.int .i64 x0)).setCell ⟨w.1.size,2,none⟩ (.int .i64 x1)))):=hid (HB4.out.trans (hs.below (a8 _)));clear hs g0 z0 g1 z1 g2 z2;generalize (((w4.setCell ⟨w.1.size,0,none⟩ (.bool yes)).setCell ⟨w.1.size,1,none⟩ (.int .i64 x0)).setCell ⟨w.1.size,2,none⟩ (.int .i64 x1))=W5 at *;have HLD:=hid (t6 (P:=prog) W5 w.1.size 0 33 [.bool yes,.int .i64 x0,.int .i64 x1] _ HK5.out.rg underlying33 rfl kr);exact b9 (v:=.tuple #[.agg #[.bool yes,.int .i64 x0,.int .i64 x1],.int .i64 0]) (by rw[zm rfl];simp[asAddr,Result.andThen];rw[HLD.out]) rfl ⟨rfl,HB5.out⟩
 ·have hE2:(E != 0)=true:=by rw[b0g];exact hE
  have hE3:(E==0)=false:=by rw[l6];exact hE
  rw[if_neg hE];clear HLN;rw[o3 (show ¬(E,List.replicate 2 (0:Int)).1=0 from hE),Bool.and_false];clear hE;show Calls prog _ _ w fun e w'=>e=.returned (.tuple #[.agg #[.bool false,.int .i64 0,.int .i64 0],.int .i64 E])∧Below w.1.size w w'
  go_enter func283,ntmps283;go_wp2_with (refine qc rfl 33 rfl #[.bool false,.int .i64 0,.int .i64 0] (HZ _).out ?_;intro W1 hW1;have HK1:=hid (Blk.newL (L:=[.bool false,.int .i64 0,.int .i64 0]) hW1 rfl);have HB1:=hid hW1.bel;clear hW1);refine(HF _).out.mono ?_;rintro e w2 ⟨A,c,rfl,hf,hb⟩;have HT:=HS _ c _ _ HB1.out hf hb;have HK2:=hid (HK1.out.on hb);have HB2:=hid (qb HB1.out hb);clear hf hb HS HK1 HB1;go_wp2_with fail;refine HT.out.mono ?_;rintro e w3 ⟨A3,c3,rfl,hf,hb⟩;have HFL:=hid hf;have HK3:=hid (HK2.out.on hb);have HB3:=hid (qb HB2.out hb);clear hf hb HK2 HB2 HT;have g0:=HK3.out.cell 0 (v:=.bool false) rfl;have z0:=HK3.out.fz 0;have g1:=HK3.out.cell 1 (v:=.int .i64 0) rfl;have z1:=HK3.out.fz 1;have g2:=HK3.out.cell 2 (v:=.int .i64 0) rfl;have z2:=HK3.out.fz 2;go_wp2_with fail;have hs:qp w3 ((((w3.setCell ⟨w.1.size,0,none⟩ (.bool false)).setCell ⟨w.1.size,1,none⟩ (.int .i64 0)).setCell ⟨w.1.size,2,none⟩ (.int .i64 0))) w.1.size 0 [.bool false,.int .i64 0,.int .i64 0]:=qo (cs:=[.bool false,.int .i64 0,.int .i64 0]) (HK3.out.there 0 3 (a8 _))
  have HK5:Hid (Blk ((((w3.setCell ⟨w.1.size,0,none⟩ (.bool false)).setCell ⟨w.1.size,1,none⟩ (.int .i64 0)).setCell ⟨w.1.size,2,none⟩ (.int .i64 0))) w.1.size [.bool false,.int .i64 0,.int .i64 0]):=hid (HK3.out.all hs rfl);have HB5:Hid (Below w.1.size w ((((w3.setCell ⟨w.1.size,0,none⟩ (.bool false)).setCell ⟨w.1.size,1,none⟩ (.int .i64 0)).setCell ⟨w.1.size,2,none⟩ (.int .i64 0)))):=hid (HB3.out.trans (hs.below (a8 _)));clear hs g0 z0 g1 z1 g2 z2;generalize (((w3.setCell ⟨w.1.size,0,none⟩ (.bool false)).setCell ⟨w.1.size,1,none⟩ (.int .i64 0)).setCell ⟨w.1.size,2,none⟩ (.int .i64 0))=W5 at *;have HLD:=hid (t6 (P:=prog) W5 w.1.size 0 33 [.bool false,.int .i64 0,.int .i64 0] _ HK5.out.rg underlying33 rfl kr);exact b9 (v:=.tuple #[.agg #[.bool false,.int .i64 0,.int .i64 0],.int .i64 E]) (by rw[zm rfl];simp[asAddr,Result.andThen];rw[HLD.out]) rfl ⟨rfl,HB5.out⟩
theorem au0 (w:World):Calls prog 297 #[.int .i64 28,.int .i64 3] w fun e w'=>e=.returned (.bool true)∧w=w':=by
 go_enter func297,ntmps297;go_wp2;go_ret;exact⟨rfl,rfl⟩
theorem a3p (w:World):Calls prog 298 #[.int .i64 3] w fun e w'=>e=.returned (.int .u32 7)∧w=w':=by
 go_enter func298,ntmps298;go_wp2;go_ret;exact⟨rfl,rfl⟩
theorem ayj (k q:Nat) (w:World) (hk:k<2147483648) (hq:k / 268435456=q):Calls prog 296 #[.int .u32 k,.int .i64 28,.int .i64 3] w fun e w'=>e=.returned (.int .u32 q)∧Below w.1.size w w':=by
 have HP:=fun W=>hid (au0 W)
 have HM:=fun W=>hid (a3p W)
 have f1:(k:Int) / 268435456=(q:Int):=by omega
 have f2:bits BinOp.and IntKind.u32 (q:Int) 7=(q:Int):=by
  have:=u32_and_nat q 7 om dc;rw[show ((7:Nat):Int)=7 from rfl,nat_mask3]at this;rw[this];omega
 clear hq;go_enter func296,ntmps296;go_wp2_with fail;refine((HP _).out).mono ?_;rintro e w' ⟨rfl,rfl⟩;go_upto_region 3 with fail
 try (apply b1e;intro K_ HK_)
 have hS0:Below w.1.size w w.drew:=(n6 _ _).drew;refine o7 (S:=fun w'=>Below w.1.size w w') kr hS0 (fun hHeld0=>?_);refine tkA 0 11 rfl ?_;go_frame;refine tkA 1 12 rfl ?_;go_frame;refine tkA 2 13 rfl ?_;go_frame;refine tkA 3 14 rfl ?_;go_frame;refine rdB 4 15 rfl fun K hK=>?_
 go_step;refine(HM _).out.mono ?_;rintro e w2 ⟨rfl,rfl⟩
 try go_frame
 refine hK.out _ _ (hHeld0) (fun hHeld=>?_);clear hK K
 try go_frame
 refine tkA 5 16 rfl ?_;go_frame;refine tkA 6 6 rfl ?_;go_frame;refine b0j kr ?_ _
 try go_frame
 go_wp2_with fail;go_ret;exact⟨rfl,hHeld0⟩
def beb:Nat→Nat×Nat
 | 1=>(1,1)
 | 2=>(8,1)
 | 3=>(16,2)
 | 4=>(32,4)
 | 5=>(63,8)
 | _=>(0,0)
def jj (key:Nat):Nat×Nat:=if 2147483648≤key then(0,0)else beb (key / 268435456)
theorem ank (k:Nat) (w:World) (hk:k<4294967296):Calls prog 295 #[.int .i64 k] w fun e w'=>e=.returned (.tuple #[.int .i64 (jj k).1,.int .i64 (jj k).2])∧Below w.1.size w w':=by
 by_cases hb:2147483648≤k
 ·have e:jj k=(0,0):=by unfold jj;rw[if_pos hb]
  rw[e];have f1:(2147483647:Int)<(k:Int):=by omega
  have f2:¬(k:Int)<0:=by omega
  go_enter func295,ntmps295;go_wp2_with fail
  go_ret2
  exact⟨rfl,n6 _ _⟩
 have f1:¬(2147483647:Int)<(k:Int):=by omega
 have f2:¬(k:Int)<0:=by omega
 have f3:IntKind.u32.wrap (k:Int)=(k:Int):=IntWalk.u32_in _ om;obtain⟨q,hq⟩:∃q,k / 268435456=q:=⟨_,rfl⟩;have HG:=fun W=>hid (ayj k q W om hq)
 have hq7:q=0∨q=1∨q=2∨q=3∨q=4∨q=5∨q=6∨q=7:=by omega
 have e:jj k=beb q:=by unfold jj;rw[if_neg hb,hq]
 rw[e];clear e hq hb hk;rcases hq7 with rfl|rfl|rfl|rfl|rfl|rfl|rfl|rfl
 ·show Calls prog _ _ w fun e w'=>e=.returned (.tuple #[.int .i64 0,.int .i64 0])∧Below w.1.size w w'
  go_enter func295,ntmps295;go_wp2_with fail;refine(HG _).out.mono ?_;rintro e w2 ⟨rfl,hb⟩;have HK2:Hid (Blk w2 w.1.size #[.int .i64 0,.int .i64 0,.int .i64 1,.int .i64 1,.int .i64 8,.int .i64 1,.int .i64 16,.int .i64 2,.int .i64 32,.int .i64 4,.int .i64 63,.int .i64 8,.int .i64 0,.int .i64 0,.int .i64 0,.int .i64 0].toList):=hid ((Blk.newL (qg w _ _) rfl).on hb);have HB2:Hid (Below w.1.size w w2):=hid (qb (qa _ _) hb);have c0:=HK2.out.cell 0 (v:=.int .i64 0) rfl;have c1:=HK2.out.cell 1 (v:=.int .i64 0) rfl;clear hb;go_upto_region 5 with fail
  go_quiet (fail)
  go_wp2_with fail
  go_ret2
  exact⟨rfl,aad (qb HB2.out (qa _ _)) _⟩
 ·show Calls prog _ _ w fun e w'=>e=.returned (.tuple #[.int .i64 1,.int .i64 1])∧Below w.1.size w w'
  go_enter func295,ntmps295;go_wp2_with fail;refine(HG _).out.mono ?_;rintro e w2 ⟨rfl,hb⟩;have HK2:Hid (Blk w2 w.1.size #[.int .i64 0,.int .i64 0,.int .i64 1,.int .i64 1,.int .i64 8,.int .i64 1,.int .i64 16,.int .i64 2,.int .i64 32,.int .i64 4,.int .i64 63,.int .i64 8,.int .i64 0,.int .i64 0,.int .i64 0,.int .i64 0].toList):=hid ((Blk.newL (qg w _ _) rfl).on hb);have HB2:Hid (Below w.1.size w w2):=hid (qb (qa _ _) hb);have c0:=HK2.out.cell 2 (v:=.int .i64 1) rfl;have c1:=HK2.out.cell 3 (v:=.int .i64 1) rfl;clear hb;go_upto_region 5 with fail
  go_quiet (fail)
  go_wp2_with fail
  go_ret2
  exact⟨rfl,aad (qb HB2.out (qa _ _)) _⟩
 ·show Calls prog _ _ w fun e w'=>e=.returned (.tuple #[.int .i64 8,.int .i64 1])∧Below w.1.size w w'
  go_enter func295,ntmps295;go_wp2_with fail;refine(HG _).out.mono ?_;rintro e w2 ⟨rfl,hb⟩;have HK2:Hid (Blk w2 w.1.size #[.int .i64 0,.int .i64 0,.int .i64 1,.int .i64 1,.int .i64 8,.int .i64 1,.int .i64 16,.int .i64 2,.int .i64 32,.int .i64 4,.int .i64 63,.int .i64 8,.int .i64 0,.int .i64 0,.int .i64 0,.int .i64 0].toList):=hid ((Blk.newL (qg w _ _) rfl).on hb);have HB2:Hid (Below w.1.size w w2):=hid (qb (qa _ _) hb);have c0:=HK2.out.cell 4 (v:=.int .i64 8) rfl;have c1:=HK2.out.cell 5 (v:=.int .i64 1) rfl;clear hb;go_upto_region 5 with fail
  go_quiet (fail)
  go_wp2_with fail
  go_ret2
  exact⟨rfl,aad (qb HB2.out (qa _ _)) _⟩
 ·show Calls prog _ _ w fun e w'=>e=.returned (.tuple #[.int .i64 16,.int .i64 2])∧Below w.1.size w w'
  go_enter func295,ntmps295;go_wp2_with fail;refine(HG _).out.mono ?_;rintro e w2 ⟨rfl,hb⟩;have HK2:Hid (Blk w2 w.1.size #[.int .i64 0,.int .i64 0,.int .i64 1,.int .i64 1,.int .i64 8,.int .i64 1,.int .i64 16,.int .i64 2,.int .i64 32,.int .i64 4,.int .i64 63,.int .i64 8,.int .i64 0,.int .i64 0,.int .i64 0,.int .i64 0].toList):=hid ((Blk.newL (qg w _ _) rfl).on hb);have HB2:Hid (Below w.1.size w w2):=hid (qb (qa _ _) hb);have c0:=HK2.out.cell 6 (v:=.int .i64 16) rfl;have c1:=HK2.out.cell 7 (v:=.int .i64 2) rfl;clear hb;go_upto_region 5 with fail
  go_quiet (fail)
  go_wp2_with fail
  go_ret2
  exact⟨rfl,aad (qb HB2.out (qa _ _)) _⟩
 ·show Calls prog _ _ w fun e w'=>e=.returned (.tuple #[.int .i64 32,.int .i64 4])∧Below w.1.size w w'
  go_enter func295,ntmps295;go_wp2_with fail;refine(HG _).out.mono ?_;rintro e w2 ⟨rfl,hb⟩;have HK2:Hid (Blk w2 w.1.size #[.int .i64 0,.int .i64 0,.int .i64 1,.int .i64 1,.int .i64 8,.int .i64 1,.int .i64 16,.int .i64 2,.int .i64 32,.int .i64 4,.int .i64 63,.int .i64 8,.int .i64 0,.int .i64 0,.int .i64 0,.int .i64 0].toList):=hid ((Blk.newL (qg w _ _) rfl).on hb);have HB2:Hid (Below w.1.size w w2):=hid (qb (qa _ _) hb);have c0:=HK2.out.cell 8 (v:=.int .i64 32) rfl;have c1:=HK2.out.cell 9 (v:=.int .i64 4) rfl;clear hb;go_upto_region 5 with fail
  go_quiet (fail)
  go_wp2_with fail
  go_ret2
  exact⟨rfl,aad (qb HB2.out (qa _ _)) _⟩
 ·show Calls prog _ _ w fun e w'=>e=.returned (.tuple #[.int .i64 63,.int .i64 8])∧Below w.1.size w w'
  go_enter func295,ntmps295;go_wp2_with fail;refine(HG _).out.mono ?_;rintro e w2 ⟨rfl,hb⟩;have HK2:Hid (Blk w2 w.1.size #[.int .i64 0,.int .i64 0,.int .i64 1,.int .i64 1,.int .i64 8,.int .i64 1,.int .i64 16,.int .i64 2,.int .i64 32,.int .i64 4,.int .i64 63,.int .i64 8,.int .i64 0,.int .i64 0,.int .i64 0,.int .i64 0].toList):=hid ((Blk.newL (qg w _ _) rfl).on hb);have HB2:Hid (Below w.1.size w w2):=hid (qb (qa _ _) hb);have c0:=HK2.out.cell 10 (v:=.int .i64 63) rfl;have c1:=HK2.out.cell 11 (v:=.int .i64 8) rfl;clear hb;go_upto_region 5 with fail
  go_quiet (fail)
  go_wp2_with fail
  go_ret2
  exact⟨rfl,aad (qb HB2.out (qa _ _)) _⟩
 ·show Calls prog _ _ w fun e w'=>e=.returned (.tuple #[.int .i64 0,.int .i64 0])∧Below w.1.size w w'
  go_enter func295,ntmps295;go_wp2_with fail;refine(HG _).out.mono ?_;rintro e w2 ⟨rfl,hb⟩;have HK2:Hid (Blk w2 w.1.size #[.int .i64 0,.int .i64 0,.int .i64 1,.int .i64 1,.int .i64 8,.int .i64 1,.int .i64 16,.int .i64 2,.int .i64 32,.int .i64 4,.int .i64 63,.int .i64 8,.int .i64 0,.int .i64 0,.int .i64 0,.int .i64 0].toList):=hid ((Blk.newL (qg w _ _) rfl).on hb);have HB2:Hid (Below w.1.size w w2):=hid (qb (qa _ _) hb);have c0:=HK2.out.cell 12 (v:=.int .i64 0) rfl;have c1:=HK2.out.cell 13 (v:=.int .i64 0) rfl;clear hb;go_upto_region 5 with fail
  go_quiet (fail)
  go_wp2_with fail
  go_ret2
  exact⟨rfl,aad (qb HB2.out (qa _ _)) _⟩
 ·show Calls prog _ _ w fun e w'=>e=.returned (.tuple #[.int .i64 0,.int .i64 0])∧Below w.1.size w w'
  go_enter func295,ntmps295;go_wp2_with fail;refine(HG _).out.mono ?_;rintro e w2 ⟨rfl,hb⟩;have HK2:Hid (Blk w2 w.1.size #[.int .i64 0,.int .i64 0,.int .i64 1,.int .i64 1,.int .i64 8,.int .i64 1,.int .i64 16,.int .i64 2,.int .i64 32,.int .i64 4,.int .i64 63,.int .i64 8,.int .i64 0,.int .i64 0,.int .i64 0,.int .i64 0].toList):=hid ((Blk.newL (qg w _ _) rfl).on hb);have HB2:Hid (Below w.1.size w w2):=hid (qb (qa _ _) hb);have c0:=HK2.out.cell 14 (v:=.int .i64 0) rfl;have c1:=HK2.out.cell 15 (v:=.int .i64 0) rfl;clear hb;go_upto_region 5 with fail
  go_quiet (fail)
  go_wp2_with fail
  go_ret2
  exact⟨rfl,aad (qb HB2.out (qa _ _)) _⟩
theorem ap6 (k:Nat):(jj k).1≤63 ∧(jj k).2≤8:=by
 unfold jj
 split
 ·exact⟨by decide,by decide⟩
 ·unfold beb
  split<;>exact⟨by decide,by decide⟩
theorem anl (k:Nat) (w:World) (hk:k<4294967296):Calls prog 292 #[.int .i64 k] w fun e w'=>e=.returned (.tuple #[.int .i64 (jj k).2,.bool (decide (0<(jj k).2))])∧Below w.1.size w w':=by
 have HK:=fun W=>hid (ank k W hk)
 generalize (jj k).1=a at *;generalize (jj k).2=b at *;go_enter func292,ntmps292;go_wp2_with (refine(HK _).out.mono ?_;rintro e w1 ⟨rfl,hb⟩;have HB:=hid hb;clear hb)
 go_ret2
 refine⟨?_,HB.out⟩;have:decide (0<b)=decide ((0:Int)<(b:Int)):=by apply decide_eq_decide.2;omega
 rw[this];rfl
theorem bh6 (n:Nat) (h:n≤63):IntKind.i64.wrap (IntKind.u64.wrap (IntKind.u64.wrap (2^n)-1))=((2^n-1:Nat):Int):=by
 have h1:2^n≤2^63:=b0w dc h;have h0:0<2^n:=b3n dc;have e:((2:Int)^n)=((2^n:Nat):Int):=by rw[Int.natCast_pow];rfl
 have e1:IntKind.u64.wrap ((2^n:Nat):Int)=((2^n:Nat):Int):=b3m _ om;have e2:IntKind.u64.wrap (((2^n:Nat):Int)-1)=((2^n:Nat):Int)-1:=b3m _ om;rw[e,e1,e2,b00 _ om];omega
theorem a2n (k:Nat) (w:World) (hk:k<4294967296):Calls prog 294 #[.int .i64 k] w fun e w'=>e=.returned (.int .i64 ((2^(jj k).1-1:Nat):Int))∧Below w.1.size w w':=by
 have HK:=fun W=>hid (ank k W hk)
 have hle:=(ap6 k).1;have HM:=hid (bh6 _ hle);generalize (jj k).1=a at *;generalize (jj k).2=b at *;have f1:IntKind.u64.wrap (a:Int)=(a:Int):=b3m _ om;have f2:(0:Int) ≤(a:Int):=n8 _;go_enter func294,ntmps294;go_wp2_with (refine(HK _).out.mono ?_;rintro e w1 ⟨rfl,hb⟩;have HB:=hid hb;clear hb);go_ret;refine⟨?_,HB.out⟩;have e:=HM.out;rw[b42]at e;exact congrArg (fun x=>Ending.returned (.int .i64 x)) e
theorem ba6 {Q:Nat→Prop} {w:World} (A:Option Addr) (c:Nat) (v:List Int) (hf:qf Q w A (qr v)) (hl:v.length=7) :
 Calls prog 272 #[.slice A 7 c] w fun e w'=>e=.returned (.agg (qr v).toArray)∧Below w.1.size w w':=by
 obtain⟨ab,ao,rfl,-,hablt,hcell⟩:=afe hf om
 obtain⟨x0,x1,x2,x3,x4,x5,x6,rfl⟩:∃x0 x1 x2 x3 x4 x5 x6,v=[x0,x1,x2,x3,x4,x5,x6]:=by
  rcases v with _|⟨x0,_|⟨x1,_|⟨x2,_|⟨x3,_|⟨x4,_|⟨x5,_|⟨x6,_|⟨z,_⟩⟩⟩⟩⟩⟩⟩⟩<;>first|exact⟨_,_,_,_,_,_,_,rfl⟩|(simp at hl)
 have HCE:Hid (∀W,Below w.1.size w W→W.cell? ⟨ab,ao,none⟩=some (.int .i64 x0)∧W.cell? ⟨ab,ao+1,none⟩=some (.int .i64 x1)∧W.cell? ⟨ab,ao+2,none⟩=some (.int .i64 x2)∧W.cell? ⟨ab,ao+3,none⟩=some (.int .i64 x3)∧W.cell? ⟨ab,ao+4,none⟩=some (.int .i64 x4)∧W.cell? ⟨ab,ao+5,none⟩=some (.int .i64 x5)∧W.cell? ⟨ab,ao+6,none⟩=some (.int .i64 x6)):=hid fun W hW=>⟨(hW.cell (p:=⟨ab,ao,none⟩) hablt).trans (hcell 0 sm),(hW.cell (p:=⟨ab,ao+1,none⟩) hablt).trans (hcell 1 sm),(hW.cell (p:=⟨ab,ao+2,none⟩) hablt).trans (hcell 2 sm),(hW.cell (p:=⟨ab,ao+3,none⟩) hablt).trans (hcell 3 sm),(hW.cell (p:=⟨ab,ao+4,none⟩) hablt).trans (hcell 4 sm),(hW.cell (p:=⟨ab,ao+5,none⟩) hablt).trans (hcell 5 sm),(hW.cell (p:=⟨ab,ao+6,none⟩) hablt).trans (hcell 6 sm)⟩
 show Calls prog _ _ w fun e w'=>e=.returned (.agg #[.int .i64 x0,.int .i64 x1,.int .i64 x2,.int .i64 x3,.int .i64 x4,.int .i64 x5,.int .i64 x6])∧Below w.1.size w w'
 clear hf hl hcell;go_enter func272,ntmps272;go_upto_region 1 with fail;have HK:Hid (Blk (w.alloc (.cells #[.int .i64 0,.int .i64 0,.int .i64 0,.int .i64 0,.int .i64 0,.int .i64 0,.int .i64 0] 162)) w.1.size [.int .i64 0,.int .i64 0,.int .i64 0,.int .i64 0,.int .i64 0,.int .i64 0,.int .i64 0]):=hid (Blk.newL (qg w _ _) rfl);have HB:Hid (Below w.1.size w (w.alloc (.cells #[.int .i64 0,.int .i64 0,.int .i64 0,.int .i64 0,.int .i64 0,.int .i64 0,.int .i64 0] 162))):=hid (qa _ _);generalize w.alloc (.cells #[.int .i64 0,.int .i64 0,.int .i64 0,.int .i64 0,.int .i64 0,.int .i64 0,.int .i64 0] 162)=W1 at *;have cc:=HCE.out W1.drew HB.out.drew;obtain⟨cc0,cc1,cc2,cc3,cc4,cc5,cc6⟩:=cc
 go_still_tail 22,kr
 change wpList _ _ _ _ _ W1.drew;clear cc0 cc1 cc2 cc3 cc4 cc5 cc6;have HK4:Hid (Blk W1.drew w.1.size [.int .i64 0,.int .i64 0,.int .i64 0,.int .i64 0,.int .i64 0,.int .i64 0,.int .i64 0]):=hid HK.out.drew;have HB4:Hid (Below w.1.size w W1.drew):=hid HB.out.drew;generalize W1.drew=w4 at *;have g0:=HK4.out.cell 0 (v:=.int .i64 0) rfl;have z0:=HK4.out.fz 0;have g1:=HK4.out.cell 1 (v:=.int .i64 0) rfl;have z1:=HK4.out.fz 1;have g2:=HK4.out.cell 2 (v:=.int .i64 0) rfl;have z2:=HK4.out.fz 2;have g3:=HK4.out.cell 3 (v:=.int .i64 0) rfl;have z3:=HK4.out.fz 3;have g4:=HK4.out.cell 4 (v:=.int .i64 0) rfl;have z4:=HK4.out.fz 4;have g5:=HK4.out.cell 5 (v:=.int .i64 0) rfl;have z5:=HK4.out.fz 5;have g6:=HK4.out.cell 6 (v:=.int .i64 0) rfl;have z6:=HK4.out.fz 6;go_wp2_with fail;have hs:qp w4 (((((((w4.setCell ⟨w.1.size,0,none⟩ (.int .i64 x0)).setCell ⟨w.1.size,1,none⟩ (.int .i64 x1)).setCell ⟨w.1.size,2,none⟩ (.int .i64 x2)).setCell ⟨w.1.size,3,none⟩ (.int .i64 x3)).setCell ⟨w.1.size,4,none⟩ (.int .i64 x4)).setCell ⟨w.1.size,5,none⟩ (.int .i64 x5)).setCell ⟨w.1.size,6,none⟩ (.int .i64 x6)) w.1.size 0 [.int .i64 x0,.int .i64 x1,.int .i64 x2,.int .i64 x3,.int .i64 x4,.int .i64 x5,.int .i64 x6]:=qo (cs:=[.int .i64 x0,.int .i64 x1,.int .i64 x2,.int .i64 x3,.int .i64 x4,.int .i64 x5,.int .i64 x6]) (HK4.out.there 0 7 (a8 _))
 have HK5:Hid (Blk (((((((w4.setCell ⟨w.1.size,0,none⟩ (.int .i64 x0)).setCell ⟨w.1.size,1,none⟩ (.int .i64 x1)).setCell ⟨w.1.size,2,none⟩ (.int .i64 x2)).setCell ⟨w.1.size,3,none⟩ (.int .i64 x3)).setCell ⟨w.1.size,4,none⟩ (.int .i64 x4)).setCell ⟨w.1.size,5,none⟩ (.int .i64 x5)).setCell ⟨w.1.size,6,none⟩ (.int .i64 x6)) w.1.size [.int .i64 x0,.int .i64 x1,.int .i64 x2,.int .i64 x3,.int .i64 x4,.int .i64 x5,.int .i64 x6]):=hid (HK4.out.all hs rfl);have HB5:Hid (Below w.1.size w (((((((w4.setCell ⟨w.1.size,0,none⟩ (.int .i64 x0)).setCell ⟨w.1.size,1,none⟩ (.int .i64 x1)).setCell ⟨w.1.size,2,none⟩ (.int .i64 x2)).setCell ⟨w.1.size,3,none⟩ (.int .i64 x3)).setCell ⟨w.1.size,4,none⟩ (.int .i64 x4)).setCell ⟨w.1.size,5,none⟩ (.int .i64 x5)).setCell ⟨w.1.size,6,none⟩ (.int .i64 x6))):=hid (HB4.out.trans (hs.below (a8 _)));clear hs g0 z0 g1 z1 g2 z2 g3 z3 g4 z4 g5 z5 g6 z6
 generalize (((((((w4.setCell ⟨w.1.size,0,none⟩ (.int .i64 x0)).setCell ⟨w.1.size,1,none⟩ (.int .i64 x1)).setCell ⟨w.1.size,2,none⟩ (.int .i64 x2)).setCell ⟨w.1.size,3,none⟩ (.int .i64 x3)).setCell ⟨w.1.size,4,none⟩ (.int .i64 x4)).setCell ⟨w.1.size,5,none⟩ (.int .i64 x5)).setCell ⟨w.1.size,6,none⟩ (.int .i64 x6))=W5 at *;have HLD:=hid (t6 (P:=prog) W5 w.1.size 0 162 [.int .i64 x0,.int .i64 x1,.int .i64 x2,.int .i64 x3,.int .i64 x4,.int .i64 x5,.int .i64 x6] _ HK5.out.rg underlying162 rfl kr);exact b9 (v:=.agg #[.int .i64 x0,.int .i64 x1,.int .i64 x2,.int .i64 x3,.int .i64 x4,.int .i64 x5,.int .i64 x6]) (by rw[qm rfl];simp[asAddr,Result.andThen];exact HLD.out) rfl ⟨rfl,HB5.out⟩
def jk:Nat→List UInt8→Int×List (List Int)
 | 0,_=>(0,[])
 | n+1,b=>if(xk aj3 (b.take 12)).1=0 then(if(jk n (b.drop 12)).1=0 then(0,(xk aj3 (b.take 12)).2::(jk n (b.drop 12)).2)else((jk n (b.drop 12)).1,[]))else((xk aj3 (b.take 12)).1,[])
theorem ba7:∀(n:Nat) (b:List UInt8),(jk n b).1≠0 →(jk n b).2=[]
 | 0,_,h=>absurd rfl h
 | n+1,b,h=>by
  unfold jk at *
  split
  ·rename_i h1;rw[if_pos h1]at h
   split
   ·rename_i h2;rw[if_pos h2]at h;exact absurd rfl h
   ·rfl
  ·rfl
theorem amc:∀(n:Nat) (b:List UInt8),(jk n b).1=0 →(jk n b).2.length=n∧∀v∈(jk n b).2,v.length=7
 | 0,_,_=>⟨rfl,fun v hv=>by cases hv⟩
 | n+1,b,h=>by
  unfold jk at *
  split at h
  ·rename_i h1
   split at h
   ·rename_i h2;rw[if_pos h1,if_pos h2];obtain⟨q1,q2⟩:=amc n _ h2;refine⟨by simp[q1],fun v hv=>?_⟩;rcases b0z.1 hv with rfl|hv
    ·exact abv h1
    ·exact q2 v hv
   ·rename_i h2;exact absurd h h2
  ·rename_i h1;exact absurd h h1
def afj (L:List (List Int)) (r:Int×List (List Int)):Int×List (List Int):=if r.1=0 then(0,L++r.2)else(r.1,[])
theorem a51 (n:Nat) (b:List UInt8):afj [] (jk n b)=jk n b:=by
 unfold afj
 split
 ·rename_i h;rw[b03,← h]
 ·rename_i h;rw[← ba7 n b h]
theorem aj5 (L:List (List Int)) (n:Nat) (b:List UInt8) (h:(xk aj3 (b.take 12)).1=0):afj L (jk (n+1) b)=afj (L++[(xk aj3 (b.take 12)).2]) (jk n (b.drop 12)):=by
 unfold afj
 conv=>lhs;unfold jk
 rw[if_pos h]
 by_cases h2:(jk n (b.drop 12)).1=0
 ·rw[if_pos h2,if_pos rfl,if_pos h2];simp
 ·rw[if_neg h2,if_neg h2,if_neg h2]
theorem a50 (L:List (List Int)) (n:Nat) (b:List UInt8) (h:(xk aj3 (b.take 12)).1≠0):afj L (jk (n+1) b)=((xk aj3 (b.take 12)).1,[]):=by
 unfold afj jk;rw[if_neg h,if_neg h]
def ab5 (b:List UInt8):Int×Int×List (List Int):=
 if b.length<8 then(2,0,[])else if(xk vf (b.take 8)).1=0 then
  if b.length-8<12*((xk vf (b.take 8)).2.getD 2 0).toNat then(2,0,[])else if 12*((xk vf (b.take 8)).2.getD 2 0).toNat<b.length-8 then(7,0,[])else
   if(jk ((xk vf (b.take 8)).2.getD 2 0).toNat (b.drop 8)).1=0 then(0,(xk vf (b.take 8)).2.getD 0 0,(jk ((xk vf (b.take 8)).2.getD 2 0).toNat (b.drop 8)).2)else((jk ((xk vf (b.take 8)).2.getD 2 0).toNat (b.drop 8)).1,0,[])
  else((xk vf (b.take 8)).1,0,[])
def afi (L:List (List Int)):List Value:=L.flatMap qr
def an6 (x:Int×Int×List (List Int)) (w:World) (e:Ending) (w':World):Prop:=
 ∃A c,e=.returned (.tuple #[.agg #[.int .i64 x.2.1,.slice A x.2.2.length c],.int .i64 x.1])∧qf (fun b=>w.1.size≤b∧b<w'.1.size) w' A (afi x.2.2)∧Below w.1.size w w'
theorem bfz:(prog.info? 162).map (fun i=>(i.zero,i.size,i.bytes))=some (some (.agg #[.int .i64 0,.int .i64 0,.int .i64 0,.int .i64 0,.int .i64 0,.int .i64 0,.int .i64 0]),7,56):=by kernel_rfl
theorem aj4 (L:List (List Int)) (v:List Int):afi (L++[v])=afi L++qr v:=by simp[afi]
theorem al3 (v:List Int):∀u∈qr v,u.oneCell'=true:=by
 intro u hu;obtain⟨n,-,rfl⟩:=b2c.1 hu;rfl
theorem ahs {w1 w:World} {b:Nat} {x y:Value} (hk:Blk w1 b [x,y]) (p q:Value) (hb:Below b w w1) :
 (loadVar 29 ⟨b,0,none⟩).run prog ((w1.setCell ⟨b,0,none⟩ p).setCell ⟨b,1,none⟩ q)=.ok (.agg #[p,q]) ((w1.setCell ⟨b,0,none⟩ p).setCell ⟨b,1,none⟩ q)∧Below b w ((w1.setCell ⟨b,0,none⟩ p).setCell ⟨b,1,none⟩ q)∧∀k,k≠b →((w1.setCell ⟨b,0,none⟩ p).setCell ⟨b,1,none⟩ q).heap[k]?=w1.heap[k]?:=by
 have hs:qp w1 ((w1.setCell ⟨b,0,none⟩ p).setCell ⟨b,1,none⟩ q) b 0 [p,q]:=qo (cs:=[p,q]) (hk.there 0 2 (a8 _));exact⟨t6 (P:=prog) _ b 0 29 [p,q] _ (hk.all hs rfl).rg underlying29 rfl kr,hb.trans (hs.below (a8 _)),hs.far⟩
theorem awc {Q:Nat→Prop} {w:World} {b o c:Nat} {l:List UInt8} (h:qf Q w (some ⟨b,o,none⟩) (bsV l)) (n:Nat) (hn:n≤l.length) (hc:l.length≤c) (o':Nat) (ho:o'=o+n∨c=n):qf Q w (some ⟨b,o',none⟩) (bsV (l.drop n)):=by
 rcases ho with rfl|rfl
 ·have:=h.part n
  rwa [abp]at this
 ·rw[b1x om];exact qf.nil _ _ _
theorem awq {Q0:Nat→Prop} {w:World} (X:Option Addr) (d:Nat) (b:List UInt8) (hB:qf Q0 w X (bsV b)) (hm:b.length≤1000000) (hd:b.length≤d) :
 Calls prog 269 #[.slice X b.length d] w (an6 (ab5 b) w):=by
 have HK0:∀W,Below (w.alloc (.cells #[.int .i64 0,.slice none 0 0] 29)).1.size (w.alloc (.cells #[.int .i64 0,.slice none 0 0] 29)) W→Hid (Blk W w.1.size [.int .i64 0,.slice none 0 0]):=fun W hW=>hid ((Blk.newL (qg w _ _) rfl).on hW)
 by_cases h8:b.length<8
 ·have e:ab5 b=(2,0,[]):=by unfold ab5;rw[if_pos h8]
  rw[e];have f1:(b.length:Int)<8:=by omega
  have HK1:=HK0 _ (n6 _ _);generalize b.length=L at *;clear hB e;have g0:=HK1.out.cell 0 (v:=.int .i64 0) rfl;have g1:=HK1.out.cell 1 (v:=.slice none 0 0) rfl;have z0:=HK1.out.fz 0;have z1:=HK1.out.fz 1;go_enter func269,ntmps269;go_wp2_with fail;have HLD:=hid (t6 (P:=prog) _ w.1.size 0 29 [.int .i64 0,.slice none 0 0] _ HK1.out.rg underlying29 rfl kr);exact b9 (v:=.tuple #[.agg #[.int .i64 0,.slice none 0 0],.int .i64 2]) (by rw[zm rfl];simp[asAddr,Result.andThen];rw[HLD.out]) rfl ⟨none,0,rfl,qf.nil _ _ _,qa _ _⟩
 obtain⟨bb,off,rfl,-,-⟩:=hB 0 (bV (b[0]'(by omega))) (vz om);have h8l:(b.take 8).length=8:=by rw[l7];omega
 have HH:=fun W=>hid (a1b W)
 have HS:∀A c W1 W2,Below w.1.size w W1→qf (fun b=>W1.1.size≤b∧b<W2.1.size) W2 A (acl vf)→Below W1.1.size W1 W2→Hid (Calls prog 91 #[.slice A vf.length c,.slice (some ⟨bb,off,none⟩) 8 d] W2 (ky (xk vf (b.take 8)) W2)):=by
  have:=ail (Q0:=Q0) (w:=w) (fs:=vf) (b:=b.take 8) (X:=some ⟨bb,off,none⟩) (d:=d) a1a dc (by have:=hB.first 8;rwa [v6]at this) om
  rwa [h8l]at this
 have HLN:Hid ((xk vf (b.take 8)).1=0 →(xk vf (b.take 8)).2.length=4∧∃m:Nat,(xk vf (b.take 8)).2.getD 2 0=(m:Int)∧m≤64):=hid (fun h=>⟨abv h,by
  obtain⟨x,h1,h2,h3⟩:=alg vf (b.take 8) (ald h) 2 dc;rw[l9,h1];have e1:(vf[2]'(by decide)).lo=0:=rfl;have e2:(vf[2]'(by decide)).hi=64:=rfl;rw[e1]at h2;rw[e2]at h3;exact⟨x.toNat,by show x=_;omega,by omega⟩⟩)
 have hT:ab5 b=if(xk vf (b.take 8)).1=0 then
  if b.length-8<12*((xk vf (b.take 8)).2.getD 2 0).toNat then(2,0,[])else if 12*((xk vf (b.take 8)).2.getD 2 0).toNat<b.length-8 then(7,0,[])else
   if(jk ((xk vf (b.take 8)).2.getD 2 0).toNat (b.drop 8)).1=0 then(0,(xk vf (b.take 8)).2.getD 0 0,(jk ((xk vf (b.take 8)).2.getD 2 0).toNat (b.drop 8)).2)else((jk ((xk vf (b.take 8)).2.getD 2 0).toNat (b.drop 8)).1,0,[])
  else((xk vf (b.take 8)).1,0,[]):=by unfold ab5;rw[if_neg h8]
 rw[hT];clear hT h8l;obtain⟨⟨E,v⟩,hr⟩:∃r,xk vf (b.take 8)=r:=⟨_,rfl⟩;rw[hr]at HS HLN ⊢;unfold ac5 at HH;rw[show vf.length=4 from rfl]at *;unfold ky at HS;dsimp only at *;have HBF:=hid hB.lt;have f8:(8:Int) ≤(b.length:Int):=by omega
 have f8d:(8:Int) ≤(d:Int):=by omega
 have f80:¬(b.length:Int)<8:=by omega
 clear hr hB
 by_cases hE:E=0
 rotate_left
 ·have hE2:(E != 0)=true:=by rw[b0g];exact hE
  have hE3:(E==0)=false:=by rw[l6];exact hE
  rw[if_neg hE];clear hE HLN;go_enter func269,ntmps269;go_upto_region 3 with fail;have HK1:=HK0 _ (n6 _ _);have HB1:Hid (Below w.1.size w (w.alloc (.cells #[.int .i64 0,.slice none 0 0] 29))):=hid (qa _ _);clear HK0;generalize w.alloc (.cells #[.int .i64 0,.slice none 0 0] 29)=W1 at *
  try (apply b1e;intro K_ HK_)
  have hS0:Below W1.1.size W1 W1.drew:=(n6 _ _).drew;refine o7 (S:=fun w'=>Below W1.1.size W1 w') kr hS0 (fun hHeld0=>?_);refine tkA 1 17 rfl ?_;go_frame;refine tkA 2 18 rfl ?_;go_frame;refine rdB 0 16 rfl fun K hK=>?_
  go_step;refine(HH _).out.mono ?_;rintro e w2 ⟨A,c,rfl,hf,hb⟩;have HT:=HS _ c _ _ (hHeld0.mono HB1.out.size |> fun q=>HB1.out.trans q) hf hb;have HS2:Hid (Below W1.1.size W1 w2):=hid (hHeld0.trans (hb.mono hHeld0.size));clear hf hb HS
  try go_frame
  refine hK.out _ _ (HS2.out) (fun hHeld=>?_);clear hK K
  try go_frame
  refine rdB 3 19 rfl fun K hK=>?_
  go_step;refine HT.out.mono ?_;rintro e w3 ⟨A3,c3,rfl,hf,hb⟩;have HFL:=hid hf;have HS3:Hid (Below W1.1.size W1 w3):=hid (HS2.out.trans (hb.mono HS2.out.size));have HQ3:Hid (w.1.size≤w2.1.size):=hid (o8 HB1.out.size HS2.out.size);clear hf hb HT HS2
  try go_frame
  refine hK.out _ _ (HS3.out) (fun hHeld=>?_);clear hK K
  try go_frame
  refine tkA 4 15 rfl ?_;go_frame;refine tkA 5 20 rfl ?_;go_frame;refine tkA 6 21 rfl ?_;go_frame;refine tkA 7 4 rfl ?_;go_frame;refine tkA 8 5 rfl ?_;go_frame;refine b0j kr ?_ _
  try go_frame
  have HK3:=hid (HK1.out.on HS3.out);have HB3:=hid (qb HB1.out HS3.out);clear hHeld hHeld0 hS0 HK1 HB1 HS3;have g0:=HK3.out.cell 0 (v:=.int .i64 0) rfl;have g1:=HK3.out.cell 1 (v:=.slice none 0 0) rfl;have z0:=HK3.out.fz 0;have z1:=HK3.out.fz 1;go_wp2_with fail;obtain⟨r1,r2,-⟩:=ahs HK3.out (.int .i64 0) (.slice none 0 0) HB3.out;exact b9 (v:=.tuple #[.agg #[.int .i64 0,.slice none 0 0],.int .i64 E]) (by rw[zm rfl];simp[asAddr,Result.andThen];rw[r1]) rfl ⟨none,0,rfl,qf.nil _ _ _,r2⟩
 subst hE;rw[if_pos rfl];obtain⟨hvl,m,hvm,hm64⟩:=HLN.out rfl;simp only[hvl]at HS;rw[hvm,b1n];clear HLN
 obtain⟨t0,y1,y2,y3,rfl⟩:∃t0 y1 y2 y3,v=[t0,y1,y2,y3]:=by
  rcases v with _|⟨x0,_|⟨x1,_|⟨x2,_|⟨x3,_|⟨z,_⟩⟩⟩⟩⟩<;>first|exact⟨_,_,_,_,rfl⟩|(simp at hvl)
 have hvm':y2=(m:Int):=hvm;subst hvm';show Calls prog _ _ w (an6 (if b.length-8<12*m then(2,0,[])else if 12*m<b.length-8 then(7,0,[])else if(jk m (b.drop 8)).1=0 then(0,t0,(jk m (b.drop 8)).2)else((jk m (b.drop 8)).1,0,[])) w);clear hvl hvm;obtain⟨R,hR⟩:∃R,b.length-8=R:=⟨_,rfl⟩;have fR:(b.length:Int)-8=(R:Int):=by omega
 rw[hR];have fm:IntKind.i64.wrap (12*(m:Int))=12*(m:Int):=b00 _ om;have fm0:(0:Int)≤12*(m:Int):=by omega
 obtain⟨res,hres⟩:∃res,(if R<12*m then((2:Int),(0:Int),([]:List (List Int)))else if 12*m<R then(7,0,[])else if(jk m (b.drop 8)).1=0 then(0,t0,(jk m (b.drop 8)).2)else((jk m (b.drop 8)).1,0,[]))=res:=⟨_,rfl⟩;rw[hres];have HRES:=hid hres;clear hres;go_enter func269,ntmps269;go_upto_region 3 with fail;have HK1:=HK0 _ (n6 _ _);have HB1:Hid (Below w.1.size w (w.alloc (.cells #[.int .i64 0,.slice none 0 0] 29))):=hid (qa _ _);clear HK0;generalize w.alloc (.cells #[.int .i64 0,.slice none 0 0] 29)=W1 at *
 try (apply b1e;intro K_ HK_)
 have hS0:Below W1.1.size W1 W1.drew:=(n6 _ _).drew;refine o7 (S:=fun w'=>Below W1.1.size W1 w') kr hS0 (fun hHeld0=>?_);refine tkA 1 17 rfl ?_;go_frame;refine tkA 2 18 rfl ?_;go_frame;refine rdB 0 16 rfl fun K hK=>?_
 go_step;refine(HH _).out.mono ?_;rintro e w2 ⟨A,c,rfl,hf,hb⟩;have HT:=HS _ c _ _ (hHeld0.mono HB1.out.size |> fun q=>HB1.out.trans q) hf hb;have HS2:Hid (Below W1.1.size W1 w2):=hid (hHeld0.trans (hb.mono hHeld0.size));clear hf hb HS
 try go_frame
 refine hK.out _ _ (HS2.out) (fun hHeld=>?_);clear hK K
 try go_frame
 refine rdB 3 19 rfl fun K hK=>?_
 go_step;refine HT.out.mono ?_;rintro e w3 ⟨A3,c3,rfl,hf,hb⟩;have HFL:=hid hf;have HS3:Hid (Below W1.1.size W1 w3):=hid (HS2.out.trans (hb.mono HS2.out.size));have HQ3:Hid (w.1.size≤w2.1.size):=hid (o8 HB1.out.size HS2.out.size);clear hf hb HT HS2
 try go_frame
 refine hK.out _ _ (HS3.out) (fun hHeld=>?_);clear hK K
 try go_frame
 refine tkA 4 15 rfl ?_;go_frame;refine tkA 5 20 rfl ?_;go_frame;refine tkA 6 21 rfl ?_;go_frame;refine tkA 7 4 rfl ?_;go_frame;refine tkA 8 5 rfl ?_;go_frame;refine b0j kr ?_ _
 try go_frame
 have HK3:=hid (HK1.out.on HS3.out);have HB3:=hid (qb HB1.out HS3.out);clear hHeld hHeld0 hS0 HK1 HB1 HS3;obtain⟨ab,ao,rfl,-,hablt,hcell⟩:=afe HFL.out sm;have c0:w3.cell? ⟨ab,ao,none⟩=some (.int .i64 t0):=hcell 0 sm;have c2:w3.cell? ⟨ab,ao+2,none⟩=some (.int .i64 (m:Int)):=hcell 2 sm;clear hcell HFL;go_upto_region 7 with fail;have HM4:Hid (Blk (w3.alloc (.cells #[.int .i64 t0,.slice none 0 0] 29)) w3.1.size [.int .i64 t0,.slice none 0 0]):=hid (Blk.newL (qg _ _ _) rfl);have HK4:Hid (Blk (w3.alloc (.cells #[.int .i64 t0,.slice none 0 0] 29)) w.1.size [.int .i64 0,.slice none 0 0]):=hid (HK3.out.on (qa _ _));have HB4:Hid (Below w.1.size w (w3.alloc (.cells #[.int .i64 t0,.slice none 0 0] 29))):=hid (qb HB3.out (qa _ _));have c2':(w3.alloc (.cells #[.int .i64 t0,.slice none 0 0] 29)).cell? ⟨ab,ao+2,none⟩=some (.int .i64 (m:Int)):=((qa w3 _).cell (p:=⟨ab,ao+2,none⟩) hablt).trans c2
 have hgl:w.1.size<w3.1.size:=HK3.out.lt;clear c0 c2 hablt HK3 HB3 HQ3;generalize w3.alloc (.cells #[.int .i64 t0,.slice none 0 0] 29)=W4 at *;generalize w3.1.size=g at *;have fRd:(R:Int) ≤(d:Int)-8:=by omega
 go_cut [7] (fun s wx=>∃o',s=.slice (some ⟨bb,o',none⟩) R (d-8)∧Hid (o'=off+8∨d=8)∧wx=W4)
 case first=>
  by_cases hd8:d=8
  ·subst hd8;go_wp2_with fail
   go_meet
   exact⟨off,rfl,hid (.inr trivial),rfl⟩
  ·have f1:¬(8:Int)=(d:Int):=by omega
   have f2:¬(8:Nat)=d:=by omega
   go_wp2_with fail
   go_meet
   exact⟨off+8,by rw[← hR],hid (.inl rfl),rfl⟩
 case rest=>
 obtain⟨o',rfl,HO,rfl⟩:=hcut;rcases Nat.lt_trichotomy R (12*m)with hlt|heq|hgt
 ·have hre:=HRES.out;rw[if_pos hlt]at hre;subst hre;have f1:(R:Int)<12*(m:Int):=by omega
  have g0:=HK4.out.cell 0 (v:=.int .i64 0) rfl;have g1:=HK4.out.cell 1 (v:=.slice none 0 0) rfl;have z0:=HK4.out.fz 0;have z1:=HK4.out.fz 1;go_wp2_with fail;obtain⟨r1,r2,-⟩:=ahs HK4.out (.int .i64 0) (.slice none 0 0) HB4.out;exact b9 (v:=.tuple #[.agg #[.int .i64 0,.slice none 0 0],.int .i64 2]) (by rw[zm rfl];simp[asAddr,Result.andThen];rw[r1]) rfl ⟨none,0,rfl,qf.nil _ _ _,r2⟩
 rotate_left
 ·have hre:=HRES.out;rw[if_neg om,if_pos hgt]at hre;subst hre;have f1:12*(m:Int)<(R:Int):=by omega
  have g0:=HK4.out.cell 0 (v:=.int .i64 0) rfl;have g1:=HK4.out.cell 1 (v:=.slice none 0 0) rfl;have z0:=HK4.out.fz 0;have z1:=HK4.out.fz 1;go_wp2_with fail;obtain⟨r1,r2,-⟩:=ahs HK4.out (.int .i64 0) (.slice none 0 0) HB4.out;exact b9 (v:=.tuple #[.agg #[.int .i64 0,.slice none 0 0],.int .i64 7]) (by rw[zm rfl];simp[asAddr,Result.andThen];rw[r1]) rfl ⟨none,0,rfl,qf.nil _ _ _,r2⟩
 subst heq;have HRE2:Hid ((if(jk m (b.drop 8)).1=0 then(0,t0,(jk m (b.drop 8)).2)else((jk m (b.drop 8)).1,0,[]))=res):=hid (by have:=HRES.out;rwa [if_neg om,if_neg om]at this)
 have HFR:Hid (qf (fun j=>j<w.1.size) w (some ⟨bb,o',none⟩) (bsV (b.drop (8+12*0)))):=hid (by
  rw[Nat.mul_zero,b21];exact awc (HBF.out.less fun j q=>q.2) 8 om hd o' HO.out)
 have HBL:Hid (b.length=8+12*m):=hid om;have hcap:12*(m-0)≤d-8:=by omega
 have HSH:=fun W=>hid (awp W)
 have HSO:=fun(QQ:Nat→Prop) W A c v (q:qf QQ W A (qr v)) (ql:v.length=7)=>hid (ba6 A c v q ql)
 unfold ac5 at HSH;rw[show aj3.length=7 from rfl]at HSH;obtain⟨i0,hi,hz0,hz1,hz2⟩:=kj bfz;have HI:=hid (o4 hi (o4 hz0 (o4 hz1 hz2)));have HO4:Hid (wc.ownsRow wc.1.size 162 7 (.slice none 0 0) 0 (afi [])):=hid (b2q _ _ _ _);have HG4:=hid (o4 hgl HM4.out.lt);have f12:((12*m:Nat):Int)=12*(m:Int):=by omega
 clear hi hz0 hz1 hz2 HRES HO hR fR fRd HBF f8 f8d f80 h8 HH;go_upto_region 13 with fail;clear c2'
 go_loopg [7] m (fun h s7 wr=>∃k:Nat,k≤m∧m-k≤h∧∃o c',s7=.slice (some ⟨bb,o,none⟩) (12*(m-k)) c'∧12*(m-k)≤c'∧Hid (qf (fun j=>j<w.1.size) w (some ⟨bb,o,none⟩) (bsV (b.drop (8+12*k))))∧Hid (∃L vL,L.length=k ∧(∀v∈L,v.length=7)∧afj L (jk (m-k) (b.drop (8+12*k)))=jk m (b.drop 8)∧Blk wr g [.int .i64 t0,vL]∧wr.ownsRow wc.1.size 162 7 vL k (afi L))∧Hid (Blk wr w.1.size [.int .i64 0,.slice none 0 0])∧Hid (Below w.1.size w wr∧wc.1.size≤wr.1.size))
 case atStart=>exact⟨0,b0c _,by omega,o',d-8,rfl,hcap,HFR,⟨[],.slice none 0 0,rfl,(fun v hv=>nomatch hv),(by rw[b47,Nat.mul_zero,b21];exact a51 _ _),HM4.out,HO4.out⟩,HK4,HB4.out,a8 _⟩
 case round=>
  obtain⟨k,hk,hh,o,c',rfl,hc',HF,HL,HK,HB⟩:=hrel;obtain⟨L,vL,hL1,hL2,hL3,hL4,hL5⟩:=HL.out
  by_cases hlt:k<m
  ·have HFX:=hid (HF.out.first 12);rw[v6]at HFX;have hcl:((b.drop (8+12*k)).take 12).length=12:=by rw[l7,l8,HBL.out];omega
   have HSK:∀A c W1 W2,Below w.1.size w W1→qf (fun b=>W1.1.size≤b∧b<W2.1.size) W2 A (acl aj3)→Below W1.1.size W1 W2→Hid (Calls prog 91 #[.slice A 7 c,.slice (some ⟨bb,o,none⟩) 12 c'] W2 (ky (xk aj3 ((b.drop (8+12*k)).take 12)) W2)):=by
    have:=ail (w:=w) (fs:=aj3) (b:=(b.drop (8+12*k)).take 12) (X:=some ⟨bb,o,none⟩) (d:=c') aqv dc HFX.out om
    rwa [hcl]at this
   obtain⟨N,hN⟩:∃N,m-k=N+1:=⟨m-k-1,by omega⟩;have HN:=hid hN;have HNX:=hid (awc (c:=c') HF.out 12 (by rw[l8,HBL.out];omega) (by rw[l8,HBL.out];omega));rw[hN]at hL3 hc' ⊢;have HL3:=hid hL3;have HLR:=hid (o4 hL1 (o4 hL2 (o4 hL4 hL5)));obtain⟨⟨E,v⟩,hr⟩:∃r,xk aj3 ((b.drop (8+12*k)).take 12)=r:=⟨_,rfl⟩;have HR:=hid hr;have HVL:Hid (E=0→v.length=7):=hid (fun q=>by have:=abv (fs:=aj3) (b:=(b.drop (8+12*k)).take 12) (by rw[hr];exact q);rwa [hr]at this);rw[hr]at HSK;unfold ky at HSK;dsimp only at HSK;have i1:(0:Int)<((12*(N+1):Nat):Int):=by omega
   have i2:(12:Int) ≤(c':Int):=by omega
   have i3:(12:Int) ≤((12*(N+1):Nat):Int):=by omega
   have i4:12≤c':=by omega
   have i5:12≤12*(N+1):=by omega
   clear hr hN hL1 hL2 hL3 hL4 hL5 HL hcl HF HFX
   by_cases hE:E=0
   ·subst hE;have hv7:=HVL.out rfl
    obtain⟨x0,x1,x2,x3,x4,x5,x6,rfl⟩:∃x0 x1 x2 x3 x4 x5 x6,v=[x0,x1,x2,x3,x4,x5,x6]:=by
     rcases v with _|⟨x0,_|⟨x1,_|⟨x2,_|⟨x3,_|⟨x4,_|⟨x5,_|⟨x6,_|⟨z,_⟩⟩⟩⟩⟩⟩⟩⟩<;>first|exact⟨_,_,_,_,_,_,_,rfl⟩|(simp at hv7)
    clear hv7 HVL;go_upto_region 15 with fail
    try (apply b1e;intro K_ HK_)
    have hS0:Below wr.1.size wr wr.drew:=(n6 _ _).drew;refine o7 (S:=fun w'=>Below wr.1.size wr w') kr hS0 (fun hHeld0=>?_);refine tkA 1 55 rfl ?_;go_frame;refine tkA 2 56 rfl ?_;go_frame;refine rdB 0 54 rfl fun K hK=>?_
    go_step;refine(HSH _).out.mono ?_;rintro e w5 ⟨A,c,rfl,hf,hb⟩;have HT:=HSK _ c _ _ (HB.out.1.trans (hHeld0.mono HB.out.1.size)) hf hb;have HS5:Hid (Below wr.1.size wr w5):=hid (hHeld0.trans (hb.mono hHeld0.size));clear hf hb HSK
    try go_frame
    refine hK.out _ _ (HS5.out) (fun hHeld=>?_);clear hK K
    try go_frame
    refine rdB 3 57 rfl fun K hK=>?_
    go_step;refine HT.out.mono ?_;rintro e w6 ⟨A3,c3,rfl,hf,hb⟩;have HFL:=hid hf;have HS6:Hid (Below wr.1.size wr w6):=hid (HS5.out.trans (hb.mono HS5.out.size));clear hf hb HT HS5
    try go_frame
    refine hK.out _ _ (HS6.out) (fun hHeld=>?_);clear hK K
    try go_frame
    refine tkA 4 53 rfl ?_;go_frame;refine tkA 5 58 rfl ?_;go_frame;refine tkA 6 59 rfl ?_;go_frame;refine tkA 7 9 rfl ?_;go_frame;refine tkA 8 10 rfl ?_;go_frame;refine b0j kr ?_ _
    try go_frame
    have HK6:=hid (HK.out.on HS6.out);have HB6:=hid (qb HB.out.1 HS6.out);clear hHeld hHeld0 hS0;have HM6:=hid (HLR.out.2.2.1.on HS6.out);have HO6:=hid (ae3 HLR.out.2.2.2 HS6.out);have HSZ6:Hid (wc.1.size≤w6.1.size):=hid (o8 HB.out.2 HS6.out.size);have HOF7:Hid (Calls prog 272 #[.slice A3 7 c3] w6.drew fun e w'=>e=.returned (.agg #[.int .i64 x0,.int .i64 x1,.int .i64 x2,.int .i64 x3,.int .i64 x4,.int .i64 x5,.int .i64 x6])∧Below w6.drew.1.size w6.drew w'):=HSO _ w6.drew A3 c3 [x0,x1,x2,x3,x4,x5,x6] (HFL.out.keep (w':=w6.drew) fun _ _=>rfl) rfl;have HL7:=hid (o4 HLR.out.1 HLR.out.2.1);clear HFL HLR HS6 HK HB HSO HSH;go_upto_region 18 with fail
    try (apply b1e;intro K_ HK_)
    have hS0:True:=trivial;refine o7 (S:=fun _=>True) kr trivial (fun hHeld0=>?_);refine tkA 0 64 rfl ?_;go_frame;refine tkA 2 66 rfl ?_;go_frame;refine b1a (rs:=[1,3]) kr sm ?_;refine b0r (o:=⟨some 65,_,_,_,_,_⟩) rfl (fun K hK=>?_) (b0r (o:=⟨some 67,_,_,_,_,_⟩) rfl (fun K hK=>?_) b06)
    ·rw[if_pos (by rfl)];have m1:w6.drew.cell? ⟨g,1,none⟩=some vL:=HM6.out.cell 1 rfl;go_step
     try go_frame
     refine hK.out _ _ trivial (fun hHeld=>?_);clear hK K m1
     try go_frame
     refine rdB 3 67 rfl fun K hK=>?_
     go_step;refine HOF7.out.mono ?_;rintro e w7 ⟨rfl,hb⟩;have HM7:=hid (HM6.out.drew.on hb);have HO7:=hid (ae3 (ae3 HO6.out ((n6 _ w6).drew)) hb);have HK7:=hid (HK6.out.drew.on hb);have HB7:Hid (Below w.1.size w w7):=hid (qb HB6.out.drew hb);have HSZ7:Hid (wc.1.size≤w7.1.size):=hid (o8 HSZ6.out hb.size);clear hb
     try go_frame
     refine hK.out _ _ (trivial) (fun hHeld=>?_);clear hK K
     try go_frame
     refine rdB 4 68 rfl fun K hK=>?_
     go_step
     try go_frame
     refine hK.out _ _ trivial (fun hHeld=>?_);clear hK K
     try go_frame
     obtain⟨v',w9,hrun,ho,hb9⟩:=aih (P:=prog) (t:=27) (ty:=27) (ae3 HO7.out (qa w7 (.cells #[.int .i64 x0,.int .i64 x1,.int .i64 x2,.int .i64 x3,.int .i64 x4,.int .i64 x5,.int .i64 x6] 162))) (o8 HSZ7.out (qa w7 _).size) HI.out underlying27 rfl dc (R:=fun _=>True) (some ⟨w7.1.size,0,none⟩) 1 1 (qr [x0,x1,x2,x3,x4,x5,x6]) rfl ((Blk.newL (qg w7 _ _) rfl).flat trivial) (al3 _) (by unfold maxLen;omega) om;obtain⟨A',cp,hv',-,-,-⟩:=xx ho;subst hv';have HRUN:=hid hrun;have HO9:=hid ho;have HM9:=hid ((HM7.out.on (qa w7 (.cells #[.int .i64 x0,.int .i64 x1,.int .i64 x2,.int .i64 x3,.int .i64 x4,.int .i64 x5,.int .i64 x6] 162))).below hb9 HG4.out.2);have HK9:=hid ((HK7.out.on (qa w7 (.cells #[.int .i64 x0,.int .i64 x1,.int .i64 x2,.int .i64 x3,.int .i64 x4,.int .i64 x5,.int .i64 x6] 162))).below hb9 (b05 HG4.out.1 HG4.out.2));have HB9:Hid (Below w.1.size w w9):=hid ((qb HB7.out (qa w7 (.cells #[.int .i64 x0,.int .i64 x1,.int .i64 x2,.int .i64 x3,.int .i64 x4,.int .i64 x5,.int .i64 x6] 162))).trans (hb9.mono (b14 (b05 HG4.out.1 HG4.out.2))))
     have HSZ9:Hid (wc.1.size≤w9.1.size):=hid (o8 HSZ7.out (o8 (qa w7 (.cells #[.int .i64 x0,.int .i64 x1,.int .i64 x2,.int .i64 x3,.int .i64 x4,.int .i64 x5,.int .i64 x6] 162)).size hb9.size));clear hrun ho hb9 HM7 HO7 HK7 HB7 HSZ7;refine rdA 5 69 rfl fun K hK=>?_
     refine acg rfl (.tmp 65) (.tmp 68) 27 rfl vL (.slice (some ⟨w7.1.size,0,none⟩) 1 1) (.slice A' (k+1) cp) rfl rfl HRUN.out ?_
     try go_frame
     refine hK.out _ _ trivial (fun hHeld=>?_);clear hK K HRUN
     try go_frame
     refine tkA 6 70 rfl ?_;go_frame;have m1:=HM9.out.cell 1 (v:=vL) rfl;have z1:=HM9.out.fz 1;refine b1a (rs:=[7]) kr sm ?_;refine b0r (o:=⟨none,_,_,_,_,_⟩) rfl (fun K hK=>?_) b06;rw[if_pos (by rfl)];go_step
     try go_frame
     obtain⟨hm10,hs⟩:=HM9.out.set (o:=1) sm (.slice A' (k+1) cp);have HM10:Hid (Blk (w9.setCell ⟨g,1,none⟩ (.slice A' (k+1) cp)) g [.int .i64 t0,(.slice A' (k+1) cp)]):=hid hm10;have HO10:Hid ((w9.setCell ⟨g,1,none⟩ (.slice A' (k+1) cp)).ownsRow wc.1.size 162 7 (.slice A' (k+1) cp) (k+1) (afi (L++[[x0,x1,x2,x3,x4,x5,x6]]))):=hid (by rw[aj4];exact ak5 HO9.out HG4.out.2 (.slice A' (k+1) cp));have HK10:=hid (HK9.out.far hs (b0y HG4.out.1));have HB10:=hid (HB9.out.trans (hs.below (b14 HG4.out.1)));have HSZ10:Hid (wc.1.size ≤(w9.setCell ⟨g,1,none⟩ (.slice A' (k+1) cp)).1.size):=hid (by rw[hs.sz];exact HSZ9.out);refine hK.out _ _ trivial (fun hHeld=>?_);clear hK K m1 z1 hm10 hs HM9 HO9 HK9 HB9 HSZ9
     try go_frame
     generalize w9.setCell ⟨g,1,none⟩ (.slice A' (k+1) cp)=w10 at *;refine b0j kr ?_ _
     try go_frame
     have HLN:Hid (∃L' vL',L'.length=k+1 ∧(∀v∈L',v.length=7)∧afj L' (jk (m-(k+1)) (b.drop (8+12*(k+1))))=jk m (b.drop 8)∧Blk w10 g [.int .i64 t0,vL']∧w10.ownsRow wc.1.size 162 7 vL' (k+1) (afi L')):=hid ⟨L++[[x0,x1,x2,x3,x4,x5,x6]],(.slice A' (k+1) cp),by rw[d7,HL7.out.1];rfl,(fun v hv=>by
      rcases b1u.1 hv with q|q
      ·exact HL7.out.2 v q
      ·rw[b3h.1 q];rfl),(by
      have e:=aj5 L N (b.drop (8+12*k)) (by rw[HR.out]);rw[HR.out,HL3.out,b1v]at e;rw[show m-(k+1)=N from by have:=HN.out;omega,show 8+12*(k+1)=8+12*k+12 from by omega];exact e.symm),HM10.out,HO10.out⟩
     clear HM10 HO10 HL7 hHeld hHeld0 hS0;have HND:Hid (12*(N+1)-12=12*(m-(k+1))):=hid (by have:=HN.out;omega);have HDR:Hid ((b.drop (8+12*k)).drop 12=b.drop (8+12*(k+1))):=hid (by rw[b1v,show 8+12*k+12=8+12*(k+1)from by omega]);have hcc:12*(m-(k+1))≤c'-12:=by have:=HN.out;omega
     by_cases h12:c'=12
     ·have HF2:=hid (HNX.out o (.inr h12));rw[HDR.out]at HF2;subst h12;go_wp2_with fail
      go_roundg (m-(k+1))
      case measure=>omega
      case rel=>exact⟨k+1,by omega,by omega,o,0,by(rw[show 12*(m-(k+1))=0 from by omega]),hcc,HF2,HLN,HK10,HB10.out,HSZ10.out⟩
     ·have j1:¬(12:Int)=(c':Int):=by omega
      have j2:¬(12:Nat)=c':=by omega
      have HF2:=hid (HNX.out (o+12) (.inl rfl));rw[HDR.out]at HF2;go_wp2_with fail
      go_roundg (m-(k+1))
      case measure=>omega
      case rel=>exact⟨k+1,by omega,by omega,o+12,c'-12,by rw[← HND.out],hcc,HF2,HLN,HK10,HB10.out,HSZ10.out⟩
    ·rw[if_pos (by rfl)];go_step;refine HOF7.out.mono ?_;rintro e w7 ⟨rfl,hb⟩;have HM7:=hid (HM6.out.drew.on hb);have HO7:=hid (ae3 (ae3 HO6.out ((n6 _ w6).drew)) hb);have HK7:=hid (HK6.out.drew.on hb);have HB7:Hid (Below w.1.size w w7):=hid (qb HB6.out.drew hb);have HSZ7:Hid (wc.1.size≤w7.1.size):=hid (o8 HSZ6.out hb.size);clear hb
     try go_frame
     refine hK.out _ _ trivial (fun hHeld=>?_);clear hK K
     try go_frame
     refine b1a (rs:=[1,4]) kr sm ?_;refine b0r (o:=⟨some 65,_,_,_,_,_⟩) rfl (fun K hK=>?_) (b0r (o:=⟨some 68,_,_,_,_,_⟩) rfl (fun K hK=>?_) b06)
     ·rw[if_pos (by rfl)];have m1:w7.cell? ⟨g,1,none⟩=some vL:=HM7.out.cell 1 rfl;go_step
      try go_frame
      refine hK.out _ _ trivial (fun hHeld=>?_);clear hK K m1
      try go_frame
      refine rdB 4 68 rfl fun K hK=>?_
      go_step
      try go_frame
      refine hK.out _ _ trivial (fun hHeld=>?_);clear hK K
      try go_frame
      obtain⟨v',w9,hrun,ho,hb9⟩:=aih (P:=prog) (t:=27) (ty:=27) (ae3 HO7.out (qa w7 (.cells #[.int .i64 x0,.int .i64 x1,.int .i64 x2,.int .i64 x3,.int .i64 x4,.int .i64 x5,.int .i64 x6] 162))) (o8 HSZ7.out (qa w7 _).size) HI.out underlying27 rfl dc (R:=fun _=>True) (some ⟨w7.1.size,0,none⟩) 1 1 (qr [x0,x1,x2,x3,x4,x5,x6]) rfl ((Blk.newL (qg w7 _ _) rfl).flat trivial) (al3 _) (by unfold maxLen;omega) om;obtain⟨A',cp,hv',-,-,-⟩:=xx ho;subst hv';have HRUN:=hid hrun;have HO9:=hid ho;have HM9:=hid ((HM7.out.on (qa w7 (.cells #[.int .i64 x0,.int .i64 x1,.int .i64 x2,.int .i64 x3,.int .i64 x4,.int .i64 x5,.int .i64 x6] 162))).below hb9 HG4.out.2);have HK9:=hid ((HK7.out.on (qa w7 (.cells #[.int .i64 x0,.int .i64 x1,.int .i64 x2,.int .i64 x3,.int .i64 x4,.int .i64 x5,.int .i64 x6] 162))).below hb9 (b05 HG4.out.1 HG4.out.2));have HB9:Hid (Below w.1.size w w9):=hid ((qb HB7.out (qa w7 (.cells #[.int .i64 x0,.int .i64 x1,.int .i64 x2,.int .i64 x3,.int .i64 x4,.int .i64 x5,.int .i64 x6] 162))).trans (hb9.mono (b14 (b05 HG4.out.1 HG4.out.2))))
      have HSZ9:Hid (wc.1.size≤w9.1.size):=hid (o8 HSZ7.out (o8 (qa w7 (.cells #[.int .i64 x0,.int .i64 x1,.int .i64 x2,.int .i64 x3,.int .i64 x4,.int .i64 x5,.int .i64 x6] 162)).size hb9.size));clear hrun ho hb9 HM7 HO7 HK7 HB7 HSZ7;refine rdA 5 69 rfl fun K hK=>?_
      refine acg rfl (.tmp 65) (.tmp 68) 27 rfl vL (.slice (some ⟨w7.1.size,0,none⟩) 1 1) (.slice A' (k+1) cp) rfl rfl HRUN.out ?_
      try go_frame
      refine hK.out _ _ trivial (fun hHeld=>?_);clear hK K HRUN
      try go_frame
      refine tkA 6 70 rfl ?_;go_frame;have m1:=HM9.out.cell 1 (v:=vL) rfl;have z1:=HM9.out.fz 1;refine b1a (rs:=[7]) kr sm ?_;refine b0r (o:=⟨none,_,_,_,_,_⟩) rfl (fun K hK=>?_) b06;rw[if_pos (by rfl)];go_step
      try go_frame
      obtain⟨hm10,hs⟩:=HM9.out.set (o:=1) sm (.slice A' (k+1) cp);have HM10:Hid (Blk (w9.setCell ⟨g,1,none⟩ (.slice A' (k+1) cp)) g [.int .i64 t0,(.slice A' (k+1) cp)]):=hid hm10;have HO10:Hid ((w9.setCell ⟨g,1,none⟩ (.slice A' (k+1) cp)).ownsRow wc.1.size 162 7 (.slice A' (k+1) cp) (k+1) (afi (L++[[x0,x1,x2,x3,x4,x5,x6]]))):=hid (by rw[aj4];exact ak5 HO9.out HG4.out.2 (.slice A' (k+1) cp));have HK10:=hid (HK9.out.far hs (b0y HG4.out.1));have HB10:=hid (HB9.out.trans (hs.below (b14 HG4.out.1)));have HSZ10:Hid (wc.1.size ≤(w9.setCell ⟨g,1,none⟩ (.slice A' (k+1) cp)).1.size):=hid (by rw[hs.sz];exact HSZ9.out);refine hK.out _ _ trivial (fun hHeld=>?_);clear hK K m1 z1 hm10 hs HM9 HO9 HK9 HB9 HSZ9
      try go_frame
      generalize w9.setCell ⟨g,1,none⟩ (.slice A' (k+1) cp)=w10 at *;refine b0j kr ?_ _
      try go_frame
      have HLN:Hid (∃L' vL',L'.length=k+1 ∧(∀v∈L',v.length=7)∧afj L' (jk (m-(k+1)) (b.drop (8+12*(k+1))))=jk m (b.drop 8)∧Blk w10 g [.int .i64 t0,vL']∧w10.ownsRow wc.1.size 162 7 vL' (k+1) (afi L')):=hid ⟨L++[[x0,x1,x2,x3,x4,x5,x6]],(.slice A' (k+1) cp),by rw[d7,HL7.out.1];rfl,(fun v hv=>by
       rcases b1u.1 hv with q|q
       ·exact HL7.out.2 v q
       ·rw[b3h.1 q];rfl),(by
       have e:=aj5 L N (b.drop (8+12*k)) (by rw[HR.out]);rw[HR.out,HL3.out,b1v]at e;rw[show m-(k+1)=N from by have:=HN.out;omega,show 8+12*(k+1)=8+12*k+12 from by omega];exact e.symm),HM10.out,HO10.out⟩
      clear HM10 HO10 HL7 hHeld hHeld0 hS0;have HND:Hid (12*(N+1)-12=12*(m-(k+1))):=hid (by have:=HN.out;omega);have HDR:Hid ((b.drop (8+12*k)).drop 12=b.drop (8+12*(k+1))):=hid (by rw[b1v,show 8+12*k+12=8+12*(k+1)from by omega]);have hcc:12*(m-(k+1))≤c'-12:=by have:=HN.out;omega
      by_cases h12:c'=12
      ·have HF2:=hid (HNX.out o (.inr h12));rw[HDR.out]at HF2;subst h12;go_wp2_with fail
       go_roundg (m-(k+1))
       case measure=>omega
       case rel=>exact⟨k+1,by omega,by omega,o,0,by(rw[show 12*(m-(k+1))=0 from by omega]),hcc,HF2,HLN,HK10,HB10.out,HSZ10.out⟩
      ·have j1:¬(12:Int)=(c':Int):=by omega
       have j2:¬(12:Nat)=c':=by omega
       have HF2:=hid (HNX.out (o+12) (.inl rfl));rw[HDR.out]at HF2;go_wp2_with fail
       go_roundg (m-(k+1))
       case measure=>omega
       case rel=>exact⟨k+1,by omega,by omega,o+12,c'-12,by rw[← HND.out],hcc,HF2,HLN,HK10,HB10.out,HSZ10.out⟩
     ·rw[if_pos (by rfl)];go_step
      try go_frame
      refine hK.out _ _ trivial (fun hHeld=>?_);clear hK K
      try go_frame
      refine rdB 1 65 rfl fun K hK=>?_
      have m1:(w7.alloc (.cells #[.int .i64 x0,.int .i64 x1,.int .i64 x2,.int .i64 x3,.int .i64 x4,.int .i64 x5,.int .i64 x6] 162)).cell? ⟨g,1,none⟩=some vL:=(HM7.out.on (qa w7 _)).cell 1 rfl;go_step
      try go_frame
      refine hK.out _ _ trivial (fun hHeld=>?_);clear hK K m1
      try go_frame
      obtain⟨v',w9,hrun,ho,hb9⟩:=aih (P:=prog) (t:=27) (ty:=27) (ae3 HO7.out (qa w7 (.cells #[.int .i64 x0,.int .i64 x1,.int .i64 x2,.int .i64 x3,.int .i64 x4,.int .i64 x5,.int .i64 x6] 162))) (o8 HSZ7.out (qa w7 _).size) HI.out underlying27 rfl dc (R:=fun _=>True) (some ⟨w7.1.size,0,none⟩) 1 1 (qr [x0,x1,x2,x3,x4,x5,x6]) rfl ((Blk.newL (qg w7 _ _) rfl).flat trivial) (al3 _) (by unfold maxLen;omega) om;obtain⟨A',cp,hv',-,-,-⟩:=xx ho;subst hv';have HRUN:=hid hrun;have HO9:=hid ho;have HM9:=hid ((HM7.out.on (qa w7 (.cells #[.int .i64 x0,.int .i64 x1,.int .i64 x2,.int .i64 x3,.int .i64 x4,.int .i64 x5,.int .i64 x6] 162))).below hb9 HG4.out.2);have HK9:=hid ((HK7.out.on (qa w7 (.cells #[.int .i64 x0,.int .i64 x1,.int .i64 x2,.int .i64 x3,.int .i64 x4,.int .i64 x5,.int .i64 x6] 162))).below hb9 (b05 HG4.out.1 HG4.out.2));have HB9:Hid (Below w.1.size w w9):=hid ((qb HB7.out (qa w7 (.cells #[.int .i64 x0,.int .i64 x1,.int .i64 x2,.int .i64 x3,.int .i64 x4,.int .i64 x5,.int .i64 x6] 162))).trans (hb9.mono (b14 (b05 HG4.out.1 HG4.out.2))))
      have HSZ9:Hid (wc.1.size≤w9.1.size):=hid (o8 HSZ7.out (o8 (qa w7 (.cells #[.int .i64 x0,.int .i64 x1,.int .i64 x2,.int .i64 x3,.int .i64 x4,.int .i64 x5,.int .i64 x6] 162)).size hb9.size));clear hrun ho hb9 HM7 HO7 HK7 HB7 HSZ7;refine rdA 5 69 rfl fun K hK=>?_
      refine acg rfl (.tmp 65) (.tmp 68) 27 rfl vL (.slice (some ⟨w7.1.size,0,none⟩) 1 1) (.slice A' (k+1) cp) rfl rfl HRUN.out ?_
      try go_frame
      refine hK.out _ _ trivial (fun hHeld=>?_);clear hK K HRUN
      try go_frame
      refine tkA 6 70 rfl ?_;go_frame;have m1:=HM9.out.cell 1 (v:=vL) rfl;have z1:=HM9.out.fz 1;refine b1a (rs:=[7]) kr sm ?_;refine b0r (o:=⟨none,_,_,_,_,_⟩) rfl (fun K hK=>?_) b06;rw[if_pos (by rfl)];go_step
      try go_frame
      obtain⟨hm10,hs⟩:=HM9.out.set (o:=1) sm (.slice A' (k+1) cp);have HM10:Hid (Blk (w9.setCell ⟨g,1,none⟩ (.slice A' (k+1) cp)) g [.int .i64 t0,(.slice A' (k+1) cp)]):=hid hm10;have HO10:Hid ((w9.setCell ⟨g,1,none⟩ (.slice A' (k+1) cp)).ownsRow wc.1.size 162 7 (.slice A' (k+1) cp) (k+1) (afi (L++[[x0,x1,x2,x3,x4,x5,x6]]))):=hid (by rw[aj4];exact ak5 HO9.out HG4.out.2 (.slice A' (k+1) cp));have HK10:=hid (HK9.out.far hs (b0y HG4.out.1));have HB10:=hid (HB9.out.trans (hs.below (b14 HG4.out.1)));have HSZ10:Hid (wc.1.size ≤(w9.setCell ⟨g,1,none⟩ (.slice A' (k+1) cp)).1.size):=hid (by rw[hs.sz];exact HSZ9.out);refine hK.out _ _ trivial (fun hHeld=>?_);clear hK K m1 z1 hm10 hs HM9 HO9 HK9 HB9 HSZ9
      try go_frame
      generalize w9.setCell ⟨g,1,none⟩ (.slice A' (k+1) cp)=w10 at *;refine b0j kr ?_ _
      try go_frame
      have HLN:Hid (∃L' vL',L'.length=k+1 ∧(∀v∈L',v.length=7)∧afj L' (jk (m-(k+1)) (b.drop (8+12*(k+1))))=jk m (b.drop 8)∧Blk w10 g [.int .i64 t0,vL']∧w10.ownsRow wc.1.size 162 7 vL' (k+1) (afi L')):=hid ⟨L++[[x0,x1,x2,x3,x4,x5,x6]],(.slice A' (k+1) cp),by rw[d7,HL7.out.1];rfl,(fun v hv=>by
       rcases b1u.1 hv with q|q
       ·exact HL7.out.2 v q
       ·rw[b3h.1 q];rfl),(by
       have e:=aj5 L N (b.drop (8+12*k)) (by rw[HR.out]);rw[HR.out,HL3.out,b1v]at e;rw[show m-(k+1)=N from by have:=HN.out;omega,show 8+12*(k+1)=8+12*k+12 from by omega];exact e.symm),HM10.out,HO10.out⟩
      clear HM10 HO10 HL7 hHeld hHeld0 hS0;have HND:Hid (12*(N+1)-12=12*(m-(k+1))):=hid (by have:=HN.out;omega);have HDR:Hid ((b.drop (8+12*k)).drop 12=b.drop (8+12*(k+1))):=hid (by rw[b1v,show 8+12*k+12=8+12*(k+1)from by omega]);have hcc:12*(m-(k+1))≤c'-12:=by have:=HN.out;omega
      by_cases h12:c'=12
      ·have HF2:=hid (HNX.out o (.inr h12));rw[HDR.out]at HF2;subst h12;go_wp2_with fail
       go_roundg (m-(k+1))
       case measure=>omega
       case rel=>exact⟨k+1,by omega,by omega,o,0,by(rw[show 12*(m-(k+1))=0 from by omega]),hcc,HF2,HLN,HK10,HB10.out,HSZ10.out⟩
      ·have j1:¬(12:Int)=(c':Int):=by omega
       have j2:¬(12:Nat)=c':=by omega
       have HF2:=hid (HNX.out (o+12) (.inl rfl));rw[HDR.out]at HF2;go_wp2_with fail
       go_roundg (m-(k+1))
       case measure=>omega
       case rel=>exact⟨k+1,by omega,by omega,o+12,c'-12,by rw[← HND.out],hcc,HF2,HLN,HK10,HB10.out,HSZ10.out⟩
   ·have hE2:(E != 0)=true:=by rw[b0g];exact hE
    have hE3:(E==0)=false:=by rw[l6];exact hE
    have HXF:Hid (jk m (b.drop 8)=(E,[])):=hid (by rw[← HL3.out,a50 _ _ _ (by rw[HR.out];exact hE),HR.out]);have hre:=HRE2.out;rw[HXF.out,if_neg hE]at hre;subst hre;clear hE HVL HNX;go_upto_region 15 with fail
    try (apply b1e;intro K_ HK_)
    have hS0:Below wr.1.size wr wr.drew:=(n6 _ _).drew;refine o7 (S:=fun w'=>Below wr.1.size wr w') kr hS0 (fun hHeld0=>?_);refine tkA 1 55 rfl ?_;go_frame;refine tkA 2 56 rfl ?_;go_frame;refine rdB 0 54 rfl fun K hK=>?_
    go_step;refine(HSH _).out.mono ?_;rintro e w5 ⟨A,c,rfl,hf,hb⟩;have HT:=HSK _ c _ _ (HB.out.1.trans (hHeld0.mono HB.out.1.size)) hf hb;have HS5:Hid (Below wr.1.size wr w5):=hid (hHeld0.trans (hb.mono hHeld0.size));clear hf hb HSK
    try go_frame
    refine hK.out _ _ (HS5.out) (fun hHeld=>?_);clear hK K
    try go_frame
    refine rdB 3 57 rfl fun K hK=>?_
    go_step;refine HT.out.mono ?_;rintro e w6 ⟨A3,c3,rfl,hf,hb⟩;have HFL:=hid hf;have HS6:Hid (Below wr.1.size wr w6):=hid (HS5.out.trans (hb.mono HS5.out.size));clear hf hb HT HS5
    try go_frame
    refine hK.out _ _ (HS6.out) (fun hHeld=>?_);clear hK K
    try go_frame
    refine tkA 4 53 rfl ?_;go_frame;refine tkA 5 58 rfl ?_;go_frame;refine tkA 6 59 rfl ?_;go_frame;refine tkA 7 9 rfl ?_;go_frame;refine tkA 8 10 rfl ?_;go_frame;refine b0j kr ?_ _
    try go_frame
    have HK6:=hid (HK.out.on HS6.out);have HB6:=hid (qb HB.out.1 HS6.out);clear hHeld hHeld0 hS0;have g0:=HK6.out.cell 0 (v:=.int .i64 0) rfl;have g1:=HK6.out.cell 1 (v:=.slice none 0 0) rfl;have z0:=HK6.out.fz 0;have z1:=HK6.out.fz 1;go_wp2_with fail;obtain⟨r1,r2,-⟩:=ahs HK6.out (.int .i64 0) (.slice none 0 0) HB6.out;exact b9 (v:=.tuple #[.agg #[.int .i64 0,.slice none 0 0],.int .i64 E]) (by rw[zm rfl];simp[asAddr,Result.andThen];rw[r1]) rfl ⟨none,0,rfl,qf.nil _ _ _,r2⟩
  ·obtain rfl:k=m:=by omega
   rw[b2p]at hL3 ⊢;have hs0:afj L (jk 0 (b.drop (8+12*k)))=(0,L):=by unfold afj jk;rw[if_pos rfl,b0k]
   rw[hs0]at hL3;have hre:=HRE2.out;rw[← hL3,if_pos rfl]at hre;subst hre;obtain⟨A,c,rfl,-,hfl,-⟩:=xx hL5;have HFL:=hid (o4 hL1 hfl);have HM5:=hid hL4;have m0:=hL4.cell 0 (v:=.int .i64 t0) rfl;have m1:=hL4.cell 1 (v:=.slice A k c) rfl;clear hL1 hL2 hL3 hL4 hL5 hfl hs0 HL HF;have g0:=HK.out.cell 0 (v:=.int .i64 0) rfl;have g1:=HK.out.cell 1 (v:=.slice none 0 0) rfl;have z0:=HK.out.fz 0;have z1:=HK.out.fz 1;go_wp2_with fail;obtain⟨r1,r2,r3⟩:=ahs HK.out (.int .i64 t0) (.slice A k c) HB.out.1;refine b9 (v:=.tuple #[.agg #[.int .i64 t0,.slice A k c],.int .i64 0]) (by rw[zm rfl];simp[asAddr,Result.andThen];rw[r1]) rfl ⟨A,c,by rw[HFL.out.1],?_,r2⟩;refine(HFL.out.2.keep fun j hj=>r3 j (fun e=>?_)).less fun j hj=>⟨?_,by simpa using hj.2⟩
   ·have:=HG4.out;omega
   ·have:=HG4.out;omega
def kh:Nat→List UInt8→Int×List (Nat×Nat)
 | 0,b=>if b=[]then(0,[])else(7,[])
 | k+1,b=>if b=[]then(0,[])else if b.length<4 then(2,[])else
  if(jj (je (b.take 4))).2=0 then(6,[])else if(b.drop 4).length<(jj (je (b.take 4))).2 then(2,[])else
   if 2^(jj (je (b.take 4))).1-1<je ((b.drop 4).take (jj (je (b.take 4))).2)then(5,[])else
    if(kh k ((b.drop 4).drop (jj (je (b.take 4))).2)).1=0 then(0,(je (b.take 4),je ((b.drop 4).take (jj (je (b.take 4))).2))::(kh k ((b.drop 4).drop (jj (je (b.take 4))).2)).2)else((kh k ((b.drop 4).drop (jj (je (b.take 4))).2)).1,[])
theorem bf3:∀(k:Nat) (b:List UInt8),(kh k b).1≠0 →(kh k b).2=[]
 | 0,b,h=>by unfold kh at *;split<;>rfl
 | k+1,b,h=>by
  unfold kh at *
  by_cases h0:b=[]
  ·rw[if_pos h0]
  rw[if_neg h0]at h ⊢
  by_cases h1:b.length<4
  ·rw[if_pos h1]
  rw[if_neg h1]at h ⊢
  by_cases h2:(jj (je (b.take 4))).2=0
  ·rw[if_pos h2]
  rw[if_neg h2]at h ⊢
  by_cases h3:(b.drop 4).length<(jj (je (b.take 4))).2
  ·rw[if_pos h3]
  rw[if_neg h3]at h ⊢
  by_cases h4:2^(jj (je (b.take 4))).1-1<je ((b.drop 4).take (jj (je (b.take 4))).2)
  ·rw[if_pos h4]
  rw[if_neg h4]at h ⊢
  by_cases h5:(kh k ((b.drop 4).drop (jj (je (b.take 4))).2)).1=0
  ·rw[if_pos h5]at h;exact absurd rfl h
  ·rw[if_neg h5]
def asp (L:List (Nat×Nat)) (r:Int×List (Nat×Nat)):Int×List (Nat×Nat):=if r.1=0 then(0,L++r.2)else(r.1,[])
theorem bbh (k:Nat) (b:List UInt8):asp [] (kh k b)=kh k b:=by
 unfold asp
 split
 ·rename_i h;rw[b03,← h]
 ·rename_i h;rw[← bf3 k b h]
theorem bbg (L:List (Nat×Nat)) (k:Nat) (b:List UInt8) (h0:b≠[]) (h4:¬b.length<4) (hn:(jj (je (b.take 4))).2≠0) (hl:¬(b.drop 4).length<(jj (je (b.take 4))).2) (hv:¬2^(jj (je (b.take 4))).1-1<je ((b.drop 4).take (jj (je (b.take 4))).2)) :
 asp L (kh (k+1) b)=asp (L++[(je (b.take 4),je ((b.drop 4).take (jj (je (b.take 4))).2))]) (kh k ((b.drop 4).drop (jj (je (b.take 4))).2)):=by
 unfold asp
 conv=>lhs;unfold kh
 rw[if_neg h0,if_neg h4,if_neg hn,if_neg hl,if_neg hv]
 by_cases h2:(kh k ((b.drop 4).drop (jj (je (b.take 4))).2)).1=0
 ·rw[if_pos h2,if_pos rfl,if_pos h2];simp
 ·rw[if_neg h2,if_neg h2,if_neg h2]
theorem ahv (L:List (Nat×Nat)) (r:Int×List (Nat×Nat)) (h:r.1≠0) (h2:r.2=[]):asp L r=r:=by
 unfold asp;rw[if_neg h,← h2]
def afp (b:List UInt8):Int×Int×List (Nat×Nat):=
 if b.length<4 then(2,0,[])else if(xk ai1 (b.take 4)).1=0 then
  if(kh 32 (b.drop 4)).1=0 then(0,(xk ai1 (b.take 4)).2.getD 1 0,(kh 32 (b.drop 4)).2)else((kh 32 (b.drop 4)).1,0,[])
  else((xk ai1 (b.take 4)).1,0,[])
def ae4 (L:List (Nat×Nat)):List Value:=L.flatMap fun p=>[.int .i64 p.1,.int .i64 p.2]
theorem a0l (L:List (Nat×Nat)) (p:Nat×Nat):ae4 (L++[p])=ae4 L++[.int .i64 p.1,.int .i64 p.2]:=by simp[ae4]
def aut (x:Int×Int×List (Nat×Nat)) (w:World) (e:Ending) (w':World):Prop:=
 ∃A c,e=.returned (.tuple #[.agg #[.int .i64 x.2.1,.slice A x.2.2.length c],.int .i64 x.1])∧qf (fun b=>w.1.size≤b∧b<w'.1.size) w' A (ae4 x.2.2)∧Below w.1.size w w'
theorem bfp:(prog.info? 164).map (fun i=>(i.zero,i.size,i.bytes))=some (some (.agg #[.int .i64 0,.int .i64 0]),2,16):=by kernel_rfl
theorem agu {w1 w:World} {b:Nat} {x y:Value} (hk:Blk w1 b [x,y]) (p q:Value) (hb:Below b w w1) :
 (loadVar 36 ⟨b,0,none⟩).run prog ((w1.setCell ⟨b,0,none⟩ p).setCell ⟨b,1,none⟩ q)=.ok (.agg #[p,q]) ((w1.setCell ⟨b,0,none⟩ p).setCell ⟨b,1,none⟩ q)∧Below b w ((w1.setCell ⟨b,0,none⟩ p).setCell ⟨b,1,none⟩ q)∧∀k,k≠b →((w1.setCell ⟨b,0,none⟩ p).setCell ⟨b,1,none⟩ q).heap[k]?=w1.heap[k]?:=by
 have hs:qp w1 ((w1.setCell ⟨b,0,none⟩ p).setCell ⟨b,1,none⟩ q) b 0 [p,q]:=qo (cs:=[p,q]) (hk.there 0 2 (a8 _));exact⟨t6 (P:=prog) _ b 0 36 [p,q] _ (hk.all hs rfl).rg underlying36 rfl kr,hb.trans (hs.below (a8 _)),hs.far⟩
theorem bf4 (k:Nat):kh k []=(0,[]):=by cases k<;>simp[kh]
structure VB (w:World) (B lo a g:Nat) (t0:Int) (vL:Value) (k:Nat) (L:List (Nat×Nat)) (W:World) (s:Option (List UInt8)):Prop where
 m:Blk W g [.int .i64 t0,vL]
 own:W.ownsRow B 164 2 vL k (ae4 L)
 rd:RdI (fun j=>lo≤j∧j<B) W a s
 res:Blk W w.1.size [.int .i64 0,.slice none 0 0]
 bel:Below w.1.size w W
 sz:B≤W.1.size
theorem VB.on {w:World} {B lo a g:Nat} {t0:Int} {vL:Value} {k:Nat} {L:List (Nat×Nat)} {W W':World} {s:Option (List UInt8)} (h:VB w B lo a g t0 vL k L W s) (hb:Below W.1.size W W'):VB w B lo a g t0 vL k L W' s:=
 ⟨h.m.on hb,ae3 h.own hb,h.rd.below hb (fun j q=>e9 q.2 h.sz),h.res.on hb,qb h.bel hb,o8 h.sz hb.size⟩
theorem VB.kept {w:World} {B lo a g:Nat} {t0:Int} {vL:Value} {k:Nat} {L:List (Nat×Nat)} {W W':World} {s s':Option (List UInt8)} (h:VB w B lo a g t0 vL k L W s) (hd:w.1.size<g∧g<lo∧lo≤a∧a<B) (hk:qj (fun j=>j≠a) W W') (hr:RdI (fun j=>lo≤j∧j<B) W' a s'):VB w B lo a g t0 vL k L W' s':=by
 refine⟨h.m.kept (hk.block g om) hk.size,⟨h.own.1,?_⟩,hr,h.res.kept (hk.block _ om) hk.size,h.bel.trans (hk.below (fun j hj=>by omega)),o8 h.sz hk.size⟩;rcases h.own.2 with q|⟨g',cap,cur,h1,h2,h3,h4⟩
 ·exact .inl q
 ·exact .inr ⟨g',cap,cur,h1,h2,by rw[hk.block g' om];exact h3,h4⟩
theorem a2q {Q0:Nat→Prop} {w:World} (X:Option Addr) (d:Nat) (b:List UInt8) (hB:qf Q0 w X (bsV b)) (hm:b.length≤1000000) (hd:b.length≤d) :
 Calls prog 289 #[.slice X b.length d] w (aut (afp b) w):=by
 have HK0:∀W,Below (w.alloc (.cells #[.int .i64 0,.slice none 0 0] 36)).1.size (w.alloc (.cells #[.int .i64 0,.slice none 0 0] 36)) W→Hid (Blk W w.1.size [.int .i64 0,.slice none 0 0]):=fun W hW=>hid ((Blk.newL (qg w _ _) rfl).on hW)
 by_cases h8:b.length<4
 ·have e:afp b=(2,0,[]):=by unfold afp;rw[if_pos h8]
  rw[e];have f1:(b.length:Int)<4:=by omega
  have HK1:=HK0 _ (n6 _ _);generalize b.length=L at *;clear hB e;have g0:=HK1.out.cell 0 (v:=.int .i64 0) rfl;have g1:=HK1.out.cell 1 (v:=.slice none 0 0) rfl;have z0:=HK1.out.fz 0;have z1:=HK1.out.fz 1;go_enter func289,ntmps289;go_wp2_with fail;refine b4u (b5h ?_ (fun e a w h=>by cases e<;>first|exact h|exact h.elim));go_wp2_with fail;have HLD:=hid (t6 (P:=prog) _ w.1.size 0 36 [.int .i64 0,.slice none 0 0] _ HK1.out.rg underlying36 rfl kr);exact b9 (v:=.tuple #[.agg #[.int .i64 0,.slice none 0 0],.int .i64 2]) (by rw[zm rfl];simp[asAddr,Result.andThen];rw[HLD.out]) rfl ⟨none,0,rfl,qf.nil _ _ _,qa _ _⟩
 obtain⟨bb,off,rfl,-,-⟩:=hB 0 (bV (b[0]'(by omega))) (vz om);have h8l:(b.take 4).length=4:=by rw[l7];omega
 have HH:=fun W=>hid (axv W)
 have HS:∀A c W1 W2,Below w.1.size w W1→qf (fun b=>W1.1.size≤b∧b<W2.1.size) W2 A (acl ai1)→Below W1.1.size W1 W2→Hid (Calls prog 91 #[.slice A ai1.length c,.slice (some ⟨bb,off,none⟩) 4 d] W2 (ky (xk ai1 (b.take 4)) W2)):=by
  have:=ail (Q0:=Q0) (w:=w) (fs:=ai1) (b:=b.take 4) (X:=some ⟨bb,off,none⟩) (d:=d) a7c dc (by have:=hB.first 4;rwa [v6]at this) om
  rwa [h8l]at this
 have HLN:Hid ((xk ai1 (b.take 4)).1=0 →(xk ai1 (b.take 4)).2.length=3):=hid (fun h=>abv h)
 have hT:afp b=if(xk ai1 (b.take 4)).1=0 then
  if(kh 32 (b.drop 4)).1=0 then(0,(xk ai1 (b.take 4)).2.getD 1 0,(kh 32 (b.drop 4)).2)else((kh 32 (b.drop 4)).1,0,[])
  else((xk ai1 (b.take 4)).1,0,[]):=by unfold afp;rw[if_neg h8]
 rw[hT];clear hT h8l;obtain⟨⟨E,v⟩,hr⟩:∃r,xk ai1 (b.take 4)=r:=⟨_,rfl⟩;rw[hr]at HS HLN ⊢;unfold ac5 at HH;rw[show ai1.length=3 from rfl]at *;unfold ky at HS;dsimp only at *;have HBF:=hid hB.lt;have f8:(4:Int) ≤(b.length:Int):=by omega
 have f8d:(4:Int) ≤(d:Int):=by omega
 have f80:¬(b.length:Int)<4:=by omega
 clear hr hB
 by_cases hE:E=0
 rotate_left
 ·have hE2:(E != 0)=true:=by rw[b0g];exact hE
  have hE3:(E==0)=false:=by rw[l6];exact hE
  rw[if_neg hE];clear hE HLN;go_enter func289,ntmps289;go_wp2_with fail;refine b4u (b5h ?_ (fun e a w h=>by cases e<;>first|exact h|exact h.elim));go_upto_region 3 with fail;have HK1:=HK0 _ (n6 _ _);have HB1:Hid (Below w.1.size w (w.alloc (.cells #[.int .i64 0,.slice none 0 0] 36))):=hid (qa _ _);clear HK0;generalize w.alloc (.cells #[.int .i64 0,.slice none 0 0] 36)=W1 at *
  try (apply b1e;intro K_ HK_)
  have hS0:Below W1.1.size W1 W1.drew:=(n6 _ _).drew;refine o7 (S:=fun w'=>Below W1.1.size W1 w') kr hS0 (fun hHeld0=>?_);refine tkA 1 18 rfl ?_;go_frame;refine tkA 2 19 rfl ?_;go_frame;refine rdB 0 17 rfl fun K hK=>?_
  go_step;refine(HH _).out.mono ?_;rintro e w2 ⟨A,c,rfl,hf,hb⟩;have HT:=HS _ c _ _ (hHeld0.mono HB1.out.size |> fun q=>HB1.out.trans q) hf hb;have HS2:Hid (Below W1.1.size W1 w2):=hid (hHeld0.trans (hb.mono hHeld0.size));clear hf hb HS
  try go_frame
  refine hK.out _ _ (HS2.out) (fun hHeld=>?_);clear hK K
  try go_frame
  refine rdB 3 20 rfl fun K hK=>?_
  go_step;refine HT.out.mono ?_;rintro e w3 ⟨A3,c3,rfl,hf,hb⟩;have HFL:=hid hf;have HS3:Hid (Below W1.1.size W1 w3):=hid (HS2.out.trans (hb.mono HS2.out.size));clear hf hb HT HS2
  try go_frame
  refine hK.out _ _ (HS3.out) (fun hHeld=>?_);clear hK K
  try go_frame
  refine tkA 4 16 rfl ?_;go_frame;refine tkA 5 21 rfl ?_;go_frame;refine tkA 6 22 rfl ?_;go_frame;refine tkA 7 4 rfl ?_;go_frame;refine tkA 8 5 rfl ?_;go_frame;refine b0j kr ?_ _
  try go_frame
  have HK3:=hid (HK1.out.on HS3.out);have HB3:=hid (qb HB1.out HS3.out);clear hHeld hHeld0 hS0 HK1 HB1 HS3;have g0:=HK3.out.cell 0 (v:=.int .i64 0) rfl;have g1:=HK3.out.cell 1 (v:=.slice none 0 0) rfl;have z0:=HK3.out.fz 0;have z1:=HK3.out.fz 1;go_wp2_with fail;obtain⟨r1,r2,-⟩:=agu HK3.out (.int .i64 0) (.slice none 0 0) HB3.out;exact b9 (v:=.tuple #[.agg #[.int .i64 0,.slice none 0 0],.int .i64 E]) (by rw[zm rfl];simp[asAddr,Result.andThen];rw[r1]) rfl ⟨none,0,rfl,qf.nil _ _ _,r2⟩
 subst hE;rw[if_pos rfl];have hvl:=HLN.out rfl;simp only[hvl]at HS;clear HLN
 obtain⟨y0,t0,y2,rfl⟩:∃y0 t0 y2,v=[y0,t0,y2]:=by
  rcases v with _|⟨x0,_|⟨x1,_|⟨x2,_|⟨z,_⟩⟩⟩⟩<;>first|exact⟨_,_,_,rfl⟩|(simp at hvl)
 clear hvl;obtain⟨res,hres⟩:∃res,(if(kh 32 (b.drop 4)).1=0 then((0:Int),t0,(kh 32 (b.drop 4)).2)else((kh 32 (b.drop 4)).1,0,[]))=res:=⟨_,rfl⟩;show Calls prog _ _ w (aut (if(kh 32 (b.drop 4)).1=0 then((0:Int),t0,(kh 32 (b.drop 4)).2)else((kh 32 (b.drop 4)).1,0,[])) w);rw[hres];have HRES:=hid hres;clear hres;go_enter func289,ntmps289;go_wp2_with fail;refine b4u (b5h ?_ (fun e a w h=>by cases e<;>first|exact h|exact h.elim));go_upto_region 3 with fail;have HK1:=HK0 _ (n6 _ _);have HB1:Hid (Below w.1.size w (w.alloc (.cells #[.int .i64 0,.slice none 0 0] 36))):=hid (qa _ _);clear HK0;generalize w.alloc (.cells #[.int .i64 0,.slice none 0 0] 36)=W1 at *
 try (apply b1e;intro K_ HK_)
 have hS0:Below W1.1.size W1 W1.drew:=(n6 _ _).drew;refine o7 (S:=fun w'=>Below W1.1.size W1 w') kr hS0 (fun hHeld0=>?_);refine tkA 1 18 rfl ?_;go_frame;refine tkA 2 19 rfl ?_;go_frame;refine rdB 0 17 rfl fun K hK=>?_
 go_step;refine(HH _).out.mono ?_;rintro e w2 ⟨A,c,rfl,hf,hb⟩;have HT:=HS _ c _ _ (hHeld0.mono HB1.out.size |> fun q=>HB1.out.trans q) hf hb;have HS2:Hid (Below W1.1.size W1 w2):=hid (hHeld0.trans (hb.mono hHeld0.size));clear hf hb HS
 try go_frame
 refine hK.out _ _ (HS2.out) (fun hHeld=>?_);clear hK K
 try go_frame
 refine rdB 3 20 rfl fun K hK=>?_
 go_step;refine HT.out.mono ?_;rintro e w3 ⟨A3,c3,rfl,hf,hb⟩;have HFL:=hid hf;have HS3:Hid (Below W1.1.size W1 w3):=hid (HS2.out.trans (hb.mono HS2.out.size));clear hf hb HT HS2
 try go_frame
 refine hK.out _ _ (HS3.out) (fun hHeld=>?_);clear hK K
 try go_frame
 refine tkA 4 16 rfl ?_;go_frame;refine tkA 5 21 rfl ?_;go_frame;refine tkA 6 22 rfl ?_;go_frame;refine tkA 7 4 rfl ?_;go_frame;refine tkA 8 5 rfl ?_;go_frame;refine b0j kr ?_ _
 try go_frame
 have HK3:=hid (HK1.out.on HS3.out);have HB3:=hid (qb HB1.out HS3.out);clear hHeld hHeld0 hS0 HK1 HB1 HS3;obtain⟨ab,ao,rfl,-,hablt,hcell⟩:=afe HFL.out sm;have c1:w3.cell? ⟨ab,ao+1,none⟩=some (.int .i64 t0):=hcell 1 sm;clear hcell HFL;go_upto_region 7 with fail;have HM4:Hid (Blk (w3.alloc (.cells #[.int .i64 t0,.slice none 0 0] 36)) w3.1.size [.int .i64 t0,.slice none 0 0]):=hid (Blk.newL (qg _ _ _) rfl);have HK4:Hid (Blk (w3.alloc (.cells #[.int .i64 t0,.slice none 0 0] 36)) w.1.size [.int .i64 0,.slice none 0 0]):=hid (HK3.out.on (qa _ _));have HB4:Hid (Below w.1.size w (w3.alloc (.cells #[.int .i64 t0,.slice none 0 0] 36))):=hid (qb HB3.out (qa _ _));have hgl:w.1.size<w3.1.size:=HK3.out.lt;clear c1 hablt HK3 HB3;generalize w3.alloc (.cells #[.int .i64 t0,.slice none 0 0] 36)=W4 at *;generalize w3.1.size=g at *;have hRl:(b.drop 4).length=b.length-4:=l8 ..
 have HNW:∀o',(o'=off+4∨d=4)→Hid (Calls prog 74 #[.slice (some ⟨bb,o',none⟩) (b.length-4) (d-4)] W4 fun e w'=>∃g,e=.returned (.pointer (some ⟨g,0,none⟩))∧RdI (fun b=>W4.1.size≤b∧b<w'.1.size) w' g (some (b.drop 4))∧Below W4.1.size W4 w'):=fun o' ho=>hid (by
  have h1:=awc (c:=d) HBF.out 4 om hd o' ho;have:=ajy (some ⟨bb,o',none⟩) (b.drop 4) (d-4) W4 (h1.below HB4.out (fun b q=>q.2)) (by rw[hRl];omega)
  rwa [hRl]at this)
 go_cut [7] (fun s wx=>∃a,s=.pointer (some ⟨a,0,none⟩)∧Hid (RdI (fun j=>W4.1.size≤j∧j<wx.1.size) wx a (some (b.drop 4))∧Below W4.1.size W4 wx))
 case first=>
  by_cases hd8:d=4
  ·have HNX:=HNW off (.inr hd8);rw[show b.length-4=0 from by omega,show d-4=0 from by omega]at HNX;subst hd8;go_wp2_with fail;refine HNX.out.mono ?_;rintro e w5 ⟨a,rfl,hr,hb⟩;have HR5:=hid (o4 hr hb);clear hr hb;go_wp2_with fail
   go_meet
   exact⟨a,rfl,HR5⟩
  ·have HNX:=HNW (off+4) (.inl rfl);have f1:¬(4:Int)=(d:Int):=by omega
   have f2:¬(4:Nat)=d:=by omega
   go_wp2_with fail;refine HNX.out.mono ?_;rintro e w5 ⟨a,rfl,hr,hb⟩;have HR5:=hid (o4 hr hb);clear hr hb;go_wp2_with fail
   go_meet
   exact⟨a,rfl,HR5⟩
 case rest=>
 obtain⟨a,rfl,HRC⟩:=hcut;have HM5:=hid (HM4.out.on HRC.out.2);have HK5:=hid (HK4.out.on HRC.out.2);have HB5:=hid (qb HB4.out HRC.out.2);have HG5:Hid (w.1.size<g∧g<W4.1.size∧W4.1.size≤a∧a<wc.1.size):=hid ⟨hgl,HM4.out.lt,HRC.out.1.1.1,HRC.out.1.1.2⟩;have HR5:=hid HRC.out.1;have HO5:Hid (wc.ownsRow wc.1.size 164 2 (.slice none 0 0) 0 (ae4 [])):=hid (b2q _ _ _ _);obtain⟨i0,hi,hz0,hz1,hz2⟩:=kj bfp;have HI:=hid (o4 hi (o4 hz0 (o4 hz1 hz2)));clear hi hz0 hz1 hz2 HRC HM4 HK4 HB4 hgl HNW hRl HBF HH f8 f8d f80 h8;go_wp2_with fail;refine wp_label ?_;go_wp2_with fail
 go_loopg [5] 33 (fun h s5 wr=>s5=.int .i64 0∧∃k:Nat,k≤32∧32-k<h∧Hid (∃L vL R,L.length=k∧asp L (kh (32-k) R)=kh 32 (b.drop 4)∧R.length≤1000000∧VB w wc.1.size W4.1.size a g t0 vL k L wr (some R)))
 case atStart=>exact⟨rfl,0,by omega,by omega,⟨[],.slice none 0 0,b.drop 4,rfl,bbh _ _,(by rw[l8];omega),HM5.out,HO5.out,HR5.out,HK5.out,HB5.out,a8 _⟩⟩
 case round=>
  obtain⟨rfl,k,hk,hh,HL⟩:=hrel;obtain⟨L,vL,R,hL1,hL2,hRm,hV⟩:=HL.out;obtain⟨A,cp,rfl,-,-,-⟩:=xx hV.own;have HLF:=hid (ak3 hV.rd);have HV:=hid hV;have HL1:=hid hL1;have HL2:=hid hL2;have m0:=hV.m.cell 0 (v:=.int .i64 t0) rfl;have m1:=hV.m.cell 1 (v:=.slice A k cp) rfl;clear HL hL1 hL2 hV
  by_cases hR0:R=[]
  ·subst hR0
   have hs0:kh 32 (b.drop 4)=(0,L):=by
    rw[← HL2.out,bf4];unfold asp;rw[if_pos rfl,b0k]
   have hre:=HRES.out;rw[hs0,if_pos rfl]at hre;subst hre
   have HFL:Hid (qf (fun j=>wc.1.size≤j∧j<wr.1.size) wr A (ae4 L)):=hid (by
    obtain⟨A',c',e1,-,h2,-⟩:=xx HV.out.own;injection e1 with e1 _ _;subst e1
    exact h2)
   have HK:=hid HV.out.res;have HB:=hid HV.out.bel;clear hs0;have g0:=HK.out.cell 0 (v:=.int .i64 0) rfl;have g1:=HK.out.cell 1 (v:=.slice none 0 0) rfl;have z0:=HK.out.fz 0;have z1:=HK.out.fz 1;go_wp2_with (refine HLF.out.mono ?_;rintro e w' ⟨rfl,rfl⟩);obtain⟨r1,r2,r3⟩:=agu HK.out (.int .i64 t0) (.slice A k cp) HB.out;refine b9 (v:=.tuple #[.agg #[.int .i64 t0,.slice A k cp],.int .i64 0]) (by rw[zm rfl];simp[asAddr,Result.andThen];rw[r1]) rfl ⟨A,cp,by rw[HL1.out],?_,r2⟩;have hg:=HG5.out;exact(HFL.out.keep fun j hj=>r3 j (fun e=>by omega)).less fun j hj=>⟨by omega,by simpa using hj.2⟩
  have hRl:0<R.length:=b2f.2 hR0;have i1:(0:Int)<(R.length:Int):=by omega
  by_cases hk32:k=32
  ·subst hk32
   have hs0:kh 32 (b.drop 4)=(7,[]):=by
    have e:kh 0 R=(7,[]):=by
     unfold kh;rw[if_neg hR0]
    rw[← HL2.out,show 32-32=0 from rfl,e,ahv _ _ dc rfl]
   have hre:=HRES.out;rw[hs0,if_neg dc]at hre;subst hre;clear hs0;have g0:=HV.out.res.cell 0 (v:=.int .i64 0) rfl;have g1:=HV.out.res.cell 1 (v:=.slice none 0 0) rfl;have z0:=HV.out.res.fz 0;have z1:=HV.out.res.fz 1;go_wp2_with (refine HLF.out.mono ?_;rintro e w' ⟨rfl,rfl⟩);obtain⟨r1,r2,-⟩:=agu HV.out.res (.int .i64 0) (.slice none 0 0) HV.out.bel;exact b9 (v:=.tuple #[.agg #[.int .i64 0,.slice none 0 0],.int .i64 7]) (by rw[zm rfl];simp[asAddr,Result.andThen];rw[r1]) rfl ⟨none,0,rfl,qf.nil _ _ _,r2⟩
  have i2:((k:Int)==32)=false:=by rw[l6];omega
  have i2':¬(k:Int)=32:=by omega
  obtain⟨N,hN⟩:∃N,32-k=N+1:=⟨32-k-1,by omega⟩;have HN:=hid hN;rw[hN]at HL2;clear hN
  by_cases h4:R.length<4
  ·have HU:=hid (be8 (w:=wr) 4 HV.out.rd dc dc (fun l q=>by injection q with q;subst q;exact h4));have HSZ:=fun W=>hid (anl 0 W dc)
   rw[show (jj 0).2=0 from rfl]at HSZ
   have hs0:kh 32 (b.drop 4)=(2,[]):=by
    have e:kh (N+1) R=(2,[]):=by
     unfold kh;rw[if_neg hR0,if_pos h4]
    rw[← HL2.out,e,ahv _ _ dc rfl]
   have hre:=HRES.out;rw[hs0,if_neg dc]at hre;subst hre;clear hs0;go_wp2_with (refine HLF.out.mono ?_;rintro e w' ⟨rfl,rfl⟩);refine HU.out.mono ?_;rintro e w1 ⟨rfl,hr,hk1⟩;have HV1:=hid (HV.out.kept HG5.out hk1 hr);clear hr hk1;go_wp2_with fail;refine((HSZ _).out).mono ?_;rintro e w2 ⟨rfl,hb⟩;have HV2:=hid (HV1.out.on hb);have HFA:=hid (ak4 HV2.out.rd);clear hb;have g0:=HV2.out.res.cell 0 (v:=.int .i64 0) rfl;have g1:=HV2.out.res.cell 1 (v:=.slice none 0 0) rfl;have z0:=HV2.out.res.fz 0;have z1:=HV2.out.res.fz 1;go_wp2_with (refine HFA.out.mono ?_;rintro e w' ⟨rfl,rfl⟩);obtain⟨r1,r2,-⟩:=agu HV2.out.res (.int .i64 0) (.slice none 0 0) HV2.out.bel;exact b9 (v:=.tuple #[.agg #[.int .i64 0,.slice none 0 0],.int .i64 2]) (by rw[zm rfl];simp[asAddr,Result.andThen];rw[r1]) rfl ⟨none,0,rfl,qf.nil _ _ _,r2⟩
  have HU:=hid (aco (w:=wr) 4 HV.out.rd dc dc om)
  have hkey:je (R.take 4)<4294967296:=by
   have:=aig (R.take 4);rw[l7,b1d om]at this;exact this
  have HSZ:=fun W=>hid (anl (je (R.take 4)) W hkey)
  have HMO:=fun W=>hid (a2n (je (R.take 4)) W hkey)
  have hkl:=ap6 (je (R.take 4));have hRd:(R.drop 4).length=R.length-4:=l8 ..;have hvlt:∀n,n≤8→je ((R.drop 4).take n)<18446744073709551616:=fun n hn=>be7 _ (by rw[l7];omega)
  have hML:2^(jj (je (R.take 4))).1≤2^63:=b0w dc hkl.1;have hM0:0<2^(jj (je (R.take 4))).1:=b3n dc;obtain⟨K,hK⟩:∃K,je (R.take 4)=K:=⟨_,rfl⟩;obtain⟨n,hn⟩:∃n,(jj K).2=n:=⟨_,rfl⟩;obtain⟨M,hM⟩:∃M,2^(jj K).1-1=M:=⟨_,rfl⟩;rw[hK]at hML hM0 hkl hkey HU;simp only[hK]at HSZ HMO;simp only[hn]at HSZ;simp only[hM]at HMO;have hM63:M<9223372036854775808:=by omega
  have hn8:n≤8:=by have:=hkl.2;rw[hn]at this;exact this
  have i3:IntKind.i64.wrap (K:Int)=(K:Int):=b00 _ om;have i4:IntKind.u64.wrap (M:Int)=(M:Int):=b3m _ om;have HKN:=hid (o4 hK (o4 hn hM));clear hML hM0 hkl hM hn hK;go_wp2_with (refine HLF.out.mono ?_;rintro e w' ⟨rfl,rfl⟩);refine HU.out.mono ?_;rintro e w1 ⟨rfl,hr,hk1⟩;have HV1:=hid (HV.out.kept HG5.out hk1 hr);clear hr hk1 m0 m1;go_wp2_with fail;refine((HSZ _).out).mono ?_;rintro e w2 ⟨rfl,hb⟩;have HV2:=hid (HV1.out.on hb);have HFA:=hid (ak4 HV2.out.rd);have HLF2:=hid (ak3 HV2.out.rd);rw[hRd]at HLF2;clear hb HV1 HU HLF
  by_cases hn0:n=0
  ·have d0:decide (0<n)=false:=o3 om
   have hs0:kh 32 (b.drop 4)=(6,[]):=by
    have e:kh (N+1) R=(6,[]):=by
     unfold kh;rw[if_neg hR0,if_neg h4,HKN.out.1,HKN.out.2.1,if_pos hn0]
    rw[← HL2.out,e,ahv _ _ dc rfl]
   have hre:=HRES.out;rw[hs0,if_neg dc]at hre;subst hre;clear hs0;have g0:=HV2.out.res.cell 0 (v:=.int .i64 0) rfl;have g1:=HV2.out.res.cell 1 (v:=.slice none 0 0) rfl;have z0:=HV2.out.res.fz 0;have z1:=HV2.out.res.fz 1;go_wp2_with (refine HFA.out.mono ?_;rintro e w' ⟨rfl,rfl⟩);obtain⟨r1,r2,-⟩:=agu HV2.out.res (.int .i64 0) (.slice none 0 0) HV2.out.bel;exact b9 (v:=.tuple #[.agg #[.int .i64 0,.slice none 0 0],.int .i64 6]) (by rw[zm rfl];simp[asAddr,Result.andThen];rw[r1]) rfl ⟨none,0,rfl,qf.nil _ _ _,r2⟩
  have d1:decide (0<n)=true:=p9 om
  by_cases hl:R.length-4<n
  ·have j1:((R.length-4:Nat):Int)<(n:Int):=by omega
   have hs0:kh 32 (b.drop 4)=(2,[]):=by
    have e:kh (N+1) R=(2,[]):=by
     unfold kh;rw[if_neg hR0,if_neg h4,HKN.out.1,HKN.out.2.1,if_neg hn0,if_pos (by rw[hRd];exact hl)]
    rw[← HL2.out,e,ahv _ _ dc rfl]
   have hre:=HRES.out;rw[hs0,if_neg dc]at hre;subst hre;clear hs0;have g0:=HV2.out.res.cell 0 (v:=.int .i64 0) rfl;have g1:=HV2.out.res.cell 1 (v:=.slice none 0 0) rfl;have z0:=HV2.out.res.fz 0;have z1:=HV2.out.res.fz 1;go_wp2_with (first|(refine HFA.out.mono ?_;rintro e w' ⟨rfl,rfl⟩)|(refine HLF2.out.mono ?_;rintro e w' ⟨rfl,rfl⟩));obtain⟨r1,r2,-⟩:=agu HV2.out.res (.int .i64 0) (.slice none 0 0) HV2.out.bel;exact b9 (v:=.tuple #[.agg #[.int .i64 0,.slice none 0 0],.int .i64 2]) (by rw[zm rfl];simp[asAddr,Result.andThen];rw[r1]) rfl ⟨none,0,rfl,qf.nil _ _ _,r2⟩
  have j1:¬((R.length-4:Nat):Int)<(n:Int):=by omega
  have HU2:=hid (aco (w:=w2) n HV2.out.rd om hn8 om);have hv8:=hvlt n hn8;obtain⟨v,hv⟩:∃v,je ((R.drop 4).take n)=v:=⟨_,rfl⟩;rw[hv]at HU2 hv8;have HVV:=hid hv;clear hv;go_wp2_with (first|(refine HFA.out.mono ?_;rintro e w' ⟨rfl,rfl⟩)|(refine HLF2.out.mono ?_;rintro e w' ⟨rfl,rfl⟩));refine HU2.out.mono ?_;rintro e w3 ⟨rfl,hr,hk1⟩;have HV3:=hid (HV2.out.kept HG5.out hk1 hr);clear hr hk1 HU2 HV2 HFA HLF2;go_wp2_with fail;refine((HMO _).out).mono ?_;rintro e w4 ⟨rfl,hb⟩;have HV4:=hid (HV3.out.on hb);clear hb HV3
  by_cases hvm:M<v
  ·have j2:(M:Int)<(v:Int):=by omega
   have hs0:kh 32 (b.drop 4)=(5,[]):=by
    have e:kh (N+1) R=(5,[]):=by
     unfold kh;rw[if_neg hR0,if_neg h4,HKN.out.1,HKN.out.2.1,HKN.out.2.2,HVV.out,if_neg hn0,if_neg (by rw[hRd];exact hl),if_pos hvm]
    rw[← HL2.out,e,ahv _ _ dc rfl]
   have hre:=HRES.out;rw[hs0,if_neg dc]at hre;subst hre;clear hs0;have g0:=HV4.out.res.cell 0 (v:=.int .i64 0) rfl;have g1:=HV4.out.res.cell 1 (v:=.slice none 0 0) rfl;have z0:=HV4.out.res.fz 0;have z1:=HV4.out.res.fz 1;go_wp2_with fail;obtain⟨r1,r2,-⟩:=agu HV4.out.res (.int .i64 0) (.slice none 0 0) HV4.out.bel;exact b9 (v:=.tuple #[.agg #[.int .i64 0,.slice none 0 0],.int .i64 5]) (by rw[zm rfl];simp[asAddr,Result.andThen];rw[r1]) rfl ⟨none,0,rfl,qf.nil _ _ _,r2⟩
  have j2:¬(M:Int)<(v:Int):=by omega
  have i5:IntKind.i64.wrap (v:Int)=(v:Int):=b00 _ om;obtain⟨v',w6,hrun,ho,hb9⟩:=aih (P:=prog) (t:=34) (ty:=34) (ae3 HV4.out.own (qa w4 (.cells #[.int .i64 (K:Int),.int .i64 (v:Int)] 164))) (o8 HV4.out.sz (qa w4 _).size) HI.out underlying34 rfl dc (R:=fun _=>True) (some ⟨w4.1.size,0,none⟩) 1 1 [.int .i64 (K:Int),.int .i64 (v:Int)] rfl ((Blk.newL (qg w4 _ _) rfl).flat trivial) (fun u hu=>by simp only[b0z,b2d,b4o]at hu;rcases hu with rfl|rfl<;>rfl) (by unfold maxLen;omega) om;obtain⟨A',cp',hv',-,-,-⟩:=xx ho;subst hv';have HRUN:=hid hrun
  have HV6:Hid (VB w wc.1.size W4.1.size a g t0 (.slice A' (k+1) cp') (k+1) (L++[(K,v)]) (w6.setCell ⟨g,1,none⟩ (.slice A' (k+1) cp')) (some ((R.drop 4).drop n))):=hid (by
   have h4:=HV4.out.on (qa w4 (.cells #[.int .i64 (K:Int),.int .i64 (v:Int)] 164));have hd:=HG5.out;obtain⟨q1,q2⟩:=(h4.m.below hb9 om).set (o:=1) sm (.slice A' (k+1) cp');refine⟨q1,?_,?_,(h4.res.below hb9 om).far q2 om,(h4.bel.trans (hb9.mono om)).trans (q2.below om),by rw[q2.sz];exact o8 h4.sz hb9.size⟩
   ·rw[a0l];exact ak5 ho om _
   ·exact h4.rd.keep (fun j hj=>(q2.far j om).trans (hb9.block j hj.2)) (by rw[q2.sz];exact hb9.size))
  have m9:=((HV4.out.on (qa w4 (.cells #[.int .i64 (K:Int),.int .i64 (v:Int)] 164))).m.below hb9 (by have:=HG5.out;omega)).cell 1 (v:=.slice A k cp) rfl;have z9:=((HV4.out.on (qa w4 (.cells #[.int .i64 (K:Int),.int .i64 (v:Int)] 164))).m.below hb9 (by have:=HG5.out;omega)).fz 1;have m4:=HV4.out.m.cell 1 (v:=.slice A k cp) rfl;clear hrun ho hb9;go_wp2_with (at_builtin;refine qw rfl _ _ 34 rfl _ _ _ rfl rfl HRUN.out ?_)
  have HLN:Hid (∃L' vL R',L'.length=k+1∧asp L' (kh (32-(k+1)) R')=kh 32 (b.drop 4)∧R'.length≤1000000∧VB w wc.1.size W4.1.size a g t0 vL (k+1) L' (w6.setCell ⟨g,1,none⟩ (.slice A' (k+1) cp')) (some R')):=hid ⟨L++[(K,v)],_,(R.drop 4).drop n,by rw[d7,HL1.out];rfl,(by
   have e:=bbg L N R hR0 h4 (by rw[HKN.out.1,HKN.out.2.1];exact hn0) (by rw[HKN.out.1,HKN.out.2.1,hRd];exact hl) (by rw[HKN.out.1,HKN.out.2.1,HKN.out.2.2,HVV.out];exact hvm);rw[HL2.out,HKN.out.1,HKN.out.2.1,HVV.out]at e;rw[show 32-(k+1)=N from by have:=HN.out;omega];exact e.symm),(by rw[l8,l8];omega),HV6.out⟩
  go_roundg (32-k)
  case measure=>omega
  case rel=>exact⟨rfl,k+1,by omega,by omega,HLN⟩
