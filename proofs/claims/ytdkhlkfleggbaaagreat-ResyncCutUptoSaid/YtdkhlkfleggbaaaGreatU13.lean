/- Parts. -/
import Derived.Test.YtdkhlkfleggbaaaGreatU12
import Derived.Deep.CutBlock
namespace Go.Proofs.YtdkhlkfleggbaaaGreat
set_option maxHeartbeats 4000000
set_option maxRecDepth 8000
open Lib (hid)
open Tryz
set_option linter.unusedVariables false
open Go.RowKit
theorem a6z {a b:ByteArray} (h:a.toList=b.toList):a=b:=by
 rw[b0x,b0x]at h;obtain⟨⟨l⟩⟩:=a;obtain⟨⟨m⟩⟩:=b;simp at h;rw[h]
theorem afa (a b:ByteArray):(a.toList==b.toList)=decide (a=b):=by
 by_cases h:a=b
 ·subst h;simp
 ·rw[o3 h,l6];exact fun k=>h (a6z k)
abbrev a7d (b0:Bool) (n0:Int) (b1:Bool) (n1:Int) (b2:Bool) (n2:Int) (b3:Bool) (n3:Int):Array Value:=#[.bool b0,.int .i64 n0,.bool b1,.int .i64 n1,.bool b2,.int .i64 n2,.bool b3,.int .i64 n3]
abbrev bnb (b0:Bool) (n0:Int) (b1:Bool) (n1:Int) (b2:Bool) (n2:Int) (b3:Bool) (n3:Int):Value:=.agg (a7d b0 n0 b1 n1 b2 n2 b3 n3)
abbrev clC (W M F L H:Int) (c:ByteArray):Array Value:=#[.int .i64 W,.int .i64 M,.int .i64 F,.int .i64 L,.int .i64 H,.string c]
abbrev clV (W M F L H:Int) (c:ByteArray):Value:=.agg (clC W M F L H c)
abbrev au1:Array Value:=#[.int .i64 1,.int .i64 3,.int .i64 2,.int .i64 0,.int .i64 36000,.string ⟨#[84]⟩,.int .i64 1,.int .i64 3,.int .i64 2,.int .i64 0,.int .i64 36000,.string ⟨#[77]⟩,.int .i64 1,.int .i64 4,.int .i64 2,.int .i64 0,.int .i64 999999,.string ⟨#[78]⟩,.int .i64 1,.int .i64 4,.int .i64 2,.int .i64 0,.int .i64 999999,.string ⟨#[75]⟩]
abbrev clO (W M F L H:Int) (c:ByteArray):Obj:=.cells (clC W M F L H c) 310
theorem adg (a:ByteArray):a.toList.isEmpty=decide (a=ByteArray.empty):=by
 rw[← afa];have:ByteArray.empty.toList=[]:=by rw[b0x];rfl
 rw[this];cases a.toList<;>rfl
def bcx (w:World) (r:Ending) (w':World):Prop:=∃h,r=.returned (.slice (some ⟨h,0,none⟩) 4 4) ∧(∀o,w'.cell? ⟨h,o,none⟩=au1[o]?)∧w.1.size≤h∧h<w'.1.size∧Below w.1.size w w'
theorem arm (w:World):Calls prog 172 #[] w (bcx w):=by
 go_enter func172,ntmps172;go_wp2;go_ret;refine⟨w.1.size+1+1,rfl,fun o=>?_,by omega,by simp,qb (qb (qa _ _) (qa _ _)) (qa _ _)⟩;rw[b8 _ _ _ _ sm]
abbrev blz (M:Nat):Array Value:=#[.pointer (some ⟨M,0,none⟩),.pointer (some ⟨M,2,none⟩),.pointer (some ⟨M,4,none⟩),.pointer (some ⟨M,6,none⟩)]
theorem arn (M:Nat) (w:World):Calls prog 173 #[.pointer (some ⟨M,0,none⟩)] w fun e w'=>e=.returned (.slice (some ⟨w.1.size,0,none⟩) 4 4) ∧(∀o,w'.cell? ⟨w.1.size,o,none⟩=(blz M)[o]?)∧w.1.size<w'.1.size∧Below w.1.size w w':=by
 go_enter func173,ntmps173;go_wp2_with fail
 go_region_with (fail)
 all_goals
  go_wp2_with fail;go_ret;refine⟨rfl,fun o=>?_,?_,aca (qa _ _)⟩
  ·show (w.alloc _).cell? _=_;rw[b8 _ _ _ _ rfl]
  ·show _<(w.alloc _).1.size;simp
theorem az6 (w:World):Calls prog 178 #[] w fun e w'=>e=.returned (j7 1 2 0 0 99)∧Below w.1.size w w':=by
 go_enter func178,ntmps178;go_wp2;refine b9 (v:=j7 1 2 0 0 99) (by simp[results,results178,go_sem]) rfl ⟨rfl,qa _ _⟩
theorem a93 (w:World):Calls prog 179 #[] w fun e w'=>e=.returned (j7 1 3 0 1 255)∧Below w.1.size w w':=by
 go_enter func179,ntmps179;go_wp2;refine b9 (v:=j7 1 3 0 1 255) (by simp[results,results179,go_sem]) rfl ⟨rfl,qa _ _⟩
theorem az5 (w:World):Calls prog 180 #[] w fun e w'=>e=.returned (j7 1 2 0 0 90)∧Below w.1.size w w':=by
 go_enter func180,ntmps180;go_wp2;refine b9 (v:=j7 1 2 0 0 90) (by simp[results,results180,go_sem]) rfl ⟨rfl,qa _ _⟩
theorem az4 (w:World):Calls prog 181 #[] w fun e w'=>e=.returned (j7 1 3 0 0 359)∧Below w.1.size w w':=by
 go_enter func181,ntmps181;go_wp2;refine b9 (v:=j7 1 3 0 0 359) (by simp[results,results181,go_sem]) rfl ⟨rfl,qa _ _⟩
theorem avs (w:World):Calls prog 182 #[] w fun e w'=>e=.returned (j7 1 2 0 0 99)∧Below w.1.size w w':=by
 go_enter func182,ntmps182;go_wp2;refine b9 (v:=j7 1 2 0 0 99) (by simp[results,results182,go_sem]) rfl ⟨rfl,qa _ _⟩
theorem an4 {C D M P:Nat} {w:World} {I0 I1 I2 I3 I4:World→Prop} (h0:I0 w)
 (HC:Hid (∀wr,(I0 wr∨I1 wr∨I2 wr∨I3 wr) →(∀o,wr.cell? ⟨C,o,none⟩=au1[o]?) ∧(∀o,wr.cell? ⟨D,o,none⟩=(blz M)[o]?)))
 (H0:∀wr,I0 wr→Hid (Calls prog 174 #[clV 1 3 2 0 36000 ⟨#[84]⟩,.pointer (some ⟨M,0,none⟩),.pointer (some ⟨P,0,none⟩)] wr.drew fun r w'=>r=.returned (.tuple #[])∧I1 w'))
 (H1:∀wr,I1 wr→Hid (Calls prog 174 #[clV 1 3 2 0 36000 ⟨#[77]⟩,.pointer (some ⟨M,2,none⟩),.pointer (some ⟨P,0,none⟩)] wr.drew fun r w'=>r=.returned (.tuple #[])∧I2 w'))
 (H2:∀wr,I2 wr→Hid (Calls prog 174 #[clV 1 4 2 0 999999 ⟨#[78]⟩,.pointer (some ⟨M,4,none⟩),.pointer (some ⟨P,0,none⟩)] wr.drew fun r w'=>r=.returned (.tuple #[])∧I3 w'))
 (H3:∀wr,I3 wr→Hid (Calls prog 174 #[clV 1 4 2 0 999999 ⟨#[75]⟩,.pointer (some ⟨M,6,none⟩),.pointer (some ⟨P,0,none⟩)] wr.drew fun r w'=>r=.returned (.tuple #[])∧I4 w')) :
 Calls prog 171 #[.slice (some ⟨C,0,none⟩) 4 4,.slice (some ⟨D,0,none⟩) 4 4,.func (.func 174) #[] #[.pointer (some ⟨P,0,none⟩)]] w fun r w'=>r=.returned (.tuple #[])∧I4 w':=by
 go_enter func171,ntmps171;go_wp2_with fail
 go_loopw [12] (fun i wr=>i=.int .i64 0∧I0 wr∨i=.int .i64 1∧I1 wr∨i=.int .i64 2∧I2 wr∨i=.int .i64 3∧I3 wr∨i=.int .i64 4∧I4 wr) (fun i _=>4-(intOf i).toNat)
 case atStart=>exact .inl ⟨rfl,h0⟩
 case round=>
  rcases hrel with⟨rfl,hI⟩|⟨rfl,hI⟩|⟨rfl,hI⟩|⟨rfl,hI⟩|⟨rfl,hI⟩
  ·obtain⟨hc,hd⟩:=HC.out _ (.inl hI);have c0:=hc 0;have c1:=hc 1;have c2:=hc 2;have c3:=hc 3;have c4:=hc 4;have c5:=hc 5;have d0:=hd 0;have HH:=H0 _ hI;clear hc hd HC H0 H1 H2 H3 h0;go_wp2_with fail
   go_region_with (go_at_call 174;refine HH.out.mono ?_;rintro r w1 ⟨rfl,hI1⟩)
   all_goals go_wp2_with fail
   all_goals go_roundw
   all_goals first|exact .inr (.inl ⟨rfl,hI1⟩)|(simp[intOf])
  ·obtain⟨hc,hd⟩:=HC.out _ (.inr (.inl hI));have c0:=hc 6;have c1:=hc 7;have c2:=hc 8;have c3:=hc 9;have c4:=hc 10;have c5:=hc 11;have d0:=hd 1;have HH:=H1 _ hI;clear hc hd HC H0 H1 H2 H3 h0;go_wp2_with fail
   go_region_with (go_at_call 174;refine HH.out.mono ?_;rintro r w1 ⟨rfl,hI1⟩)
   all_goals go_wp2_with fail
   all_goals go_roundw
   all_goals first|exact .inr (.inr (.inl ⟨rfl,hI1⟩))|(simp[intOf])
  ·obtain⟨hc,hd⟩:=HC.out _ (.inr (.inr (.inl hI)));have c0:=hc 12;have c1:=hc 13;have c2:=hc 14;have c3:=hc 15;have c4:=hc 16;have c5:=hc 17;have d0:=hd 2;have HH:=H2 _ hI;clear hc hd HC H0 H1 H2 H3 h0;go_wp2_with fail
   go_region_with (go_at_call 174;refine HH.out.mono ?_;rintro r w1 ⟨rfl,hI1⟩)
   all_goals go_wp2_with fail
   all_goals go_roundw
   all_goals first|exact .inr (.inr (.inr (.inl ⟨rfl,hI1⟩)))|(simp[intOf])
  ·obtain⟨hc,hd⟩:=HC.out _ (.inr (.inr (.inr hI)));have c0:=hc 18;have c1:=hc 19;have c2:=hc 20;have c3:=hc 21;have c4:=hc 22;have c5:=hc 23;have d0:=hd 3;have HH:=H3 _ hI;clear hc hd HC H0 H1 H2 H3 h0;go_wp2_with fail
   go_region_with (go_at_call 174;refine HH.out.mono ?_;rintro r w1 ⟨rfl,hI1⟩)
   all_goals go_wp2_with fail
   all_goals go_roundw
   all_goals first|exact .inr (.inr (.inr (.inr ⟨rfl,hI1⟩)))|(simp[intOf])
  ·go_wp2_with fail
   go_end0
   exact⟨rfl,hI⟩
structure TkI (X:World→Prop) (g M:Nat) (C:Array Value) (W w:World):Prop where
 x:X w
 c:∀j,w.cell? ⟨M,j,none⟩=C[j]?
 z:∀j,w.frozen? ⟨M,j,none⟩=false
 gm:g<M
 mz:M<w.1.size
 os:w.os=W.os
 tape:w.tape=W.tape
 output:w.output=W.output
 size:W.1.size≤w.1.size
 block:∀k,k<W.1.size→k≠g→k≠M→w.heap[k]?=W.heap[k]?
theorem TkI.frm {X Y:World→Prop} {g M:Nat} {C:Array Value} {W w w':World} (h:TkI X g M C W w) (hy:Y w') (hf:Frm g vi w w'):TkI Y g M C W w':=by
 have gm:=h.gm
 exact⟨hy,fun j=>(qi hf h.mz om j).trans (h.c j),fun j=>(qx hf h.mz om j).trans (h.z j),gm,e9 h.mz hf.size,hf.os.trans h.os,hf.tape.trans h.tape,hf.output.trans h.output,o8 h.size hf.size,
  fun k h1 h2 h3=>(hf.block k (e9 h1 h.size) h2 (by simp[Value.ownBlock])).trans (h.block k h1 h2 h3)⟩
theorem TkI.keep {X Y:World→Prop} {g M:Nat} {C:Array Value} {W w w':World} (h:TkI X g M C W w) (hy:Y w') (hb:Below w.1.size w w'):TkI Y g M C W w':=h.frm hy (Frm.of_below hb)
theorem TkI.store {X Y:World→Prop} {g M o:Nat} {C C':Array Value} {W w:World} {x y x' y':Value} (h:TkI X g M C W w) (h0:C[o]?=some x) (h1:C[o+1]?=some y) (hC:∀j,C'[j]?=if j=o then some x' else if j=o+1 then some y' else C[j]?)
 (hy:Y ((w.setCell ⟨M,o,none⟩ x').setCell ⟨M,o+1,none⟩ y')):TkI Y g M C' W ((w.setCell ⟨M,o,none⟩ x').setCell ⟨M,o+1,none⟩ y'):=by
 refine⟨hy,fun j=>?_,fun j=>by simpa using h.z j,h.gm,by simpa using h.mz,h.os,h.tape,h.output,by simpa using h.size,fun k k1 k2 k3=>?_⟩
 ·rw[hC]
  by_cases e1:j=o
  ·subst e1;rw[if_pos rfl,a9 _ _ _ _ (fun q=>by injection q with _ q;omega),b0t _ _ _ ((h.c j).trans h0)]
  ·rw[if_neg e1]
   by_cases e2:j=o+1
   ·subst e2;rw[if_pos rfl,b0t _ _ _ ((a9 _ _ _ _ (fun q=>by injection q with _ q;omega)).trans ((h.c _).trans h1))]
   ·rw[if_neg e2,a9 _ _ _ _ (fun q=>by injection q with _ q;omega),a9 _ _ _ _ (fun q=>by injection q with _ q;omega)];exact h.c j
 ·exact(b1r _ _ _ _ k3).trans ((b1r _ _ _ _ k3).trans (h.block k k1 k2 k3))
theorem TkI.cell {X:World→Prop} {g M:Nat} {C:Array Value} {W w:World} (h:TkI X g M C W w) {b o:Nat} (hb:b<W.1.size) (h1:b≠g) (h2:b≠M):w.cell? ⟨b,o,none⟩=W.cell? ⟨b,o,none⟩:=b0q (a:=⟨b,o,none⟩) (h.block b hb h1 h2)
theorem TkI.frozen {X:World→Prop} {g M:Nat} {C:Array Value} {W w:World} (h:TkI X g M C W w) {b o:Nat} (hb:b<W.1.size) (h1:b≠g) (h2:b≠M):w.frozen? ⟨b,o,none⟩=W.frozen? ⟨b,o,none⟩:=b1l (a:=⟨b,o,none⟩) (h.block b hb h1 h2)
theorem TkI.below {X:World→Prop} {g M B:Nat} {C:Array Value} {W w:World} (h:TkI X g M C W w) (hg:B≤g) (hB:B≤W.1.size):Below B W w:=
 ⟨h.os,h.tape,h.output,h.size,fun k hk=>h.block k om om (by have:=h.gm;omega)⟩
theorem auh (a c:ByteArray) (b:Bool) (s1:Rd) :
 (a.toList==c.toList)=true ∧(if a≠c ∧(b=true∨a≠ByteArray.empty)then xt 3 s1 else s1)=s1 ∨
 (a.toList==c.toList)=false∧b=true ∧(if a≠c ∧(b=true∨a≠ByteArray.empty)then xt 3 s1 else s1)=xt 3 s1 ∨
 (a.toList==c.toList)=false∧b=false∧a.toList.isEmpty=false ∧(if a≠c ∧(b=true∨a≠ByteArray.empty)then xt 3 s1 else s1)=xt 3 s1 ∨
 (a.toList==c.toList)=false∧b=false∧a.toList.isEmpty=true ∧(if a≠c ∧(b=true∨a≠ByteArray.empty)then xt 3 s1 else s1)=s1:=by
 rw[afa,adg]
 by_cases h:a=c
 ·exact .inl ⟨p9 h,if_neg (fun q=>q.1 h)⟩
 ·cases b with
  | true=>exact .inr (.inl ⟨o3 h,rfl,if_pos ⟨h,.inl rfl⟩⟩)
  | false=>
   by_cases h2:a=ByteArray.empty
   ·exact .inr (.inr (.inr ⟨o3 h,rfl,p9 h2,if_neg (fun q=>q.2.elim (fun q=>by cases q) (fun q=>q h2))⟩))
   ·exact .inr (.inr (.inl ⟨o3 h,rfl,o3 h2,if_pos ⟨h,.inr h2⟩⟩))
theorem adk {g P M o:Nat} {s s1 t:Rd} {b:Bool} {n W M' F L H:Int} {c:ByteArray} {C C':Array Value} {x y:Value} {W5 w:World} (h1:Hid (qs W M' F L H s=((b,n),s1))) (ht:Hid (vk c b s1=t)) (hT:TkI (qz g s) g M C W5 w)
 (hC0:C[o]?=some x) (hC1:C[o+1]?=some y) (hC:∀j,C'[j]?=if j=o then some (.bool b)else if j=o+1 then some (.int .i64 n)else C[j]?)
 (hP:W5.cell? ⟨P,0,none⟩=some (.pointer (some ⟨g,0,none⟩))) (hPz:P<W5.1.size) (hPg:P≠g) (hPM:P≠M) :
 Calls prog 174 #[clV W M' F L H c,.pointer (some ⟨M,o,none⟩),.pointer (some ⟨P,0,none⟩)] w fun r w'=>r=.returned (.tuple #[])∧TkI (qz g t) g M C' W5 w':=by
 have hb0:=qa w (clO W M' F L H c);have hT0:=hT.keep (Y:=qz g s) (hT.x.keep hb0) hb0;have hcol:∀j,(w.alloc (clO W M' F L H c)).cell? ⟨w.1.size,j,none⟩=(clC W M' F L H c)[j]?:=fun j=>b8 _ _ _ _ rfl
 have hz0:(w.alloc (clO W M' F L H c)).1.size=w.1.size+1:=by simp
 have hM0:=hT.mz;have hg0:=hT.gm;obtain⟨a,s2,ha⟩:∃a s2,Hid (qv s1=(a,s2)):=⟨_,_,rfl⟩;have hways:=auh a c b s2
 have ht2:Hid (t=if a≠c ∧(b=true∨a≠ByteArray.empty)then xt 3 s2 else s2):=by
  show _=_;have q:=ht.out;unfold vk at q;rw[ha.out]at q;exact q.symm
 have HWAYS:=hid hways;have HC:=hid hC;have HC0:=hid hC0;have HC1:=hid hC1;have HT0:=hid hT0;have HCOL:=hid hcol;have HPW:=hid hP;have p0:=(hT0.cell hPz hPg hPM).trans hP;have c0:=hcol 0;have c1:=hcol 1;have c2:=hcol 2;have c3:=hcol 3;have c4:=hcol 4;clear hT hb0 hcol hT0 hways hC hC0 hC1 hP ht;go_enter func174,ntmps174;go_wp2_with fail;generalize hW0:w.alloc (clO W M' F L H c)=W0 at *;refine(ki h1 HT0.out.x).mono ?_;rintro r w1 ⟨rfl,hx,hf⟩;have hT1:=HT0.out.frm hx hf;have m0:=(hT1.c o).trans HC0.out;have m1:=(hT1.c (o+1)).trans HC1.out;have z0:=hT1.z o;have z1:=hT1.z (o+1);have p1:=(hT1.cell hPz hPg hPM).trans HPW.out;have HT1:=hid hT1;have hcol5:w1.cell? ⟨w.1.size,5,none⟩=some (.string c):=(qi hf om om 5).trans (HCOL.out 5);have HZ1:Hid (w.1.size<w1.1.size):=by show _<_;have:=hf.size;omega
 have HX1:=hid hx;clear hT1 hx hf c0 c1 c2 c3 c4 p0 HT0 HCOL hW0 hz0;go_wp2_with fail;have hx2:qz g s1 ((w1.setCell ⟨M,o,none⟩ (.bool b)).setCell ⟨M,o+1,none⟩ (.int .i64 n)):=(HX1.out.far hg0).far hg0;have hT2:=HT1.out.store (Y:=qz g s1) HC0.out HC1.out HC.out hx2;refine(zc ha hx2).mono ?_;rintro r w3 ⟨rfl,hx3,hf3⟩;have hT3:=hT2.frm hx3 hf3;have p3:=(hT3.cell hPz hPg hPM).trans HPW.out;have k0:=(hT3.c o).trans (HC.out o);rw[if_pos rfl]at k0;have z1':=HZ1.out;have hcol3:w3.cell? ⟨w.1.size,5,none⟩=some (.string c):=(qi hf3 (by simpa using z1') om 5).trans ((a9 _ _ _ _ (fun q=>by injection q with q;omega)).trans ((a9 _ _ _ _ (fun q=>by injection q with q;omega)).trans hcol5));have HT3:=hid hT3;clear hT2 hx2 hT3 hx3 hf3 hcol5 z0 z1 m0 m1 p1 HX1 HT1 HC HC0 HC1 HPW z1';rcases HWAYS.out with⟨k1,hq⟩|⟨k1,kb,hq⟩|⟨k1,kb,k2,hq⟩|⟨k1,kb,k2,hq⟩
 ·rw[hq]at ht2;clear hq HWAYS;go_wp2_with fail
  go_end0
  exact⟨rfl,by rw[ht2.out];exact HT3.out⟩
 ·rw[hq]at ht2;subst kb;clear hq HWAYS;go_wp2_with fail;refine(xm rfl HT3.out.x).mono ?_;rintro r w4 ⟨rfl,hx4,hf4⟩;have HT4:=hid (HT3.out.frm (Y:=qz g t) (by rw[ht2.out];exact hx4) hf4);clear hx4 hf4;go_wp2_with fail
  go_end0
  exact⟨rfl,HT4.out⟩
 ·rw[hq]at ht2;subst kb;clear hq HWAYS;go_wp2_with fail;refine(xm rfl HT3.out.x).mono ?_;rintro r w4 ⟨rfl,hx4,hf4⟩;have HT4:=hid (HT3.out.frm (Y:=qz g t) (by rw[ht2.out];exact hx4) hf4);clear hx4 hf4;go_wp2_with fail
  go_end0
  exact⟨rfl,HT4.out⟩
 ·rw[hq]at ht2;subst kb;clear hq HWAYS;go_wp2_with fail
  go_end0
  exact⟨rfl,by rw[ht2.out];exact HT3.out⟩
theorem atq (a:ByteArray):(a.size=0∧a.toList.isEmpty=true∧a=ByteArray.empty) ∨(a.toList.isEmpty=false∧a≠ByteArray.empty ∧(2≤a.size∧anr a=false∨∃hz:0<a.size,a.size=1 ∧(a[0].toNat<65∧anr a=false∨90<a[0].toNat∧anr a=false∨65≤a[0].toNat∧a[0].toNat≤90∧anr a=true))):=by
 rw[adg]
 by_cases h0:a.size=0
 ·have:a=ByteArray.empty:=by simpa using h0
  exact .inl ⟨h0,p9 this,this⟩
 ·have hne:a≠ByteArray.empty:=fun q=>h0 (by rw[q];rfl)
  refine .inr ⟨o3 hne,hne,?_⟩
  by_cases h1:a.size=1
  ·refine .inr ⟨by omega,h1,?_⟩;have hg:(a[0]?.getD 0)=a[0]:=by rw[getElem?_pos a 0 om];rfl
   unfold anr;rw[hg,p9 h1]
   by_cases h2:a[0].toNat<65
   ·exact .inl ⟨h2,by simp;omega⟩
   ·by_cases h3:90<a[0].toNat
    ·exact .inr (.inl ⟨h3,by simp;omega⟩)
    ·exact .inr (.inr ⟨by omega,by omega,by simp;omega⟩)
  ·refine .inl ⟨by omega,?_⟩;unfold anr;simp[h1]
theorem ah3 (a:ByteArray) (w:World):Calls prog 176 #[.string a] w fun e w'=>e=.returned (.bool (anr a))∧w'=w:=by
 rcases atq a with⟨h,-,rfl⟩|⟨-,-,h|⟨hz,h1,h|h|h⟩⟩
 ·have hc:anr ByteArray.empty=false:=rfl;rw[hc];go_enter func176,ntmps176;go_wp2;go_ret;exact⟨rfl,rfl⟩
 ·obtain⟨h2,hc⟩:=h;rw[hc];have i1:((a.size:Int)==1)=false:=by rw[l6];omega
  go_enter func176,ntmps176;go_wp2;go_ret;exact⟨rfl,rfl⟩
 ·obtain⟨h2,hc⟩:=h;rw[hc];have i1:((a.size:Int)==1)=true:=by rw[b1o];omega
  have i2:((a[0].toNat:Nat):Int)<65:=by omega
  go_enter func176,ntmps176;go_wp2;go_ret;exact⟨rfl,rfl⟩
 ·obtain⟨h2,hc⟩:=h;rw[hc];have i1:((a.size:Int)==1)=true:=by rw[b1o];omega
  have i2:(65:Int) ≤((a[0].toNat:Nat):Int):=by omega
  have i3:decide (((a[0].toNat:Nat):Int)≤90)=false:=o3 om;go_enter func176,ntmps176;go_wp2;go_ret;exact⟨rfl,rfl⟩
 ·obtain⟨h2,h3,hc⟩:=h;rw[hc];have i1:((a.size:Int)==1)=true:=by rw[b1o];omega
  have i2:(65:Int) ≤((a[0].toNat:Nat):Int):=by omega
  have i3:((a[0].toNat:Nat):Int)≤90:=by omega
  go_enter func176,ntmps176;go_wp2;go_ret;exact⟨rfl,rfl⟩
theorem apt (a:ByteArray):(dgB a=false∧a.size≠1) ∨(∃hz:0<a.size,a.size=1 ∧(a[0].toNat<48∧dgB a=false∨57<a[0].toNat∧dgB a=false∨48≤a[0].toNat∧a[0].toNat≤57∧dgB a=true∧dgN a=(a[0].toNat:Int)-48)):=by
 by_cases h1:a.size=1
 ·refine .inr ⟨by omega,h1,?_⟩;have hg:(a[0]?.getD 0)=a[0]:=by rw[getElem?_pos a 0 om];rfl
  unfold dgB dgN;rw[hg,p9 h1]
  by_cases h2:a[0].toNat<48
  ·exact .inl ⟨h2,by simp;omega⟩
  ·by_cases h3:57<a[0].toNat
   ·exact .inr (.inl ⟨h3,by simp;omega⟩)
   ·exact .inr (.inr ⟨by omega,by omega,by simp;omega,rfl⟩)
 ·exact .inl ⟨by unfold dgB;simp[h1],h1⟩
theorem aj1 {lo hi:Int} {s s1:Rd} {a:ByteArray} (h:qv s=(a,s1)) :
 (dgB a=false→zn lo hi s=(0,xt 3 s1)) ∧(dgB a=true →(dgN a<lo∨hi<dgN a)→zn lo hi s=(dgN a,xt 5 s1)) ∧(dgB a=true→¬(dgN a<lo∨hi<dgN a)→zn lo hi s=(dgN a,s1)):=by
 unfold zn;rw[h];simp only;refine⟨fun q=>?_,fun q r=>?_,fun q r=>?_⟩
 ·rw[if_neg (by rw[q];decide)]
 ·rw[if_pos q,if_pos r]
 ·rw[if_pos q,if_neg r]
theorem ai5 {g:Nat} {s t:Rd} {top n:Int} {w:World} (ht:Hid (zn 1 top s=(n,t))) (hp:qz g s w) :
 Calls prog 177 #[.pointer (some ⟨g,0,none⟩),.int .i64 top] w (jv g (.int .i64 n) t w):=by
 obtain⟨a,s1,ha⟩:∃a s1,Hid (qv s=(a,s1)):=⟨_,_,rfl⟩;obtain⟨hw1,hw2,hw3⟩:=aj1 (lo:=1) (hi:=top) ha.out;have HP:=hid hp;have ht:=ht.out;clear hp;rcases apt a with⟨hb,h1⟩|⟨hz,h1,⟨h2,hb⟩|⟨h2,hb⟩|⟨h2,h3,hb,hv⟩⟩
 ·have e:=hw1 hb;rw[e]at ht;injection ht with e1 e2
  subst e1 e2;clear e hw1 hw2 hw3 hb;have i1:((a.size:Int)==1)=false:=by rw[l6];omega
  go_enter func177,ntmps177;go_wp2_with fail;refine(zc ha HP.out).mono ?_;rintro r w1 ⟨rfl,hx,hf⟩;have HX:=hid hx;have HF:=hid hf;clear hx hf HP;go_wp2_with fail;refine(xm rfl HX.out).mono ?_;rintro r w2 ⟨rfl,hx2,hf2⟩;have HX2:=hid hx2;have HF2:=hid (HF.out.step hf2);clear hx2 hf2;go_wp2_with fail;go_ret;exact⟨rfl,HX2.out,HF2.out⟩
 ·have e:=hw1 hb;rw[e]at ht;injection ht with e1 e2
  subst e1 e2;clear e hw1 hw2 hw3 hb;have i1:((a.size:Int)==1)=true:=by rw[b1o];omega
  have i2:((a[0].toNat:Nat):Int)<48:=by omega
  go_enter func177,ntmps177;go_wp2_with fail;refine(zc ha HP.out).mono ?_;rintro r w1 ⟨rfl,hx,hf⟩;have HX:=hid hx;have HF:=hid hf;clear hx hf HP;go_wp2_with fail;refine(xm rfl HX.out).mono ?_;rintro r w2 ⟨rfl,hx2,hf2⟩;have HX2:=hid hx2;have HF2:=hid (HF.out.step hf2);clear hx2 hf2;go_wp2_with fail;go_ret;exact⟨rfl,HX2.out,HF2.out⟩
 ·have e:=hw1 hb;rw[e]at ht;injection ht with e1 e2
  subst e1 e2;clear e hw1 hw2 hw3 hb;have i1:((a.size:Int)==1)=true:=by rw[b1o];omega
  have i2:(48:Int) ≤((a[0].toNat:Nat):Int):=by omega
  have i3:(57:Int)<((a[0].toNat:Nat):Int):=by omega
  go_enter func177,ntmps177;go_wp2_with fail;refine(zc ha HP.out).mono ?_;rintro r w1 ⟨rfl,hx,hf⟩;have HX:=hid hx;have HF:=hid hf;clear hx hf HP;go_wp2_with fail;refine(xm rfl HX.out).mono ?_;rintro r w2 ⟨rfl,hx2,hf2⟩;have HX2:=hid hx2;have HF2:=hid (HF.out.step hf2);clear hx2 hf2;go_wp2_with fail;go_ret;exact⟨rfl,HX2.out,HF2.out⟩
 ·have i1:((a.size:Int)==1)=true:=by rw[b1o];omega
  have i2:(48:Int) ≤((a[0].toNat:Nat):Int):=by omega
  have i3:((a[0].toNat:Nat):Int)≤57:=by omega
  rw[hv]at hw2 hw3
  by_cases hq:(a[0].toNat:Int)-48<1∨top<(a[0].toNat:Int)-48
  ·have e:=hw2 hb hq;rw[e]at ht;injection ht with e1 e2
   subst e1 e2;clear e hw1 hw2 hw3 hb hv
   by_cases hq1:(a[0].toNat:Int)-48<1
   ·clear hq;go_enter func177,ntmps177;go_wp2_with fail;refine(zc ha HP.out).mono ?_;rintro r w1 ⟨rfl,hx,hf⟩;have HX:=hid hx;have HF:=hid hf;clear hx hf HP;go_wp2_with fail;refine(xm rfl HX.out).mono ?_;rintro r w2 ⟨rfl,hx2,hf2⟩;have HX2:=hid hx2;have HF2:=hid (HF.out.step hf2);clear hx2 hf2;go_wp2_with fail;go_ret;exact⟨rfl,HX2.out,HF2.out⟩
   ·have q1:1 ≤(a[0].toNat:Int)-48:=by omega
    have q2:top<(a[0].toNat:Int)-48:=by omega
    clear hq hq1;go_enter func177,ntmps177;go_wp2_with fail;refine(zc ha HP.out).mono ?_;rintro r w1 ⟨rfl,hx,hf⟩;have HX:=hid hx;have HF:=hid hf;clear hx hf HP;go_wp2_with fail;refine(xm rfl HX.out).mono ?_;rintro r w2 ⟨rfl,hx2,hf2⟩;have HX2:=hid hx2;have HF2:=hid (HF.out.step hf2);clear hx2 hf2;go_wp2_with fail;go_ret;exact⟨rfl,HX2.out,HF2.out⟩
  ·have e:=hw3 hb hq;rw[e]at ht;injection ht with e1 e2
   subst e1 e2;have q1:1 ≤(a[0].toNat:Int)-48:=by omega
   have q2:(a[0].toNat:Int)-48≤top:=by omega
   clear e hw1 hw2 hw3 hb hv hq;go_enter func177,ntmps177;go_wp2_with fail;refine(zc ha HP.out).mono ?_;rintro r w1 ⟨rfl,hx,hf⟩;have HX:=hid hx;have HF:=hid hf;clear hx hf HP;go_wp2_with fail;go_ret;exact⟨rfl,HX.out,HF.out⟩
def bkn (N:List (Bool×Int)):List Value:=N.flatMap fun x=>[.bool x.1,.int .i64 x.2]
def a8g (N:List (Bool×Int)):Value:=.agg (bkn N).toArray
def akl (x:List (Bool×Int)×Int) (w:World) (r:Ending) (w':World):Prop:=r=.returned (.tuple #[a8g x.1,.int .i64 x.2])∧Below w.1.size w w'
theorem a7e {b0 b1 b2 b3:Bool} {n0 n1 n2 n3:Int} {s u0 s1 u1 s2 u2 s3 u3 s4:Rd} (h0:Hid (qs 1 3 2 0 36000 s=((b0,n0),u0))) (k0:Hid (vk ⟨#[84]⟩ b0 u0=s1)) (h1:Hid (qs 1 3 2 0 36000 s1=((b1,n1),u1))) (k1:Hid (vk ⟨#[77]⟩ b1 u1=s2))
 (h2:Hid (qs 1 4 2 0 999999 s2=((b2,n2),u2))) (k2:Hid (vk ⟨#[78]⟩ b2 u2=s3)) (h3:Hid (qs 1 4 2 0 999999 s3=((b3,n3),u3))) (k3:Hid (vk ⟨#[75]⟩ b3 u3=s4)) :
 abk ark s=([(b0,n0),(b1,n1),(b2,n2),(b3,n3)],s4):=by
 have c0:yc ⟨1,3,2,0,36000,⟨#[84]⟩⟩ s=((b0,n0),s1):=by unfold yc;rw[h0.out];simp only;rw[k0.out]
 have c1:yc ⟨1,3,2,0,36000,⟨#[77]⟩⟩ s1=((b1,n1),s2):=by unfold yc;rw[h1.out];simp only;rw[k1.out]
 have c2:yc ⟨1,4,2,0,999999,⟨#[78]⟩⟩ s2=((b2,n2),s3):=by unfold yc;rw[h2.out];simp only;rw[k2.out]
 have c3:yc ⟨1,4,2,0,999999,⟨#[75]⟩⟩ s3=((b3,n3),s4):=by unfold yc;rw[h3.out];simp only;rw[k3.out]
 simp only[ark,abk,c0,c1,c2,c3]
theorem bcp {R:List ByteArray} {N:List (Bool×Int)} {s4 s5:Rd} (hl:¬(R.length≠8∧R.length≠9)) (h:abk ark (0,R)=(N,s4)) (h5:aaf s4=s5):ji R=if s5.1=0 then(N,0)else(ae8,s5.1):=by
 unfold ji;rw[if_neg hl,h];simp only;rw[h5]
theorem bmr {s4 s6:Rd} {a:ByteArray} (h:qv s4=(a,s6)) (hn:s4.2≠[]):(a.toList.isEmpty=true∧aaf s4=s6) ∨(a.toList.isEmpty=false∧anr a=true∧aaf s4=s6) ∨(a.toList.isEmpty=false∧anr a=false∧aaf s4=xt 3 s6):=by
 unfold aaf;rw[if_neg hn,h];simp only;rw[adg]
 by_cases h0:a=ByteArray.empty
 ·exact .inl ⟨p9 h0,if_neg (fun q=>q.1 h0)⟩
 ·cases hc:anr a with
  | true=>exact .inr (.inl ⟨o3 h0,rfl,if_neg (fun q=>by cases q.2)⟩)
  | false=>exact .inr (.inr ⟨o3 h0,rfl,if_pos ⟨h0,rfl⟩⟩)
def AtC (w:World) (R:Nat) (C:Array Value):Prop:=∀j,w.cell? ⟨R,j,none⟩=C[j]?
theorem AtC.set {w:World} {R:Nat} {C:Array Value} (h:AtC w R C) (k:Nat) (v:Value) (hk:k<C.size):AtC (w.setCell ⟨R,k,none⟩ v) R (C.setIfInBounds k v):=by
 intro j;rw[Array.getElem?_setIfInBounds]
 by_cases hj:k=j
 ·subst hj;rw[if_pos rfl,if_pos hk];exact b0t _ _ _ ((h k).trans (Array.getElem?_eq_getElem hk))
 ·rw[if_neg hj,a9 _ _ _ _ (fun q=>by injection q with _ q;exact hj q)];exact h j
theorem qt {B R k:Nat} {a w:World} {v:Value} (h:Below B a w) (hR:B≤R):Below B a (w.setCell ⟨R,k,none⟩ v):=h.setCell hR _
abbrev ag4:Array Value:=a7d false 0 false 0 false 0 false 0
theorem anm (A:Option Addr) (n c:Nat) (w:World) (h8:((n:Int) != 8)=true) (h9:((n:Int) != 9)=true):Calls prog 105 #[.slice A n c] w (akl (ae8,3) w):=by
 go_enter func105,ntmps105;go_wp2;exact b9 (v:=.tuple #[a8g ae8,.int .i64 3]) (by simp[results,results105,go_sem,a8g,bkn,ae8]) rfl ⟨rfl,qa _ _⟩
theorem arl (A:Option Addr) (n c:Nat) (R:List ByteArray) (w:World) (hl:R.length=n) (hA:A=none→c=0) (hs:vw w w.1.size A R) (hn:n≤1000000) (hz:∀t∈R,t.size≤1000000) (hk:((n:Int) != 8)=false ∨((n:Int) != 8)=true ∧((n:Int) != 9)=false) (h89:¬(R.length≠8∧R.length≠9)) :
 Calls prog 105 #[.slice A n c] w (akl (ji R) w):=by
 obtain⟨b0,n0,u0,h0⟩:∃b n u,Hid (qs 1 3 2 0 36000 (0,R)=((b,n),u)):=⟨_,_,_,rfl⟩;obtain⟨s1,k0⟩:∃s,Hid (vk ⟨#[84]⟩ b0 u0=s):=⟨_,rfl⟩;obtain⟨b1,n1,u1,h1⟩:∃b n u,Hid (qs 1 3 2 0 36000 s1=((b,n),u)):=⟨_,_,_,rfl⟩;obtain⟨s2,k1⟩:∃s,Hid (vk ⟨#[77]⟩ b1 u1=s):=⟨_,rfl⟩;obtain⟨b2,n2,u2,h2⟩:∃b n u,Hid (qs 1 4 2 0 999999 s2=((b,n),u)):=⟨_,_,_,rfl⟩;obtain⟨s3,k2⟩:∃s,Hid (vk ⟨#[78]⟩ b2 u2=s):=⟨_,rfl⟩;obtain⟨b3,n3,u3,h3⟩:∃b n u,Hid (qs 1 4 2 0 999999 s3=((b,n),u)):=⟨_,_,_,rfl⟩;obtain⟨s4,k3⟩:∃s,Hid (vk ⟨#[75]⟩ b3 u3=s):=⟨_,rfl⟩;obtain⟨s5,k5⟩:∃s,Hid (aaf s4=s):=⟨_,rfl⟩;obtain⟨X,hX⟩:∃X,ji R=X:=⟨_,rfl⟩;have HT:=hid (hX.symm.trans (bcp h89 (a7e h0 k0 h1 k1 h2 k2 h3 k3) k5.out));rw[hX];clear hX;have HB0:=hid (qa w (.cells ag4 53));have HL:=hid (akt (c:=c) hA ((hs.below HB0.out (a8 _)).more HB0.out.size) om hz)
 rw[hl]at HL;have hR0:∀o,(w.alloc (.cells ag4 53)).cell? ⟨w.1.size,o,none⟩=ag4[o]?:=fun o=>b8 _ _ _ _ rfl
 have hR1:∀o,(w.alloc (.cells ag4 53)).frozen? ⟨w.1.size,o,none⟩=false:=fun o=>by rw[i9];exact qk _ _ _ (a8 _)
 have HR0:=hid hR0;have HR1:=hid hR1;have HZ0:Hid ((w.alloc (.cells ag4 53)).1.size=w.1.size+1):=by show _=_;simp
 clear hs hA hz hR0 hR1 hl h89;go_enter func105,ntmps105
 try dsimp only
 repeat (fail_if_success (show Code.wp _ (Code.seq (Code.region 1 _ _) _) _ _ _)
         first|go_values|go_skip|go_guarded|go_step|go_upon|go_back|(simp only[b2y,b2z]at *;go_simp)|(go_ite<;>go_prune<;>(try go_simp)))
 go_cut [] (fun wx=>wx=w.alloc (.cells ag4 53))
 case first=>
  rcases hk with hk|⟨hk,hk2⟩
  ·go_wp2_with fail
   go_meet
   rfl
  ·go_wp2_with fail
   go_meet
   rfl
 case rest=>
 subst hcut;clear hk;generalize hW0:w.alloc (.cells ag4 53)=W0 at *;clear hW0;go_wp2_with fail;refine HL.out.mono ?_;rintro r w1 ⟨g,rfl,hx1,hg1,hz1,hb1⟩;have HX1:=hid hx1;have HB1:=hid hb1;have HZ1:=hid hz1;have HG1:=hid hg1;clear hx1 hb1 hz1 hg1 HL;go_wp2_with fail;have HB3:Hid (Below w1.1.size w1 ((w1.alloc (.cells #[.pointer (some ⟨g,0,none⟩)] 283)).alloc (.cells ag4 53))):=qb (qa w1 _) (qa _ _);have HP3:Hid (((w1.alloc (.cells #[.pointer (some ⟨g,0,none⟩)] 283)).alloc (.cells ag4 53)).cell? ⟨w1.1.size,0,none⟩=some (.pointer (some ⟨g,0,none⟩))):=(n5 _ _ _ sm).trans (b8 _ _ _ _ rfl);have HZ3:Hid (((w1.alloc (.cells #[.pointer (some ⟨g,0,none⟩)] 283)).alloc (.cells ag4 53)).1.size=w1.1.size+2):=by show _=_;simp
 have HM3:Hid (∀o,((w1.alloc (.cells #[.pointer (some ⟨g,0,none⟩)] 283)).alloc (.cells ag4 53)).cell? ⟨w1.1.size+1,o,none⟩=ag4[o]?):=fun o=>b8 _ _ _ _ sm
 have HF3:Hid (∀o,((w1.alloc (.cells #[.pointer (some ⟨g,0,none⟩)] 283)).alloc (.cells ag4 53)).frozen? ⟨w1.1.size+1,o,none⟩=false):=fun o=>by rw[i9,i9];exact qk _ _ _ om
 generalize hW3:(w1.alloc (.cells #[.pointer (some ⟨g,0,none⟩)] 283)).alloc (.cells ag4 53)=W3 at *;clear hW3;refine(arm _).mono ?_;rintro r w4 ⟨C,rfl,hc,hC1,hC2,hb4⟩;have HC4:=hid hc;have HC1:=hid hC1;have HC2:=hid hC2;have HB4:=hid hb4;clear hc hC1 hC2 hb4;go_wp2_with fail;refine(arn _ _).mono ?_;rintro r w5 ⟨rfl,hd,hD,hb5⟩;have hz0:=HZ0.out;have hz1:=HZ1.out;have hz3:=HZ3.out;have hC1:=HC1.out;have hC2:=HC2.out;have hg1:=HG1.out;have hz4:=HB4.out.size;have hz5:=hb5.size;have h35:Below W3.1.size W3 w5:=qb HB4.out hb5;have h15:Below w1.1.size w1 w5:=qb HB3.out h35;have h05:Below W0.1.size W0 w5:=qb HB1.out h15;have T0:TkI (qz g (0,R)) g (w1.1.size+1) ag4 w5 w5:=⟨HX1.out.keep h15,fun j=>((qy h35).1 _ j om).trans (HM3.out j),fun j=>((qy h35).2 _ j om).trans (HF3.out j),by omega,by omega,rfl,rfl,rfl,a8 _,fun _ _ _ _=>rfl⟩;have hcP:w5.cell? ⟨w1.1.size,0,none⟩=some (.pointer (some ⟨g,0,none⟩)):=((qy h35).1 _ 0 om).trans HP3.out
 have HPP:Hid (∀(X:World→Prop) C' wr,TkI X g (w1.1.size+1) C' w5 wr→wr.cell? ⟨w1.1.size,0,none⟩=some (.pointer (some ⟨g,0,none⟩))):=fun X C' wr hk=>(hk.cell om om om).trans hcP
 have HCC:Hid (∀(X:World→Prop) C' wr,TkI X g (w1.1.size+1) C' w5 wr →(∀o,wr.cell? ⟨C,o,none⟩=au1[o]?) ∧(∀o,wr.cell? ⟨w4.1.size,o,none⟩=(blz (w1.1.size+1))[o]?)):=fun X C' wr hk=>
  ⟨fun o=>(hk.cell om om om).trans (((qy hb5).1 _ o hC2).trans (HC4.out o)),fun o=>(hk.cell om om om).trans (hd o)⟩
 have HRR:Hid (∀(X:World→Prop) C' wr,TkI X g (w1.1.size+1) C' w5 wr →(∀o,wr.cell? ⟨w.1.size,o,none⟩=ag4[o]?) ∧(∀o,wr.frozen? ⟨w.1.size,o,none⟩=false)):=fun X C' wr hk=>
  ⟨fun o=>(hk.cell om om om).trans (((qy h05).1 _ o om).trans (HR0.out o)),fun o=>(hk.frozen om om om).trans (((qy h05).2 _ o om).trans (HR1.out o))⟩
 have HFIN:Hid (∀(X:World→Prop) C' wr,TkI X g (w1.1.size+1) C' w5 wr→Below w.1.size w wr):=fun X C' wr hk=>b2k (HB0.out.trans (h05.mono om)) (hk.below om om)
 have HT0:=hid T0;have LP:Hid (w1.1.size<w5.1.size∧w1.1.size≠g):=⟨by omega,by omega⟩;have HCP:=hid hcP;clear T0 hcP hd hD hz0 hz1 hz3 hC1 hC2 hg1 hz4 hz5 h35 h15 h05 hb5 HC4 HB4 HC1 HC2 HZ3 HP3 HB3 HM3 HF3 HZ1 HB1 HG1 HX1 HR0 HR1 HZ0 HB0;go_wp2_with fail;refine(an4 (M:=w1.1.size+1) (P:=w1.1.size) (I0:=TkI (qz g (0,R)) g (w1.1.size+1) ag4 w5) (I1:=TkI (qz g s1) g (w1.1.size+1) (a7d b0 n0 false 0 false 0 false 0) w5) (I2:=TkI (qz g s2) g (w1.1.size+1) (a7d b0 n0 b1 n1 false 0 false 0) w5) (I3:=TkI (qz g s3) g (w1.1.size+1) (a7d b0 n0 b1 n1 b2 n2 false 0) w5) (I4:=TkI (qz g s4) g (w1.1.size+1) (a7d b0 n0 b1 n1 b2 n2 b3 n3) w5) HT0.out ?_ ?_ ?_ ?_ ?_).mono ?_
 ·exact fun wr h=>by rcases h with h|h|h|h<;>exact HCC.out _ _ wr h
 ·exact fun wr h=>adk h0 k0 (h.keep (Y:=qz g (0,R)) (h.x.keep (aca (n6 _ _))) (aca (n6 _ _))) rfl rfl (fun j=>by rcases j with _|_|_|_|_|_|_|_|j<;>simp) HCP.out LP.out.1 LP.out.2 om
 ·exact fun wr h=>adk h1 k1 (h.keep (Y:=qz g s1) (h.x.keep (aca (n6 _ _))) (aca (n6 _ _))) rfl rfl (fun j=>by rcases j with _|_|_|_|_|_|_|_|j<;>simp) HCP.out LP.out.1 LP.out.2 om
 ·exact fun wr h=>adk h2 k2 (h.keep (Y:=qz g s2) (h.x.keep (aca (n6 _ _))) (aca (n6 _ _))) rfl rfl (fun j=>by rcases j with _|_|_|_|_|_|_|_|j<;>simp) HCP.out LP.out.1 LP.out.2 om
 ·exact fun wr h=>adk h3 k3 (h.keep (Y:=qz g s3) (h.x.keep (aca (n6 _ _))) (aca (n6 _ _))) rfl rfl (fun j=>by rcases j with _|_|_|_|_|_|_|_|j<;>simp) HCP.out LP.out.1 LP.out.2 om
 rintro r w6 ⟨rfl,h6⟩;have HT6:=hid h6;clear h6 HCC HT0
 try dsimp only
 repeat (fail_if_success (show Code.wp _ (Code.seq (Code.region 6 _ _) _) _ _ _)
         first|go_values|go_skip|go_guarded|go_step|go_upon|go_back|(simp only[b2y,b2z]at *;go_simp)|(go_ite<;>go_prune<;>(try go_simp)))
 go_cut [] (fun wx=>Hid (TkI (qz g s5) g (w1.1.size+1) (a7d b0 n0 b1 n1 b2 n2 b3 n3) w5 wx))
 case first=>
  have p6:=HPP.out _ _ _ HT6.out;obtain⟨m,hm⟩:∃m,s4.2.length=m:=⟨_,rfl⟩;have HLF:=hid (aks HT6.out.x);rw[hm]at HLF;have HMM:=hid hm;clear hm;go_wp2_with fail;refine HLF.out.mono ?_;rintro r w' ⟨rfl,rfl⟩
  by_cases hm0:m=0
  ·subst hm0
   have E:s5=s4:=by
    rw[← k5.out];unfold aaf
    rw[if_pos (b0f HMM.out)]
   have HE:=hid E;clear E;go_wp2_with fail
   go_meet
   rw[HE.out];exact HT6
  ·have i1:(0:Int)<(m:Int):=by omega
   have hne:s4.2≠[]:=fun q=>hm0 (by rw[← HMM.out,q];rfl)
   obtain⟨a,s6,ha⟩:∃a s6,Hid (qv s4=(a,s6)):=⟨_,_,rfl⟩;have HW:=hid (bmr ha.out hne);clear hne hm0;go_wp2_with fail;refine(zc ha HT6.out.x).mono ?_;rintro r w7 ⟨rfl,hx7,hf7⟩;have HT7:=hid (HT6.out.frm hx7 hf7);have p7:=HPP.out _ _ _ HT7.out;clear hx7 hf7 p6;rcases HW.out with⟨q1,q2⟩|⟨q1,q2,q3⟩|⟨q1,q2,q3⟩
   ·have HE:Hid (s5=s6):=k5.out.symm.trans q2;clear q2 HW;go_wp2_with fail
    go_meet
    rw[HE.out];exact HT7
   ·have HE:Hid (s5=s6):=k5.out.symm.trans q3;clear q3 HW;have HCAP:=hid (ah3 a w7);rw[q2]at HCAP;go_wp2_with fail;refine HCAP.out.mono ?_;rintro r w' ⟨rfl,rfl⟩;go_wp2_with fail
    go_meet
    rw[HE.out];exact HT7
   ·have HE:Hid (s5=xt 3 s6):=k5.out.symm.trans q3;clear q3 HW;have HCAP:=hid (ah3 a w7);rw[q2]at HCAP;go_wp2_with fail;refine HCAP.out.mono ?_;rintro r w' ⟨rfl,rfl⟩;go_wp2_with fail;refine(xm rfl HT7.out.x).mono ?_;rintro r w8 ⟨rfl,hx8,hf8⟩;have HT8:=hid (HT7.out.frm (Y:=qz g s5) (by rw[HE.out];exact hx8) hf8);clear hx8 hf8;go_wp2_with fail
    go_meet
    exact HT8
 case rest=>
 have p7:=HPP.out _ _ _ hcut.out;obtain⟨hr,hf⟩:=HRR.out _ _ _ hcut.out;have HB:=hid (HFIN.out _ _ _ hcut.out);have hm:=hcut.out.c;have HX:=hid hcut.out.x;have r0:=hr 0;have r1:=hr 1;have r2:=hr 2;have r3:=hr 3;have r4:=hr 4;have r5:=hr 5;have r6:=hr 6;have r7:=hr 7;have f0:=hf 0;have f1:=hf 1;have f2:=hf 2;have f3:=hf 3;have f4:=hf 4;have f5:=hf 5;have f6:=hf 6;have f7:=hf 7;have m0:=hm 0;have m1:=hm 1;have m2:=hm 2;have m3:=hm 3;have m4:=hm 4;have m5:=hm 5;have m6:=hm 6;have m7:=hm 7;have HR:=hid (show AtC _ w.1.size ag4 from hr);clear hr hf hm hcut HRR HPP HFIN HT6 HCP LP;obtain⟨E,hE⟩:∃E,s5.1=E:=⟨_,rfl⟩;have HER:=hid (apv HX.out);rw[hE]at HER HT;clear hE;go_wp2_with fail;refine HER.out.mono ?_;rintro r w' ⟨rfl,rfl⟩
 by_cases hE:E=0
 ·subst hE;have HX2:Hid (X=([(b0,n0),(b1,n1),(b2,n2),(b3,n3)],0)):=HT.out.trans (if_pos rfl);clear HT;go_wp2_with fail;have K:=((((((((HR.out.set 0 (.bool b0) sm).set 1 (.int .i64 n0) sm).set 2 (.bool b1) sm).set 3 (.int .i64 n1) sm).set 4 (.bool b2) sm).set 5 (.int .i64 n2) sm).set 6 (.bool b3) sm).set 7 (.int .i64 n3) sm);have k0:=K 0;have k1:=K 1;have k2:=K 2;have k3:=K 3;have k4:=K 4;have k5:=K 5;have k6:=K 6;have k7:=K 7;simp at k0 k1 k2 k3 k4 k5 k6 k7;refine b9 (v:=.tuple #[bnb b0 n0 b1 n1 b2 n2 b3 n3,.int .i64 0]) (by simp[results,results105,go_sem,k0,k1,k2,k3,k4,k5,k6,k7]) rfl ⟨by rw[HX2.out];rfl,?_⟩;exact qt (qt (qt (qt (qt (qt (qt (qt HB.out (a8 _)) (a8 _)) (a8 _)) (a8 _)) (a8 _)) (a8 _)) (a8 _)) (a8 _)
 ·have hne:(E != 0)=true:=by rw[b0g];exact hE
  have HX2:Hid (X=(ae8,E)):=HT.out.trans (if_neg hE);clear hE HT;go_wp2_with fail;have K:=((((((((HR.out.set 0 (.bool false) sm).set 1 (.int .i64 0) sm).set 2 (.bool false) sm).set 3 (.int .i64 0) sm).set 4 (.bool false) sm).set 5 (.int .i64 0) sm).set 6 (.bool false) sm).set 7 (.int .i64 0) sm);have k0:=K 0;have k1:=K 1;have k2:=K 2;have k3:=K 3;have k4:=K 4;have k5:=K 5;have k6:=K 6;have k7:=K 7;simp at k0 k1 k2 k3 k4 k5 k6 k7;refine b9 (v:=.tuple #[bnb false 0 false 0 false 0 false 0,.int .i64 E]) (by simp[results,results105,go_sem,k0,k1,k2,k3,k4,k5,k6,k7]) rfl ⟨by rw[HX2.out];rfl,?_⟩;exact qt (qt (qt (qt (qt (qt (qt (qt HB.out (a8 _)) (a8 _)) (a8 _)) (a8 _)) (a8 _)) (a8 _)) (a8 _)) (a8 _)
#print axioms arl
