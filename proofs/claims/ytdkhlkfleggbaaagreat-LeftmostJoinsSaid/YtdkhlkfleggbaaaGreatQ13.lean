/- Parts. -/
import Derived.Test.YtdkhlkfleggbaaaGreatQ12
import Derived.Deep.CutBlock
namespace Go.Proofs.YtdkhlkfleggbaaaGreat
set_option maxHeartbeats 4000000
set_option maxRecDepth 8000
open Lib (hid)
open Tryz
set_option linter.unusedVariables false
open Go.RowKit
theorem a6a {a b:ByteArray} (h:a.toList=b.toList):a=b:=by
 rw[ByteArray.toList_eq,ByteArray.toList_eq]at h;obtain⟨⟨l⟩⟩:=a;obtain⟨⟨m⟩⟩:=b;simp at h;rw[h]
theorem afb (a b:ByteArray):(a.toList==b.toList)=decide (a=b):=by
 by_cases h:a=b
 ·subst h;simp
 ·rw[decide_eq_false h,beq_eq_false_iff_ne];exact fun k=>h (a6a k)
abbrev a6o (b0:Bool) (n0:Int) (b1:Bool) (n1:Int) (b2:Bool) (n2:Int) (b3:Bool) (n3:Int):Array Value:=#[.bool b0,.int .i64 n0,.bool b1,.int .i64 n1,.bool b2,.int .i64 n2,.bool b3,.int .i64 n3]
abbrev bl7 (b0:Bool) (n0:Int) (b1:Bool) (n1:Int) (b2:Bool) (n2:Int) (b3:Bool) (n3:Int):Value:=.agg (a6o b0 n0 b1 n1 b2 n2 b3 n3)
abbrev clC (W M F L H:Int) (c:ByteArray):Array Value:=#[.int .i64 W,.int .i64 M,.int .i64 F,.int .i64 L,.int .i64 H,.string c]
abbrev clV (W M F L H:Int) (c:ByteArray):Value:=.agg (clC W M F L H c)
abbrev auk:Array Value:=#[.int .i64 1,.int .i64 3,.int .i64 2,.int .i64 0,.int .i64 36000,.string ⟨#[84]⟩,.int .i64 1,.int .i64 3,.int .i64 2,.int .i64 0,.int .i64 36000,.string ⟨#[77]⟩,.int .i64 1,.int .i64 4,.int .i64 2,.int .i64 0,.int .i64 999999,.string ⟨#[78]⟩,.int .i64 1,.int .i64 4,.int .i64 2,.int .i64 0,.int .i64 999999,.string ⟨#[75]⟩]
abbrev clO (W M F L H:Int) (c:ByteArray):Obj:=.cells (clC W M F L H c) 310
theorem adi (a:ByteArray):a.toList.isEmpty=decide (a=ByteArray.empty):=by
 rw[← afb];have:ByteArray.empty.toList=[]:=by rw[ByteArray.toList_eq];rfl
 rw[this];cases a.toList<;>rfl
def bb4 (w:World) (r:Ending) (w':World):Prop:=∃h,r=.returned (.slice (some ⟨h,0,none⟩) 4 4) ∧(∀o,w'.cell? ⟨h,o,none⟩=auk[o]?)∧w.1.size≤h∧h<w'.1.size∧Below w.1.size w w'
theorem ara (w:World):Calls prog 172 #[] w (bb4 w):=by
 go_enter func172,ntmps172;go_wp2;go_ret;refine⟨w.1.size+1+1,rfl,fun o=>?_,by omega,by simp,qb (qb (qa _ _) (qa _ _)) (qa _ _)⟩;rw[World.cell?_alloc_at _ _ _ _ sm]
abbrev bkt (M:Nat):Array Value:=#[.pointer (some ⟨M,0,none⟩),.pointer (some ⟨M,2,none⟩),.pointer (some ⟨M,4,none⟩),.pointer (some ⟨M,6,none⟩)]
theorem arb (M:Nat) (w:World):Calls prog 173 #[.pointer (some ⟨M,0,none⟩)] w fun e w'=>e=.returned (.slice (some ⟨w.1.size,0,none⟩) 4 4) ∧(∀o,w'.cell? ⟨w.1.size,o,none⟩=(bkt M)[o]?)∧w.1.size<w'.1.size∧Below w.1.size w w':=by
 go_enter func173,ntmps173;go_wp2_with fail
 go_region_with (fail)
 all_goals
  go_wp2_with fail;go_ret;refine⟨rfl,fun o=>?_,?_,ab7 (qa _ _)⟩
  ·show (w.alloc _).cell? _=_;rw[World.cell?_alloc_at _ _ _ _ rfl]
  ·show _<(w.alloc _).1.size;simp
theorem azo (w:World):Calls prog 178 #[] w fun e w'=>e=.returned (j7 1 2 0 0 99)∧Below w.1.size w w':=by
 go_enter func178,ntmps178;go_wp2;refine bodyPost_ret (v:=j7 1 2 0 0 99) (by simp[results,results178,go_sem]) rfl ⟨rfl,qa _ _⟩
theorem a9d (w:World):Calls prog 179 #[] w fun e w'=>e=.returned (j7 1 3 0 1 255)∧Below w.1.size w w':=by
 go_enter func179,ntmps179;go_wp2;refine bodyPost_ret (v:=j7 1 3 0 1 255) (by simp[results,results179,go_sem]) rfl ⟨rfl,qa _ _⟩
theorem azn (w:World):Calls prog 180 #[] w fun e w'=>e=.returned (j7 1 2 0 0 90)∧Below w.1.size w w':=by
 go_enter func180,ntmps180;go_wp2;refine bodyPost_ret (v:=j7 1 2 0 0 90) (by simp[results,results180,go_sem]) rfl ⟨rfl,qa _ _⟩
theorem azm (w:World):Calls prog 181 #[] w fun e w'=>e=.returned (j7 1 3 0 0 359)∧Below w.1.size w w':=by
 go_enter func181,ntmps181;go_wp2;refine bodyPost_ret (v:=j7 1 3 0 0 359) (by simp[results,results181,go_sem]) rfl ⟨rfl,qa _ _⟩
theorem avd (w:World):Calls prog 182 #[] w fun e w'=>e=.returned (j7 1 2 0 0 99)∧Below w.1.size w w':=by
 go_enter func182,ntmps182;go_wp2;refine bodyPost_ret (v:=j7 1 2 0 0 99) (by simp[results,results182,go_sem]) rfl ⟨rfl,qa _ _⟩
theorem anr {C D M P:Nat} {w:World} {I0 I1 I2 I3 I4:World→Prop} (h0:I0 w)
 (HC:Hid (∀wr,(I0 wr∨I1 wr∨I2 wr∨I3 wr) →(∀o,wr.cell? ⟨C,o,none⟩=auk[o]?) ∧(∀o,wr.cell? ⟨D,o,none⟩=(bkt M)[o]?)))
 (H0:∀wr,I0 wr→Hid (Calls prog 174 #[clV 1 3 2 0 36000 ⟨#[84]⟩,.pointer (some ⟨M,0,none⟩),.pointer (some ⟨P,0,none⟩)] wr.drew fun r w'=>r=.returned (.tuple #[])∧I1 w'))
 (H1:∀wr,I1 wr→Hid (Calls prog 174 #[clV 1 3 2 0 36000 ⟨#[77]⟩,.pointer (some ⟨M,2,none⟩),.pointer (some ⟨P,0,none⟩)] wr.drew fun r w'=>r=.returned (.tuple #[])∧I2 w'))
 (H2:∀wr,I2 wr→Hid (Calls prog 174 #[clV 1 4 2 0 999999 ⟨#[78]⟩,.pointer (some ⟨M,4,none⟩),.pointer (some ⟨P,0,none⟩)] wr.drew fun r w'=>r=.returned (.tuple #[])∧I3 w'))
 (H3:∀wr,I3 wr→Hid (Calls prog 174 #[clV 1 4 2 0 999999 ⟨#[75]⟩,.pointer (some ⟨M,6,none⟩),.pointer (some ⟨P,0,none⟩)] wr.drew fun r w'=>r=.returned (.tuple #[])∧I4 w')) :
 Calls prog 171 #[.slice (some ⟨C,0,none⟩) 4 4,.slice (some ⟨D,0,none⟩) 4 4,.func (.func 174) #[] #[.pointer (some ⟨P,0,none⟩)]] w fun r w'=>r=.returned (.tuple #[])∧I4 w':=by
 go_enter func171,ntmps171;go_wp2_with fail
 go_loopw [12] (fun i wr=>i=.int .i64 0∧I0 wr∨i=.int .i64 1∧I1 wr∨i=.int .i64 2∧I2 wr∨i=.int .i64 3∧I3 wr∨i=.int .i64 4∧I4 wr) (fun i _=>4-(intOf i).toNat)
 case atStart=>exact .inl ⟨rfl,h0⟩
 case round=>
  rcases hrel with⟨rfl,hI⟩|⟨rfl,hI⟩|⟨rfl,hI⟩|⟨rfl,hI⟩|⟨rfl,hI⟩
  ·obtain⟨hc,hd⟩:=HC.out _ (.inl hI);have c0:=hc 0;have c1:=hc 1;have c2:=hc 2;have c3:=hc 3;have c4:=hc 4;have c5:=hc 5;have d0:=hd 0;have HH:=H0 _ hI;clear hc hd HC H0 H1 H2 H3 h0;go_wp2_with fail
   go_region_with (go_at_call 174;refine HH.out.mono ?_;rintro r w1 ⟨rfl,hI1⟩)
   all_goals go_wp2_with fail
   all_goals go_roundw
   all_goals first|exact .inr (.inl ⟨rfl,hI1⟩)|(simp[intOf])
  ·obtain⟨hc,hd⟩:=HC.out _ (.inr (.inl hI));have c0:=hc 6;have c1:=hc 7;have c2:=hc 8;have c3:=hc 9;have c4:=hc 10;have c5:=hc 11;have d0:=hd 1;have HH:=H1 _ hI;clear hc hd HC H0 H1 H2 H3 h0;go_wp2_with fail
   go_region_with (go_at_call 174;refine HH.out.mono ?_;rintro r w1 ⟨rfl,hI1⟩)
   all_goals go_wp2_with fail
   all_goals go_roundw
   all_goals first|exact .inr (.inr (.inl ⟨rfl,hI1⟩))|(simp[intOf])
  ·obtain⟨hc,hd⟩:=HC.out _ (.inr (.inr (.inl hI)));have c0:=hc 12;have c1:=hc 13;have c2:=hc 14;have c3:=hc 15;have c4:=hc 16;have c5:=hc 17;have d0:=hd 2;have HH:=H2 _ hI;clear hc hd HC H0 H1 H2 H3 h0;go_wp2_with fail
   go_region_with (go_at_call 174;refine HH.out.mono ?_;rintro r w1 ⟨rfl,hI1⟩)
   all_goals go_wp2_with fail
   all_goals go_roundw
   all_goals first|exact .inr (.inr (.inr (.inl ⟨rfl,hI1⟩)))|(simp[intOf])
  ·obtain⟨hc,hd⟩:=HC.out _ (.inr (.inr (.inr hI)));have c0:=hc 18;have c1:=hc 19;have c2:=hc 20;have c3:=hc 21;have c4:=hc 22;have c5:=hc 23;have d0:=hd 3;have HH:=H3 _ hI;clear hc hd HC H0 H1 H2 H3 h0;go_wp2_with fail
   go_region_with (go_at_call 174;refine HH.out.mono ?_;rintro r w1 ⟨rfl,hI1⟩)
   all_goals go_wp2_with fail
   all_goals go_roundw
   all_goals first|exact .inr (.inr (.inr (.inr ⟨rfl,hI1⟩)))|(simp[intOf])
  ·go_wp2_with fail
   go_end0
   exact⟨rfl,hI⟩
structure TkI (X:World→Prop) (g M:Nat) (C:Array Value) (W w:World):Prop where
 x:X w
 c:∀j,w.cell? ⟨M,j,none⟩=C[j]?
 z:∀j,w.frozen? ⟨M,j,none⟩=false
 gm:g<M
 mz:M<w.1.size
 os:w.os=W.os
 tape:w.tape=W.tape
 output:w.output=W.output
 size:W.1.size≤w.1.size
 block:∀k,k<W.1.size→k≠g→k≠M→w.heap[k]?=W.heap[k]?
theorem TkI.frm {X Y:World→Prop} {g M:Nat} {C:Array Value} {W w w':World} (h:TkI X g M C W w) (hy:Y w') (hf:Frm g vj w w'):TkI Y g M C W w':=by
 have gm:=h.gm
 exact⟨hy,fun j=>(qi hf h.mz om j).trans (h.c j),fun j=>(qu hf h.mz om j).trans (h.z j),gm,Nat.lt_of_lt_of_le h.mz hf.size,hf.os.trans h.os,hf.tape.trans h.tape,hf.output.trans h.output,Nat.le_trans h.size hf.size,
  fun k h1 h2 h3=>(hf.block k (Nat.lt_of_lt_of_le h1 h.size) h2 (by simp[Value.ownBlock])).trans (h.block k h1 h2 h3)⟩
theorem TkI.keep {X Y:World→Prop} {g M:Nat} {C:Array Value} {W w w':World} (h:TkI X g M C W w) (hy:Y w') (hb:Below w.1.size w w'):TkI Y g M C W w':=h.frm hy (Frm.of_below hb)
theorem TkI.store {X Y:World→Prop} {g M o:Nat} {C C':Array Value} {W w:World} {x y x' y':Value} (h:TkI X g M C W w) (h0:C[o]?=some x) (h1:C[o+1]?=some y) (hC:∀j,C'[j]?=if j=o then some x' else if j=o+1 then some y' else C[j]?)
 (hy:Y ((w.setCell ⟨M,o,none⟩ x').setCell ⟨M,o+1,none⟩ y')):TkI Y g M C' W ((w.setCell ⟨M,o,none⟩ x').setCell ⟨M,o+1,none⟩ y'):=by
 refine⟨hy,fun j=>?_,fun j=>by simpa using h.z j,h.gm,by simpa using h.mz,h.os,h.tape,h.output,by simpa using h.size,fun k k1 k2 k3=>?_⟩
 ·rw[hC]
  by_cases e1:j=o
  ·subst e1;rw[if_pos rfl,World.cell?_setCell_other _ _ _ _ (fun q=>by injection q with _ q;omega),World.cell?_setCell_same _ _ _ ((h.c j).trans h0)]
  ·rw[if_neg e1]
   by_cases e2:j=o+1
   ·subst e2;rw[if_pos rfl,World.cell?_setCell_same _ _ _ ((World.cell?_setCell_other _ _ _ _ (fun q=>by injection q with _ q;omega)).trans ((h.c _).trans h1))]
   ·rw[if_neg e2,World.cell?_setCell_other _ _ _ _ (fun q=>by injection q with _ q;omega),World.cell?_setCell_other _ _ _ _ (fun q=>by injection q with _ q;omega)];exact h.c j
 ·exact(Below.heap_setCell _ _ _ _ k3).trans ((Below.heap_setCell _ _ _ _ k3).trans (h.block k k1 k2 k3))
theorem TkI.cell {X:World→Prop} {g M:Nat} {C:Array Value} {W w:World} (h:TkI X g M C W w) {b o:Nat} (hb:b<W.1.size) (h1:b≠g) (h2:b≠M):w.cell? ⟨b,o,none⟩=W.cell? ⟨b,o,none⟩:=World.cell?_of_block (a:=⟨b,o,none⟩) (h.block b hb h1 h2)
theorem TkI.frozen {X:World→Prop} {g M:Nat} {C:Array Value} {W w:World} (h:TkI X g M C W w) {b o:Nat} (hb:b<W.1.size) (h1:b≠g) (h2:b≠M):w.frozen? ⟨b,o,none⟩=W.frozen? ⟨b,o,none⟩:=World.frozen?_of_block (a:=⟨b,o,none⟩) (h.block b hb h1 h2)
theorem TkI.below {X:World→Prop} {g M B:Nat} {C:Array Value} {W w:World} (h:TkI X g M C W w) (hg:B≤g) (hB:B≤W.1.size):Below B W w:=
 ⟨h.os,h.tape,h.output,h.size,fun k hk=>h.block k om om (by have:=h.gm;omega)⟩
theorem at3 (a c:ByteArray) (b:Bool) (s1:Rd) :
 (a.toList==c.toList)=true ∧(if a≠c ∧(b=true∨a≠ByteArray.empty)then xq 3 s1 else s1)=s1 ∨
 (a.toList==c.toList)=false∧b=true ∧(if a≠c ∧(b=true∨a≠ByteArray.empty)then xq 3 s1 else s1)=xq 3 s1 ∨
 (a.toList==c.toList)=false∧b=false∧a.toList.isEmpty=false ∧(if a≠c ∧(b=true∨a≠ByteArray.empty)then xq 3 s1 else s1)=xq 3 s1 ∨
 (a.toList==c.toList)=false∧b=false∧a.toList.isEmpty=true ∧(if a≠c ∧(b=true∨a≠ByteArray.empty)then xq 3 s1 else s1)=s1:=by
 rw[afb,adi]
 by_cases h:a=c
 ·exact .inl ⟨decide_eq_true h,if_neg (fun q=>q.1 h)⟩
 ·cases b with
  | true=>exact .inr (.inl ⟨decide_eq_false h,rfl,if_pos ⟨h,.inl rfl⟩⟩)
  | false=>
   by_cases h2:a=ByteArray.empty
   ·exact .inr (.inr (.inr ⟨decide_eq_false h,rfl,decide_eq_true h2,if_neg (fun q=>q.2.elim (fun q=>by cases q) (fun q=>q h2))⟩))
   ·exact .inr (.inr (.inl ⟨decide_eq_false h,rfl,decide_eq_false h2,if_pos ⟨h,.inr h2⟩⟩))
theorem adn {g P M o:Nat} {s s1 t:Rd} {b:Bool} {n W M' F L H:Int} {c:ByteArray} {C C':Array Value} {x y:Value} {W5 w:World} (h1:Hid (qq W M' F L H s=((b,n),s1))) (ht:Hid (vl c b s1=t)) (hT:TkI (qw g s) g M C W5 w)
 (hC0:C[o]?=some x) (hC1:C[o+1]?=some y) (hC:∀j,C'[j]?=if j=o then some (.bool b)else if j=o+1 then some (.int .i64 n)else C[j]?)
 (hP:W5.cell? ⟨P,0,none⟩=some (.pointer (some ⟨g,0,none⟩))) (hPz:P<W5.1.size) (hPg:P≠g) (hPM:P≠M) :
 Calls prog 174 #[clV W M' F L H c,.pointer (some ⟨M,o,none⟩),.pointer (some ⟨P,0,none⟩)] w fun r w'=>r=.returned (.tuple #[])∧TkI (qw g t) g M C' W5 w':=by
 have hb0:=qa w (clO W M' F L H c);have hT0:=hT.keep (Y:=qw g s) (hT.x.keep hb0) hb0;have hcol:∀j,(w.alloc (clO W M' F L H c)).cell? ⟨w.1.size,j,none⟩=(clC W M' F L H c)[j]?:=fun j=>World.cell?_alloc_at _ _ _ _ rfl
 have hz0:(w.alloc (clO W M' F L H c)).1.size=w.1.size+1:=by simp
 have hM0:=hT.mz;have hg0:=hT.gm;obtain⟨a,s2,ha⟩:∃a s2,Hid (qt s1=(a,s2)):=⟨_,_,rfl⟩;have hways:=at3 a c b s2
 have ht2:Hid (t=if a≠c ∧(b=true∨a≠ByteArray.empty)then xq 3 s2 else s2):=by
  show _=_;have q:=ht.out;unfold vl at q;rw[ha.out]at q;exact q.symm
 have HWAYS:=hid hways;have HC:=hid hC;have HC0:=hid hC0;have HC1:=hid hC1;have HT0:=hid hT0;have HCOL:=hid hcol;have HPW:=hid hP;have p0:=(hT0.cell hPz hPg hPM).trans hP;have c0:=hcol 0;have c1:=hcol 1;have c2:=hcol 2;have c3:=hcol 3;have c4:=hcol 4;clear hT hb0 hcol hT0 hways hC hC0 hC1 hP ht;go_enter func174,ntmps174;go_wp2_with fail;generalize hW0:w.alloc (clO W M' F L H c)=W0 at *;refine(km h1 HT0.out.x).mono ?_;rintro r w1 ⟨rfl,hx,hf⟩;have hT1:=HT0.out.frm hx hf;have m0:=(hT1.c o).trans HC0.out;have m1:=(hT1.c (o+1)).trans HC1.out;have z0:=hT1.z o;have z1:=hT1.z (o+1);have p1:=(hT1.cell hPz hPg hPM).trans HPW.out;have HT1:=hid hT1;have hcol5:w1.cell? ⟨w.1.size,5,none⟩=some (.string c):=(qi hf om om 5).trans (HCOL.out 5);have HZ1:Hid (w.1.size<w1.1.size):=by show _<_;have:=hf.size;omega
 have HX1:=hid hx;clear hT1 hx hf c0 c1 c2 c3 c4 p0 HT0 HCOL hW0 hz0;go_wp2_with fail;have hx2:qw g s1 ((w1.setCell ⟨M,o,none⟩ (.bool b)).setCell ⟨M,o+1,none⟩ (.int .i64 n)):=(HX1.out.far hg0).far hg0;have hT2:=HT1.out.store (Y:=qw g s1) HC0.out HC1.out HC.out hx2;refine(zc ha hx2).mono ?_;rintro r w3 ⟨rfl,hx3,hf3⟩;have hT3:=hT2.frm hx3 hf3;have p3:=(hT3.cell hPz hPg hPM).trans HPW.out;have k0:=(hT3.c o).trans (HC.out o);rw[if_pos rfl]at k0;have z1':=HZ1.out;have hcol3:w3.cell? ⟨w.1.size,5,none⟩=some (.string c):=(qi hf3 (by simpa using z1') om 5).trans ((World.cell?_setCell_other _ _ _ _ (fun q=>by injection q with q;omega)).trans ((World.cell?_setCell_other _ _ _ _ (fun q=>by injection q with q;omega)).trans hcol5));have HT3:=hid hT3;clear hT2 hx2 hT3 hx3 hf3 hcol5 z0 z1 m0 m1 p1 HX1 HT1 HC HC0 HC1 HPW z1';rcases HWAYS.out with⟨k1,hq⟩|⟨k1,kb,hq⟩|⟨k1,kb,k2,hq⟩|⟨k1,kb,k2,hq⟩
 ·rw[hq]at ht2;clear hq HWAYS;go_wp2_with fail
  go_end0
  exact⟨rfl,by rw[ht2.out];exact HT3.out⟩
 ·rw[hq]at ht2;subst kb;clear hq HWAYS;go_wp2_with fail;refine(xl rfl HT3.out.x).mono ?_;rintro r w4 ⟨rfl,hx4,hf4⟩;have HT4:=hid (HT3.out.frm (Y:=qw g t) (by rw[ht2.out];exact hx4) hf4);clear hx4 hf4;go_wp2_with fail
  go_end0
  exact⟨rfl,HT4.out⟩
 ·rw[hq]at ht2;subst kb;clear hq HWAYS;go_wp2_with fail;refine(xl rfl HT3.out.x).mono ?_;rintro r w4 ⟨rfl,hx4,hf4⟩;have HT4:=hid (HT3.out.frm (Y:=qw g t) (by rw[ht2.out];exact hx4) hf4);clear hx4 hf4;go_wp2_with fail
  go_end0
  exact⟨rfl,HT4.out⟩
 ·rw[hq]at ht2;subst kb;clear hq HWAYS;go_wp2_with fail
  go_end0
  exact⟨rfl,by rw[ht2.out];exact HT3.out⟩
theorem atb (a:ByteArray):(a.size=0∧a.toList.isEmpty=true∧a=ByteArray.empty) ∨(a.toList.isEmpty=false∧a≠ByteArray.empty ∧(2≤a.size∧anc a=false∨∃hz:0<a.size,a.size=1 ∧(a[0].toNat<65∧anc a=false∨90<a[0].toNat∧anc a=false∨65≤a[0].toNat∧a[0].toNat≤90∧anc a=true))):=by
 rw[adi]
 by_cases h0:a.size=0
 ·have:a=ByteArray.empty:=by simpa using h0
  exact .inl ⟨h0,decide_eq_true this,this⟩
 ·have hne:a≠ByteArray.empty:=fun q=>h0 (by rw[q];rfl)
  refine .inr ⟨decide_eq_false hne,hne,?_⟩
  by_cases h1:a.size=1
  ·refine .inr ⟨by omega,h1,?_⟩;have hg:(a[0]?.getD 0)=a[0]:=by rw[getElem?_pos a 0 om];rfl
   unfold anc;rw[hg,decide_eq_true h1]
   by_cases h2:a[0].toNat<65
   ·exact .inl ⟨h2,by simp;omega⟩
   ·by_cases h3:90<a[0].toNat
    ·exact .inr (.inl ⟨h3,by simp;omega⟩)
    ·exact .inr (.inr ⟨by omega,by omega,by simp;omega⟩)
  ·refine .inl ⟨by omega,?_⟩;unfold anc;simp[h1]
theorem ahr (a:ByteArray) (w:World):Calls prog 176 #[.string a] w fun e w'=>e=.returned (.bool (anc a))∧w'=w:=by
 rcases atb a with⟨h,-,rfl⟩|⟨-,-,h|⟨hz,h1,h|h|h⟩⟩
 ·have hc:anc ByteArray.empty=false:=rfl;rw[hc];go_enter func176,ntmps176;go_wp2;go_ret;exact⟨rfl,rfl⟩
 ·obtain⟨h2,hc⟩:=h;rw[hc];have i1:((a.size:Int)==1)=false:=by rw[beq_eq_false_iff_ne];omega
  go_enter func176,ntmps176;go_wp2;go_ret;exact⟨rfl,rfl⟩
 ·obtain⟨h2,hc⟩:=h;rw[hc];have i1:((a.size:Int)==1)=true:=by rw[beq_iff_eq];omega
  have i2:((a[0].toNat:Nat):Int)<65:=by omega
  go_enter func176,ntmps176;go_wp2;go_ret;exact⟨rfl,rfl⟩
 ·obtain⟨h2,hc⟩:=h;rw[hc];have i1:((a.size:Int)==1)=true:=by rw[beq_iff_eq];omega
  have i2:(65:Int) ≤((a[0].toNat:Nat):Int):=by omega
  have i3:decide (((a[0].toNat:Nat):Int)≤90)=false:=decide_eq_false om;go_enter func176,ntmps176;go_wp2;go_ret;exact⟨rfl,rfl⟩
 ·obtain⟨h2,h3,hc⟩:=h;rw[hc];have i1:((a.size:Int)==1)=true:=by rw[beq_iff_eq];omega
  have i2:(65:Int) ≤((a[0].toNat:Nat):Int):=by omega
  have i3:((a[0].toNat:Nat):Int)≤90:=by omega
  go_enter func176,ntmps176;go_wp2;go_ret;exact⟨rfl,rfl⟩
theorem api (a:ByteArray):(dgB a=false∧a.size≠1) ∨(∃hz:0<a.size,a.size=1 ∧(a[0].toNat<48∧dgB a=false∨57<a[0].toNat∧dgB a=false∨48≤a[0].toNat∧a[0].toNat≤57∧dgB a=true∧dgN a=(a[0].toNat:Int)-48)):=by
 by_cases h1:a.size=1
 ·refine .inr ⟨by omega,h1,?_⟩;have hg:(a[0]?.getD 0)=a[0]:=by rw[getElem?_pos a 0 om];rfl
  unfold dgB dgN;rw[hg,decide_eq_true h1]
  by_cases h2:a[0].toNat<48
  ·exact .inl ⟨h2,by simp;omega⟩
  ·by_cases h3:57<a[0].toNat
   ·exact .inr (.inl ⟨h3,by simp;omega⟩)
   ·exact .inr (.inr ⟨by omega,by omega,by simp;omega,rfl⟩)
 ·exact .inl ⟨by unfold dgB;simp[h1],h1⟩
theorem ajl {lo hi:Int} {s s1:Rd} {a:ByteArray} (h:qt s=(a,s1)) :
 (dgB a=false→zi lo hi s=(0,xq 3 s1)) ∧(dgB a=true →(dgN a<lo∨hi<dgN a)→zi lo hi s=(dgN a,xq 5 s1)) ∧(dgB a=true→¬(dgN a<lo∨hi<dgN a)→zi lo hi s=(dgN a,s1)):=by
 unfold zi;rw[h];simp only;refine⟨fun q=>?_,fun q r=>?_,fun q r=>?_⟩
 ·rw[if_neg (by rw[q];decide)]
 ·rw[if_pos q,if_pos r]
 ·rw[if_pos q,if_neg r]
theorem aip {g:Nat} {s t:Rd} {top n:Int} {w:World} (ht:Hid (zi 1 top s=(n,t))) (hp:qw g s w) :
 Calls prog 177 #[.pointer (some ⟨g,0,none⟩),.int .i64 top] w (jv g (.int .i64 n) t w):=by
 obtain⟨a,s1,ha⟩:∃a s1,Hid (qt s=(a,s1)):=⟨_,_,rfl⟩;obtain⟨hw1,hw2,hw3⟩:=ajl (lo:=1) (hi:=top) ha.out;have HP:=hid hp;have ht:=ht.out;clear hp;rcases api a with⟨hb,h1⟩|⟨hz,h1,⟨h2,hb⟩|⟨h2,hb⟩|⟨h2,h3,hb,hv⟩⟩
 ·have e:=hw1 hb;rw[e]at ht;injection ht with e1 e2
  subst e1 e2;clear e hw1 hw2 hw3 hb;have i1:((a.size:Int)==1)=false:=by rw[beq_eq_false_iff_ne];omega
  go_enter func177,ntmps177;go_wp2_with fail;refine(zc ha HP.out).mono ?_;rintro r w1 ⟨rfl,hx,hf⟩;have HX:=hid hx;have HF:=hid hf;clear hx hf HP;go_wp2_with fail;refine(xl rfl HX.out).mono ?_;rintro r w2 ⟨rfl,hx2,hf2⟩;have HX2:=hid hx2;have HF2:=hid (HF.out.step hf2);clear hx2 hf2;go_wp2_with fail;go_ret;exact⟨rfl,HX2.out,HF2.out⟩
 ·have e:=hw1 hb;rw[e]at ht;injection ht with e1 e2
  subst e1 e2;clear e hw1 hw2 hw3 hb;have i1:((a.size:Int)==1)=true:=by rw[beq_iff_eq];omega
  have i2:((a[0].toNat:Nat):Int)<48:=by omega
  go_enter func177,ntmps177;go_wp2_with fail;refine(zc ha HP.out).mono ?_;rintro r w1 ⟨rfl,hx,hf⟩;have HX:=hid hx;have HF:=hid hf;clear hx hf HP;go_wp2_with fail;refine(xl rfl HX.out).mono ?_;rintro r w2 ⟨rfl,hx2,hf2⟩;have HX2:=hid hx2;have HF2:=hid (HF.out.step hf2);clear hx2 hf2;go_wp2_with fail;go_ret;exact⟨rfl,HX2.out,HF2.out⟩
 ·have e:=hw1 hb;rw[e]at ht;injection ht with e1 e2
  subst e1 e2;clear e hw1 hw2 hw3 hb;have i1:((a.size:Int)==1)=true:=by rw[beq_iff_eq];omega
  have i2:(48:Int) ≤((a[0].toNat:Nat):Int):=by omega
  have i3:(57:Int)<((a[0].toNat:Nat):Int):=by omega
  go_enter func177,ntmps177;go_wp2_with fail;refine(zc ha HP.out).mono ?_;rintro r w1 ⟨rfl,hx,hf⟩;have HX:=hid hx;have HF:=hid hf;clear hx hf HP;go_wp2_with fail;refine(xl rfl HX.out).mono ?_;rintro r w2 ⟨rfl,hx2,hf2⟩;have HX2:=hid hx2;have HF2:=hid (HF.out.step hf2);clear hx2 hf2;go_wp2_with fail;go_ret;exact⟨rfl,HX2.out,HF2.out⟩
 ·have i1:((a.size:Int)==1)=true:=by rw[beq_iff_eq];omega
  have i2:(48:Int) ≤((a[0].toNat:Nat):Int):=by omega
  have i3:((a[0].toNat:Nat):Int)≤57:=by omega
  rw[hv]at hw2 hw3
  by_cases hq:(a[0].toNat:Int)-48<1∨top<(a[0].toNat:Int)-48
  ·have e:=hw2 hb hq;rw[e]at ht;injection ht with e1 e2
   subst e1 e2;clear e hw1 hw2 hw3 hb hv
   by_cases hq1:(a[0].toNat:Int)-48<1
   ·clear hq;go_enter func177,ntmps177;go_wp2_with fail;refine(zc ha HP.out).mono ?_;rintro r w1 ⟨rfl,hx,hf⟩;have HX:=hid hx;have HF:=hid hf;clear hx hf HP;go_wp2_with fail;refine(xl rfl HX.out).mono ?_;rintro r w2 ⟨rfl,hx2,hf2⟩;have HX2:=hid hx2;have HF2:=hid (HF.out.step hf2);clear hx2 hf2;go_wp2_with fail;go_ret;exact⟨rfl,HX2.out,HF2.out⟩
   ·have q1:1 ≤(a[0].toNat:Int)-48:=by omega
    have q2:top<(a[0].toNat:Int)-48:=by omega
    clear hq hq1;go_enter func177,ntmps177;go_wp2_with fail;refine(zc ha HP.out).mono ?_;rintro r w1 ⟨rfl,hx,hf⟩;have HX:=hid hx;have HF:=hid hf;clear hx hf HP;go_wp2_with fail;refine(xl rfl HX.out).mono ?_;rintro r w2 ⟨rfl,hx2,hf2⟩;have HX2:=hid hx2;have HF2:=hid (HF.out.step hf2);clear hx2 hf2;go_wp2_with fail;go_ret;exact⟨rfl,HX2.out,HF2.out⟩
  ·have e:=hw3 hb hq;rw[e]at ht;injection ht with e1 e2
   subst e1 e2;have q1:1 ≤(a[0].toNat:Int)-48:=by omega
   have q2:(a[0].toNat:Int)-48≤top:=by omega
   clear e hw1 hw2 hw3 hb hv hq;go_enter func177,ntmps177;go_wp2_with fail;refine(zc ha HP.out).mono ?_;rintro r w1 ⟨rfl,hx,hf⟩;have HX:=hid hx;have HF:=hid hf;clear hx hf HP;go_wp2_with fail;go_ret;exact⟨rfl,HX.out,HF.out⟩
