/- Layer 28: two lists, place by place. -/
import Derived.Test.YtoabkoniegmkaaaGreatH12
import Derived.Test.YtoabkoniegmkaaaGreatH13
import Derived.Test.YtoabkoniegmkaaaGreatH09
import Derived.Deep.LoopGhost
namespace Go.Proofs.YtoabkoniegmkaaaGreat
set_option linter.unusedVariables false
open Go.RowKit
set_option maxRecDepth 8000 in
set_option maxHeartbeats 4000000 in
theorem vtgbothPut_any {C D M P:Nat} {w:World} {I0 I1 I2 I3 I4:World→Prop} (h0:I0 w)
    (HC:Hid (∀ wr,(I0 wr∨I1 wr∨I2 wr∨I3 wr)→(∀ o,wr.cell? ⟨C,o,none⟩=clCells[o]?)∧(∀ o,wr.cell? ⟨D,o,none⟩=(ptrC M)[o]?)))
    (H0:∀ wr,I0 wr→Hid (Calls Tryz.prog 278 #[clV 1 3 2 0 36000 ⟨#[84]⟩,.pointer (some ⟨M,0,none⟩),.pointer (some ⟨P,0,none⟩)] wr.drew fun r w'=>r=.returned (.tuple #[])∧I1 w'))
    (H1:∀ wr,I1 wr→Hid (Calls Tryz.prog 278 #[clV 1 3 2 0 36000 ⟨#[77]⟩,.pointer (some ⟨M,2,none⟩),.pointer (some ⟨P,0,none⟩)] wr.drew fun r w'=>r=.returned (.tuple #[])∧I2 w'))
    (H2:∀ wr,I2 wr→Hid (Calls Tryz.prog 278 #[clV 1 4 2 0 999999 ⟨#[78]⟩,.pointer (some ⟨M,4,none⟩),.pointer (some ⟨P,0,none⟩)] wr.drew fun r w'=>r=.returned (.tuple #[])∧I3 w'))
    (H3:∀ wr,I3 wr→Hid (Calls Tryz.prog 278 #[clV 1 4 2 0 999999 ⟨#[75]⟩,.pointer (some ⟨M,6,none⟩),.pointer (some ⟨P,0,none⟩)] wr.drew fun r w'=>r=.returned (.tuple #[])∧I4 w')) :
    Calls Tryz.prog 131 #[.slice (some ⟨C,0,none⟩) 4 4,.slice (some ⟨D,0,none⟩) 4 4,.func (.func 278) #[] #[.pointer (some ⟨P,0,none⟩)]] w fun r w'=>r=.returned (.tuple #[])∧I4 w':=by
  go_enter Tryz.func131,Tryz.ntmps131
  go_wp2_with fail
  go_loopw [12] (fun i wr=>i=.int .i64 0∧I0 wr∨i=.int .i64 1∧I1 wr∨i=.int .i64 2∧I2 wr∨i=.int .i64 3∧I3 wr∨i=.int .i64 4∧I4 wr) (fun i _=>4 - (intOf i).toNat)
  case atStart=>exact .inl ⟨rfl,h0⟩
  case round=>
    rcases hrel with ⟨rfl,hI⟩ | ⟨rfl,hI⟩ | ⟨rfl,hI⟩ | ⟨rfl,hI⟩ | ⟨rfl,hI⟩
    · obtain⟨hc,hd⟩:=HC.out _ (.inl hI)
      have c0:=hc 0
      have c1:=hc 1
      have c2:=hc 2
      have c3:=hc 3
      have c4:=hc 4
      have c5:=hc 5
      have d0:=hd 0
      have HH:=H0 _ hI
      clear hc hd HC H0 H1 H2 H3 h0
      go_wp2_with fail
      go_region_with (go_at_call 278;refine HH.out.mono ?_;rintro r w1 ⟨rfl,hI1⟩)
      all_goals go_wp2_with fail
      all_goals go_roundw
      all_goals first | exact .inr (.inl ⟨rfl,hI1⟩) | (simp [intOf])
    · obtain⟨hc,hd⟩:=HC.out _ (.inr (.inl hI))
      have c0:=hc 6
      have c1:=hc 7
      have c2:=hc 8
      have c3:=hc 9
      have c4:=hc 10
      have c5:=hc 11
      have d0:=hd 1
      have HH:=H1 _ hI
      clear hc hd HC H0 H1 H2 H3 h0
      go_wp2_with fail
      go_region_with (go_at_call 278;refine HH.out.mono ?_;rintro r w1 ⟨rfl,hI1⟩)
      all_goals go_wp2_with fail
      all_goals go_roundw
      all_goals first | exact .inr (.inr (.inl ⟨rfl,hI1⟩)) | (simp [intOf])
    · obtain⟨hc,hd⟩:=HC.out _ (.inr (.inr (.inl hI)))
      have c0:=hc 12
      have c1:=hc 13
      have c2:=hc 14
      have c3:=hc 15
      have c4:=hc 16
      have c5:=hc 17
      have d0:=hd 2
      have HH:=H2 _ hI
      clear hc hd HC H0 H1 H2 H3 h0
      go_wp2_with fail
      go_region_with (go_at_call 278;refine HH.out.mono ?_;rintro r w1 ⟨rfl,hI1⟩)
      all_goals go_wp2_with fail
      all_goals go_roundw
      all_goals first | exact .inr (.inr (.inr (.inl ⟨rfl,hI1⟩))) | (simp [intOf])
    · obtain⟨hc,hd⟩:=HC.out _ (.inr (.inr (.inr hI)))
      have c0:=hc 18
      have c1:=hc 19
      have c2:=hc 20
      have c3:=hc 21
      have c4:=hc 22
      have c5:=hc 23
      have d0:=hd 3
      have HH:=H3 _ hI
      clear hc hd HC H0 H1 H2 H3 h0
      go_wp2_with fail
      go_region_with (go_at_call 278;refine HH.out.mono ?_;rintro r w1 ⟨rfl,hI1⟩)
      all_goals go_wp2_with fail
      all_goals go_roundw
      all_goals first | exact .inr (.inr (.inr (.inr ⟨rfl,hI1⟩))) | (simp [intOf])
    · go_wp2_with fail
      go_end0
      exact⟨rfl,hI⟩
set_option maxRecDepth 8000 in
set_option maxHeartbeats 4000000 in
theorem vtgbothTake_any {C D M P:Nat} {w:World} {I0 I1 I2 I3 I4:World→Prop} (h0:I0 w)
    (HC:Hid (∀ wr,(I0 wr∨I1 wr∨I2 wr∨I3 wr)→(∀ o,wr.cell? ⟨C,o,none⟩=clCells[o]?)∧(∀ o,wr.cell? ⟨D,o,none⟩=(ptrC M)[o]?)))
    (H0:∀ wr,I0 wr→Hid (Calls Tryz.prog 134 #[clV 1 3 2 0 36000 ⟨#[84]⟩,.pointer (some ⟨M,0,none⟩),.pointer (some ⟨P,0,none⟩)] wr.drew fun r w'=>r=.returned (.tuple #[])∧I1 w'))
    (H1:∀ wr,I1 wr→Hid (Calls Tryz.prog 134 #[clV 1 3 2 0 36000 ⟨#[77]⟩,.pointer (some ⟨M,2,none⟩),.pointer (some ⟨P,0,none⟩)] wr.drew fun r w'=>r=.returned (.tuple #[])∧I2 w'))
    (H2:∀ wr,I2 wr→Hid (Calls Tryz.prog 134 #[clV 1 4 2 0 999999 ⟨#[78]⟩,.pointer (some ⟨M,4,none⟩),.pointer (some ⟨P,0,none⟩)] wr.drew fun r w'=>r=.returned (.tuple #[])∧I3 w'))
    (H3:∀ wr,I3 wr→Hid (Calls Tryz.prog 134 #[clV 1 4 2 0 999999 ⟨#[75]⟩,.pointer (some ⟨M,6,none⟩),.pointer (some ⟨P,0,none⟩)] wr.drew fun r w'=>r=.returned (.tuple #[])∧I4 w')) :
    Calls Tryz.prog 131 #[.slice (some ⟨C,0,none⟩) 4 4,.slice (some ⟨D,0,none⟩) 4 4,.func (.func 134) #[] #[.pointer (some ⟨P,0,none⟩)]] w fun r w'=>r=.returned (.tuple #[])∧I4 w':=by
  go_enter Tryz.func131,Tryz.ntmps131
  go_wp2_with fail
  go_loopw [12] (fun i wr=>i=.int .i64 0∧I0 wr∨i=.int .i64 1∧I1 wr∨i=.int .i64 2∧I2 wr∨i=.int .i64 3∧I3 wr∨i=.int .i64 4∧I4 wr) (fun i _=>4 - (intOf i).toNat)
  case atStart=>exact .inl ⟨rfl,h0⟩
  case round=>
    rcases hrel with ⟨rfl,hI⟩ | ⟨rfl,hI⟩ | ⟨rfl,hI⟩ | ⟨rfl,hI⟩ | ⟨rfl,hI⟩
    · obtain⟨hc,hd⟩:=HC.out _ (.inl hI)
      have c0:=hc 0
      have c1:=hc 1
      have c2:=hc 2
      have c3:=hc 3
      have c4:=hc 4
      have c5:=hc 5
      have d0:=hd 0
      have HH:=H0 _ hI
      clear hc hd HC H0 H1 H2 H3 h0
      go_wp2_with fail
      go_region_with (go_at_call 134;refine HH.out.mono ?_;rintro r w1 ⟨rfl,hI1⟩)
      all_goals go_wp2_with fail
      all_goals go_roundw
      all_goals first | exact .inr (.inl ⟨rfl,hI1⟩) | (simp [intOf])
    · obtain⟨hc,hd⟩:=HC.out _ (.inr (.inl hI))
      have c0:=hc 6
      have c1:=hc 7
      have c2:=hc 8
      have c3:=hc 9
      have c4:=hc 10
      have c5:=hc 11
      have d0:=hd 1
      have HH:=H1 _ hI
      clear hc hd HC H0 H1 H2 H3 h0
      go_wp2_with fail
      go_region_with (go_at_call 134;refine HH.out.mono ?_;rintro r w1 ⟨rfl,hI1⟩)
      all_goals go_wp2_with fail
      all_goals go_roundw
      all_goals first | exact .inr (.inr (.inl ⟨rfl,hI1⟩)) | (simp [intOf])
    · obtain⟨hc,hd⟩:=HC.out _ (.inr (.inr (.inl hI)))
      have c0:=hc 12
      have c1:=hc 13
      have c2:=hc 14
      have c3:=hc 15
      have c4:=hc 16
      have c5:=hc 17
      have d0:=hd 2
      have HH:=H2 _ hI
      clear hc hd HC H0 H1 H2 H3 h0
      go_wp2_with fail
      go_region_with (go_at_call 134;refine HH.out.mono ?_;rintro r w1 ⟨rfl,hI1⟩)
      all_goals go_wp2_with fail
      all_goals go_roundw
      all_goals first | exact .inr (.inr (.inr (.inl ⟨rfl,hI1⟩))) | (simp [intOf])
    · obtain⟨hc,hd⟩:=HC.out _ (.inr (.inr (.inr hI)))
      have c0:=hc 18
      have c1:=hc 19
      have c2:=hc 20
      have c3:=hc 21
      have c4:=hc 22
      have c5:=hc 23
      have d0:=hd 3
      have HH:=H3 _ hI
      clear hc hd HC H0 H1 H2 H3 h0
      go_wp2_with fail
      go_region_with (go_at_call 134;refine HH.out.mono ?_;rintro r w1 ⟨rfl,hI1⟩)
      all_goals go_wp2_with fail
      all_goals go_roundw
      all_goals first | exact .inr (.inr (.inr (.inr ⟨rfl,hI1⟩))) | (simp [intOf])
    · go_wp2_with fail
      go_end0
      exact⟨rfl,hI⟩
structure TkI (X:World→Prop) (g M:Nat) (C:Array Value) (W w:World):Prop where
  x:X w
  c:∀ j,w.cell? ⟨M,j,none⟩=C[j]?
  z:∀ j,w.frozen? ⟨M,j,none⟩=false
  gm:g < M
  mz:M < w.heap.size
  os:w.os=W.os
  tape:w.tape=W.tape
  output:w.output=W.output
  size:W.heap.size≤w.heap.size
  block:∀ k,k < W.heap.size→k≠g→k≠M→w.heap[k]?=W.heap[k]?
theorem TkI.frm {X Y:World→Prop} {g M:Nat} {C:Array Value} {W w w':World} (h:TkI X g M C W w) (hy:Y w') (hf:Frm g nilV w w'):TkI Y g M C W w':=by
  have gm:=h.gm
  exact⟨hy,fun j=>(frm_cells hf h.mz (by omega) j).trans (h.c j),fun j=>(frm_frozen hf h.mz (by omega) j).trans (h.z j),gm,Nat.lt_of_lt_of_le h.mz hf.size,hf.os.trans h.os,hf.tape.trans h.tape,hf.output.trans h.output,Nat.le_trans h.size hf.size,
    fun k h1 h2 h3=>(hf.block k (Nat.lt_of_lt_of_le h1 h.size) h2 (by simp [Value.ownBlock])).trans (h.block k h1 h2 h3)⟩
theorem TkI.keep {X Y:World→Prop} {g M:Nat} {C:Array Value} {W w w':World} (h:TkI X g M C W w) (hy:Y w') (hb:Below w.heap.size w w'):TkI Y g M C W w':=h.frm hy (Frm.of_below hb)
theorem TkI.store {X Y:World→Prop} {g M o:Nat} {C C':Array Value} {W w:World} {x y x' y':Value} (h:TkI X g M C W w) (h0:C[o]?=some x) (h1:C[o+1]?=some y) (hC:∀ j,C'[j]?=if j=o then some x' else if j=o+1 then some y' else C[j]?)
    (hy:Y ((w.setCell ⟨M,o,none⟩ x').setCell ⟨M,o+1,none⟩ y')):TkI Y g M C' W ((w.setCell ⟨M,o,none⟩ x').setCell ⟨M,o+1,none⟩ y'):=by
  refine⟨hy,fun j=>?_,fun j=>by simpa using h.z j,h.gm,by simpa using h.mz,h.os,h.tape,h.output,by simpa using h.size,fun k k1 k2 k3=>?_⟩
  · rw [hC]
    by_cases e1:j=o
    · subst e1
      rw [if_pos rfl,World.cell?_setCell_other _ _ _ _ (fun q=>by injection q with _ q;omega),World.cell?_setCell_same _ _ _ ((h.c j).trans h0)]
    · rw [if_neg e1]
      by_cases e2:j=o+1
      · subst e2
        rw [if_pos rfl,World.cell?_setCell_same _ _ _ ((World.cell?_setCell_other _ _ _ _ (fun q=>by injection q with _ q;omega)).trans ((h.c _).trans h1))]
      · rw [if_neg e2,World.cell?_setCell_other _ _ _ _ (fun q=>by injection q with _ q;omega),World.cell?_setCell_other _ _ _ _ (fun q=>by injection q with _ q;omega)]
        exact h.c j
  · exact (Below.heap_setCell _ _ _ _ k3).trans ((Below.heap_setCell _ _ _ _ k3).trans (h.block k k1 k2 k3))
theorem TkI.cell {X:World→Prop} {g M:Nat} {C:Array Value} {W w:World} (h:TkI X g M C W w) {b o:Nat} (hb:b < W.heap.size) (h1:b≠g) (h2:b≠M):w.cell? ⟨b,o,none⟩=W.cell? ⟨b,o,none⟩:=World.cell?_of_block (a:=⟨b,o,none⟩) (h.block b hb h1 h2)
theorem TkI.frozen {X:World→Prop} {g M:Nat} {C:Array Value} {W w:World} (h:TkI X g M C W w) {b o:Nat} (hb:b < W.heap.size) (h1:b≠g) (h2:b≠M):w.frozen? ⟨b,o,none⟩=W.frozen? ⟨b,o,none⟩:=World.frozen?_of_block (a:=⟨b,o,none⟩) (h.block b hb h1 h2)
theorem TkI.below {X:World→Prop} {g M B:Nat} {C:Array Value} {W w:World} (h:TkI X g M C W w) (hg:B≤g) (hB:B≤W.heap.size):Below B W w:=
  ⟨h.os,h.tape,h.output,h.size,fun k hk=>h.block k (by omega) (by omega) (by have:=h.gm;omega)⟩
theorem unit_ways (a c:ByteArray) (b:Bool) (s1:Rd) :
    (a.toList==c.toList)=true∧(if a≠c∧(b=true∨a≠ByteArray.empty) then rdFail 3 s1 else s1)=s1 ∨
    (a.toList==c.toList)=false∧b=true∧(if a≠c∧(b=true∨a≠ByteArray.empty) then rdFail 3 s1 else s1)=rdFail 3 s1 ∨
    (a.toList==c.toList)=false∧b=false∧a.toList.isEmpty=false∧(if a≠c∧(b=true∨a≠ByteArray.empty) then rdFail 3 s1 else s1)=rdFail 3 s1 ∨
    (a.toList==c.toList)=false∧b=false∧a.toList.isEmpty=true∧(if a≠c∧(b=true∨a≠ByteArray.empty) then rdFail 3 s1 else s1)=s1:=by
  rw [beq_text,isEmpty_text]
  by_cases h:a=c
  · exact .inl ⟨decide_eq_true h,if_neg (fun q=>q.1 h)⟩
  · cases b with
    | true=>exact .inr (.inl ⟨decide_eq_false h,rfl,if_pos ⟨h,.inl rfl⟩⟩)
    | false=>
      by_cases h2:a=ByteArray.empty
      · exact .inr (.inr (.inr ⟨decide_eq_false h,rfl,decide_eq_true h2,if_neg (fun q=>q.2.elim (fun q=>by cases q) (fun q=>q h2))⟩))
      · exact .inr (.inr (.inl ⟨decide_eq_false h,rfl,decide_eq_false h2,if_pos ⟨h,.inr h2⟩⟩))
set_option maxRecDepth 8000 in
set_option maxHeartbeats 4000000 in
theorem vtgTake1_any {g P M o:Nat} {s s1 t:Rd} {b:Bool} {n W M' F L H:Int} {c:ByteArray} {C C':Array Value} {x y:Value} {W5 w:World} (h1:Hid (rdNum W M' F L H s=((b,n),s1))) (ht:Hid (rdUnit c b s1=t)) (hT:TkI (EyeI g s) g M C W5 w)
    (hC0:C[o]?=some x) (hC1:C[o+1]?=some y) (hC:∀ j,C'[j]?=if j=o then some (.bool b) else if j=o+1 then some (.int .i64 n) else C[j]?)
    (hP:W5.cell? ⟨P,0,none⟩=some (.pointer (some ⟨g,0,none⟩))) (hPz:P < W5.heap.size) (hPg:P≠g) (hPM:P≠M) :
    Calls Tryz.prog 134 #[clV W M' F L H c,.pointer (some ⟨M,o,none⟩),.pointer (some ⟨P,0,none⟩)] w fun r w'=>r=.returned (.tuple #[])∧TkI (EyeI g t) g M C' W5 w':=by
  have hb0:=below_new w (clO W M' F L H c)
  have hT0:=hT.keep (Y:=EyeI g s) (hT.x.keep hb0) hb0
  have hcol:∀ j,(w.alloc (clO W M' F L H c)).cell? ⟨w.heap.size,j,none⟩=(clC W M' F L H c)[j]?:=fun j=>World.cell?_alloc_at _ _ _ _ rfl
  have hz0:(w.alloc (clO W M' F L H c)).heap.size=w.heap.size+1:=by simp
  have hM0:=hT.mz
  have hg0:=hT.gm
  obtain⟨a,s2,ha⟩:∃ a s2,Hid (rdText s1=(a,s2)):=⟨_,_,rfl⟩
  have hways:=unit_ways a c b s2
  have ht2:Hid (t=if a≠c∧(b=true∨a≠ByteArray.empty) then rdFail 3 s2 else s2):=by
    show _=_
    have q:=ht.out
    unfold rdUnit at q
    rw [ha.out] at q
    exact q.symm
  have HWAYS:=Lib.hid hways
  have HC:=Lib.hid hC
  have HC0:=Lib.hid hC0
  have HC1:=Lib.hid hC1
  have HT0:=Lib.hid hT0
  have HCOL:=Lib.hid hcol
  have HPW:=Lib.hid hP
  have p0:=(hT0.cell hPz hPg hPM).trans hP
  have c0:=hcol 0
  have c1:=hcol 1
  have c2:=hcol 2
  have c3:=hcol 3
  have c4:=hcol 4
  clear hT hb0 hcol hT0 hways hC hC0 hC1 hP ht
  go_enter Tryz.func134,Tryz.ntmps134
  go_wp2_with fail
  generalize hW0:w.alloc (clO W M' F L H c)=W0 at *
  refine (eyeNum h1 HT0.out.x).mono ?_
  rintro r w1 ⟨rfl,hx,hf⟩
  have hT1:=HT0.out.frm hx hf
  have m0:=(hT1.c o).trans HC0.out
  have m1:=(hT1.c (o+1)).trans HC1.out
  have z0:=hT1.z o
  have z1:=hT1.z (o+1)
  have p1:=(hT1.cell hPz hPg hPM).trans HPW.out
  have HT1:=Lib.hid hT1
  have hcol5:w1.cell? ⟨w.heap.size,5,none⟩=some (.string c):=(frm_cells hf (by omega) (by omega) 5).trans (HCOL.out 5)
  have HZ1:Hid (w.heap.size < w1.heap.size):=by show _ < _;have:=hf.size;omega
  have HX1:=Lib.hid hx
  clear hT1 hx hf c0 c1 c2 c3 c4 p0 HT0 HCOL hW0 hz0
  go_wp2_with fail
  have hx2:EyeI g s1 ((w1.setCell ⟨M,o,none⟩ (.bool b)).setCell ⟨M,o+1,none⟩ (.int .i64 n)):=(HX1.out.far hg0).far hg0
  have hT2:=HT1.out.store (Y:=EyeI g s1) HC0.out HC1.out HC.out hx2
  refine (eyeText ha hx2).mono ?_
  rintro r w3 ⟨rfl,hx3,hf3⟩
  have hT3:=hT2.frm hx3 hf3
  have p3:=(hT3.cell hPz hPg hPM).trans HPW.out
  have k0:=(hT3.c o).trans (HC.out o)
  rw [if_pos rfl] at k0
  have z1':=HZ1.out
  have hcol3:w3.cell? ⟨w.heap.size,5,none⟩=some (.string c):=(frm_cells hf3 (by simpa using z1') (by omega) 5).trans ((World.cell?_setCell_other _ _ _ _ (fun q=>by injection q with q;omega)).trans ((World.cell?_setCell_other _ _ _ _ (fun q=>by injection q with q;omega)).trans hcol5))
  have HT3:=Lib.hid hT3
  clear hT2 hx2 hT3 hx3 hf3 hcol5 z0 z1 m0 m1 p1 HX1 HT1 HC HC0 HC1 HPW z1'
  rcases HWAYS.out with ⟨k1,hq⟩ | ⟨k1,kb,hq⟩ | ⟨k1,kb,k2,hq⟩ | ⟨k1,kb,k2,hq⟩
  · rw [hq] at ht2
    clear hq HWAYS
    go_wp2_with fail
    go_end0
    exact⟨rfl,by rw [ht2.out];exact HT3.out⟩
  · rw [hq] at ht2
    subst kb
    clear hq HWAYS
    go_wp2_with fail
    refine (eyeFail rfl HT3.out.x).mono ?_
    rintro r w4 ⟨rfl,hx4,hf4⟩
    have HT4:=Lib.hid (HT3.out.frm (Y:=EyeI g t) (by rw [ht2.out];exact hx4) hf4)
    clear hx4 hf4
    go_wp2_with fail
    go_end0
    exact⟨rfl,HT4.out⟩
  · rw [hq] at ht2
    subst kb
    clear hq HWAYS
    go_wp2_with fail
    refine (eyeFail rfl HT3.out.x).mono ?_
    rintro r w4 ⟨rfl,hx4,hf4⟩
    have HT4:=Lib.hid (HT3.out.frm (Y:=EyeI g t) (by rw [ht2.out];exact hx4) hf4)
    clear hx4 hf4
    go_wp2_with fail
    go_end0
    exact⟨rfl,HT4.out⟩
  · rw [hq] at ht2
    subst kb
    clear hq HWAYS
    go_wp2_with fail
    go_end0
    exact⟨rfl,by rw [ht2.out];exact HT3.out⟩
theorem mode_ways (a:ByteArray):(a.size=0∧a.toList.isEmpty=true∧a=ByteArray.empty)∨(a.toList.isEmpty=false∧a≠ByteArray.empty∧(2≤a.size∧capB a=false∨∃ hz:0 < a.size,a.size=1∧(a[0].toNat < 65∧capB a=false∨90 < a[0].toNat∧capB a=false∨65≤a[0].toNat∧a[0].toNat≤90∧capB a=true))):=by
  rw [isEmpty_text]
  by_cases h0:a.size=0
  · have:a=ByteArray.empty:=by simpa using h0
    exact .inl ⟨h0,decide_eq_true this,this⟩
  · have hne:a≠ByteArray.empty:=fun q=>h0 (by rw [q];rfl)
    refine .inr ⟨decide_eq_false hne,hne,?_⟩
    by_cases h1:a.size=1
    · refine .inr ⟨by omega,h1,?_⟩
      have hg:(a[0]?.getD 0)=a[0]:=by rw [getElem?_pos a 0 (by omega)];rfl
      unfold capB
      rw [hg,decide_eq_true h1]
      by_cases h2:a[0].toNat < 65
      · exact .inl ⟨h2,by simp;omega⟩
      · by_cases h3:90 < a[0].toNat
        · exact .inr (.inl ⟨h3,by simp;omega⟩)
        · exact .inr (.inr ⟨by omega,by omega,by simp;omega⟩)
    · refine .inl ⟨by omega,?_⟩
      unfold capB
      simp [h1]
theorem vtgcapital_any (a:ByteArray) (w:World):Calls Tryz.prog 136 #[.string a] w fun e w'=>e=.returned (.bool (capB a))∧w'=w:=by
  rcases mode_ways a with ⟨h,-,rfl⟩ | ⟨-,-,h | ⟨hz,h1,h | h | h⟩⟩
  · have hc:capB ByteArray.empty=false:=rfl
    rw [hc]
    go_enter Tryz.func136,Tryz.ntmps136
    go_wp2
    go_ret
    exact⟨rfl,rfl⟩
  · obtain⟨h2,hc⟩:=h
    rw [hc]
    have i1:((a.size:Int)==1)=false:=by rw [beq_eq_false_iff_ne];omega
    go_enter Tryz.func136,Tryz.ntmps136
    go_wp2
    go_ret
    exact⟨rfl,rfl⟩
  · obtain⟨h2,hc⟩:=h
    rw [hc]
    have i1:((a.size:Int)==1)=true:=by rw [beq_iff_eq];omega
    have i2:((a[0].toNat:Nat):Int) < 65:=by omega
    go_enter Tryz.func136,Tryz.ntmps136
    go_wp2
    go_ret
    exact⟨rfl,rfl⟩
  · obtain⟨h2,hc⟩:=h
    rw [hc]
    have i1:((a.size:Int)==1)=true:=by rw [beq_iff_eq];omega
    have i2:(65:Int)≤((a[0].toNat:Nat):Int):=by omega
    have i3:decide (((a[0].toNat:Nat):Int)≤90)=false:=decide_eq_false (by omega)
    go_enter Tryz.func136,Tryz.ntmps136
    go_wp2
    go_ret
    exact⟨rfl,rfl⟩
  · obtain⟨h2,h3,hc⟩:=h
    rw [hc]
    have i1:((a.size:Int)==1)=true:=by rw [beq_iff_eq];omega
    have i2:(65:Int)≤((a[0].toNat:Nat):Int):=by omega
    have i3:((a[0].toNat:Nat):Int)≤90:=by omega
    go_enter Tryz.func136,Tryz.ntmps136
    go_wp2
    go_ret
    exact⟨rfl,rfl⟩
theorem dig_ways (a:ByteArray):(dgB a=false∧a.size≠1)∨(∃ hz:0 < a.size,a.size=1∧(a[0].toNat < 48∧dgB a=false∨57 < a[0].toNat∧dgB a=false∨48≤a[0].toNat∧a[0].toNat≤57∧dgB a=true∧dgN a=(a[0].toNat:Int) - 48)):=by
  by_cases h1:a.size=1
  · refine .inr ⟨by omega,h1,?_⟩
    have hg:(a[0]?.getD 0)=a[0]:=by rw [getElem?_pos a 0 (by omega)];rfl
    unfold dgB dgN
    rw [hg,decide_eq_true h1]
    by_cases h2:a[0].toNat < 48
    · exact .inl ⟨h2,by simp;omega⟩
    · by_cases h3:57 < a[0].toNat
      · exact .inr (.inl ⟨h3,by simp;omega⟩)
      · exact .inr (.inr ⟨by omega,by omega,by simp;omega,rfl⟩)
  · exact .inl ⟨by unfold dgB;simp [h1],h1⟩
theorem rdDig_ways {lo hi:Int} {s s1:Rd} {a:ByteArray} (h:rdText s=(a,s1)) :
    (dgB a=false→rdDig lo hi s=(0,rdFail 3 s1))∧(dgB a=true→(dgN a < lo∨hi < dgN a)→rdDig lo hi s=(dgN a,rdFail 5 s1))∧(dgB a=true→¬(dgN a < lo∨hi < dgN a)→rdDig lo hi s=(dgN a,s1)):=by
  unfold rdDig
  rw [h]
  simp only
  refine⟨fun q=>?_,fun q r=>?_,fun q r=>?_⟩
  · rw [if_neg (by rw [q];decide)]
  · rw [if_pos q,if_pos r]
  · rw [if_pos q,if_neg r]
set_option maxRecDepth 8000 in
set_option maxHeartbeats 4000000 in
theorem gsvnumber_any {g:Nat} {s t:Rd} {top n:Int} {w:World} (ht:Hid (rdDig 1 top s=(n,t))) (hp:EyeI g s w) :
    Calls Tryz.prog 137 #[.pointer (some ⟨g,0,none⟩),.int .i64 top] w (EyeStep g (.int .i64 n) t w):=by
  obtain⟨a,s1,ha⟩:∃ a s1,Hid (rdText s=(a,s1)):=⟨_,_,rfl⟩
  obtain⟨hw1,hw2,hw3⟩:=rdDig_ways (lo:=1) (hi:=top) ha.out
  have HP:=Lib.hid hp
  have ht:=ht.out
  clear hp
  rcases dig_ways a with ⟨hb,h1⟩ | ⟨hz,h1,⟨h2,hb⟩ | ⟨h2,hb⟩ | ⟨h2,h3,hb,hv⟩⟩
  · have e:=hw1 hb
    rw [e] at ht
    injection ht with e1 e2
    subst e1 e2
    clear e hw1 hw2 hw3 hb
    have i1:((a.size:Int)==1)=false:=by rw [beq_eq_false_iff_ne];omega
    go_enter Tryz.func137,Tryz.ntmps137
    go_wp2_with fail
    refine (eyeText ha HP.out).mono ?_
    rintro r w1 ⟨rfl,hx,hf⟩
    have HX:=Lib.hid hx
    have HF:=Lib.hid hf
    clear hx hf HP
    go_wp2_with fail
    refine (eyeFail rfl HX.out).mono ?_
    rintro r w2 ⟨rfl,hx2,hf2⟩
    have HX2:=Lib.hid hx2
    have HF2:=Lib.hid (HF.out.step hf2)
    clear hx2 hf2
    go_wp2_with fail
    go_ret
    exact⟨rfl,HX2.out,HF2.out⟩
  · have e:=hw1 hb
    rw [e] at ht
    injection ht with e1 e2
    subst e1 e2
    clear e hw1 hw2 hw3 hb
    have i1:((a.size:Int)==1)=true:=by rw [beq_iff_eq];omega
    have i2:((a[0].toNat:Nat):Int) < 48:=by omega
    go_enter Tryz.func137,Tryz.ntmps137
    go_wp2_with fail
    refine (eyeText ha HP.out).mono ?_
    rintro r w1 ⟨rfl,hx,hf⟩
    have HX:=Lib.hid hx
    have HF:=Lib.hid hf
    clear hx hf HP
    go_wp2_with fail
    refine (eyeFail rfl HX.out).mono ?_
    rintro r w2 ⟨rfl,hx2,hf2⟩
    have HX2:=Lib.hid hx2
    have HF2:=Lib.hid (HF.out.step hf2)
    clear hx2 hf2
    go_wp2_with fail
    go_ret
    exact⟨rfl,HX2.out,HF2.out⟩
  · have e:=hw1 hb
    rw [e] at ht
    injection ht with e1 e2
    subst e1 e2
    clear e hw1 hw2 hw3 hb
    have i1:((a.size:Int)==1)=true:=by rw [beq_iff_eq];omega
    have i2:(48:Int)≤((a[0].toNat:Nat):Int):=by omega
    have i3:(57:Int) < ((a[0].toNat:Nat):Int):=by omega
    go_enter Tryz.func137,Tryz.ntmps137
    go_wp2_with fail
    refine (eyeText ha HP.out).mono ?_
    rintro r w1 ⟨rfl,hx,hf⟩
    have HX:=Lib.hid hx
    have HF:=Lib.hid hf
    clear hx hf HP
    go_wp2_with fail
    refine (eyeFail rfl HX.out).mono ?_
    rintro r w2 ⟨rfl,hx2,hf2⟩
    have HX2:=Lib.hid hx2
    have HF2:=Lib.hid (HF.out.step hf2)
    clear hx2 hf2
    go_wp2_with fail
    go_ret
    exact⟨rfl,HX2.out,HF2.out⟩
  · have i1:((a.size:Int)==1)=true:=by rw [beq_iff_eq];omega
    have i2:(48:Int)≤((a[0].toNat:Nat):Int):=by omega
    have i3:((a[0].toNat:Nat):Int)≤57:=by omega
    rw [hv] at hw2 hw3
    by_cases hq:(a[0].toNat:Int) - 48 < 1∨top < (a[0].toNat:Int) - 48
    · have e:=hw2 hb hq
      rw [e] at ht
      injection ht with e1 e2
      subst e1 e2
      clear e hw1 hw2 hw3 hb hv
      by_cases hq1:(a[0].toNat:Int) - 48 < 1
      · clear hq
        go_enter Tryz.func137,Tryz.ntmps137
        go_wp2_with fail
        refine (eyeText ha HP.out).mono ?_
        rintro r w1 ⟨rfl,hx,hf⟩
        have HX:=Lib.hid hx
        have HF:=Lib.hid hf
        clear hx hf HP
        go_wp2_with fail
        refine (eyeFail rfl HX.out).mono ?_
        rintro r w2 ⟨rfl,hx2,hf2⟩
        have HX2:=Lib.hid hx2
        have HF2:=Lib.hid (HF.out.step hf2)
        clear hx2 hf2
        go_wp2_with fail
        go_ret
        exact⟨rfl,HX2.out,HF2.out⟩
      · have q1:1≤(a[0].toNat:Int) - 48:=by omega
        have q2:top < (a[0].toNat:Int) - 48:=by omega
        clear hq hq1
        go_enter Tryz.func137,Tryz.ntmps137
        go_wp2_with fail
        refine (eyeText ha HP.out).mono ?_
        rintro r w1 ⟨rfl,hx,hf⟩
        have HX:=Lib.hid hx
        have HF:=Lib.hid hf
        clear hx hf HP
        go_wp2_with fail
        refine (eyeFail rfl HX.out).mono ?_
        rintro r w2 ⟨rfl,hx2,hf2⟩
        have HX2:=Lib.hid hx2
        have HF2:=Lib.hid (HF.out.step hf2)
        clear hx2 hf2
        go_wp2_with fail
        go_ret
        exact⟨rfl,HX2.out,HF2.out⟩
    · have e:=hw3 hb hq
      rw [e] at ht
      injection ht with e1 e2
      subst e1 e2
      have q1:1≤(a[0].toNat:Int) - 48:=by omega
      have q2:(a[0].toNat:Int) - 48≤top:=by omega
      clear e hw1 hw2 hw3 hb hv hq
      go_enter Tryz.func137,Tryz.ntmps137
      go_wp2_with fail
      refine (eyeText ha HP.out).mono ?_
      rintro r w1 ⟨rfl,hx,hf⟩
      have HX:=Lib.hid hx
      have HF:=Lib.hid hf
      clear hx hf HP
      go_wp2_with fail
      go_ret
      exact⟨rfl,HX.out,HF.out⟩
end Go.Proofs.YtoabkoniegmkaaaGreat
