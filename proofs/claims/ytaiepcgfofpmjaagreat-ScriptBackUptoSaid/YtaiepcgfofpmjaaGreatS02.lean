/- Layer 43: row.Push, row.Pop, row.Len, walked. -/
import Derived.Test.YtaiepcgfofpmjaaGreatS01
import Derived.Maps.Keyed
import Derived.Deep.RegionWith
import Derived.StillTailTactics
namespace Go.Proofs.YtaiepcgfofpmjaaGreat
set_option linter.unusedVariables false
open Go.RowKit
theorem RowV.keep {S T:Nat→Prop} {q n:Nat} {f:Nat→Tm} {v:Value} {w w':World} (h:RowV S q n f v w) (hk:KeptS T w w') (hq:T q) (hB:∀ B,v.ownBlock=some B→T B) (hx:∀ i,i < n→T (f i).b):RowV S q n f v w':=by
  rcases h with ⟨rfl,rfl,h⟩ | ⟨B,c,rfl,h⟩
  · exact .inl ⟨rfl,rfl,(hk.cell hq).trans h⟩
  · exact .inr ⟨B,c,rfl,h.keep hk hq (hB B rfl) hx⟩
theorem RowV.form {S:Nat→Prop} {q n:Nat} {f:Nat→Tm} {v:Value} {w:World} (h:RowV S q n f v w):∃ a c,v=.slice a n c:=by
  rcases h with ⟨rfl,rfl,h⟩ | ⟨B,c,rfl,h⟩
  · exact⟨_,_,rfl⟩
  · exact⟨_,_,rfl⟩
theorem RowV.blocks {S:Nat→Prop} {q n:Nat} {f:Nat→Tm} {v:Value} {w:World} (h:RowV S q n f v w):q < w.heap.size∧(∀ B,v.ownBlock=some B→B < w.heap.size)∧(∀ i,i < n→(f i).b < w.heap.size):=by
  refine⟨lt_of_cell h.cell,?_,?_⟩
  · rcases h with ⟨rfl,rfl,h⟩ | ⟨B,c,rfl,h⟩
    · intro B e;cases e
    · intro B' e
      injection e with e
      obtain⟨cur,h1,-⟩:=h.blk
      have e':B=B':=e
      subst e'
      exact (Array.getElem?_eq_some_iff.1 h1).1
  · rcases h with ⟨rfl,rfl,h⟩ | ⟨B,c,rfl,h⟩
    · intro i hi;omega
    · exact fun i hi=>lt_of_cell (h.tim i hi).id
theorem RowV.alloc {S:Nat→Prop} {q n:Nat} {f:Nat→Tm} {v:Value} {w:World} (h:RowV S q n f v w) (o:Obj):RowV S q n f v (w.alloc o):=
  h.keep (T:=fun k=>k < w.heap.size) (KeptS.of_below (below_new w o) (fun _ h=>h)) h.blocks.1 h.blocks.2.1 h.blocks.2.2
theorem NewT.alloc {S:Nat→Prop} {q n:Nat} {f:Nat→Tm} {v:Value} {x:Tm} {w:World} (h:NewT S q n f v x w) (o:Obj):NewT S q n f v x (w.alloc o):=by
  have hk:KeptS (fun k=>k < w.heap.size) w (w.alloc o):=KeptS.of_below (below_new w o) (fun _ h=>h)
  have hl:=lt_of_cell h.id
  obtain⟨p,hp⟩:=h.place
  exact⟨(hk.cell hl).trans h.id,(hk.cell hl).trans h.t,(hk.cell hl).trans h.ev,⟨p,(hk.cell hl).trans hp⟩,fun o=>(hk.frozen hl).trans (h.fro o),h.neq,h.out,h.apart,h.neB⟩
theorem NewT.placed {S:Nat→Prop} {q n:Nat} {f:Nat→Tm} {v:Value} {x:Tm} {w:World} (h:NewT S q n f v x w) (u:Value):NewT S q n f v x (w.setCell ⟨x.b,3,none⟩ u)∧(w.setCell ⟨x.b,3,none⟩ u).cell? ⟨x.b,3,none⟩=some u:=by
  obtain⟨p,hp⟩:=h.place
  have hc:∀ o,o≠3→(w.setCell ⟨x.b,3,none⟩ u).cell? ⟨x.b,o,none⟩=w.cell? ⟨x.b,o,none⟩:=fun o ho=>World.cell?_setCell_other _ _ _ _ (fun e=>by injection e with _ e;exact ho e.symm)
  have h3:=World.cell?_setCell_same w ⟨x.b,3,none⟩ u hp
  exact⟨⟨(hc 0 (by decide)).trans h.id,(hc 1 (by decide)).trans h.t,(hc 2 (by decide)).trans h.ev,⟨_,h3⟩,fun o=>by rw [World.frozen?_setCell];exact h.fro o,h.neq,h.out,h.apart,h.neB⟩,h3⟩
theorem RowV.placed {S:Nat→Prop} {q n:Nat} {f:Nat→Tm} {v:Value} {x:Tm} {w:World} (h:RowV S q n f v w) (hx:NewT S q n f v x w) (u:Value):RowV S q n f v (w.setCell ⟨x.b,3,none⟩ u):=
  h.keep (T:=fun k=>k≠x.b) ((KeptS.refl _ w).set (fun e=>e rfl) _ _) (fun e=>hx.neq e.symm) (fun B hB e=>hx.neB (by rw [hB,e])) (fun i hi e=>hx.apart i hi e.symm)
theorem assert_tim (b:Nat) (w:World):(Instr.typeAssert (.iface 195 (.pointer (some ⟨b,0,none⟩))) 20 195 true).run Tryz.prog w=.ok (.tuple #[.pointer (some ⟨b,0,none⟩),.bool true]) w:=by kernel_rfl
set_option maxRecDepth 8000 in
set_option maxHeartbeats 1000000 in
theorem rowPush_any {S:Nat→Prop} {q n:Nat} {f:Nat→Tm} {v:Value} {x:Tm} {w:World} (h:RowV S q n f v w) (hx:NewT S q n f v x w) (hS:∀ k,S k→k < w.heap.size) (hSq:¬ S q) (hqf:w.frozen? ⟨q,0,none⟩=false) (hn:n≤1000) :
    Calls Tryz.prog 500 #[.pointer (some ⟨q,0,none⟩),.iface 195 (.pointer (some ⟨x.b,0,none⟩))] w fun e w'=>e=.returned (.tuple #[])∧∃ g cap,RowI S q g cap (n+1) (pushF f n x) w'∧KeptS S w w'∧QKeep q w w':=by
  obtain⟨a,c,rfl⟩:=h.form
  have HV:=Lib.hid (h.placed hx (.int .i64 (n:Int)))
  have HX:=Lib.hid (hx.placed (.int .i64 (n:Int)))
  have cq:=h.cell
  obtain⟨p,cp⟩:=hx.place
  have fp:=hx.fro 3
  have HK:Hid (KeptS S w (w.setCell ⟨x.b,3,none⟩ (.int .i64 (n:Int)))):=(KeptS.refl S w).set hx.out _ _
  have HQK:Hid (QKeep q w (w.setCell ⟨x.b,3,none⟩ (.int .i64 (n:Int)))):=QKeep.of (T:=fun k=>k≠x.b) ((KeptS.refl _ w).set (fun e=>e rfl) _ _) (fun e=>hx.neq e.symm)
  have HSZ:Hid ((w.setCell ⟨x.b,3,none⟩ (.int .i64 (n:Int))).heap.size=w.heap.size):=by show _=_;simp
  have hn3:n+1≤maxLen:=by unfold maxLen;omega
  have HSQ:=Lib.hid hSq
  have hqf1:(w.setCell ⟨x.b,3,none⟩ (.int .i64 (n:Int))).frozen? ⟨q,0,none⟩=false:=by rw [World.frozen?_setCell];exact hqf
  have HSS:=Lib.hid hS
  clear h hx hS hSq hqf
  obtain⟨i0,hi,hz0,hz1,hz2⟩:=info_partsP tim_info
  have has:=fun W=>assert_tim x.b W
  go_enter Tryz.func500,Tryz.ntmps500
  go_upto_region 3 with fail
  have cq1:=HV.out.cell
  generalize w.setCell ⟨x.b,3,none⟩ (.int .i64 (n:Int))=W1 at *
  clear cq cp fp
  go_wp2_with (at_builtin;refine wpList_append_lies _ rfl _ _ 193 rfl 0 195 i0 (.pointer none) 1 8 Tryz.underlying193 hi hz0 hz1 hz2 rfl (by decide) _ _ _ rfl (HV.out.alloc _).owns ⟨W1.heap.size,0,none⟩ 1 1 [.pointer (some ⟨x.b,0,none⟩)] rfl rfl ?c1 ?c2 (by decide) hn3 ?c4 (Nat.zero_le _) _ rfl ?_)
  case c1=>
    intro j u hu
    match j,hu with
    | 0,hu=>injection hu with hu;subst hu;exact World.cell?_alloc_at _ _ _ _ rfl
    | j+1,hu=>cases hu
  case c2=>intro u hu;rw [List.mem_singleton.1 hu];rfl
  case c4=>omega
  intro g cap w2 hown hgrow hlies hg2
  have hp3:(W1.alloc (.cells #[.pointer (some ⟨x.b,0,none⟩)] 195)).cell? ⟨x.b,3,none⟩=some (.int .i64 (n:Int)):=(World.cell?_alloc_past _ _ _ (lt_of_cell HX.out.2)).trans HX.out.2
  have HP:=Lib.hid ((HV.out.alloc (.cells #[.pointer (some ⟨x.b,0,none⟩)] 195)).pushed (H:=W1.heap.size+1) (HX.out.1.alloc _) hp3 (by simp) (fun k hk=>by have:=HSS.out k hk;have:=HSZ.out;omega) HSQ.out (by have:=HV.out.blocks.1;simp;omega) hown hgrow hlies)
  have hqo:some q≠(Value.slice a n c).ownBlock:=fun e=>by
    rcases HV.out with ⟨-,e2,-⟩ | ⟨B,c',e2,hI⟩
    · rw [e2] at e;cases e
    · rw [e2] at e;injection e with e;exact hI.neq e.symm
  have hvq:w2.cell? ⟨q,0,none⟩=some (.slice a n c):=by
    exact (hgrow.cell_far ⟨q,0,none⟩ (by have:=HV.out.blocks.1;simp;omega) hqo).trans (HV.out.alloc _).cell
  have hvf:w2.frozen? ⟨q,0,none⟩=false:=by
    refine (hgrow.frozen_far ⟨q,0,none⟩ (by have:=HV.out.blocks.1;simp;omega) hqo).trans ?_
    rw [frozen?_alloc_cells];exact hqf1
  have HQA:Hid (QKeep q w (W1.alloc (.cells #[.pointer (some ⟨x.b,0,none⟩)] 195))):=HQK.out.trans (QKeep.of (T:=fun k=>k < W1.heap.size) (KeptS.of_below (below_new _ _) (fun _ h=>h)) HV.out.blocks.1)
  have HKA:Hid (KeptS S w (W1.alloc (.cells #[.pointer (some ⟨x.b,0,none⟩)] 195))):=HK.out.trans (KeptS.of_below (below_new _ _) (fun k hk=>by have:=HSS.out k hk;have:=HSZ.out;omega))
  clear hown hgrow hlies hg2 hp3 cq1 hqo hqf1
  go_wp2_with fail
  go_end0
  exact⟨rfl,g,cap,HP.out.1,HKA.out.trans HP.out.2.1,HQA.out.trans HP.out.2.2⟩
theorem rowLen_any (a:Option Addr) (n c:Nat) (w:World):Calls Tryz.prog 182 #[.slice a n c] w fun e w'=>e=.returned (.int .i64 (n:Int))∧w=w':=by
  go_enter Tryz.func182,Tryz.ntmps182
  go_wp2
  go_ret
  exact⟨rfl,rfl⟩
set_option maxRecDepth 8000 in
theorem rowPop_any {S:Nat→Prop} {q B c n:Nat} {f:Nat→Tm} {w:World} (h:RowI S q B c (n+1) f w) (hSq:¬ S q) (hqf:w.frozen? ⟨q,0,none⟩=false) (hn:n≤1000) :
    Calls Tryz.prog 499 #[.pointer (some ⟨q,0,none⟩)] w fun e w'=>e=.returned (.iface 195 (.pointer (some ⟨(f n).b,0,none⟩)))∧RowI S q B c n f w'∧KeptS (fun k=>k≠q) w w'∧QKeep q w w':=by
  have HH:=Lib.hid h
  have cq:=h.sl
  have ct:=(h.tim n (by omega)).row
  have w1:IntKind.i64.wrap (((n+1:Nat):Int) - 1)=(n:Int):=by rw [IntWalk.i64_in _ (by omega)];omega
  have w2:IntKind.i64.wrap ((n:Int)+1 - 1)=(n:Int):=by rw [IntWalk.i64_in _ (by omega)];omega
  have hle:n+1≤c:=h.le
  have HP:Hid (RowI S q B c n f (w.setCell ⟨q,0,none⟩ (.slice (some ⟨B,0,none⟩) n c))∧KeptS (fun k=>k≠q) w (w.setCell ⟨q,0,none⟩ (.slice (some ⟨B,0,none⟩) n c))):=by
    have hk:KeptS (fun k=>k≠q) w (w.setCell ⟨q,0,none⟩ (.slice (some ⟨B,0,none⟩) n c)):=(KeptS.refl _ w).set (fun e=>e rfl) _ _
    refine⟨⟨World.cell?_setCell_same _ _ _ h.sl,fun i hi=>(h.tim i (by omega)).keep hk h.neq (h.tim i (by omega)).neq,fun i j hi hj=>h.inj i j (by omega) (by omega),h.neq,h.out,by omega,h.blk.set _ _ _⟩,hk⟩
  clear h
  go_enter Tryz.func499,Tryz.ntmps499
  go_wp2_with fail
  go_ret
  exact⟨rfl,HP.out.1,HP.out.2,QKeep.set0 q w _⟩
theorem RowI.withq {S:Nat→Prop} {q B c n:Nat} {f:Nat→Tm} {w:World} (h:RowI S q B c n f w):RowI (fun k=>S k∨k=q) q B c n f w:=
  ⟨h.sl,fun i hi=>{ h.tim i hi with out:=fun e=>e.elim (h.tim i hi).out (h.tim i hi).neq },h.inj,h.neq,fun e=>e.elim h.out h.neq,h.le,h.blk⟩
theorem RowI.without {S T:Nat→Prop} {q B c n:Nat} {f:Nat→Tm} {w:World} (h:RowI S q B c n f w) (hT:∀ k,T k→S k):RowI T q B c n f w:=
  ⟨h.sl,fun i hi=>{ h.tim i hi with out:=fun e=>(h.tim i hi).out (hT _ e) },h.inj,h.neq,fun e=>h.out (hT _ e),h.le,h.blk⟩
set_option maxRecDepth 8000 in
set_option maxHeartbeats 1000000 in
theorem heapPush_any {S:Nat→Prop} {q n:Nat} {f:Nat→Tm} {v:Value} {x:Tm} {w:World} (h:RowV S q n f v w) (hx:NewT S q n f v x w) (hS:∀ k,S k→k < w.heap.size) (hSq:¬ S q) (hqf:w.frozen? ⟨q,0,none⟩=false) (hn:n≤1000) (hh:HeapF f n) :
    Calls Tryz.prog 109 #[heapV q,.iface 195 (.pointer (some ⟨x.b,0,none⟩))] w fun e w'=>e=.returned (.tuple #[])∧∃ B c f',RowI S q B c (n+1) f' w'∧HeapF f' (n+1)∧SameS (pushF f n x) f' (n+1)∧KeptS S w w'∧QKeep q w w':=by
  have HP:=Lib.hid (rowPush_any h hx hS hSq hqf hn)
  have HU:=Lib.hid (hh.push (g:=pushF f n x) (fun k hk=>pushF_lt f x hk))
  have hmp:=fun W=>mth_push q W
  have w1:IntKind.i64.wrap (((n+1:Nat):Int) - 1)=(n:Int):=by rw [IntWalk.i64_in _ (by omega)];omega
  have w2:IntKind.i64.wrap ((n:Int)+1 - 1)=(n:Int):=by rw [IntWalk.i64_in _ (by omega)];omega
  clear h hx hS hSq hqf hh
  go_enter Tryz.func109,Tryz.ntmps109
  go_wp2_with fail
  refine HP.out.mono ?_
  rintro e w1 ⟨rfl,B,c,hr,hk,hq⟩
  have hml:=mth_len hr.sl
  have HR:=Lib.hid hr
  have HK:=Lib.hid hk
  have HQ:=Lib.hid hq
  have HUP:=Lib.hid (up_any hr.withq (j:=n) (m:=n+1) (by omega) (Nat.le_refl _) (by omega) HU.out)
  clear hr hk hq HP hmp
  go_wp2_with fail
  refine (rowLen_any _ _ _ _).mono ?_
  rintro e w' ⟨rfl,rfl⟩
  go_wp2_with fail
  refine HUP.out.mono ?_
  rintro e w2 ⟨rfl,f',g1,g2,g3,g4,g5⟩
  have HG:Hid (∃ B c f',RowI S q B c (n+1) f' w2∧HeapF f' (n+1)∧SameS (pushF f n x) f' (n+1)∧KeptS S w w2∧QKeep q w w2):=
    ⟨B,c,f',g1.without (fun _ h=>.inl h),g2,g3,HK.out.trans (g5.less (fun _ h=>.inl h)),HQ.out.trans (QKeep.of g5 (.inr rfl))⟩
  clear g1 g2 g3 g4 g5
  go_wp2_with fail
  go_end0
  exact⟨rfl,HG.out⟩
set_option maxRecDepth 8000 in
set_option maxHeartbeats 1000000 in
theorem heapFix_any {S:Nat→Prop} {q B c n:Nat} {f:Nat→Tm} {w:World} (h:RowI S q B c n f w) (h0:0 < n) (hn:n≤1000) (hd:DnI f n 0 0) :
    Calls Tryz.prog 142 #[heapV q,.int .i64 0] w fun e w'=>e=.returned (.tuple #[])∧∃ f',RowI S q B c n f' w'∧HeapF f' n∧SameS f f' n∧KeptS (fun k=>S k∨k=q) w w':=by
  have HD:=Lib.hid (down_any h.withq h0 (Nat.le_refl _) (by omega) hd)
  have hml:=mth_len h.sl
  clear h hd
  go_enter Tryz.func142,Tryz.ntmps142
  go_wp2_with fail
  refine (rowLen_any _ _ _ _).mono ?_
  rintro e w' ⟨rfl,rfl⟩
  go_wp2_with fail
  refine HD.out.mono ?_
  rintro e w1 ⟨r,rfl,f1,g1,g2,g3,g4,g5,g6⟩
  cases r with
  | true=>
    have HG:Hid (∃ f',RowI S q B c n f' w1∧HeapF f' n∧SameS f f' n∧KeptS (fun k=>S k∨k=q) w w1):=⟨f1,g1.without (fun _ h=>.inl h),g5 rfl,g2,g4⟩
    clear g1 g2 g3 g4 g5 g6 HD
    go_wp2_with fail
    go_end0
    exact⟨rfl,HG.out⟩
  | false=>
    have HUP:=Lib.hid (up_any g1 (j:=0) (m:=n) h0 (Nat.le_refl _) (by omega) (g6 rfl))
    have HS2:=Lib.hid g2
    have HK4:=Lib.hid g4
    clear g1 g2 g3 g4 g5 g6 HD
    go_wp2_with fail
    refine HUP.out.mono ?_
    rintro e w2 ⟨rfl,f',k1,k2,k3,k4,k5⟩
    have HG:Hid (∃ f',RowI S q B c n f' w2∧HeapF f' n∧SameS f f' n∧KeptS (fun k=>S k∨k=q) w w2):=⟨f',k1.without (fun _ h=>.inl h),k2,HS2.out.trans k3,HK4.out.trans k5⟩
    clear k1 k2 k3 k4 k5
    go_wp2_with fail
    go_end0
    exact⟨rfl,HG.out⟩
def LessS (f f':Nat→Tm) (n i:Nat):Prop:=(∀ k,k < n→∃ j,j < n+1∧j≠i∧f' k=f j)∧(∀ j,j < n+1→j≠i→∃ k,k < n∧f' k=f j)
theorem LessS.swap {f f':Nat→Tm} {n i:Nat} (hi:i≤n) (h:SameS (swapF f i n) f' n):LessS f f' n i:=by
  refine⟨fun k hk=>?_,fun j hj hne=>?_⟩
  · obtain⟨j,hj,e⟩:=h.1 k hk
    by_cases e1:j=i
    · exact⟨n,by omega,by omega,by rw [e,e1,swapF_l]⟩
    · exact⟨j,by omega,e1,by rw [e,swapF_o f i n e1 (by omega)]⟩
  · by_cases e1:j=n
    · obtain⟨k,hk,e⟩:=h.2 i (by omega)
      exact⟨k,hk,by rw [e,swapF_l,e1]⟩
    · obtain⟨k,hk,e⟩:=h.2 j (by omega)
      exact⟨k,hk,by rw [e,swapF_o f i n hne e1]⟩
theorem LessS.last (f:Nat→Tm) (n:Nat):LessS f f n n:=⟨fun k hk=>⟨k,by omega,by omega,rfl⟩,fun j hj hne=>⟨j,by omega,rfl⟩⟩
def RemP (S:Nat→Prop) (q B c n i:Nat) (f:Nat→Tm) (w w':World):Prop:=
  ∃ f',RowI S q B c n f' w'∧HeapF f' n∧LessS f f' n i∧KeptS S w w'∧QKeep q w w'∧w'.cell? ⟨(f i).b,0,none⟩=some (.int .i64 (f i).id)
set_option maxRecDepth 8000 in
set_option maxHeartbeats 2000000 in
theorem heapRemove_any {S:Nat→Prop} {q B c n i:Nat} {f:Nat→Tm} {w:World} (h:RowI S q B c (n+1) f w) (hi:i≤n) (hSq:¬ S q) (hqf:w.frozen? ⟨q,0,none⟩=false) (hn:n≤1000) (hh:HeapF f (n+1)) :
    Calls Tryz.prog 134 #[heapV q,.int .i64 (i:Int)] w fun e w'=>(∃ u,e=.returned u)∧RemP S q B c n i f w w':=by
  have hml:=mth_len h.sl
  have hms:=mth_swap h.sl
  have hmp:=fun W=>mth_pop q W
  have w1:IntKind.i64.wrap (((n+1:Nat):Int) - 1)=(n:Int):=by rw [IntWalk.i64_in _ (by omega)];omega
  have w2:IntKind.i64.wrap ((n:Int)+1 - 1)=(n:Int):=by rw [IntWalk.i64_in _ (by omega)];omega
  have HPOP:Hid (∀ f2 W,RowI S q B c (n+1) f2 W→W.frozen? ⟨q,0,none⟩=false→Calls Tryz.prog 499 #[.pointer (some ⟨q,0,none⟩)] W fun e w'=>e=.returned (.iface 195 (.pointer (some ⟨(f2 n).b,0,none⟩)))∧RowI S q B c n f2 w'∧KeptS (fun k=>k≠q) W w'∧QKeep q W w'):=fun f2 W g1 g2=>rowPop_any g1 hSq g2 hn
  have HFIN:Hid (∀ f2 W W',RowI S q B c (n+1) f2 W→HeapF f2 n→LessS f f2 n i→KeptS (fun k=>S k∨k=q) w W→f2 n=f i→RowI S q B c n f2 W'→KeptS (fun k=>k≠q) W W'→QKeep q W W'→RemP S q B c n i f w W'):=fun f2 W W' g1 g2 g3 g4 g5 g6 g7 g8=>by
    have tn:=g1.tim n (by omega)
    rw [g5] at tn
    exact⟨f2,g6,g2,g3,(g4.less (fun _ h=>.inl h)).trans (g7.less (fun k hk e=>hSq (by rw [← e];exact hk))),(QKeep.of g4 (.inr rfl)).trans g8,(g7.cell tn.neq).trans tn.id⟩
  have HQF:=Lib.hid hqf
  have HH:=Lib.hid hh
  have HR:=Lib.hid h
  clear h hh hqf hSq
  by_cases hin:i=n
  · subst hin
    have HP:=Lib.hid (HPOP.out f w HR.out HQF.out)
    have HE:Hid (∀ W',RowI S q B c i f W'→KeptS (fun k=>k≠q) w W'→QKeep q w W'→RemP S q B c i i f w W'):=fun W' a b d=>HFIN.out f w W' HR.out (HH.out.less (by omega)) (LessS.last f i) (KeptS.refl _ w) rfl a b d
    clear HPOP HFIN hms
    go_enter Tryz.func134,Tryz.ntmps134
    go_wp2_with fail
    refine (rowLen_any _ _ _ _).mono ?_
    rintro e w' ⟨rfl,rfl⟩
    go_wp2_with fail
    refine HP.out.mono ?_
    rintro e w1 ⟨rfl,g1,g2,g3⟩
    have HG:=Lib.hid (HE.out _ g1 g2 g3)
    clear g1 g2 g3
    go_wp2_with fail
    go_ret
    exact⟨⟨_,rfl⟩,HG.out⟩
  · have hlt:i < n:=by omega
    have hb1:(n==i)=false:=by rw [beq_eq_false_iff_ne];omega
    have hb2:(n != i)=true:=by rw [bne_iff_ne];omega
    have hb3:¬ n=i:=by omega
    have HSW:=Lib.hid (swap_any HR.out.withq (i:=i) (j:=n) (by omega) (by omega) hin (by omega))
    have HD:Hid (∀ W,RowI (fun k=>S k∨k=q) q B c (n+1) (swapF f i n) W→Calls Tryz.prog 169 #[heapV q,.int .i64 (i:Int),.int .i64 (n:Int)] W fun e w'=>∃ r,e=.returned (.bool r)∧DnP (fun k=>S k∨k=q) q B c (n+1) n i (swapF f i n) W r w'):=fun W hW=>
      down_any hW hlt (by omega) (by omega) (HH.out.drop hlt (fun k hk hne=>swapF_o f i n hne (by omega)) (swapF_l f i n))
    clear hin
    go_enter Tryz.func134,Tryz.ntmps134
    go_wp2_with fail
    refine (rowLen_any _ _ _ _).mono ?_
    rintro e w' ⟨rfl,rfl⟩
    go_wp2_with fail
    refine HSW.out.mono ?_
    rintro e w1 ⟨rfl,g1,g2⟩
    have HD1:=Lib.hid (HD.out _ g1)
    have HK1:=Lib.hid g2
    clear g1 g2 HD hml hms HSW
    go_wp2_with fail
    refine HD1.out.mono ?_
    rintro e w2 ⟨r,rfl,f2,k1,k2,k3,k4,k5,k6⟩
    have HK2:=Lib.hid (HK1.out.trans k4)
    have HS2:=Lib.hid k2
    have HN2:Hid (f2 n=f i):=(k3 n (Nat.le_refl _)).trans (swapF_r f i n)
    cases r with
    | true=>
      have HP:=Lib.hid (HPOP.out f2 w2 (k1.without (fun _ h=>.inl h)) ((HK2.out.frozen (.inr rfl)).trans HQF.out))
      have HE:Hid (∀ W',RowI S q B c n f2 W'→KeptS (fun k=>k≠q) w2 W'→QKeep q w2 W'→RemP S q B c n i f w W'):=fun W' a b d=>HFIN.out f2 w2 W' (k1.without (fun _ h=>.inl h)) (k5 rfl) (LessS.swap hi HS2.out) HK2.out HN2.out a b d
      clear k1 k2 k3 k4 k5 k6 HD1 HFIN HPOP HN2
      go_wp2_with fail
      refine HP.out.mono ?_
      rintro e w3 ⟨rfl,g1,g2,g3⟩
      have HG:=Lib.hid (HE.out _ g1 g2 g3)
      clear g1 g2 g3
      go_wp2_with fail
      go_ret
      exact⟨⟨_,rfl⟩,HG.out⟩
    | false=>
      have HUP:=Lib.hid (up_any k1 (j:=i) (m:=n) hlt (by omega) (by omega) (k6 rfl))
      clear k1 k2 k3 k4 k5 k6 HD1
      go_wp2_with fail
      refine HUP.out.mono ?_
      rintro e w3 ⟨rfl,f3,m1,m2,m3,m4,m5⟩
      have HP:=Lib.hid (HPOP.out f3 w3 (m1.without (fun _ h=>.inl h)) (((HK2.out.trans m5).frozen (.inr rfl)).trans HQF.out))
      have HE:Hid (∀ W',RowI S q B c n f3 W'→KeptS (fun k=>k≠q) w3 W'→QKeep q w3 W'→RemP S q B c n i f w W'):=fun W' a b d=>HFIN.out f3 w3 W' (m1.without (fun _ h=>.inl h)) m2 (LessS.swap hi (HS2.out.trans m3)) (HK2.out.trans m5) ((m4 n (Nat.le_refl _)).trans HN2.out) a b d
      clear m1 m2 m3 m4 m5 HUP HFIN HPOP HN2
      go_wp2_with fail
      refine HP.out.mono ?_
      rintro e w4 ⟨rfl,g1,g2,g3⟩
      have HG:=Lib.hid (HE.out _ g1 g2 g3)
      clear g1 g2 g3
      go_wp2_with fail
      go_ret
      exact⟨⟨_,rfl⟩,HG.out⟩
open Go.Maps (Keyed Tidy IsMap)
def TL (f:Nat→Tm) (n:Nat):List Tm:=(List.range n).map f
theorem mem_TL {f:Nat→Tm} {n:Nat} {x:Tm}:x∈TL f n↔∃ i,i < n∧f i=x:=by simp [TL]
theorem TL_succ (f:Nat→Tm) (n:Nat):TL f (n+1)=TL f n++[f n]:=by simp [TL,List.range_succ]
theorem TL_congr {f g:Nat→Tm} {n:Nat} (h:∀ k,k < n→f k=g k):TL f n=TL g n:=List.map_congr_left fun k hk=>h k (List.mem_range.1 hk)
theorem TL_nodup {f:Nat→Tm} {n:Nat} (h:InjT f n):(TL f n).Nodup:=by
  refine List.pairwise_map.2 (List.Pairwise.imp_of_mem (R:=(·≠·)) (fun {a b} ha hb hne e=>hne (h a b (List.mem_range.1 ha) (List.mem_range.1 hb) (by rw [e]))) List.nodup_range)
theorem SameS.perm {f g:Nat→Tm} {n:Nat} (h:SameS f g n) (hf:InjT f n) (hg:InjT g n):(TL f n).Perm (TL g n):=by
  refine (List.perm_ext_iff_of_nodup (TL_nodup hf) (TL_nodup hg)).2 fun x=>?_
  rw [mem_TL,mem_TL]
  constructor
  · rintro ⟨i,hi,rfl⟩
    exact h.2 i hi
  · rintro ⟨i,hi,rfl⟩
    obtain⟨j,hj,e⟩:=h.1 i hi
    exact⟨j,hj,e.symm⟩
theorem TL_push (f:Nat→Tm) (n:Nat) (x:Tm):(TL (pushF f n x) (n+1)).Perm (x :: TL f n):=by
  rw [TL_succ,pushF_at,TL_congr (fun k hk=>pushF_lt f x hk)]
  exact List.perm_append_comm
theorem LessS.perm {f g:Nat→Tm} {n i:Nat} (h:LessS f g n i) (hi:i < n+1) (hf:InjT f (n+1)) (hg:InjT g n):(TL f (n+1)).Perm (f i :: TL g n):=by
  have hni:f i ∉ TL g n:=fun hm=>by
    obtain⟨k,hk,e⟩:=mem_TL.1 hm
    obtain⟨j,hj,hne,e'⟩:=h.1 k hk
    exact hne (hf j i hj hi (by rw [← e',e]))
  refine (List.perm_ext_iff_of_nodup (TL_nodup hf) (List.nodup_cons.2 ⟨hni,TL_nodup hg⟩)).2 fun x=>?_
  rw [List.mem_cons,mem_TL,mem_TL]
  constructor
  · rintro ⟨j,hj,rfl⟩
    by_cases e:j=i
    · exact .inl (by rw [e])
    · exact .inr (h.2 j hj e)
  · rintro (rfl | ⟨k,hk,rfl⟩)
    · exact⟨i,hi,rfl⟩
    · obtain⟨j,hj,-,e⟩:=h.1 k hk
      exact⟨j,hj,e.symm⟩
abbrev Tr:=Int×Int×Int
def tri (x:Tm):Tr:=(x.id,x.t,x.ev)
abbrev keyI (n:Int):Lit:=.int .i64 n
abbrev kI:TypeId:=3
theorem kKeyed:Keyed Tryz.prog kI:=Maps.int_keyed Tryz.underlying3
theorem key_int {n:Int} (h:(Lit.int .i64 n).wf=true):keyOf Tryz.prog kI (.int .i64 n)=some (keyI n):=by
  simp [keyOf,Tryz.underlying3,mapKey,h]
theorem id_wf {n:Int} (h:0≤n∧n≤15):(Lit.int .i64 n).wf=true:=by
  have hmin:IntKind.i64.min=-9223372036854775808:=rfl
  have hmax:IntKind.i64.max=9223372036854775807:=rfl
  simp only [Lit.wf,Bool.and_eq_true,decide_eq_true_eq]
  omega
theorem keyI_inj {a b:Int} (h:keyI a=keyI b):a=b:=by injection h
def okT (x:Tr):Prop:=0≤x.1∧x.1≤15∧0≤x.2.1∧x.2.1≤2199023255552∧0≤x.2.2∧x.2.2≤1099511627776
structure QueA (S:Nat→Prop) (q N:Nat) (r:List Tr) (n:Nat) (f:Nat→Tm) (v:Value) (mb:Nat) (w:World):Prop where
  row:RowV (fun k=>S k∨k=mb) q n f v w
  heap:HeapF f n
  map:w.cell? ⟨q,1,none⟩=some (.map (some mb))
  fro:∀ o,w.frozen? ⟨q,o,none⟩=false
  pm:PMap Tryz.prog kI keyI w mb N ((TL f n).map fun x=>(x.id,x.b))
  ok:∀ x∈r,okT x
  rep:r.Perm ((TL f n).map tri)
  outq:¬ S q
  outm:¬ S mb
  lt:∀ k,S k→k < w.heap.size
def QueI (S:Nat→Prop) (q N:Nat) (r:List Tr) (w:World):Prop:=∃ n f v mb,QueA S q N r n f v mb w
theorem QueI.perm {S:Nat→Prop} {q N:Nat} {r r':List Tr} {w:World} (h:QueI S q N r w) (hp:r.Perm r'):QueI S q N r' w:=by
  obtain⟨n,f,v,mb,a⟩:=h
  exact⟨n,f,v,mb,{ a with ok:=fun x hx=>a.ok x (hp.mem_iff.2 hx),rep:=hp.symm.trans a.rep }⟩
theorem QueA.mbq {S:Nat→Prop} {q N n mb:Nat} {r:List Tr} {f:Nat→Tm} {v:Value} {w:World} (a:QueA S q N r n f v mb w):q≠mb:=a.pm.cells a.map
theorem QueA.keep {S T:Nat→Prop} {q N n mb:Nat} {r:List Tr} {f:Nat→Tm} {v:Value} {w w':World} (a:QueA S q N r n f v mb w) (hk:KeptS T w w') (hq:T q) (hm:T mb) (hB:∀ B,v.ownBlock=some B→T B) (hx:∀ i,i < n→T (f i).b):QueA S q N r n f v mb w':=
  { a with row:=a.row.keep hk hq hB hx,map:=(hk.cell hq).trans a.map,fro:=fun o=>(hk.frozen hq).trans (a.fro o),pm:=a.pm.block (hk.block _ hm),lt:=fun k h=>Nat.lt_of_lt_of_le (a.lt k h) hk.size }
theorem QueA.below {S:Nat→Prop} {q N n mb:Nat} {r:List Tr} {f:Nat→Tm} {v:Value} {w w':World} (a:QueA S q N r n f v mb w) (hb:Below w.heap.size w w'):QueA S q N r n f v mb w':=
  a.keep (T:=fun k=>k < w.heap.size) (KeptS.of_below hb (fun _ h=>h)) a.row.blocks.1 a.pm.lt a.row.blocks.2.1 a.row.blocks.2.2
theorem QueI.below {S:Nat→Prop} {q N:Nat} {r:List Tr} {w w':World} (h:QueI S q N r w) (hb:Below w.heap.size w w'):QueI S q N r w':=by
  obtain⟨n,f,v,mb,a⟩:=h
  exact⟨n,f,v,mb,a.below hb⟩
theorem QueA.also {S:Nat→Prop} {q N n mb:Nat} {r:List Tr} {f:Nat→Tm} {v:Value} {w w':World} (a:QueA S q N r n f v mb w) (hb:Below w.heap.size w w'):QueA (fun k=>S k∨(w.heap.size≤k∧k < w'.heap.size)) q N r n f v mb w':=by
  have b:=a.below hb
  have hl:=a.row.blocks
  refine { b with row:=?_,outq:=fun h=>h.elim b.outq (fun h=>by omega),outm:=fun h=>h.elim b.outm (fun h=>by have:=a.pm.lt;omega),lt:=fun k h=>h.elim (b.lt k) (fun h=>h.2) }
  rcases b.row with h | ⟨B,c,e,h⟩
  · exact .inl h
  · refine .inr ⟨B,c,e,⟨h.sl,fun i hi=>{ h.tim i hi with out:=fun o=>?_ },h.inj,h.neq,fun o=>?_,h.le,h.blk⟩⟩
    · have:=hl.2.2 i hi
      have:=(h.tim i hi).out
      rcases o with (o | o) | o
      · exact this (.inl o)
      · omega
      · exact this (.inr o)
    · have:=hl.2.1 B (by rw [e];rfl)
      rcases o with (o | o) | o
      · exact h.out (.inl o)
      · omega
      · exact h.out (.inr o)
theorem QueI.also {S:Nat→Prop} {q N:Nat} {r:List Tr} {w w':World} (h:QueI S q N r w) (hb:Below w.heap.size w w'):QueI (fun k=>S k∨(w.heap.size≤k∧k < w'.heap.size)) q N r w':=by
  obtain⟨n,f,v,mb,a⟩:=h
  exact⟨n,f,v,mb,a.also hb⟩
theorem QueA.drewN {S:Nat→Prop} {q N n mb:Nat} {r:List Tr} {f:Nat→Tm} {v:Value} {w:World} (a:QueA S q N r n f v mb w) (k:Nat):QueA S q N r n f v mb (w.drewN k):=a.below (bdrewN (Below.refl _ _) k)
theorem PMap.distinct {w:World} {mb N:Nat} {l:List Tm} (h:PMap Tryz.prog kI keyI w mb N (l.map fun x=>(x.id,x.b))):l.Pairwise (fun x y=>x.id≠y.id):=
  (List.pairwise_map.1 h.apart).imp (fun h e=>h (by rw [e]))
theorem QueA.len {S:Nat→Prop} {q N n mb:Nat} {r:List Tr} {f:Nat→Tm} {v:Value} {w:World} (a:QueA S q N r n f v mb w):r.length=n:=by
  rw [a.rep.length_eq];simp [TL]
theorem QueA.inj {S:Nat→Prop} {q N n mb:Nat} {r:List Tr} {f:Nat→Tm} {v:Value} {w:World} (a:QueA S q N r n f v mb w):InjT f n:=by
  rcases a.row with ⟨rfl,-⟩ | ⟨B,c,-,h⟩
  · intro i j hi;omega
  · exact h.inj
theorem ids_few {l:List Int} (h:l.Nodup) (hb:∀ x∈l,0≤x∧x≤15):l.length≤16:=
  List.Nodup.length_le_of_subset (l₂:=[0,1,2,3,4,5,6,7,8,9,10,11,12,13,14,15]) h fun x hx=>by
    have:=hb x hx
    simp only [List.mem_cons,List.not_mem_nil,or_false]
    omega
theorem QueA.few {S:Nat→Prop} {q N n mb:Nat} {r:List Tr} {f:Nat→Tm} {v:Value} {w:World} (a:QueA S q N r n f v mb w):n≤16:=by
  have h1:((TL f n).map (·.id)).length≤16:=ids_few (List.pairwise_map.2 a.pm.distinct) fun x hx=>by
    obtain⟨y,hy,rfl⟩:=List.mem_map.1 hx
    have:=a.ok (tri y) (a.rep.mem_iff.2 (List.mem_map.2 ⟨y,hy,rfl⟩))
    exact⟨this.1,this.2.1⟩
  simpa [TL] using h1
theorem QueA.ids {S:Nat→Prop} {q N n mb:Nat} {r:List Tr} {f:Nat→Tm} {v:Value} {w:World} (a:QueA S q N r n f v mb w):r.Pairwise (fun x y=>x.1≠y.1):=
  (a.rep.pairwise_iff (fun h e=>h e.symm)).2 (List.pairwise_map.2 a.pm.distinct)
theorem frozen_past (w:World) (n o:Nat) (h:w.heap.size≤n):w.frozen? ⟨n,o,none⟩=false:=by
  unfold World.frozen?
  rw [Array.getElem?_eq_none h]
theorem mapNe (mb:Nat) (w:World):(binOp .neq 196 (.map (some mb)) (.map none)).run Tryz.prog w=.ok (.bool true) w:=by kernel_rfl
theorem dueNew_any (w:World):Calls Tryz.prog 67 #[] w fun e w'=>∃ q,e=.returned (.pointer (some ⟨q,0,none⟩))∧Below w.heap.size w w'∧QueI (fun k=>k < w.heap.size) q 0 [] w':=by
  have hmm:=@run_makeMap Tryz.prog
  go_enter Tryz.func67,Tryz.ntmps67
  go_wp2
  go_ret
  refine⟨_,rfl,?_,0,fun _=>⟨0,0,0,0⟩,.slice none 0 0,w.heap.size,?_⟩
  · exact bthen (below_new _ _) (below_new _ _)
  · refine⟨.inl ⟨rfl,rfl,?_⟩,(fun k hk=>by omega),?_,fun o=>?_,?_,(fun x hx=>by cases hx),List.Perm.refl _,?_,?_,fun k hk=>?_⟩
    · simp
    · simp
    · rw [frozen?_alloc_cells];exact frozen_past _ _ _ (by simp)
    · exact (PMap.made w Tryz.prog kI keyI).block (Below.heap_alloc _ _ _ (by simp))
    · simp
    · simp
    · have:k < w.heap.size:=hk
      simp
      omega
theorem there_any (q mb:Nat) (w:World) (h:w.cell? ⟨q,1,none⟩=some (.map (some mb))):Calls Tryz.prog 87 #[.pointer (some ⟨q,0,none⟩)] w fun e w'=>e=.returned (.bool true)∧w=w':=by
  have hne:=mapNe mb
  go_enter Tryz.func87,Tryz.ntmps87
  go_wp2
  go_ret
  exact⟨rfl,rfl⟩
def inB (n:Int):Bool:=decide (0≤n∧n≤1099511627776)
theorem in_any (n:Int) (w:World):Calls Tryz.prog 107 #[.int .i64 n] w fun e w'=>e=.returned (.bool (inB n))∧w=w':=by
  by_cases h1:n < 0
  · rw [show inB n=false from decide_eq_false (by omega)]
    go_enter Tryz.func107,Tryz.ntmps107
    go_wp2
    go_ret
    exact⟨rfl,rfl⟩
  · by_cases h2:n≤1099511627776
    · have h0:0≤n:=by omega
      rw [show inB n=true from decide_eq_true ⟨h0,h2⟩]
      go_enter Tryz.func107,Tryz.ntmps107
      go_wp2
      go_ret
      exact⟨rfl,rfl⟩
    · have h0:0≤n:=by omega
      have h3:1099511627776 < n:=by omega
      rw [show inB n=false from decide_eq_false (by omega)]
      go_enter Tryz.func107,Tryz.ntmps107
      go_wp2
      go_ret
      exact⟨rfl,rfl⟩
theorem queLen_any {S:Nat→Prop} {q N:Nat} {r:List Tr} {w:World} (h:QueI S q N r w):Calls Tryz.prog 141 #[.pointer (some ⟨q,0,none⟩)] w fun e w'=>e=.returned (.int .i64 (r.length:Int))∧w=w':=by
  obtain⟨n,f,v,mb,a⟩:=h
  rw [a.len]
  obtain⟨sa,c,rfl⟩:=a.row.form
  have hm:=a.map
  have hs:=a.row.cell
  clear a
  go_enter Tryz.func141,Tryz.ntmps141
  go_wp2_with (first | (go_at_call 87;refine (there_any q mb _ hm).mono ?_;rintro e w' ⟨rfl,rfl⟩) | (go_at_call 182;refine (rowLen_any _ _ _ _).mono ?_;rintro e w' ⟨rfl,rfl⟩))
  go_ret
  exact⟨rfl,rfl⟩
open Go.Maps (Keyed Tidy IsMap)
theorem elem_zero (w:World):(zeroValue 195).run Tryz.prog w=.ok (.pointer none) w:=by kernel_rfl
theorem PMap.del_at {α:Type} {P:Program} {k t e:TypeId} {kl:α→Lit} {w:World} {b n:Nat} {L:List (α×Nat)} {p:α×Nat} (hM:PMap P k kl w b n (p :: L)) (K:Keyed P k) (ht:P.underlying t=some (.map k e)) {key:Value} (hkey:keyOf P k key=some (kl p.1)) :
    ∃ w',(∀ ty,(Builtin.delete_ #[t,k] ty #[.map (some b),key]).run P w=.ok (.tuple #[]) w')∧PMap P k kl w' b n L∧w.mapTurned w' b:=by
  obtain⟨D,hown,hMT⟩:=hM
  obtain⟨w',hrun,h1,h2⟩:=hown.drop K ht hkey 0
  exact⟨w',fun ty=>hrun,⟨_,h1,hMT.del (hown.tidy K)⟩,h2⟩
theorem turned_kept {w w':World} {b:Nat} (h:w.mapTurned w' b):KeptS (fun k=>k≠b∧k < w.heap.size) w w':=
  ⟨h.grown.os,h.grown.tape,h.grown.output,h.grown.size,fun k hk=>h.grown.block k hk.2 (fun e=>by injection e with e;exact hk.1 e)⟩
theorem QueA.hit {S:Nat→Prop} {q N n mb i:Nat} {r:List Tr} {f:Nat→Tm} {v:Value} {w:World} (a:QueA S q N r n f v mb w) (hi:i < n) :
    (Instr.lookup 196 (.map (some mb)) (.int .i64 (f i).id) true).run Tryz.prog w=.ok (.tuple #[.pointer (some ⟨(f i).b,0,none⟩),.bool true]) w:=by
  have hx:=a.ok (tri (f i)) (a.rep.mem_iff.2 (List.mem_map.2 ⟨f i,mem_TL.2 ⟨i,hi,rfl⟩,rfl⟩))
  exact a.pm.look_hit kKeyed Tryz.underlying196 (elem_zero w) (key_int (id_wf ⟨hx.1,hx.2.1⟩)) (List.mem_map.2 ⟨f i,mem_TL.2 ⟨i,hi,rfl⟩,rfl⟩)
theorem QueA.miss {S:Nat→Prop} {q N n mb:Nat} {r:List Tr} {f:Nat→Tm} {v:Value} {w:World} (a:QueA S q N r n f v mb w) {id:Int} (hw:(Lit.int .i64 id).wf=true) (hno:∀ x∈r,x.1≠id) :
    (Instr.lookup 196 (.map (some mb)) (.int .i64 id) true).run Tryz.prog w=.ok (.tuple #[.pointer none,.bool false]) w:=by
  refine a.pm.look_miss kKeyed Tryz.underlying196 (elem_zero w) (key_int hw) (fun p hp e=>?_)
  obtain⟨x,hx,rfl⟩:=List.mem_map.1 hp
  exact hno (tri x) (a.rep.mem_iff.2 (List.mem_map.2 ⟨x,hx,rfl⟩)) (keyI_inj e)
theorem QueA.at {S:Nat→Prop} {q N n mb:Nat} {r:List Tr} {f:Nat→Tm} {v:Value} {w:World} (a:QueA S q N r n f v mb w) {x:Tr} (hx:x∈r):∃ i,i < n∧tri (f i)=x:=by
  obtain⟨y,hy,e⟩:=List.mem_map.1 (a.rep.mem_iff.1 hx)
  obtain⟨i,hi,rfl⟩:=mem_TL.1 hy
  exact⟨i,hi,e⟩
theorem QueA.rowI {S:Nat→Prop} {q N n mb:Nat} {r:List Tr} {f:Nat→Tm} {v:Value} {w:World} (a:QueA S q N r n f v mb w) (h0:0 < n):∃ B c,v=.slice (some ⟨B,0,none⟩) n c∧RowI (fun k=>S k∨k=mb) q B c n f w:=by
  rcases a.row with ⟨e,-⟩ | h
  · omega
  · exact h
def without (r:List Tr) (id:Int):List Tr:=r.filter fun y=>decide (y.1≠id)
theorem without_none {r:List Tr} {id:Int} (h:∀ x∈r,x.1≠id):without r id=r:=List.filter_eq_self.2 fun x hx=>decide_eq_true (h x hx)
theorem without_perm {r l:List Tr} {x:Tr} (h:r.Perm (x :: l)) (hl:∀ y∈l,y.1≠x.1):(without r x.1).Perm l:=by
  have h1:=h.filter (fun y=>decide (y.1≠x.1))
  rw [List.filter_cons_of_neg (by simp),List.filter_eq_self.2 (fun y hy=>decide_eq_true (hl y hy))] at h1
  exact h1
theorem unset_miss {S:Nat→Prop} {q N:Nat} {r:List Tr} {w:World} (h:QueI S q N r w) {id:Int} (hw:(Lit.int .i64 id).wf=true) (hno:∀ x∈r,x.1≠id):Calls Tryz.prog 108 #[.pointer (some ⟨q,0,none⟩),.int .i64 id] w fun e w'=>e=.returned (.bool false)∧w=w':=by
  obtain⟨n,f,v,mb,a⟩:=h
  have hl:=a.miss hw hno
  have hm:=a.map
  clear a hno hw
  go_enter Tryz.func108,Tryz.ntmps108
  go_wp2_with (go_at_call 87;refine (there_any q mb _ hm).mono ?_;rintro e w' ⟨rfl,rfl⟩)
  go_ret
  exact⟨rfl,rfl⟩
def UnsP (S:Nat→Prop) (q N:Nat) (r:List Tr) (x:Tm) (w w':World):Prop:=QueI S q N (without r x.id) w'∧KeptS S w w'∧w'.cell? ⟨x.b,0,none⟩=some (.int .i64 x.id)
theorem QueA.removed {S:Nat→Prop} {q N n mb i B c:Nat} {r:List Tr} {f:Nat→Tm} {w w2:World} (a:QueA S q N r (n+1) f (.slice (some ⟨B,0,none⟩) (n+1) c) mb w) (hi:i < n+1) (hR:RemP (fun k=>S k∨k=mb) q B c n i f w w2) :
    w2.cell? ⟨q,1,none⟩=some (.map (some mb))∧∃ w3,(∀ ty,(Builtin.delete_ #[196,kI] ty #[.map (some mb),.int .i64 (f i).id]).run Tryz.prog w2=.ok (.tuple #[]) w3)∧UnsP S q N r (f i) w w3:=by
  obtain⟨f',h1,h2,h3,h4,h5,h6⟩:=hR
  have hx:=a.ok (tri (f i)) (a.rep.mem_iff.2 (List.mem_map.2 ⟨f i,mem_TL.2 ⟨i,hi,rfl⟩,rfl⟩))
  have hp:=h3.perm hi a.inj h1.inj
  have pm2:PMap Tryz.prog kI keyI w2 mb N (((f i).id,(f i).b) :: (TL f' n).map fun x=>(x.id,x.b)):=(a.pm.block (h4.block mb (.inr rfl))).perm (hp.map _)
  obtain⟨w3,g1,g2,g3⟩:=pm2.del_at kKeyed Tryz.underlying196 (key_int (id_wf ⟨hx.1,hx.2.1⟩))
  have hk:=turned_kept g3
  have hq2:w2.cell? ⟨q,1,none⟩=some (.map (some mb)):=(h5.1 1 (by decide)).trans a.map
  have hqm:=pm2.cells hq2
  have hql:=lt_of_cell hq2
  have hxb:=lt_of_cell h6
  have hxm:(f i).b≠mb:=pm2.cells h6
  have hcell:∀ {b o:Nat} {u:Value},w2.cell? ⟨b,o,none⟩=some u→w3.cell? ⟨b,o,none⟩=some u:=fun {b o u} hu=>(hk.cell ⟨pm2.cells hu,lt_of_cell hu⟩).trans hu
  have hBl:B < w2.heap.size:=by obtain⟨cur,e,-⟩:=h1.blk;exact (Array.getElem?_eq_some_iff.1 e).1
  have hdist:=(List.pairwise_cons.1 ((hp.pairwise_iff (R:=fun x y:Tm=>x.id≠y.id) (fun h e=>h e.symm)).1 a.pm.distinct)).1
  have hrep:=a.rep.trans (hp.map tri)
  have hwo:(without r (f i).id).Perm ((TL f' n).map tri):=without_perm (x:=tri (f i)) hrep fun y hy=>by
    obtain⟨z,hz,rfl⟩:=List.mem_map.1 hy
    exact fun e=>hdist z hz e.symm
  refine⟨hq2,w3,g1,⟨n,f',.slice (some ⟨B,0,none⟩) n c,mb,⟨?_,h2,hcell hq2,fun o=>?_,g2,fun x hx=>a.ok x (List.mem_filter.1 hx).1,hwo,a.outq,a.outm,fun k hk'=>?_⟩⟩,?_,hcell h6⟩
  · exact .inr ⟨B,c,rfl,h1.keep hk ⟨hqm,hql⟩ ⟨fun e=>h1.out (.inr e),hBl⟩ (fun j hj=>⟨fun e=>(h1.tim j hj).out (.inr e),lt_of_cell (h1.tim j hj).id⟩)⟩
  · exact (hk.frozen ⟨hqm,hql⟩).trans ((h5.2 o).trans (a.fro o))
  · exact Nat.lt_of_lt_of_le (a.lt k hk') (Nat.le_trans h4.size hk.size)
  · exact (h4.less (fun _ h=>.inl h)).trans (hk.less (fun k hk'=>⟨fun e=>a.outm (by rw [← e];exact hk'),Nat.lt_of_lt_of_le (a.lt k hk') h4.size⟩))
set_option maxRecDepth 8000 in
theorem unset_hit {S:Nat→Prop} {q N n mb i:Nat} {r:List Tr} {f:Nat→Tm} {v:Value} {w:World} (a:QueA S q N r n f v mb w) (hi:i < n) :
    Calls Tryz.prog 108 #[.pointer (some ⟨q,0,none⟩),.int .i64 (f i).id] w fun e w'=>e=.returned (.bool true)∧UnsP S q N r (f i) w w':=by
  obtain⟨m,rfl⟩:∃ m,n=m+1:=⟨n - 1,by omega⟩
  obtain⟨B,c,rfl,hR⟩:=a.rowI (by omega)
  have hl:=a.hit hi
  have hm:=a.map
  have hp:=(hR.tim i hi).place
  have hf16:=a.few
  have HREM:Hid (∀ k,Calls Tryz.prog 134 #[heapV q,.int .i64 (i:Int)] (w.drewN k) fun e w'=>(∃ u,e=.returned u)∧RemP (fun k=>S k∨k=mb) q B c m i f (w.drewN k) w'):=fun k=>
    heapRemove_any (hR.drewN k) (by omega) (fun h=>h.elim a.outq a.mbq) (a.fro 0) (by omega) a.heap
  have HA:=Lib.hid (fun k=>a.drewN k)
  clear a hR hf16
  generalize hfb:(f i).b=b at *
  generalize hfi:(f i).id=id at *
  have HFB:=Lib.hid hfb
  have HFI:=Lib.hid hfi
  clear hfb hfi
  go_enter Tryz.func108,Tryz.ntmps108
  go_wp2_with (go_at_call 87;refine (there_any q mb _ hm).mono ?_;rintro e w' ⟨rfl,rfl⟩)
  go_region_with (go_at_call 134;refine (HREM.out _).mono ?_;rintro e w1 ⟨⟨u,rfl⟩,hrem⟩)
  have HX:=Lib.hid ((HA.out _).removed hi hrem)
  rw [HFI.out] at HX
  obtain⟨hq2,w3,g1,g2⟩:=HX.out
  have HG:Hid (UnsP S q N r (f i) w w3):=⟨g2.1,((KeptS.refl S w).drewN _).trans g2.2.1,g2.2.2⟩
  clear hrem g2 HX
  go_wp2_with fail
  go_ret
  exact⟨rfl,HG.out⟩
end Go.Proofs.YtaiepcgfofpmjaaGreat
