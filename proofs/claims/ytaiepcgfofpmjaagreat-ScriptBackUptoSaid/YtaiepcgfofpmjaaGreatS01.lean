/- Layer 43: Swap. -/
import Derived.Test.YtaiepcgfofpmjaaGreatS00
import Derived.IntWalk
import Derived.LoopTactic
import Derived.Deep.DeepCutAuto
import Derived.Deep.CutBlock
import Derived.Deep.AppendLies
namespace Go.Proofs.YtaiepcgfofpmjaaGreat
set_option linter.unusedVariables false
open Go.RowKit
theorem RowI.swapped {S:Nat→Prop} {q B c n i j:Nat} {f:Nat→Tm} {w w':World} (h:RowI S q B c n f w) (hi:i < n) (hj:j < n) (hij:i≠j)
    (hk:∀ k o,(k≠B∨(o≠i∧o≠j))→(k≠(f i).b∨o≠3)→(k≠(f j).b∨o≠3)→w'.cell? ⟨k,o,none⟩=w.cell? ⟨k,o,none⟩)
    (hf:∀ k o,w'.frozen? ⟨k,o,none⟩=w.frozen? ⟨k,o,none⟩)
    (h1:w'.cell? ⟨B,i,none⟩=some (.pointer (some ⟨(f j).b,0,none⟩))) (h2:w'.cell? ⟨B,j,none⟩=some (.pointer (some ⟨(f i).b,0,none⟩)))
    (h3:w'.cell? ⟨(f j).b,3,none⟩=some (.int .i64 (i:Int))) (h4:w'.cell? ⟨(f i).b,3,none⟩=some (.int .i64 (j:Int))) (hblk:BlkS w' B c):RowI S q B c n (swapF f i j) w':=by
  have ti:=h.tim i hi
  have tj:=h.tim j hj
  refine⟨(hk q 0 (.inl (fun e=>h.neq e.symm)) (.inl (fun e=>ti.neq e.symm)) (.inl (fun e=>tj.neq e.symm))).trans h.sl,fun k hkn=>?_,h.inj.swap hi hj,h.neq,h.out,h.le,hblk⟩
  by_cases e1:k=i
  · subst e1
    rw [swapF_l]
    exact⟨h1,(hf _ _).trans ti.rowf,(hk _ _ (.inl tj.neB) (.inr (by decide)) (.inr (by decide))).trans tj.id,(hk _ _ (.inl tj.neB) (.inr (by decide)) (.inr (by decide))).trans tj.t,(hk _ _ (.inl tj.neB) (.inr (by decide)) (.inr (by decide))).trans tj.ev,h3,fun o=>(hf _ _).trans (tj.fro o),tj.neB,tj.neq,tj.out⟩
  by_cases e2:k=j
  · subst e2
    rw [swapF_r]
    exact⟨h2,(hf _ _).trans tj.rowf,(hk _ _ (.inl ti.neB) (.inr (by decide)) (.inr (by decide))).trans ti.id,(hk _ _ (.inl ti.neB) (.inr (by decide)) (.inr (by decide))).trans ti.t,(hk _ _ (.inl ti.neB) (.inr (by decide)) (.inr (by decide))).trans ti.ev,h4,fun o=>(hf _ _).trans (ti.fro o),ti.neB,ti.neq,ti.out⟩
  · rw [swapF_o f i j e1 e2]
    have tk:=h.tim k hkn
    have ni:(f k).b≠(f i).b:=fun e=>e1 (h.inj k i hkn hi e)
    have nj:(f k).b≠(f j).b:=fun e=>e2 (h.inj k j hkn hj e)
    exact⟨(hk _ _ (.inr ⟨e1,e2⟩) (.inl ti.neB.symm) (.inl tj.neB.symm)).trans tk.row,(hf _ _).trans tk.rowf,(hk _ _ (.inl tk.neB) (.inl ni) (.inl nj)).trans tk.id,(hk _ _ (.inl tk.neB) (.inl ni) (.inl nj)).trans tk.t,(hk _ _ (.inl tk.neB) (.inl ni) (.inl nj)).trans tk.ev,(hk _ _ (.inl tk.neB) (.inl ni) (.inl nj)).trans tk.place,fun o=>(hf _ _).trans (tk.fro o),tk.neB,tk.neq,tk.out⟩
theorem sets2 (w:World) {B1 B2 o1 o2:Nat} (v1 v2:Value) {u1 u2:Value} (hne:B1≠B2∨o1≠o2) (h1:w.cell? ⟨B1,o1,none⟩=some u1) (h2:w.cell? ⟨B2,o2,none⟩=some u2) :
    ((w.setCell ⟨B1,o1,none⟩ v1).setCell ⟨B2,o2,none⟩ v2).cell? ⟨B1,o1,none⟩=some v1∧((w.setCell ⟨B1,o1,none⟩ v1).setCell ⟨B2,o2,none⟩ v2).cell? ⟨B2,o2,none⟩=some v2 ∧
    (∀ k o,(k≠B1∨o≠o1)→(k≠B2∨o≠o2)→((w.setCell ⟨B1,o1,none⟩ v1).setCell ⟨B2,o2,none⟩ v2).cell? ⟨k,o,none⟩=w.cell? ⟨k,o,none⟩) ∧
    (∀ k o,((w.setCell ⟨B1,o1,none⟩ v1).setCell ⟨B2,o2,none⟩ v2).frozen? ⟨k,o,none⟩=w.frozen? ⟨k,o,none⟩):=by
  have n12:(⟨B1,o1,none⟩:Addr)≠⟨B2,o2,none⟩:=fun e=>by injection e with e1 e2;omega
  refine⟨?_,?_,fun k o q1 q2=>?_,fun k o=>?_⟩
  · rw [World.cell?_setCell_other _ _ _ _ n12.symm,World.cell?_setCell_same' _ _ _ (by rw [h1];rfl)]
  · rw [World.cell?_setCell_same' _ _ _ (by rw [World.cell?_setCell_other _ _ _ _ n12,h2];rfl)]
  · rw [World.cell?_setCell_other _ _ _ _ (fun e=>by injection e with e1 e2;omega),World.cell?_setCell_other _ _ _ _ (fun e=>by injection e with e1 e2;omega)]
  · rw [World.frozen?_setCell,World.frozen?_setCell]
set_option maxHeartbeats 1000000 in
theorem swap_any {S:Nat→Prop} {q B c n i j:Nat} {f:Nat→Tm} {w:World} (h:RowI S q B c n f w) (hi:i < n) (hj:j < n) (hij:i≠j) (hn:n≤1000000) :
    Calls Tryz.prog 498 #[.slice (some ⟨B,0,none⟩) n c,.int .i64 (i:Int),.int .i64 (j:Int)] w fun e w'=>e=.returned (.tuple #[])∧RowI S q B c n (swapF f i j) w'∧KeptS S w w':=by
  have ti:=h.tim i hi
  have tj:=h.tim j hj
  have HH:=Lib.hid h
  have c1:=ti.row
  have c2:=tj.row
  have f1:=ti.rowf
  have f2:=tj.rowf
  clear ti tj h
  go_enter Tryz.func498,Tryz.ntmps498
  go_wp2_with fail
  go_region
  go_wp2_with fail
  have ti:=HH.out.tim i hi
  have tj:=HH.out.tim j hj
  obtain⟨g1,g2,g3,g4⟩:=sets2 w (.pointer (some ⟨(f j).b,0,none⟩)) (.pointer (some ⟨(f i).b,0,none⟩)) (.inr hij) c1 c2
  have hB1:KeptS S w ((w.setCell ⟨B,i,none⟩ (.pointer (some ⟨(f j).b,0,none⟩))).setCell ⟨B,j,none⟩ (.pointer (some ⟨(f i).b,0,none⟩))).drew:=(((KeptS.refl S w).set HH.out.out _ _).set HH.out.out _ _).drewN 1
  replace g1:((w.setCell ⟨B,i,none⟩ (.pointer (some ⟨(f j).b,0,none⟩))).setCell ⟨B,j,none⟩ (.pointer (some ⟨(f i).b,0,none⟩))).drew.cell? ⟨B,i,none⟩=_:=g1
  replace g2:((w.setCell ⟨B,i,none⟩ (.pointer (some ⟨(f j).b,0,none⟩))).setCell ⟨B,j,none⟩ (.pointer (some ⟨(f i).b,0,none⟩))).drew.cell? ⟨B,j,none⟩=_:=g2
  replace g3:∀ k o,_→_→((w.setCell ⟨B,i,none⟩ (.pointer (some ⟨(f j).b,0,none⟩))).setCell ⟨B,j,none⟩ (.pointer (some ⟨(f i).b,0,none⟩))).drew.cell? ⟨k,o,none⟩=_:=g3
  replace g4:∀ k o,((w.setCell ⟨B,i,none⟩ (.pointer (some ⟨(f j).b,0,none⟩))).setCell ⟨B,j,none⟩ (.pointer (some ⟨(f i).b,0,none⟩))).drew.frozen? ⟨k,o,none⟩=_:=g4
  have HBK:Hid (BlkS ((w.setCell ⟨B,i,none⟩ (.pointer (some ⟨(f j).b,0,none⟩))).setCell ⟨B,j,none⟩ (.pointer (some ⟨(f i).b,0,none⟩))).drew B c):=((HH.out.blk.set _ _ _).set _ _ _)
  generalize ((w.setCell ⟨B,i,none⟩ (.pointer (some ⟨(f j).b,0,none⟩))).setCell ⟨B,j,none⟩ (.pointer (some ⟨(f i).b,0,none⟩))).drew=W1 at *
  have p1:W1.cell? ⟨(f j).b,3,none⟩=some (.int .i64 (j:Int)):=(g3 _ _ (.inl tj.neB) (.inl tj.neB)).trans tj.place
  have p2:W1.cell? ⟨(f i).b,3,none⟩=some (.int .i64 (i:Int)):=(g3 _ _ (.inl ti.neB) (.inl ti.neB)).trans ti.place
  have p3:W1.frozen? ⟨(f j).b,3,none⟩=false:=(g4 _ _).trans (tj.fro 3)
  have p4:W1.frozen? ⟨(f i).b,3,none⟩=false:=(g4 _ _).trans (ti.fro 3)
  have nb:(f j).b≠(f i).b:=fun e=>hij (HH.out.inj j i hj hi e).symm
  have G3:=Lib.hid g3
  have G4:=Lib.hid g4
  have HNB:=Lib.hid nb
  have HP1:=Lib.hid p1
  have HP2:=Lib.hid p2
  have HG1:=Lib.hid g1
  have HG2:=Lib.hid g2
  have HT:=Lib.hid ti
  have HU:=Lib.hid tj
  have HK:=Lib.hid hB1
  clear g3 g4 c1 c2 f1 f2 ti tj hB1
  go_region
  go_wp2_with fail
  refine bodyPost_end (v:=.tuple #[]) (by simp [results,Tryz.results498,go_sem]) rfl ⟨rfl,?_,?_⟩
  · obtain⟨e1,e2,e3,e4⟩:=sets2 W1 (.int .i64 (i:Int)) (.int .i64 (j:Int)) (.inl HNB.out) HP1.out HP2.out
    have ti:=HT.out
    have tj:=HU.out
    refine HH.out.swapped hi hj hij (fun k o h1 h2 h3=>?_) (fun k o=>?_) ?_ ?_ ?_ ?_ ((HBK.out.set _ _ _).set _ _ _)
    · exact (e3 k o h3 h2).trans (G3.out k o (by omega) (by omega))
    · exact (e4 k o).trans (G4.out k o)
    · exact (e3 B i (.inl tj.neB.symm) (.inl ti.neB.symm)).trans HG1.out
    · exact (e3 B j (.inl tj.neB.symm) (.inl ti.neB.symm)).trans HG2.out
    · exact e1
    · exact e2
  · exact ((HK.out.set HU.out.out _ _).set HT.out.out _ _).drewN 1
abbrev heapV (q:Nat):Value:=.iface 223 (.pointer (some ⟨q,0,none⟩))
theorem mth_less {q:Nat} {a:Option Addr} {n c:Nat} {W:World} (h:W.cell? ⟨q,0,none⟩=some (.slice a n c)):(method 804 223 (.pointer (some ⟨q,0,none⟩)) "Less").run Tryz.prog W=.ok (497,.slice a n c) W:=by
  have e:(method 804 223 (.pointer (some ⟨q,0,none⟩)) "Less").run Tryz.prog W=(do let v←loadVar 193 ⟨q,0,none⟩;pure (497,v):Sem (FuncId×Value)).run Tryz.prog W:=by kernel_rfl
  rw [e]
  simp [h,go_sem]
theorem mth_swap {q:Nat} {a:Option Addr} {n c:Nat} {W:World} (h:W.cell? ⟨q,0,none⟩=some (.slice a n c)):(method 804 223 (.pointer (some ⟨q,0,none⟩)) "Swap").run Tryz.prog W=.ok (498,.slice a n c) W:=by
  have e:(method 804 223 (.pointer (some ⟨q,0,none⟩)) "Swap").run Tryz.prog W=(do let v←loadVar 193 ⟨q,0,none⟩;pure (498,v):Sem (FuncId×Value)).run Tryz.prog W:=by kernel_rfl
  rw [e]
  simp [h,go_sem]
theorem mth_len {q:Nat} {a:Option Addr} {n c:Nat} {W:World} (h:W.cell? ⟨q,0,none⟩=some (.slice a n c)):(method 804 223 (.pointer (some ⟨q,0,none⟩)) "Len").run Tryz.prog W=.ok (182,.slice a n c) W:=by
  have e:(method 804 223 (.pointer (some ⟨q,0,none⟩)) "Len").run Tryz.prog W=(do let v←loadVar 193 ⟨q,0,none⟩;pure (182,v):Sem (FuncId×Value)).run Tryz.prog W:=by kernel_rfl
  rw [e]
  simp [h,go_sem]
theorem mth_push (q:Nat) (W:World):(method 804 223 (.pointer (some ⟨q,0,none⟩)) "Push").run Tryz.prog W=.ok (500,.pointer (some ⟨q,0,none⟩)) W:=by kernel_rfl
theorem mth_pop (q:Nat) (W:World):(method 804 223 (.pointer (some ⟨q,0,none⟩)) "Pop").run Tryz.prog W=.ok (499,.pointer (some ⟨q,0,none⟩)) W:=by kernel_rfl
def HeapP (S:Nat→Prop) (q B c n m:Nat) (f:Nat→Tm) (w:World) (w':World):Prop:=∃ f',RowI S q B c n f' w'∧HeapF f' m∧SameS f f' m∧(∀ k,m≤k→f' k=f k)∧KeptS S w w'
def UpR (S:Nat→Prop) (q B c n m:Nat) (f:Nat→Tm) (w:World) (j:Nat) (f':Nat→Tm) (wr:World):Prop:=
  RowI S q B c n f' wr∧UpI f' m j∧SameS f f' m∧(∀ k,m≤k→f' k=f k)∧KeptS S w wr
set_option maxRecDepth 8000 in
set_option maxHeartbeats 1000000 in
theorem up_any {S:Nat→Prop} {q B c n m j:Nat} {f:Nat→Tm} {w:World} (h:RowI S q B c n f w) (hj:j < m) (hm:m≤n) (hn:n≤1000000) (hu:UpI f m j) :
    Calls Tryz.prog 135 #[heapV q,.int .i64 (j:Int)] w fun e w'=>e=.returned (.tuple #[])∧HeapP S q B c n m f w w':=by
  have H0:Hid (UpR S q B c n m f w j f w):=⟨h,hu,SameS.refl f m,fun _ _=>rfl,KeptS.refl S w⟩
  have hr:∀ m n:Nat,m≤n→n≤1000000→m≤1000000:=fun _ _ a b=>Nat.le_trans a b
  have hm2:=hr m n hm hn
  clear h hu hr
  go_enter Tryz.func135,Tryz.ntmps135
  go_wp2_with fail
  go_loopw [1] (fun jv wr=>∃ (j:Nat) (f':Nat→Tm),jv=.int .i64 (j:Int)∧j < m∧Hid (UpR S q B c n m f w j f' wr)) (fun jv _=>(intOf jv).toNat)
  case atStart=>exact⟨j,f,rfl,hj,H0⟩
  case round=>
    obtain⟨j,f',rfl,hj,HR⟩:=hrel
    by_cases h0:j=0
    · subst h0
      have HE:Hid (HeapP S q B c n m f w wr):=⟨f',HR.out.1,HR.out.2.1.root,HR.out.2.2⟩
      go_wp2_with fail
      go_end0
      exact⟨rfl,HE.out⟩
    · obtain⟨p,hp⟩:∃ p,par j=p:=⟨_,rfl⟩
      have hp':(j - 1) / 2=p:=hp
      have w1:IntKind.i64.wrap ((j:Int) - 1)=(j:Int) - 1:=IntWalk.i64_in _ (by omega)
      have w2:((j:Int) - 1).tdiv 2=(p:Int):=by rw [Int.tdiv_eq_ediv_of_nonneg (by omega)];omega
      have w2':((j:Int) - 1) / 2=(p:Int):=by omega
      have w4:IntKind.i64.wrap (p:Int)=(p:Int):=IntWalk.i64_in _ (by omega)
      have hpl:p < j:=by omega
      have hpj:(p==j)=false:=by rw [beq_eq_false_iff_ne];omega
      have HP:=Lib.hid hp
      have tj:=HR.out.1.tim j (by omega)
      have tp:=HR.out.1.tim p (by omega)
      have HL:=Lib.hid (less_any B n c j p (f' j) (f' p) wr (by omega) (by omega) hn tj.row tp.row tj.id tj.t tp.id tp.t)
      have hm1:=mth_less HR.out.1.sl
      clear hp hp' tj tp
      cases hb:befT (f' j) (f' p) with
      | false=>
        rw [hb] at HL
        have HE:Hid (∀ k,HeapP S q B c n m f w (wr.drewN k)):=fun k=>⟨f',HR.out.1.drewN k,HR.out.2.1.stop (by rw [HP.out];exact hb),HR.out.2.2.1,HR.out.2.2.2.1,HR.out.2.2.2.2.drewN k⟩
        clear hb
        go_wp2_with fail
        refine HL.out.mono ?_
        rintro e w1 ⟨rfl,k,rfl⟩
        go_wp2_with fail
        go_end0
        exact⟨rfl,HE.out _⟩
      | true=>
        rw [hb] at HL
        have HS:=fun k=>Lib.hid (swap_any (HR.out.1.drewN k) (i:=p) (j:=j) (by omega) (by omega) (by omega) hn)
        have hm3:=fun k=>mth_swap (HR.out.1.drewN k).sl
        have HE:Hid (∀ k w',RowI S q B c n (swapF f' p j) w'→KeptS S (wr.drewN k) w'→UpR S q B c n m f w p (swapF f' p j) w'):=fun k w' g1 g2=>by
          have g3:=HR.out.2.1.step (by omega) hj (by rw [HP.out];exact hb)
          rw [HP.out] at g3
          refine⟨g1,g3,HR.out.2.2.1.trans (SameS.swap f' (by omega) hj),fun x hx=>?_,(HR.out.2.2.2.2.drewN k).trans g2⟩
          rw [swapF_o f' p j (by omega) (by omega)]
          exact HR.out.2.2.2.1 x hx
        clear hb
        go_wp2_with fail
        refine HL.out.mono ?_
        rintro e w1 ⟨rfl,k,rfl⟩
        have hm4:=hm3 k
        clear hm1 hm3 HL
        go_wp2_with fail
        refine (HS _).out.mono ?_
        rintro e w2 ⟨rfl,g1,g2⟩
        have HG:=Lib.hid (HE.out _ w2 g1 g2)
        clear g1 g2 HE HS
        go_wp2_with fail
        go_roundw
        case rel=>exact⟨p,swapF f' p j,rfl,by omega,HG⟩
        case measure=>simp [intOf];omega
def DnR (S:Nat→Prop) (q B c n m i0:Nat) (f:Nat→Tm) (w:World) (i:Nat) (f':Nat→Tm) (wr:World):Prop:=
  RowI S q B c n f' wr∧DnI f' m i0 i∧SameS f f' m∧(∀ k,m≤k→f' k=f k)∧KeptS S w wr
def DnP (S:Nat→Prop) (q B c n m i0:Nat) (f:Nat→Tm) (w:World) (r:Bool) (w':World):Prop:=
  ∃ f',RowI S q B c n f' w'∧SameS f f' m∧(∀ k,m≤k→f' k=f k)∧KeptS S w w'∧(r=true→HeapF f' m)∧(r=false→UpI f' m i0)
theorem DnR.drewN {S:Nat→Prop} {q B c n m i0 i:Nat} {f f':Nat→Tm} {w wr:World} (h:DnR S q B c n m i0 f w i f' wr) (k:Nat):DnR S q B c n m i0 f w i f' (wr.drewN k):=
  ⟨h.1.drewN k,h.2.1,h.2.2.1,h.2.2.2.1,h.2.2.2.2.drewN k⟩
theorem DnR.stop {S:Nat→Prop} {q B c n m i0 i:Nat} {f f':Nat→Tm} {w wr:World} (h:DnR S q B c n m i0 f w i f' wr) (hc:∀ k,k < m→0 < k→par k=i→edge f' k) (r:Bool) (hr:r=decide (i0 < i)):DnP S q B c n m i0 f w r wr:=by
  have hs:=h.2.1.stop hc
  refine⟨f',h.1,h.2.2.1,h.2.2.2.1,h.2.2.2.2,fun e=>hs.2 ?_,fun e=>hs.1 ?_⟩
  · rw [e] at hr;have:=of_decide_eq_true hr.symm;omega
  · rw [e] at hr;have:=of_decide_eq_false hr.symm;have:=h.2.1.1;omega
theorem kids {k i:Nat} (h0:0 < k) (h:par k=i):k=2 * i+1∨k=2 * i+2:=by have:(k - 1) / 2=i:=h;omega
set_option maxRecDepth 8000 in
set_option maxHeartbeats 2000000 in
theorem down_any {S:Nat→Prop} {q B c n m i0:Nat} {f:Nat→Tm} {w:World} (h:RowI S q B c n f w) (hi0:i0 < m) (hm:m≤n) (hn:n≤1000000) (hd:DnI f m i0 i0) :
    Calls Tryz.prog 169 #[heapV q,.int .i64 (i0:Int),.int .i64 (m:Int)] w fun e w'=>∃ r,e=.returned (.bool r)∧DnP S q B c n m i0 f w r w':=by
  have H0:Hid (DnR S q B c n m i0 f w i0 f w):=⟨h,hd,SameS.refl f m,fun _ _=>rfl,KeptS.refl S w⟩
  have hm2:m≤1000000:=Nat.le_trans hm hn
  clear h hd
  go_enter Tryz.func169,Tryz.ntmps169
  go_wp2_with fail
  go_loopw [7] (fun iv wr=>∃ (i:Nat) (f':Nat→Tm),iv=.int .i64 (i:Int)∧i < m∧Hid (DnR S q B c n m i0 f w i f' wr)) (fun iv _=>m - (intOf iv).toNat)
  case atStart=>exact⟨i0,f,rfl,hi0,H0⟩
  case round=>
    obtain⟨i,f',rfl,hi,HR⟩:=hrel
    obtain⟨j1,hj1⟩:∃ j,2 * i+1=j:=⟨_,rfl⟩
    have w1:IntKind.i64.wrap (2 * (i:Int))=2 * (i:Int):=IntWalk.i64_in _ (by omega)
    have w2:IntKind.i64.wrap (2 * (i:Int)+1)=(j1:Int):=by rw [IntWalk.i64_in _ (by omega)];omega
    have w3:2 * (i:Int)+1=(j1:Int):=by omega
    have HJ1:=Lib.hid hj1
    have hi0i:i0≤i:=HR.out.2.1.1
    have HEND:Hid ((∀ k,k < m→0 < k→par k=i→edge f' k)→∀ k,DnP S q B c n m i0 f w (decide (i0 < i)) (wr.drewN k)):=fun hc k=>(HR.out.drewN k).stop hc _ rfl
    have z1:(0:Int)≤(j1:Int):=by omega
    clear hj1
    by_cases h1:m≤j1
    · have HE:Hid (DnP S q B c n m i0 f w (decide (i0 < i)) wr):=HEND.out (fun k hk hk0 hkp=>by have:=kids hk0 hkp;have:=HJ1.out;omega) 0
      have HII:=Lib.hid hi0i
      by_cases hii:i=i0
      · subst hii
        rw [decide_eq_false (by omega)] at HE
        clear hi0i HII
        go_wp2_with fail
        go_ret
        exact⟨false,rfl,HE.out⟩
      · have hgt:i0 < i:=by omega
        rw [decide_eq_true hgt] at HE
        clear hi0i
        go_wp2_with fail
        go_ret
        exact⟨true,rfl,HE.out⟩
    · have h1':j1 < m:=by omega
      obtain⟨j2,hj2⟩:∃ j,j1+1=j:=⟨_,rfl⟩
      have w5:IntKind.i64.wrap ((j1:Int)+1)=(j2:Int):=by rw [IntWalk.i64_in _ (by omega)];omega
      have w6:(j1:Int)+1=(j2:Int):=by omega
      have HJ2:=Lib.hid hj2
      have ti:=HR.out.1.tim i (by omega)
      have t1:=HR.out.1.tim j1 (by omega)
      have HL1:Hid (∀ h2:j2 < m,Calls Tryz.prog 497 #[.slice (some ⟨B,0,none⟩) n c,.int .i64 (j2:Int),.int .i64 (j1:Int)] wr fun e w'=>e=.returned (.bool (befT (f' j2) (f' j1)))∧∃ k,w'=wr.drewN k):=fun h2=>by
        have t2:=HR.out.1.tim j2 (by omega)
        exact less_any B n c j2 j1 (f' j2) (f' j1) wr (by omega) (by omega) hn t2.row t1.row t2.id t2.t t1.id t1.t
      -- which one is the least
      obtain⟨j,hjm,hjp,hji,hmin,hcut⟩:∃ j,j < m∧par j=i∧i < j∧(∀ k,k < m→0 < k→par k=i→befT (f' k) (f' j)=false) ∧
          ((j2 < m∧befT (f' j2) (f' j1)=true∧j=j2)∨(j2 < m∧befT (f' j2) (f' j1)=false∧j=j1)∨(¬ j2 < m∧j=j1)):=by
        have hj1':=HJ1.out
        have hrr:∀ x:Tm,befT x x=false:=fun x=>by rw [befT_no];omega
        have p1:par j1=i:=by show (j1 - 1) / 2=i;omega
        have p2:par j2=i:=by show (j2 - 1) / 2=i;omega
        by_cases h2:j2 < m
        · cases hb:befT (f' j2) (f' j1) with
          | true=>
            refine⟨j2,h2,p2,by omega,fun k hk hk0 hkp=>?_,.inl ⟨h2,rfl,rfl⟩⟩
            rcases kids hk0 hkp with e | e
            · rw [show k=j1 by omega];exact befT_asymm hb
            · rw [show k=j2 by omega];exact hrr _
          | false=>
            refine⟨j1,h1',p1,by omega,fun k hk hk0 hkp=>?_,.inr (.inl ⟨h2,rfl,rfl⟩)⟩
            rcases kids hk0 hkp with e | e
            · rw [show k=j1 by omega];exact hrr _
            · rw [show k=j2 by omega];exact hb
        · refine⟨j1,h1',p1,by omega,fun k hk hk0 hkp=>?_,.inr (.inr ⟨h2,rfl⟩)⟩
          rcases kids hk0 hkp with e | e
          · rw [show k=j1 by omega];exact hrr _
          · omega
      have tj:=HR.out.1.tim j (by omega)
      have HL2:=fun k=>Lib.hid (less_any B n c j i (f' j) (f' i) (wr.drewN k) (by omega) (by omega) hn tj.row ti.row tj.id tj.t ti.id ti.t)
      have hm1:=mth_less HR.out.1.sl
      have hm2':=fun k=>mth_less (HR.out.1.drewN k).sl
      have HMIN:=Lib.hid hmin
      have HJP:=Lib.hid hjp
      have HCUT:=Lib.hid hcut
      clear ti t1 tj hmin hjp hcut hj2
      try dsimp only
      repeat (fail_if_success (show Code.wp _ (Code.seq (Code.region 6 _ _) _) _ _ _)
              first | go_values | go_skip | go_guarded | go_step | go_upon | go_back | (simp only [Int.not_lt,Int.not_le] at *;go_simp) | (go_ite <;> go_prune <;> (try go_simp)))
      go_cut [9] (fun v wx=>v=.int .i64 (j:Int)∧∃ k,wx=wr.drewN k)
      case first=>
        rcases HCUT.out with ⟨h2,hb,rfl⟩ | ⟨h2,hb,rfl⟩ | ⟨h2,rfl⟩
        · have HL:=Lib.hid (HL1.out h2)
          rw [hb] at HL
          clear hb HL1 hm2' HL2
          go_wp2_with fail
          refine HL.out.mono ?_
          rintro e w1 ⟨rfl,k,rfl⟩
          go_wp2_with fail
          go_meet
          exact⟨rfl,k,rfl⟩
        · have HL:=Lib.hid (HL1.out h2)
          rw [hb] at HL
          clear hb HL1 hm2' HL2
          go_wp2_with fail
          refine HL.out.mono ?_
          rintro e w1 ⟨rfl,k,rfl⟩
          go_wp2_with fail
          go_meet
          exact⟨rfl,k,rfl⟩
        · have h2':m≤j2:=by omega
          clear HL1 hm2' HL2
          go_wp2_with fail
          go_meet
          exact⟨rfl,0,rfl⟩
      case rest=>
      obtain⟨rfl,k,rfl⟩:=hcut
      have hm3:=hm2' k
      have HL:=HL2 k
      clear hm1 hm2' HL1 HL2 HCUT
      cases hb:befT (f' j) (f' i) with
      | false=>
        rw [hb] at HL
        have HE:Hid (∀ k,DnP S q B c n m i0 f w (decide (i0 < i)) (wr.drewN k)):=HEND.out (fun x hx hx0 hxp=>by
          show befT (f' x) (f' (par x))=false
          rw [hxp]
          exact not_trans (HMIN.out x hx hx0 hxp) hb)
        clear hb HEND
        have HII:=Lib.hid hi0i
        by_cases hii:i=i0
        · subst hii
          rw [decide_eq_false (by omega)] at HE
          clear hi0i HII
          go_wp2_with fail
          refine HL.out.mono ?_
          rintro e w1 ⟨rfl,k2,rfl⟩
          go_wp2_with fail
          go_ret
          exact⟨false,rfl,by simpa using HE.out (k+k2)⟩
        · have hgt:i0 < i:=by omega
          rw [decide_eq_true hgt] at HE
          clear hi0i
          go_wp2_with fail
          refine HL.out.mono ?_
          rintro e w1 ⟨rfl,k2,rfl⟩
          go_wp2_with fail
          go_ret
          exact⟨true,rfl,by simpa using HE.out (k+k2)⟩
      | true=>
        rw [hb] at HL
        have HS:=fun k=>Lib.hid (swap_any (HR.out.1.drewN k) (i:=i) (j:=j) (by omega) (by omega) (by omega) hn)
        have hm5:=fun k=>mth_swap (HR.out.1.drewN k).sl
        have HE:Hid (∀ k w',RowI S q B c n (swapF f' i j) w'→KeptS S (wr.drewN k) w'→DnR S q B c n m i0 f w j (swapF f' i j) w'):=fun k w' g1 g2=>by
          refine⟨g1,HR.out.2.1.step hjm HJP.out (by omega) HMIN.out hb,HR.out.2.2.1.trans (SameS.swap f' hi hjm),fun x hx=>?_,(HR.out.2.2.2.2.drewN k).trans g2⟩
          rw [swapF_o f' i j (by omega) (by omega)]
          exact HR.out.2.2.2.1 x hx
        clear hb HEND HMIN HJP
        go_wp2_with fail
        refine HL.out.mono ?_
        rintro e w1 ⟨rfl,k2,rfl⟩
        have hm6:=hm5 (k+k2)
        clear hm3 hm5 HL
        go_wp2_with fail
        refine (HS _).out.mono ?_
        rintro e w2 ⟨rfl,g1,g2⟩
        have HG:=Lib.hid (HE.out _ w2 g1 g2)
        clear g1 g2 HE HS
        go_wp2_with fail
        go_roundw
        case rel=>exact⟨j,swapF f' i j,rfl,hjm,HG⟩
        case measure=>simp [intOf];omega
theorem tim_info:(Tryz.prog.info? 195).map (fun i=>(i.zero,i.size,i.bytes))=some (some (.pointer none),1,8):=by kernel_rfl
theorem info_partsP {P:Program} {t:TypeId} {z:Value} {s b:Nat} (h:(P.info? t).map (fun i=>(i.zero,i.size,i.bytes))=some (some z,s,b)):∃ i,P.info? t=some i∧i.zero=some z∧i.size=s∧i.bytes=b:=by
  cases hi:P.info? t with
  | none=>rw [hi] at h;cases h
  | some i=>
    rw [hi] at h
    injection h with h
    injection h with h1 h
    injection h with h2 h3
    exact⟨i,rfl,h1,h2,h3⟩
def pv (f:Nat→Tm) (n:Nat):List Value:=(List.range n).map fun i=>Value.pointer (some ⟨(f i).b,0,none⟩)
theorem pv_len (f:Nat→Tm) (n:Nat):(pv f n).length=n:=by simp [pv]
theorem pv_at (f:Nat→Tm) {n i:Nat} (h:i < n):(pv f n)[i]?=some (.pointer (some ⟨(f i).b,0,none⟩)):=by simp [pv,h]
def RowV (S:Nat→Prop) (q n:Nat) (f:Nat→Tm) (v:Value) (w:World):Prop:=
  (n=0∧v=.slice none 0 0∧w.cell? ⟨q,0,none⟩=some (.slice none 0 0))∨∃ B c,v=.slice (some ⟨B,0,none⟩) n c∧RowI S q B c n f w
theorem RowV.cell {S:Nat→Prop} {q n:Nat} {f:Nat→Tm} {v:Value} {w:World} (h:RowV S q n f v w):w.cell? ⟨q,0,none⟩=some v:=by
  rcases h with ⟨-,rfl,h⟩ | ⟨B,c,rfl,h⟩
  · exact h
  · exact h.sl
theorem RowI.owns {S:Nat→Prop} {q B c n:Nat} {f:Nat→Tm} {w:World} (h:RowI S q B c n f w):w.ownsRow 0 195 1 (.slice (some ⟨B,0,none⟩) n c) n (pv f n):=by
  obtain⟨cur,h1,h2,h3⟩:=h.blk
  refine⟨by rw [pv_len];omega,.inr ⟨B,c,cur,rfl,Nat.zero_le _,h1,h.le,h3,by omega,?_⟩⟩
  rw [Nat.mul_one]
  refine List.ext_getElem? fun i=>?_
  by_cases hi:i < n
  · rw [pv_at f hi,List.getElem?_take_of_lt hi]
    have:=(h.tim i hi).row
    rw [cell_of_row w B i cur _ _ h1] at this
    simpa using this
  · rw [List.getElem?_eq_none (by simp;omega),List.getElem?_eq_none (by rw [pv_len];omega)]
theorem RowV.owns {S:Nat→Prop} {q n:Nat} {f:Nat→Tm} {v:Value} {w:World} (h:RowV S q n f v w):w.ownsRow 0 195 1 v n (pv f n):=by
  rcases h with ⟨rfl,rfl,h⟩ | ⟨B,c,rfl,h⟩
  · exact⟨rfl,.inl ⟨rfl,rfl⟩⟩
  · exact h.owns
theorem own_cellsT {w:World} {base g n cap:Nat} {xs:List Value} (h:w.ownsRow base 195 1 (.slice (some ⟨g,0,none⟩) n cap) n xs) :
    (∀ i,i < n→w.cell? ⟨g,i,none⟩=xs[i]?)∧(∀ o,w.frozen? ⟨g,o,none⟩=false)∧BlkS w g cap∧n≤cap:=by
  rcases h.2 with ⟨h0,_⟩ | ⟨g',cap',cur,hv,hb,hg,hn,hcap,hsz,htake⟩
  · cases h0
  · cases hv
    refine⟨fun i hi=>?_,fun o=>?_,⟨cur,hg,by omega,hcap⟩,hn⟩
    · rw [cell_of_row w g i cur _ _ hg,← htake,Nat.mul_one,List.getElem?_take_of_lt hi]
      simp
    · simp [World.frozen?,hg]
def pushF (f:Nat→Tm) (n:Nat) (x:Tm):Nat→Tm:=fun k=>if k=n then x else f k
theorem pushF_at (f:Nat→Tm) (n:Nat) (x:Tm):pushF f n x n=x:=if_pos rfl
theorem pushF_lt (f:Nat→Tm) {n k:Nat} (x:Tm) (h:k < n):pushF f n x k=f k:=if_neg (by omega)
structure NewT (S:Nat→Prop) (q n:Nat) (f:Nat→Tm) (v:Value) (x:Tm) (w:World):Prop where
  id:w.cell? ⟨x.b,0,none⟩=some (.int .i64 x.id)
  t:w.cell? ⟨x.b,1,none⟩=some (.int .i64 x.t)
  ev:w.cell? ⟨x.b,2,none⟩=some (.int .i64 x.ev)
  place:∃ p,w.cell? ⟨x.b,3,none⟩=some p
  fro:∀ o,w.frozen? ⟨x.b,o,none⟩=false
  neq:x.b≠q
  out:¬ S x.b
  apart:∀ i,i < n→x.b≠(f i).b
  neB:v.ownBlock≠some x.b
def QKeep (q:Nat) (w w':World):Prop:=(∀ o,o≠0→w'.cell? ⟨q,o,none⟩=w.cell? ⟨q,o,none⟩)∧(∀ o,w'.frozen? ⟨q,o,none⟩=w.frozen? ⟨q,o,none⟩)
theorem QKeep.trans {q:Nat} {w w1 w2:World} (h:QKeep q w w1) (k:QKeep q w1 w2):QKeep q w w2:=⟨fun o ho=>(k.1 o ho).trans (h.1 o ho),fun o=>(k.2 o).trans (h.2 o)⟩
theorem QKeep.of {T:Nat→Prop} {q:Nat} {w w':World} (h:KeptS T w w') (hq:T q):QKeep q w w':=⟨fun _ _=>h.cell hq,fun _=>h.frozen hq⟩
theorem QKeep.set0 (q:Nat) (w:World) (v:Value):QKeep q w (w.setCell ⟨q,0,none⟩ v):=⟨fun o ho=>World.cell?_setCell_other _ _ _ _ (fun e=>by injection e with _ e;exact ho e.symm),fun o=>by rw [World.frozen?_setCell]⟩
theorem RowV.pushed {S:Nat→Prop} {q n g cap H:Nat} {f:Nat→Tm} {v:Value} {x:Tm} {w w1:World} (h:RowV S q n f v w) (hx:NewT S q n f v x w) (hp:w.cell? ⟨x.b,3,none⟩=some (.int .i64 (n:Int)))
    (hH:H=w.heap.size) (hS:∀ k,S k→k < H) (hSq:¬ S q) (hq:q < w.heap.size)
    (hown:w1.ownsRow 0 195 1 (.slice (some ⟨g,0,none⟩) (n+1) cap) (n+1) (pv f n++[.pointer (some ⟨x.b,0,none⟩)])) (hgrow:w.grownBy w1 v.ownBlock) (hlies:v.ownBlock=some g∨g=H) :
    RowI S q g cap (n+1) (pushF f n x) (w1.setCell ⟨q,0,none⟩ (.slice (some ⟨g,0,none⟩) (n+1) cap))∧KeptS S w (w1.setCell ⟨q,0,none⟩ (.slice (some ⟨g,0,none⟩) (n+1) cap))∧QKeep q w (w1.setCell ⟨q,0,none⟩ (.slice (some ⟨g,0,none⟩) (n+1) cap)):=by
  obtain⟨o1,o2,o3,o4⟩:=own_cellsT hown
  have hvq:v.ownBlock≠some q:=by
    rcases h with ⟨-,rfl,-⟩ | ⟨B,c,rfl,hI⟩
    · exact fun e=>by cases e
    · exact fun e=>by injection e with e;exact hI.neq e
  have hvS:∀ k,S k→v.ownBlock≠some k:=by
    rcases h with ⟨-,rfl,-⟩ | ⟨B,c,rfl,hI⟩
    · exact fun k _ e=>by cases e
    · exact fun k hk e=>by injection e with e;exact hI.out (by have e':B=k:=e;rw [e'];exact hk)
  have hgq:g≠q:=by
    rcases hlies with e | e
    · exact fun e2=>hvq (by rw [e,e2])
    · omega
  have hgS:¬ S g:=by
    rcases hlies with e | e
    · exact fun hk=>hvS g hk e
    · exact fun hk=>by have:=hS g hk;omega
  have hgx:x.b≠g:=by
    rcases hlies with e | e
    · exact fun e2=>hx.neB (by rw [e,e2])
    · have:=lt_of_cell hx.id
      omega
  have hgf:∀ i,i < n→(f i).b≠g∧v.ownBlock≠some (f i).b∧(f i).b < w.heap.size:=fun i hi=>by
    rcases h with ⟨e0,-⟩ | ⟨B,c,rfl,hI⟩
    · omega
    · have ti:=hI.tim i hi
      have hl:=lt_of_cell ti.id
      refine⟨?_,fun e=>by injection e with e;exact ti.neB e.symm,hl⟩
      rcases hlies with e | e
      · injection e with e
        exact fun e2=>ti.neB (e2.trans e.symm)
      · omega
  have hfar:∀ k o,k≠q→k < w.heap.size→v.ownBlock≠some k→(w1.setCell ⟨q,0,none⟩ (.slice (some ⟨g,0,none⟩) (n+1) cap)).cell? ⟨k,o,none⟩=w.cell? ⟨k,o,none⟩∧(w1.setCell ⟨q,0,none⟩ (.slice (some ⟨g,0,none⟩) (n+1) cap)).frozen? ⟨k,o,none⟩=w.frozen? ⟨k,o,none⟩:=fun k o h1 h2 h3=>by
    refine⟨?_,?_⟩
    · rw [World.cell?_setCell_other _ _ _ _ (fun e=>by injection e with e _;exact h1 e.symm)]
      exact hgrow.cell_far ⟨k,o,none⟩ h2 (fun e=>h3 e.symm)
    · rw [World.frozen?_setCell]
      exact hgrow.frozen_far ⟨k,o,none⟩ h2 (fun e=>h3 e.symm)
  have hB:∀ o,(w1.setCell ⟨q,0,none⟩ (.slice (some ⟨g,0,none⟩) (n+1) cap)).cell? ⟨g,o,none⟩=w1.cell? ⟨g,o,none⟩:=fun o=>World.cell?_setCell_other _ _ _ _ (fun e=>by injection e with e _;exact hgq e.symm)
  have hq1:w1.cell? ⟨q,0,none⟩=some v:=(hgrow.cell_far ⟨q,0,none⟩ hq (fun e=>hvq e.symm)).trans h.cell
  refine⟨⟨World.cell?_setCell_same _ _ _ hq1,fun i hi=>?_,fun i j hi hj e=>?_,hgq,hgS,o4,o3.set _ _ _⟩,?_,?_⟩
  · by_cases e:i=n
    · subst e
      rw [pushF_at]
      have hl:=lt_of_cell hx.id
      have hv:=hx.neB
      have hc:=fun o=>(hfar x.b o hx.neq hl hv).1
      exact⟨(hB _).trans ((o1 i (by omega)).trans (by rw [List.getElem?_append_right (by rw [pv_len];omega),pv_len];simp)),by rw [World.frozen?_setCell];exact o2 _,(hc 0).trans hx.id,(hc 1).trans hx.t,(hc 2).trans hx.ev,(hc 3).trans hp,fun o=>(hfar x.b o hx.neq hl hv).2.trans (hx.fro o),hgx,hx.neq,hx.out⟩
    · have hi':i < n:=by omega
      rw [pushF_lt f x hi']
      obtain⟨g1,g2,g3⟩:=hgf i hi'
      rcases h with ⟨e0,-⟩ | ⟨B,c,rfl,hI⟩
      · omega
      · have ti:=hI.tim i hi'
        have hc:=fun o=>(hfar (f i).b o ti.neq g3 g2).1
        exact⟨(hB _).trans ((o1 i (by omega)).trans (by rw [List.getElem?_append_left (by rw [pv_len];omega),pv_at f hi'])),by rw [World.frozen?_setCell];exact o2 _,(hc 0).trans ti.id,(hc 1).trans ti.t,(hc 2).trans ti.ev,(hc 3).trans ti.place,fun o=>(hfar (f i).b o ti.neq g3 g2).2.trans (ti.fro o),g1,ti.neq,ti.out⟩
  · by_cases ei:i=n
    · by_cases ej:j=n
      · omega
      · rw [ei,pushF_at,pushF_lt f x (by omega)] at e
        exact absurd e (hx.apart j (by omega))
    · by_cases ej:j=n
      · rw [ej,pushF_at,pushF_lt f x (by omega)] at e
        exact absurd e.symm (hx.apart i (by omega))
      · rw [pushF_lt f x (by omega),pushF_lt f x (by omega)] at e
        rcases h with ⟨e0,-⟩ | ⟨B,c,rfl,hI⟩
        · omega
        · exact hI.inj i j (by omega) (by omega) e
  · refine KeptS.set ⟨hgrow.os,hgrow.tape,hgrow.output,hgrow.size,fun k hk=>hgrow.block k (by have:=hS k hk;omega) (fun e=>hvS k hk e.symm)⟩ hSq _ _
  · exact QKeep.trans ⟨fun o _=>hgrow.cell_far ⟨q,o,none⟩ hq (fun e=>hvq e.symm),fun o=>hgrow.frozen_far ⟨q,o,none⟩ hq (fun e=>hvq e.symm)⟩ (QKeep.set0 q w1 _)
end Go.Proofs.YtaiepcgfofpmjaaGreat
