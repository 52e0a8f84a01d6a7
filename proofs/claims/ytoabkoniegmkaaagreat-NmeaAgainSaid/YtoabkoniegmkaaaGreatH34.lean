/- Layer 27: mode, kind; the ids, and none behind them, as an iterator. -/
import Derived.Test.YtoabkoniegmkaaaGreatH33
import Derived.RangeFuncNested
import Derived.RangeFuncBound
import Derived.RangeFuncCalls
import Derived.RangeFuncLeaves
import Derived.Shelf.Abstract
import Derived.Shelf.RegionOpen
import Derived.OwnWalkIn
import Derived.TacticsInMore
import Derived.LoopNIn
import Derived.LoopIn
namespace Go.Proofs.YtoabkoniegmkaaaGreat
set_option linter.unusedVariables false
open Go.RowKit Go.Shelf
attribute [local go_sem] Oper.semAt_some
theorem PenI.wide {S:Nat→Prop} {g:Nat} {s:Rd} {w:World} (h:PenI S g s w):∃ S':Nat→Prop,(∀ k,S k→S' k)∧PenI S' g s w∧∀ (k:Nat) (o:Obj),w.heap[k]?=some o→o.isCells=false→S' k∧k≠g:=by
  obtain⟨v,h1,h3,h4⟩:=h
  refine⟨fun k=>k < w.heap.size∧v.ownBlock≠some k,fun k hk=>⟨h3 k hk,fun q=>h4 k q hk⟩,⟨v,h1,fun k hk=>hk.1,fun k hk q=>q.2 hk⟩,fun k o ho hc=>?_⟩
  obtain⟨p0,p1,p2,p3,p4,p5⟩:=h1
  obtain⟨og,ho',hcg⟩:=cells_of_cell p0
  refine⟨⟨(Array.getElem?_eq_some_iff.1 ho).1,fun q=>?_⟩,fun q=>?_⟩
  · rcases p5.2 with hn | ⟨b,cap,cur,rfl,hb,hg,-⟩
    · rw [hn.1] at q;simp [Value.ownBlock] at q
    · simp only [Value.ownBlock,Option.some.injEq] at q
      subst q
      rw [hg] at ho;cases ho;simp [Obj.isCells] at hc
  · subst q
    rw [show w.heap[k]?=some og from ho'] at ho;cases ho;rw [hcg] at hc;cases hc
theorem PenI.grown {S:Nat→Prop} {g:Nat} {s:Rd} {w w':World} {row:Option Nat} (h:PenI S g s w) (hg:w.grownBy w' row) (hr:∀ r,row=some r→∃ o:Obj,w.heap[r]?=some o∧o.isCells=false):PenI S g s w':=by
  obtain⟨v,⟨p0,p1,p2,p3,p4,p5⟩,h3,h4⟩:=h
  refine⟨v,⟨cell_kept p0 hg hr,cell_kept p1 hg hr,cell_kept p2 hg hr,fun o=>?_,Nat.lt_of_lt_of_le p4 hg.size,p5.kept hg ?_⟩,fun k hk=>Nat.lt_of_lt_of_le (h3 k hk) hg.size,h4⟩
  · obtain⟨og,ho',hcg⟩:=cells_of_cell p0
    exact (World.frozen?_of_block (a:=⟨g,o,none⟩) (grownBy_keeps_cells hg hr ho' hcg)).trans (p3 o)
  · rcases p5.2 with hn | ⟨b,cap,cur,rfl,hb,hgb,-⟩
    · rw [hn.1];exact .inl rfl
    · refine .inr (fun q=>?_)
      obtain⟨o,ho,hc⟩:=hr b q.symm
      rw [hgb] at ho;cases ho;simp [Obj.isCells] at hc
theorem Kept.grown {S:Nat→Prop} {g:Nat} {w0 w w':World} {row:Option Nat} (h:Kept S g w0 w) (hg:w.grownBy w' row) (hr:∀ r,row=some r→¬ S r) (hb:∀ k,S k→k < w.heap.size):Kept S g w0 w':=
  ⟨hg.os.trans h.os,hg.tape.trans h.tape,hg.output.trans h.output,Nat.le_trans h.size hg.size,fun k hk hne=>(hg.block k (hb k hk) (fun q=>hr k q.symm hk)).trans (h.block k hk hne)⟩
theorem Kept.putObj {S:Nat→Prop} {g B:Nat} (hb:∀ k,S k→k < B) (W:World) (l:Nat) (o o':Obj) (hl:B≤l) (_:W.heap[l]?=some o) (_:o.isCells=false) (_:o.isWalk=false):Kept S g W (W.putObj l o'):=
  ⟨rfl,rfl,rfl,by simp,fun k hk _=>World.putObj_heap_other (fun q=>by have:=hb k hk;omega)⟩
theorem Kept.keepsFrom {S:Nat→Prop} {g B:Nat} {w w':World} (h:Kept S g w w') (hs:∀ (k:Nat) (o:Obj),w.heap[k]?=some o→o.isCells=false→S k∧k≠g):KeepsFrom B w w':=
  ⟨h.size,fun k o _ ho hc=>(h.block k (hs k o ho hc).1 (hs k o ho hc).2).trans ho⟩
theorem gsamode_any (a:Bool) (w:World):Calls Tryz.prog 272 #[.bool a] w fun e w'=>e=.returned (.string (modeT a))∧Below w.heap.size w w':=by
  cases a
  · go_enter Tryz.func272,Tryz.ntmps272
    go_wp2
    go_ret
    exact⟨rfl,Below.refl _ _⟩
  · go_enter Tryz.func272,Tryz.ntmps272
    go_wp2
    go_ret
    exact⟨rfl,Below.refl _ _⟩
theorem gsakind_any (n:Int) (w:World):Calls Tryz.prog 273 #[.int .i64 n] w fun e w'=>e=.returned (.tuple #[.string (digS 1 3 n),.int .i64 (digE 1 3 n)])∧Below w.heap.size w w':=by
  by_cases h1:n < 1
  · have e1:digS 1 3 n=ByteArray.empty:=if_pos (.inl h1)
    have e2:digE 1 3 n=5:=if_pos (.inl h1)
    rw [e1,e2]
    clear e1 e2
    go_enter Tryz.func273,Tryz.ntmps273
    go_wp2
    go_ret2
    exact⟨rfl,Below.refl _ _⟩
  by_cases h2:3 < n
  · have e1:digS 1 3 n=ByteArray.empty:=if_pos (.inr h2)
    have e2:digE 1 3 n=5:=if_pos (.inr h2)
    rw [e1,e2]
    clear e1 e2
    go_enter Tryz.func273,Tryz.ntmps273
    go_wp2
    go_ret2
    exact⟨rfl,Below.refl _ _⟩
  · have e1:digS 1 3 n=digT n:=if_neg (by omega)
    have e2:digE 1 3 n=0:=if_neg (by omega)
    rw [e1,e2]
    clear e1 e2
    have i1:1≤n:=by omega
    have i2:n≤3:=by omega
    have kc:=run_conv1 (P:=Tryz.prog) 141 9 5 Tryz.underlying141 Tryz.underlying5 Tryz.underlying9
    clear h1 h2
    go_enter Tryz.func273,Tryz.ntmps273
    go_wp2
    all_goals go_ret2
    all_goals exact⟨rfl,below_new _ _⟩
theorem gsatwelve_any (A:Option Addr) (n c:Nat) (w:World):Calls Tryz.prog 274 #[.slice A n c] w fun e w'=>e=.returned (.func (.func 275) #[] #[.pointer (some ⟨w.heap.size,0,none⟩)])∧w'=w.alloc (.cells #[.slice A n c] 37):=by
  go_enter Tryz.func274,Tryz.ntmps274
  go_wp2
  go_ret
  exact⟨rfl,rfl⟩
set_option maxRecDepth 100000 in
set_option maxHeartbeats 2000000 in
theorem twelve1_in (m l bx g B:Nat) (hm:1≤m) (S:Nat→Prop) (A:Option Addr) (n c:Nat) (L:List Int) (hn:Hid (L.length=n)) (h12:n≤12) (J Jx:List (Bool×Int)→World→Prop) (hJ:∀ pre W o,J pre W→J pre (W.alloc o))
    (hY:∀ pre x W,J pre W→pre.length < 12→YieldAt Fence.wide (m - 1) Tryz.prog l #[numV x.1 x.2] W fun e W'=>
      (e=.returned (.bool true)∧J (pre++[x]) W'∧Kept S g W W')∨(e=.returned (.bool false)∧Jx (pre++[x]) W'))
    (W:World) (hbx:W.cell? ⟨bx,0,none⟩=some (.slice A n c)) (hsx:Hid (S bx∧bx≠g)) (hS:∀ k,S k→k < B) (hB:B≤W.heap.size) (hA:Hid (∀ k (hk:k < L.length),∃ b off,A=some ⟨b,off,none⟩∧S b∧b≠g∧W.cell? ⟨b,off+k,none⟩=some (.int .i64 L[k]))) (h0:J [] W) :
    CallsIn Fence.wide m Tryz.prog 275 #[.func (.yield l) #[] #[],.pointer (some ⟨bx,0,none⟩)] W fun e W'=>(∃ v,e=.returned v) ∧
      ((∃ ys,ys=nums12 L∧J ys W')∨(∃ pre,True∧Jx pre W')):=by
  have HJ:=Lib.hid hJ
  have HY:=Lib.hid hY
  have HS:=Lib.hid hS
  have HBX:=Lib.hid hbx
  have HB:=Lib.hid hB
  clear hJ hY hbx hS hB
  have HL12:Hid ((nums12 L).length=12):=nums12_len L (by rw [hn.out];exact h12)
  refine callsIn_of_wp Tryz.func275 rfl trivial ?_ rfl
  simp only [Tryz.ntmps275,List.size_toArray,List.length_cons,List.length_nil,Nat.reduceAdd,Nat.reduceSub,Array.replicate_succ,Array.replicate_zero,List.push_toArray,List.append_toArray,List.nil_append,List.cons_append]
  gi_wp2
  gi_loopw [5] (fun i wr=>∃ k:Nat,k≤12∧i=.int .i64 k∧Hid (J ((nums12 L).take k) wr∧Kept S g W wr)) (fun i _=>12 - (intOf i).toNat)
  case atStart=>exact⟨0,Nat.zero_le _,rfl,h0,Kept.refl _ _ _⟩
  case round=>
    obtain⟨k,hk,rfl,hI⟩:=hrel
    have cbx:=(hI.out.2.cell (o:=0) hsx.out.1 hsx.out.2).trans HBX.out
    by_cases hlt:k < 12
    · have hnl:k < (nums12 L).length:=by rw [HL12.out];exact hlt
      have hat:=nums12_at L k (by rw [hn.out];exact h12) hnl
      have htk:(nums12 L).take (k+1)=(nums12 L).take k++[(nums12 L)[k]]:=List.take_succ_eq_append_getElem hnl
      have HTK:=Lib.hid htk
      clear htk
      have i1:(k:Int) < 12:=by omega
      have hbw:bx < wr.heap.size:=by have:=HS.out _ hsx.out.1;have:=HB.out;have:=hI.out.2.size;omega
      by_cases hkn:k < n
      · have hkl:k < L.length:=by rw [hn.out];exact hkn
        obtain⟨b,off,hAb,hb1,hb2,hc⟩:=hA.out k hkl
        subst hAb
        rw [dif_pos hkl] at hat
        rw [hat] at HTK
        clear hat
        generalize L[k]=v at *
        have hc1:=(hI.out.2.cell (b:=b) (o:=off+k) hb1 hb2).trans hc
        have i3:(k:Int) < (n:Int):=by omega
        have hbb:b < wr.heap.size:=by have:=HS.out _ hb1;have:=HB.out;have:=hI.out.2.size;omega
        obtain⟨fn,tmps,assign,body,hy,hR⟩:=HY.out _ (true,v) _ (HJ.out _ wr (.cells #[.bool true,.int .i64 v] 30) hI.out.1) (by rw [List.length_take,HL12.out];omega)
        dsimp only at hy
        have HR:=Lib.hid hR
        clear hR hc
        gi_wp2
        refine HR.out.mono ?_
        rintro e W3 (⟨rfl,hJ3,hk3⟩ | ⟨rfl,hJx3⟩)
        · have HI3:Hid (J ((nums12 L).take (k+1)) W3∧Kept S g W W3):=⟨by rw [HTK.out];exact hJ3,(hI.out.2.trans (Kept.of_below (below_new wr _) (fun q hq=>Nat.lt_of_lt_of_le (Nat.lt_of_lt_of_le (HS.out q hq) HB.out) hI.out.2.size))).trans hk3⟩
          clear hJ3 hk3 hI
          gi_wp2
          go_roundw
          case rel=>exact⟨k+1,by omega,by simp,HI3⟩
          case measure=>simp [intOf];omega
        · have HI3:=Lib.hid hJx3
          clear hJx3 hI
          gi_wp2
          refine bodyPost_ret (results_none rfl _ _ _) rfl ?_
          exact⟨⟨_,rfl⟩,.inr ⟨_,trivial,HI3.out⟩⟩
      · have hkl:¬ k < L.length:=by rw [hn.out];exact hkn
        rw [dif_neg hkl] at hat
        rw [hat] at HTK
        clear hat
        have i3:(n:Int)≤(k:Int):=by omega
        obtain⟨fn,tmps,assign,body,hy,hR⟩:=HY.out _ (false,0) _ (HJ.out _ wr (.cells #[.bool false,.int .i64 0] 30) hI.out.1) (by rw [List.length_take,HL12.out];omega)
        dsimp only at hy
        have HR:=Lib.hid hR
        clear hR
        gi_wp2
        refine HR.out.mono ?_
        rintro e W3 (⟨rfl,hJ3,hk3⟩ | ⟨rfl,hJx3⟩)
        · have HI3:Hid (J ((nums12 L).take (k+1)) W3∧Kept S g W W3):=⟨by rw [HTK.out];exact hJ3,(hI.out.2.trans (Kept.of_below (below_new wr _) (fun q hq=>Nat.lt_of_lt_of_le (Nat.lt_of_lt_of_le (HS.out q hq) HB.out) hI.out.2.size))).trans hk3⟩
          clear hJ3 hk3 hI
          gi_wp2
          go_roundw
          case rel=>exact⟨k+1,by omega,by simp,HI3⟩
          case measure=>simp [intOf];omega
        · have HI3:=Lib.hid hJx3
          clear hJx3 hI
          gi_wp2
          refine bodyPost_ret (results_none rfl _ _ _) rfl ?_
          exact⟨⟨_,rfl⟩,.inr ⟨_,trivial,HI3.out⟩⟩
    · obtain rfl:k=12:=by omega
      have hall:(nums12 L).take 12=nums12 L:=List.take_of_length_le (by rw [HL12.out];omega)
      have HI3:Hid (J (nums12 L) wr):=by have:=hI.out.1;rw [hall] at this;exact this
      clear hI hall
      gi_wp2
      go_end0
      exact⟨⟨_,rfl⟩,.inl ⟨_,rfl,HI3.out⟩⟩
theorem twelve_stops (m bx g:Nat) (hm:1≤m) (S:Nat→Prop) (A:Option Addr) (n c:Nat) (L:List Int) (hn:Hid (L.length=n)) (h12:n≤12) (w:World) (hbx:w.cell? ⟨bx,0,none⟩=some (.slice A n c)) (hsx:Hid (S bx∧bx≠g)) (hS:∀ k,S k→k < w.heap.size) (hA:Hid (∀ k (hk:k < L.length),∃ b off,A=some ⟨b,off,none⟩∧S b∧b≠g∧w.cell? ⟨b,off+k,none⟩=some (.int .i64 L[k]))) :
    SeqStopsK Fence.wide m Tryz.prog 275 #[.pointer (some ⟨bx,0,none⟩)] (fun x:Bool×Int=>#[numV x.1 x.2]) (Kept S g) (fun ys=>ys=nums12 L) (fun _=>True) 12 w:=fun l J Jx W hW hJ _ hY h0=>
  twelve1_in m l bx g w.heap.size hm S A n c L hn h12 J Jx (fun pre X o h=>hJ pre X _ none h (World.grownBy_alloc X o none) (fun r e=>by cases e)) hY W ((hW.cell (p:=⟨bx,0,none⟩) (hS _ hsx.out.1)).trans hbx) hsx hS hW.size
    (fun k hk=>by obtain⟨b,off,h1,h2,h3,h4⟩:=hA.out k hk;exact⟨b,off,h1,h2,h3,(hW.cell (p:=⟨b,off+k,none⟩) (hS _ h2)).trans h4⟩) h0
end Go.Proofs.YtoabkoniegmkaaaGreat
