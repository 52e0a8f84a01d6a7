/- Layer 45: a text's steps, of the program (the walk). -/
import Derived.Test.YtaiepcgfofpmjaaGreatS21
namespace Go.Proofs.YtaiepcgfofpmjaaGreat
set_option linter.unusedVariables false
open Go.RowKit Go.Shelf
attribute [local go_sem] Oper.semAt_some
section
variable {P : Program} {n : Nat} {r : Option Nat} {ops : Array Oper} {Q : Exit → Act → World → Prop} {a : Act} {w W : World}
theorem wpListIn_append_known {rest:List Oper} {o:Oper} (hgd:o.guard=none) (s x:Operand) (t:TypeId)
    (ho:o.op=.call { callee:=.builtin .append,args:=#[s,x],argTypes:=#[t,t] }) (v u z:Value) (hs:a.eval s=v) (hx:a.eval x=u)
    (hr:(Builtin.append_ #[t,t] o.type #[v,u]).run P w=.ok z W) (h:wpListIn (fen r) n P ops Q rest (a.put o.dst z) W):wpListIn (fen r) n P ops Q (o :: rest) a w:=
  wpListIn_exec hgd (by rw [ho];simp) (by unfold execOp;simp only [ho,resolve,invoke,builtin,Sem.run_bind,Sem.run_pure,Result.andThen_ok,List.map_toArray,List.map_cons,List.map_nil,hs,hx,hr]) h
end
set_option maxRecDepth 8000 in
set_option maxHeartbeats 4000000 in
theorem scrRead_any (s:ByteArray) (w:World) (hs:s.size≤100000000):Calls Tryz.prog 22 #[.string s] w (ReadOut s.data.toList w):=by
  have hsl:s.data.toList.length≤100000000:=by simp;omega
  have HML:Hid (∀ l∈splitB 10 s.data.toList,l.length≤100000000):=fun l hl=>by
    have:=split_part 10 s.data.toList l hl
    omega
  have HWL:=Lib.hid (split_len 10 s.data.toList)
  have HSL:=Lib.hid hsl
  have HZ:=fun W=>Lib.hid (zero_Stp W)
  clear hsl
  unfold ReadOut
  refine calls_of_markS Tryz.func22 rfl ?_
  simp only [Tryz.ntmps22,List.size_toArray,List.length_cons,List.length_nil,Nat.reduceAdd,Nat.reduceSub,Array.replicate_succ,Array.replicate_zero,List.push_toArray,List.append_toArray,List.nil_append,List.cons_append]
  go_wp2_with fail
  refine (scrPieces_any s _ _).mono ?_
  rintro e w1 ⟨rfl,rfl⟩
  go_wp2_with fail
  obtain⟨W5,hW5⟩:∃ W5,((((((w.alloc (.cells #[.slice none 0 0] 32)).alloc (.cells #[.int .i64 0] 3)).alloc (.cells #[.int .i64 0] 76)).alloc (.cells #[.slice none 0 0] 32)).alloc (.cells #[.int .i64 0] 3)).alloc (.cells #[.string s] 9)).alloc (.cells #[.int .u8 10] 5)=W5:=⟨_,rfl⟩
  have hz5:W5.heap.size=w.heap.size+7:=by rw [← hW5];simp
  have hI0:RdY w 0 (.slice none 0 0) [] W5:=by
    rw [← hW5]
    have al:∀ (W:World) (o:Obj) (k:Nat) (p:Obj),W.heap[k]?=some p→(W.alloc o).heap[k]?=some p:=fun W o k p h=>(Below.heap_alloc _ _ _ (Array.getElem?_eq_some_iff.1 h).1).trans h
    have an:∀ (W:World) (o:Obj) (k:Nat),k=W.heap.size→(W.alloc o).heap[k]?=some o:=fun W o k h=>by rw [h];exact World.alloc_heap_new W o
    refine⟨⟨[],World.ownsRow_nil _ _ _ _,StpsM.nil _ _⟩,?_,?_,?_,?_,?_,bthen (bthen (bthen (bthen (bthen (bthen (below_new _ _) (below_new _ _)) (below_new _ _)) (below_new _ _)) (below_new _ _)) (below_new _ _)) (below_new _ _),by simp⟩
    · exact al _ _ _ _ (al _ _ _ _ (al _ _ _ _ (al _ _ _ _ (al _ _ _ _ (al _ _ _ _ (an _ _ _ rfl))))))
    · exact al _ _ _ _ (al _ _ _ _ (al _ _ _ _ (al _ _ _ _ (al _ _ _ _ (an _ _ _ (by simp))))))
    · exact al _ _ _ _ (al _ _ _ _ (al _ _ _ _ (al _ _ _ _ (an _ _ _ (by simp)))))
    · exact al _ _ _ _ (al _ _ _ _ (al _ _ _ _ (an _ _ _ (by simp))))
    · exact al _ _ _ _ (al _ _ _ _ (an _ _ _ (by simp)))
  have hbs:W5.cell? ⟨w.heap.size+1+1+1+1+1,0,none⟩=some (.string s):=by
    rw [← hW5,World.cell?_alloc_past _ _ _ (by simp only [World.size_alloc];omega),World.cell?_alloc_at _ _ _ _ (by simp)];rfl
  have hbf:W5.frozen? ⟨w.heap.size+1+1+1+1+1,0,none⟩=false:=by
    rw [← hW5]
    simp only [frozen?_alloc_cells]
    simp [World.frozen?,Array.getElem?_eq_none (show w.heap.size≤w.heap.size+1+1+1+1+1 by omega)]
  have hcs:W5.cell? ⟨w.heap.size+1+1+1+1+1+1,0,none⟩=some (.int .u8 ((10:UInt8).toNat:Int)):=by
    rw [← hW5,World.cell?_alloc_at _ _ _ _ (by simp)];rfl
  rw [hW5]
  clear hW5
  obtain⟨ws,hws⟩:∃ ws,splitB 10 s.data.toList=ws:=⟨_,rfl⟩
  have hps:=pieces_stops 7 (w.heap.size+1+1+1+1+1) (w.heap.size+1+1+1+1+1+1) (by omega) s 10 hs W5 hbs hbf hcs (by omega) (by omega) (by omega)
  rw [hws] at hps HML HWL
  have HWS:=Lib.hid hws
  clear hws
  refine (wpIn_wide (n:=8)).1 ?_
  refine wpIn_rangeBoxN (by omega) (gf:=93) (lb:=#[.pointer (some ⟨w.heap.size+1+1+1+1+1,0,none⟩),.pointer (some ⟨w.heap.size+1+1+1+1+1+1,0,none⟩)]) rfl (enters_of Tryz.func93 (by kernel_rfl) rfl) (bx:=w.heap.size+1+1+1+1+1) (by omega) (N:=fun k=>k=w.heap.size+1+1+1+1+1∨k=w.heap.size+1+1+1+1+1+1) (fun k q=>by omega)
    hps (fun _=>rfl)
    (fun pre W=>∃ v ss,RdY w (pre.length:Int) v ss W∧readW 0 ws []=readW pre.length (ws.drop pre.length) ss∧ss.length≤pre.length) (fun _ pre W=>(readW 0 ws []).1=none∧(readW 0 ws []).2=pre.length∧RdX w (pre.length:Int) W) ?own ?ownx ?box ⟨_,[],hI0,rfl,Nat.le_refl _⟩
    (fun T x=>(T.setIfInBounds 12 (.string x)).setIfInBounds 7 (.string x)) ?assign ?body ?done ?stop
  case own=>
    rintro pre W W' row ⟨v,ss,h,h2,h3⟩ hg hr
    refine⟨v,ss,h.grown hg fun k q=>⟨by have:=(hr k q).1;omega,.inl ?_⟩,h2,h3⟩
    obtain⟨-,o,ho,hc⟩:=hr k q
    rw [ho]
    exact congrArg some hc
  case ownx=>
    rintro c pre W W' row ⟨h1,h2,h⟩ hg hr
    exact⟨h1,h2,h.grown hg fun k q=>by have:=(hr k q).1;omega⟩
  case box=>
    rintro pre W W' ⟨v,ss,h,h2,h3⟩ hg
    exact⟨v,ss,h.grown hg fun k q=>by cases q;exact⟨by omega,.inr (by omega)⟩,h2,h3⟩
  case assign=>
    intro l x W K hK
    gi_wp2
    exact hK
  case body=>
    rintro l pre x W ⟨v,ss,hI,hS,hsl⟩ ⟨rest,hrest⟩
    simp only [List.setIfInBounds_toArray,List.set_cons_zero,List.set_cons_succ]
    have hkl:pre.length < ws.length:=by
      rw [← hrest,List.length_map,List.length_append,List.length_cons];omega
    have hxk:ws[pre.length]=x.data.toList:=by
      have:ws[pre.length]?=some x.data.toList:=by rw [← hrest,List.getElem?_map,List.getElem?_append_right (Nat.le_refl _)];simp
      rw [List.getElem?_eq_getElem hkl] at this
      injection this
    obtain⟨h1,h2,h3⟩:=read_step hkl hS
    rw [hxk] at h1 h2 h3
    have H1:=Lib.hid h1
    have H2:=Lib.hid h2
    have H3:=Lib.hid h3
    have hxl:=HML.out _ (List.getElem_mem hkl)
    rw [hxk] at hxl
    have HLN:=fun W=>Lib.hid (scrLine_any x W (by simpa using hxl))
    have hem:x.toList.isEmpty=decide (x.data.toList=[]):=by rw [txt_eq];cases x.data.toList <;> rfl
    obtain⟨c4,f4⟩:=one_at hI.h4
    have HI1:=Lib.hid (hI.count ((pre.length:Int)+1))
    have HI:=Lib.hid hI
    have hi64:IntKind.i64.wrap ((pre.length:Int)+1)=(pre.length:Int)+1:=by rw [IntKind.wrap_i64];have:=HWL.out;have:=HSL.out;omega
    have HRR:=Lib.hid hrest
    have HKL:=Lib.hid hkl
    have hnl:pre.length≤100000001:=by have:=HWL.out;have:=HSL.out;omega
    clear h1 h2 h3 hS hI hI0 hbs hbf hcs hrest hxk hxl hkl hps
    by_cases h0:x.data.toList=[]
    · have HN:=Lib.hid (H1.out h0)
      rw [decide_eq_true h0] at hem
      clear h0
      gi_wp2
      refine⟨(KeepsOthers.setCell _ _ _).from _,fun k q=>Below.heap_setCell _ _ _ _ (by show k≠w.heap.size+1+1+1+1;omega),v,ss,?_,?_,?_⟩
      · rw [List.length_append];exact HI1.out
      · rw [List.length_append];exact HN.out
      · rw [List.length_append];omega
    · rw [decide_eq_false h0] at hem
      have HX0:=Lib.hid h0
      clear h0
      gi_wp2
      refine⟨trivial,callsIn_wide.2 ((HLN _).out.mono ?_)⟩
      rintro e w3 ⟨hor,hb⟩
      have HK1:Hid (KeepsFrom (w.heap.size+7) W (W.setCell ⟨w.heap.size+1+1+1+1,0,none⟩ (.int .i64 ((pre.length:Int)+1)))):=Lib.hid ((KeepsOthers.setCell _ _ _).from _)
      have HB1:Hid (∀ k,k≠w.heap.size+4→(W.setCell ⟨w.heap.size+1+1+1+1,0,none⟩ (.int .i64 ((pre.length:Int)+1))).heap[k]?=W.heap[k]?):=Lib.hid fun k q=>Below.heap_setCell _ _ _ _ q
      have HI1:Hid (RdY w ((pre.length:Int)+1) v ss (W.setCell ⟨w.heap.size+1+1+1+1,0,none⟩ (.int .i64 ((pre.length:Int)+1)))):=HI1
      generalize W.setCell ⟨w.heap.size+1+1+1+1,0,none⟩ (.int .i64 ((pre.length:Int)+1))=W1 at *
      have HI3:=Lib.hid (HI1.out.on hb)
      have HK3:Hid (KeepsFrom (w.heap.size+7) W w3):=Lib.hid (HK1.out.trans ⟨hb.size,fun k o _ q _=>(hb.block k (Array.getElem?_eq_some_iff.1 q).1).trans q⟩)
      have HB3:Hid (∀ k,k≠w.heap.size+4→k < w.heap.size+7→w3.heap[k]?=W.heap[k]?):=Lib.hid fun k q z=>(hb.block k (by have:=HI1.out.size;omega)).trans (HB1.out k q)
      rcases hor with ⟨ho,rfl⟩ | ⟨sx,C,ho,rfl,hst⟩
      · have HN:=Lib.hid (H2.out HX0.out ho)
        clear ho hb c4 f4 hem hi64
        gi_wp2
        have HI4:=Lib.hid (HI3.out.on (below_new w3 (.cells #[.int .i64 0,.slice none 0 0,.int .i64 0,.int .i64 0,.slice none 0 0,.int .i64 0,.slice none 0 0] 30)))
        have HG4:=Lib.hid (below_new w3 (.cells #[.int .i64 0,.slice none 0 0,.int .i64 0,.int .i64 0,.slice none 0 0,.int .i64 0,.slice none 0 0] 30))
        generalize w3.alloc (.cells #[.int .i64 0,.slice none 0 0,.int .i64 0,.int .i64 0,.slice none 0 0,.int .i64 0,.slice none 0 0] 30)=W4 at *
        refine wpIn_regionD (r:=some l) (S:=fun w'=>w'.heap[w.heap.size+4]?=W4.heap[w.heap.size+4]?) (fun ⟨_,_,h⟩=>h) (by simp) (by kernel_rfl) rfl (fun hHeld0=>?_)
        refine wpAnyH_take (i:=0) (oi:=⟨some 24,_,_,_,_,_⟩) (v:=?_) rfl (by kernel_rfl) (by kernel_rfl) (by kernel_rfl) (fun _ _ _ h=>h) (Or.inl ⟨by rfl,?_⟩) (by assumption) ?_
        rotate_left
        · intro w' hSw
          have c4:=(one_at (hSw.trans HI4.out.h4)).1
          go_simp
          try with_reducible rfl
        try go_frame
        refine wpAnyH_take (i:=1) (oi:=⟨some 25,_,_,_,_,_⟩) (v:=?_) rfl (by kernel_rfl) (by kernel_rfl) (by kernel_rfl) (fun _ _ _ h=>h) (Or.inl ⟨by rfl,?_⟩) (by assumption) ?_
        rotate_left
        · intro w' hSw
          go_simp
          try with_reducible rfl
        try go_frame
        refine wpAnyH_ready (rs:=[2]) (by kernel_rfl) (by simp) ?_
        refine AllReadyH.cons (o:=⟨none,_,_,_,_,_⟩) rfl (fun K hK=>?_) AllReadyH.nil
        rw [if_pos (by rfl)]
        refine wp_store_one 32 _ _ rfl (w.heap.size) 0 (.slice none 0 0) rfl rfl (there_one (show W4.drew.heap[w.heap.size]?=_ from HI4.out.h0)) (by kernel_rfl) rfl rfl ?_
        intro Wa hs
        have HA0:=Lib.hid (stored_cell hs)
        have HA1:Hid (Wa.heap[w.heap.size+1]?=some (.cells #[.int .i64 0] 3 (0,0))):=Lib.hid ((hs.far _ (by omega)).trans HI4.out.h1)
        have HA2:Hid (Wa.heap[w.heap.size+2]?=some (.cells #[.int .i64 0] 76 (0,0))):=Lib.hid ((hs.far _ (by omega)).trans HI4.out.h2)
        have HAB:Hid (Below w.heap.size W4 Wa):=Lib.hid (Stored.drew hs |>.below (Nat.le_refl _))
        have HAF:Hid (∀ k,k≠w.heap.size→Wa.heap[k]?=W4.heap[k]?):=Lib.hid fun k q=>hs.far k q
        have HAZ:Hid (Wa.heap.size=W4.heap.size):=Lib.hid hs.sz
        have HS2:Hid (Wa.heap[w.heap.size+4]?=W4.heap[w.heap.size+4]?):=Lib.hid ((hs.far _ (by omega)).trans rfl)
        clear hs
        refine hK.out _ _ HS2.out (fun hHeld=>?_)
        clear hK K
        try go_frame
        refine wpAnyH_ready (rs:=[3]) (by kernel_rfl) (by simp) ?_
        refine AllReadyH.cons (o:=⟨none,_,_,_,_,_⟩) rfl (fun K hK=>?_) AllReadyH.nil
        rw [if_pos (by rfl)]
        refine wp_store_one 3 _ _ rfl (w.heap.size+1) 0 (.int .i64 ((pre.length:Int)+1)) rfl rfl (there_one HA1.out) (by kernel_rfl) rfl rfl ?_
        intro Wb hs
        have HB0:Hid (Wb.cell? ⟨w.heap.size,0,none⟩=some (.slice none 0 0)):=Lib.hid ((World.cell?_of_block (a:=⟨w.heap.size,0,none⟩) (hs.far _ (by dsimp only;omega))).trans HA0.out)
        have HB1:=Lib.hid (stored_cell hs)
        have HB2:Hid (Wb.heap[w.heap.size+2]?=some (.cells #[.int .i64 0] 76 (0,0))):=Lib.hid ((hs.far _ (by omega)).trans HA2.out)
        have HBB:Hid (Below w.heap.size W4 Wb):=Lib.hid (HAB.out.trans (hs.below (by omega)))
        have HBF:Hid (∀ k,k≠w.heap.size→k≠w.heap.size+1→Wb.heap[k]?=W4.heap[k]?):=Lib.hid fun k q z=>(hs.far k z).trans (HAF.out k q)
        have HBZ:Hid (Wb.heap.size=W4.heap.size):=Lib.hid (hs.sz.trans HAZ.out)
        have HS3:Hid (Wb.heap[w.heap.size+4]?=W4.heap[w.heap.size+4]?):=Lib.hid ((hs.far _ (by omega)).trans HS2.out)
        clear hs
        refine hK.out _ _ HS3.out (fun hHeld=>?_)
        clear hK K
        try go_frame
        refine wpAnyH_ready (rs:=[4]) (by kernel_rfl) (by simp) ?_
        refine AllReadyH.cons (o:=⟨none,_,_,_,_,_⟩) rfl (fun K hK=>?_) AllReadyH.nil
        rw [if_pos (by rfl)]
        refine wp_store_one 76 _ _ rfl (w.heap.size+2) 0 (.int .i64 3) rfl rfl (there_one HB2.out) (by kernel_rfl) rfl rfl ?_
        intro Wc hs
        have HC0:Hid (Wc.cell? ⟨w.heap.size,0,none⟩=some (.slice none 0 0)):=Lib.hid ((World.cell?_of_block (a:=⟨w.heap.size,0,none⟩) (hs.far _ (by dsimp only;omega))).trans HB0.out)
        have HC1:Hid (Wc.cell? ⟨w.heap.size+1,0,none⟩=some (.int .i64 ((pre.length:Int)+1))):=Lib.hid ((World.cell?_of_block (a:=⟨w.heap.size+1,0,none⟩) (hs.far _ (by dsimp only;omega))).trans HB1.out)
        have HC2:=Lib.hid (stored_cell hs)
        have HCB:Hid (Below w.heap.size W4 Wc):=Lib.hid (HBB.out.trans (hs.below (by omega)))
        have HCF:Hid (∀ k,k≠w.heap.size→k≠w.heap.size+1→k≠w.heap.size+2→Wc.heap[k]?=W4.heap[k]?):=Lib.hid fun k q z y=>(hs.far k y).trans (HBF.out k q z)
        have HCZ:Hid (Wc.heap.size=W4.heap.size):=Lib.hid (hs.sz.trans HBZ.out)
        have HS4:Hid (Wc.heap[w.heap.size+4]?=W4.heap[w.heap.size+4]?):=Lib.hid ((hs.far _ (by omega)).trans HS3.out)
        clear hs
        refine hK.out _ _ HS4.out (fun hHeld=>?_)
        clear hK K
        try go_frame
        refine wpAnyH_done (by kernel_rfl) ?_ _
        try go_frame
        gi_wp2
        refine⟨?_,by rw [HN.out],by rw [HN.out,List.length_append];rfl,⟨HC0.out,?_,HC2.out,HI4.out.bel.trans HCB.out⟩⟩
        · rw [hz5]
          exact HK3.out.trans ⟨by rw [HCZ.out];exact HG4.out.size,fun k o q z _=>((HCF.out k (by omega) (by omega) (by omega)).trans (HG4.out.block k (Array.getElem?_eq_some_iff.1 z).1)).trans z⟩
        · rw [List.length_append];exact HC1.out
      · have HN:=Lib.hid (H3.out HX0.out sx ho)
        have HOW:Hid (∀ b,W1.heap.size≤b→v.ownBlock≠some b):=Lib.hid fun b hb q=>by
          obtain⟨⟨Cs,hq,-⟩,-⟩:=HI1.out
          obtain⟨-,cs,z⟩:=own_cells hq q
          have:=(Array.getElem?_eq_some_iff.1 z).1
          omega
        have HST:Hid (StpM (fun b=>w.heap.size+7≤b∧b < (w3.alloc (.cells C.toArray 30)).heap.size∧v.ownBlock≠some b) (w3.alloc (.cells C.toArray 30)) C (rawK sx)):=Lib.hid (hst.keep (fun b q=>(below_new w3 _).block b q.2) fun b q=>⟨by have:=HI1.out.size;omega,by simp;omega,HOW.out b q.1⟩)
        have HI4:=Lib.hid (HI3.out.on (below_new w3 (.cells C.toArray 30)))
        have HG4:=Lib.hid (below_new w3 (.cells C.toArray 30))
        obtain⟨A,m,c,W',hr,c3,f3,hi6,hk6,hf6⟩:=HI4.out.push sx C HST.out (by omega) 32
        have HI6:=Lib.hid hi6
        have HK6:=Lib.hid hk6
        have HF6:=Lib.hid hf6
        have v3:=(one_at HI4.out.h3).1
        obtain⟨A1,c1,A2,c2,A3,c3',rfl,-⟩:=hst.it
        unfold stpC at hr v3
        rw [World.size_alloc] at hr
        have HR:=Lib.hid hr
        clear ho hb c4 f4 hem hi64 hi6 hk6 hf6 hst hr HST
        unfold stpC
        gi_wp2_with (refine wpListIn_append_known rfl _ _ 32 rfl _ _ _ rfl rfl HR.out ?_)
        refine⟨?_,fun k q=>(HF6.out k (by omega) (by omega)).trans ((HG4.out.block k (by have:=HI3.out.size;omega)).trans (HB3.out k (by omega) (by omega))),.slice A m c,ss++[sx],?_,?_,?_⟩
        · rw [hz5]
          exact (HK3.out.trans ⟨HG4.out.size,fun k o _ z _=>(HG4.out.block k (Array.getElem?_eq_some_iff.1 z).1).trans z⟩).trans HK6.out
        · rw [List.length_append];exact HI6.out
        · rw [List.length_append];exact HN.out
        · rw [List.length_append,List.length_append];exact Nat.succ_le_succ hsl
  case done=>
    rintro D xs W hD hS ⟨v,ss,hI,hR,hsl⟩ hK
    have hxl:ws.length≤xs.length:=by rw [← hS,List.length_map];exact Nat.le_refl _
    have HE:=Lib.hid (read_end hxl hR)
    obtain⟨⟨Cs,hown,hst⟩,h0,h1,h2,h3,h4,hbel,hsz⟩:=hI
    obtain⟨A,c,rfl,hcap,hfl,-⟩:=flatq_own hown
    obtain⟨c0,f0⟩:=one_at h0
    obtain⟨c1,f1⟩:=one_at h1
    obtain⟨c2,f2⟩:=one_at h2
    obtain⟨c3,f3⟩:=one_at h3
    have HA:=Lib.hid (And.intro hfl hst)
    have HB:=Lib.hid (And.intro hbel hcap)
    have HK:=Lib.hid hK
    have HSZ:=Lib.hid hsz
    have g0:(((W.setCell ⟨w.heap.size,0,none⟩ (.slice A ss.length c)).setCell ⟨w.heap.size+1,0,none⟩ (.int .i64 0)).setCell ⟨w.heap.size+2,0,none⟩ (.int .i64 0)).cell? ⟨w.heap.size,0,none⟩=some (.slice A ss.length c):=by
      rw [World.cell?_setCell_other _ _ _ _ (fun e=>by injection e with e _;omega),World.cell?_setCell_other _ _ _ _ (fun e=>by injection e with e _;omega)]
      exact World.cell?_setCell_same' _ _ _ (by rw [c0];rfl)
    have g1:(((W.setCell ⟨w.heap.size,0,none⟩ (.slice A ss.length c)).setCell ⟨w.heap.size+1,0,none⟩ (.int .i64 0)).setCell ⟨w.heap.size+2,0,none⟩ (.int .i64 0)).cell? ⟨w.heap.size+1,0,none⟩=some (.int .i64 0):=by
      rw [World.cell?_setCell_other _ _ _ _ (fun e=>by injection e with e _;omega)]
      exact World.cell?_setCell_same' _ _ _ (by rw [World.cell?_setCell_other _ _ _ _ (fun e=>by injection e with e _;omega),c1];rfl)
    have g2:(((W.setCell ⟨w.heap.size,0,none⟩ (.slice A ss.length c)).setCell ⟨w.heap.size+1,0,none⟩ (.int .i64 0)).setCell ⟨w.heap.size+2,0,none⟩ (.int .i64 0)).cell? ⟨w.heap.size+2,0,none⟩=some (.int .i64 0):=
      World.cell?_setCell_same' _ _ _ (by rw [World.cell?_setCell_other _ _ _ _ (fun e=>by injection e with e _;omega),World.cell?_setCell_other _ _ _ _ (fun e=>by injection e with e _;omega),c2];rfl)
    have hfar:∀ k,w.heap.size+7≤k→(((W.setCell ⟨w.heap.size,0,none⟩ (.slice A ss.length c)).setCell ⟨w.heap.size+1,0,none⟩ (.int .i64 0)).setCell ⟨w.heap.size+2,0,none⟩ (.int .i64 0)).heap[k]?=W.heap[k]?:=fun k q=>by
      rw [Below.heap_setCell _ _ _ _ (by show k≠w.heap.size+2;omega),Below.heap_setCell _ _ _ _ (by show k≠w.heap.size+1;omega),Below.heap_setCell _ _ _ _ (by show k≠w.heap.size;omega)]
    have hbw:Below w.heap.size w (((W.setCell ⟨w.heap.size,0,none⟩ (.slice A ss.length c)).setCell ⟨w.heap.size+1,0,none⟩ (.int .i64 0)).setCell ⟨w.heap.size+2,0,none⟩ (.int .i64 0)):=((hbel.setCell (Nat.le_refl _) _).setCell (by show w.heap.size≤w.heap.size+1;omega) _).setCell (by show w.heap.size≤w.heap.size+2;omega) _
    have hzz:(((W.setCell ⟨w.heap.size,0,none⟩ (.slice A ss.length c)).setCell ⟨w.heap.size+1,0,none⟩ (.int .i64 0)).setCell ⟨w.heap.size+2,0,none⟩ (.int .i64 0)).heap.size=W.heap.size:=by simp
    have HG:=Lib.hid (And.intro g0 (And.intro g1 g2))
    have HFA:=Lib.hid (And.intro hfar (And.intro hbw hzz))
    clear hS hR hI0 hbs hbf hcs hps hown hst h0 h1 h2 h3 h4 hbel hcap hfl hK g0 g1 g2 hfar hbw hzz hxl
    go_wp2_with fail
    generalize ((W.setCell ⟨w.heap.size,0,none⟩ (.slice A ss.length c)).setCell ⟨w.heap.size+1,0,none⟩ (.int .i64 0)).setCell ⟨w.heap.size+2,0,none⟩ (.int .i64 0)=W8 at *
    have hD8:W8.heap[D]?=some (.deferred (some [])):=(HFA.out.1 D (by omega)).trans HK.out
    refine⟨by simp,.inl ⟨_,_,rfl,run_takeDeferred hD8,?_⟩⟩
    have hg:=grownBy_putObj' W8 D (.deferred none)
    have hr:∀ r,some D=some r→∃ o:Obj,W8.heap[r]?=some o∧o.isCells=false:=fun r e=>by cases e;exact⟨_,hD8,rfl⟩
    have d0:=cell_kept HG.out.1 hg hr
    have d1:=cell_kept HG.out.2.1 hg hr
    have d2:=cell_kept HG.out.2.2 hg hr
    refine⟨.tuple #[.slice A ss.length c,.int .i64 0,.int .i64 0],by simp [results,Tryz.results22,go_sem,d0,d1,d2],?_⟩
    rw [HWS.out]
    refine⟨.inr ⟨ss,A,c,Cs,HE.out,rfl,?_,?_,HB.out.2⟩,HFA.out.2.1.grown hg HFA.out.2.1.size (fun k e=>by cases e;omega)⟩
    · refine ((HA.out.1.keep fun b q=>HFA.out.1 b q.1).keepC fun b o q ho hc=>hg.block b (by rw [HFA.out.2.2];exact q.2) fun e=>?_).less fun b q=>⟨by omega,by have:=hg.size;have:=HFA.out.2.2;omega⟩
      injection e with e
      subst e
      rw [hD8] at ho
      injection ho with ho
      subst ho
      cases hc
    · refine (HA.out.2.keep (fun b q=>HFA.out.1 b q.1) (fun b q=>q)).keepC (fun b o q ho hc=>hg.block b (by rw [HFA.out.2.2];exact q.2.1) fun e=>?_) fun b q=>⟨by omega,by have:=hg.size;have:=HFA.out.2.2;omega⟩
      injection e with e
      subst e
      rw [hD8] at ho
      injection ho with ho
      subst ho
      cases hc
  case stop=>
    rintro D pre W hD hrest ⟨hR1,hR2,hX⟩ hK
    have HR:=Lib.hid (And.intro hR1 hR2)
    have HK:=Lib.hid hK
    have HX:=Lib.hid hX
    clear hI0 hbs hbf hcs hps hR1 hR2 hX hK hrest
    gi_wp2
    refine⟨by simp,.inl ⟨_,_,rfl,run_takeDeferred HK.out,?_⟩⟩
    have hg:=grownBy_putObj' W D (.deferred none)
    have hr:∀ r,some D=some r→∃ o:Obj,W.heap[r]?=some o∧o.isCells=false:=fun r e=>by cases e;exact⟨_,HK.out,rfl⟩
    have d0:=cell_kept HX.out.h0 hg hr
    have d1:=cell_kept HX.out.h1 hg hr
    have d2:=cell_kept HX.out.h2 hg hr
    refine⟨.tuple #[.slice none 0 0,.int .i64 (pre.length:Int),.int .i64 3],by simp [results,Tryz.results22,go_sem,d0,d1,d2],?_⟩
    rw [HWS.out]
    exact⟨.inl ⟨HR.out.1,by rw [HR.out.2]⟩,HX.out.bel.grown hg HX.out.bel.size (fun k e=>by cases e;omega)⟩
end Go.Proofs.YtaiepcgfofpmjaaGreat
