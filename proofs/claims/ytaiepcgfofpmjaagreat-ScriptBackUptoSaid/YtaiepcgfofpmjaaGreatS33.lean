/- A composite literal of which some parts are whole structs. Over any program. -/
import Derived.Test.YtaiepcgfofpmjaaGreatS04
import Derived.Test.YtaiepcgfofpmjaaGreatS05
import Derived.Test.YtaiepcgfofpmjaaGreatS32
namespace Go.Proofs.YtaiepcgfofpmjaaGreat
set_option linter.unusedVariables false
open Go.RowKit
theorem set_splice:∀ (xs:List Value) (off j:Nat) (L:List Value),off+j+xs.length≤L.length→(xs.zipIdx j).foldl (fun cs (p:Value×Nat)=>cs.set (off+p.2) p.1) L=splice L (off+j) xs
  | [],off,j,L,h=>by
    unfold splice
    simp
  | x :: xs,off,j,L,h=>by
    rw [List.length_cons] at h
    rw [List.zipIdx_cons,List.foldl_cons,set_splice xs off (j+1) _ (by rw [List.length_set];omega)]
    apply List.ext_getElem?
    intro k
    rw [splice_get (by rw [List.length_set];omega),splice_get (by rw [List.length_cons];omega),List.length_cons]
    by_cases h1:off+(j+1)≤k∧k < off+(j+1)+xs.length
    · rw [if_pos h1,if_pos (by omega),show k - (off+j)=(k - (off+(j+1)))+1 from by omega,List.getElem?_cons_succ]
    · rw [if_neg h1]
      dsimp only
      by_cases h2:k=off+j
      · subst h2
        rw [if_pos (by omega),Nat.sub_self,List.getElem?_set_self (by omega)]
        rfl
      · rw [if_neg (by omega),List.getElem?_set_ne (by omega)]
theorem fold_toList (l:List (Value×Nat)) (off:Nat):∀ C:Array Value,(l.foldl (fun cs (p:Value×Nat)=>cs.setIfInBounds (off+p.2) p.1) C).toList=l.foldl (fun cs (p:Value×Nat)=>cs.set (off+p.2) p.1) C.toList:=by
  induction l with
  | nil=>intro C;rfl
  | cons p l ih=>
    intro C
    rw [List.foldl_cons,List.foldl_cons,ih,Array.toList_setIfInBounds]
theorem fill_step {place:Nat→Option (Nat×Nat)} {C:Array Value} {i off:Nat} {v:Value} {L:List Value} {rest:List (Nat×Value)} (hL:v.cells=L.toArray) (hp:place i=some (off,L.length)) (hb:off+L.length≤C.size) :
    Instr.fill place C ((i,v) :: rest)=Instr.fill place (splice C.toList off L).toArray rest:=by
  rw [Instr.fill]
  simp only [hp,hL,List.size_toArray]
  rw [if_neg (by simp;omega)]
  congr 1
  apply Array.toList_inj.1
  have e:(L.toArray.zipIdx).foldl (fun cs (x:Value×Nat)=>cs.setIfInBounds (off+x.2) x.1) C=(L.zipIdx).foldl (fun cs (p:Value×Nat)=>cs.setIfInBounds (off+p.2) p.1) C:=by
    rw [← Array.foldl_toList]
    simp
  show ((L.toArray.zipIdx).foldl (fun cs (x:Value×Nat)=>cs.setIfInBounds (off+x.2) x.1) C).toList=_
  rw [e,fold_toList,set_splice L off 0 C.toList (by simpa using hb)]
  rfl
def itZ:List Value:=[.int .i64 0,.bool false,.int .i64 0,.int .i64 0,.int .i64 0,.int .i64 0,.int .i64 0,.int .i64 0,.int .i64 0,.int .i64 0,.int .i64 0,.int .i64 0,.int .i64 0,.int .i64 0,.int .i64 0,.int .i64 0,.int .i64 0,.int .i64 0,.int .i64 0,.int .i64 0,.int .i64 0,.int .i64 0,.int .i64 0,.int .i64 0,.int .i64 0,.int .i64 0,.int .i64 0,.int .i64 0,.int .i64 0,.int .i64 0,.int .i64 0,.int .i64 0,.int .i64 0,.int .i64 0,.int .i64 0,.int .i64 0,.slice none 0 0,.int .i64 0,.int .i64 0,.int .i64 0,.int .i64 0,.int .i64 0,.int .i64 0,.int .i64 0,.int .i64 0,.bool false,.int .i64 0,.int .i64 0,.int .i64 0,.slice none 0 0,.int .i64 0,.string ByteArray.empty,.bool false,.int .i64 0,.int .i64 0,.int .i64 0,.int .i64 0,.bool false,.int .i64 0,.bool false,.int .i64 0,.int .i64 0,.bool false,.int .i64 0,.bool false,.int .i64 0,.bool false,.int .i64 0,.bool false,.int .i64 0,.bool false,.int .i64 0,.bool false,.int .i64 0,.bool false,.int .i64 0,.int .i64 0,.int .i64 0,.int .i64 0,.bool false,.bool false,.int .i64 0,.bool false,.int .i64 0,.bool false,.int .i64 0,.bool false,.int .i64 0,.bool false,.int .i64 0,.bool false,.int .i64 0,.int .i64 0,.int .i64 0,.bool false,.int .i64 0,.slice none 0 0,.bool false,.int .i64 0,.bool false,.int .i64 0,.bool false,.int .i64 0,.bool false,.int .i64 0,.bool false,.int .i64 0,.bool false,.int .i64 0,.bool false,.int .i64 0,.int .i64 0,.int .i64 0,.int .i64 0,.slice none 0 0,.int .i64 0,.int .i64 0,.int .i64 0,.int .i64 0,.slice none 0 0]
def evC (k:Int) (s:Value) (n:Int):List Value:=.int .i64 k :: (itZ++[s,.int .i64 n])
theorem evC_len (k:Int) (s:Value) (n:Int):(evC k s n).length=123:=rfl
theorem evC_0 (k:Int) (s:Value) (n:Int):(evC k s n)[0]?=some (.int .i64 k):=rfl
theorem evC_b (k:Int) (s:Value) (n:Int):(evC k s n)[121]?=some s:=rfl
theorem itZ_one:itZ.all (·.oneCell')=true:=by kernel_rfl
theorem evC_one (k:Int) (A:Option Addr) (m c:Nat) (n:Int):∀ v∈evC k (.slice A m c) n,v.oneCell'=true:=by
  intro v hv
  unfold evC at hv
  rcases List.mem_cons.1 hv with rfl | h
  · rfl
  · rcases List.mem_append.1 h with h | h
    · exact List.all_eq_true.1 itZ_one v h
    · rcases List.mem_cons.1 h with rfl | h
      · rfl
      · rw [List.mem_singleton.1 h];rfl
theorem ev_info:(Tryz.prog.info? 126).map (fun i=>(i.zero,i.size,i.bytes))=some (some (.agg (evC 0 (.slice none 0 0) 0).toArray),123,1088):=by kernel_rfl
theorem ev_sent (A:Option Addr) (m c:Nat) (w:World):(Instr.build 126 #[(0,.int .i64 2),(2,.slice A m c)]).run Tryz.prog w=.ok (.agg (evC 2 (.slice A m c) 0).toArray) w:=by kernel_rfl
theorem zero_Ev (w:World):(zeroValue 126).run Tryz.prog w=.ok (.agg (evC 0 (.slice none 0 0) 0).toArray) w:=by kernel_rfl
theorem build_slEv {I:List Value} (hl:I.length=123) (w:World):(Instr.buildSlice 37 1 #[(0,.agg I.toArray)]).run Tryz.prog w=.ok (.slice (some ⟨w.heap.size,0,none⟩) 1 1) (w.alloc (.cells I.toArray 126)):=by
  obtain⟨i,h1,h2,h3,h4⟩:=info_parts ev_info
  have hu:=run_underlying (P:=Tryz.prog) Tryz.underlying37 w
  have hz:(sizeOf 126).run Tryz.prog w=.ok 123 w:=by simp [sizeOf,typeInfo,h1,h3]
  have hf:∀ Z:Array Value,Z.size=123→Instr.fill (fun k=>some (k * 123,123)) Z [(0,.agg I.toArray)]=some I.toArray:=fun Z hZ=>by
    rw [fill_step (off:=0) (L:=I) rfl (by rw [hl]) (by rw [hl,hZ];omega)]
    have e:splice Z.toList 0 I=I:=by
      unfold splice
      rw [List.take_zero,List.nil_append,Nat.zero_add,List.drop_of_length_le (by rw [hl];simp [hZ]),List.append_nil]
    rw [e]
    rfl
  unfold Instr.buildSlice
  have hzero:=zero_Ev w
  simp only [Sem.run_bind,hu,Result.andThen_ok,hz]
  simp [hzero,hf,newRow]
theorem wp_slEv {P:Program} {o:Oper} {a:Act} {w W:World} {K:Act→World→Prop} {Q:Exit→Act→World→Prop} (t:TypeId) (x:Operand) (ho:o.op=.buildSlice t 1 #[(0,x)]) {u v:Value} (hx:a.eval x=u) (hr:(Instr.buildSlice t 1 #[(0,u)]).run P w=.ok v W) (h:K (a.put o.dst v) W):Oper.wp P o a w K Q:=by
  have e:(execOp a.eval o).run P w=.ok (.value v) W:=by unfold execOp;rw [ho];simp [hx,hr]
  unfold Oper.wp
  rw [e]
  exact h
def TellOut (nb B:Nat) (L:List Value) (v:Value) (n:Nat) (xs C:List Value) (w:World) (e:Ending) (w':World):Prop:=
  e=.returned (.tuple #[])∧∃ v',Blk w' nb (L.set 3 v')∧w'.ownsRow B 126 123 v' (n+1) (xs++C)∧KeptS (fun k=>k < w.heap.size∧k≠nb∧v.ownBlock≠some k) w w'∧∀ k,v'.ownBlock=some k→v.ownBlock=some k∨w.heap.size≤k
set_option maxRecDepth 8000 in
set_option maxHeartbeats 1000000 in
theorem linkTell_any {w:World} (nb B:Nat) (L:List Value) (v:Value) (n:Nat) (xs C:List Value) (hb:Blk w nb L) (hL:L[3]?=some v) (ho:w.ownsRow B 126 123 v n xs) (hB:nb < B) (hBs:B≤w.heap.size) (hC:C.length=123) (h1:∀ u∈C,u.oneCell'=true) (hn:n≤1000) :
    Calls Tryz.prog 111 #[.pointer (some ⟨nb,0,none⟩),.agg C.toArray] w (TellOut nb B L v n xs C w):=by
  have h3:3 < L.length:=(List.getElem?_eq_some_iff.1 hL).1
  obtain⟨w1,hw1⟩:∃ w1,(w.alloc (.cells C.toArray 126)).drew=w1:=⟨_,rfl⟩
  have hbel:Below w.heap.size w w1:=by rw [← hw1];exact bdrew (below_new _ _)
  have hbx:Blk w1 w.heap.size C:=by rw [← hw1];exact (Blk.newL (L:=C) (grew_alloc w _ _) rfl).drew
  have hsz:w1.heap.size=w.heap.size+1:=by rw [← hw1];exact World.size_alloc _ _
  have hb1:=hb.on hbel
  have ho1:=own_on ho hbel
  obtain⟨i0,q1,q2,q3,q4⟩:=info_parts ev_info
  obtain⟨v',W8,hr,ho8,hg,hw⟩:=run_append_mine (P:=Tryz.prog) (w1.alloc (.cells C.toArray 126)) 37 37 126 i0 _ 123 1088 Tryz.underlying37 q1 q2 q3 q4 rfl (by decide) B v n xs (ho1.alloc _) (R:=fun _=>True) (some ⟨w1.heap.size,0,none⟩) 1 1 C (by rw [hC]) (fun j u hu=>⟨w1.heap.size,0,rfl,trivial,by rw [World.cell?_alloc_at _ _ _ _ rfl,Nat.zero_add];simpa using hu⟩) h1 (by unfold maxLen;omega) (by omega) (by rw [World.size_alloc];omega)
  have hg1:w1.grownBy W8 v.ownBlock:=grew_alloc1 hg
  have hvb:∀ k,v.ownBlock=some k→B≤k∧k < w.heap.size:=fun k q=>by
    obtain⟨a,cs,z⟩:=own_cells ho q
    exact⟨a,(Array.getElem?_eq_some_iff.1 z).1⟩
  have HB8:Hid (Blk W8 nb L):=hb1.kept (hg1.block nb hb1.lt fun e=>by have:=(hvb nb e.symm).1;omega) hg1.size
  have HS8:Hid (W8.heap[w.heap.size]?=w1.heap[w.heap.size]?):=hg1.block _ (by omega) fun e=>by have:=(hvb _ e.symm).2;omega
  have HS7:Hid ((w1.alloc (.cells C.toArray 126)).heap[w.heap.size]?=w1.heap[w.heap.size]?):=Below.heap_alloc _ _ _ (by omega)
  have HC5:Hid (w1.cell? ⟨nb,3,none⟩=some v):=hb1.cell 3 hL
  have HC6:Hid ((w1.alloc (.cells C.toArray 126)).cell? ⟨nb,3,none⟩=some v):=(hb1.on (below_new _ _)).cell 3 hL
  obtain⟨A9,c9,rfl,-,-⟩:=flatq_own ho8
  have HFN:Hid (∀ W9,Stored W8 W9 nb 3 [.slice A9 (n+1) c9]→W9.heap[w.heap.size]?=w1.heap[w.heap.size]?∧TellOut nb B L v n xs C w (.returned (.tuple #[])) W9):=Lib.hid fun W9 hs=>by
    refine⟨(hs.far _ (by have:=hb.lt;omega)).trans HS8.out,rfl,.slice A9 (n+1) c9,?_,?_,⟨hs.os.trans (hg1.os.trans hbel.os),hs.tape.trans (hg1.tape.trans hbel.tape),hs.output.trans (hg1.output.trans hbel.output),by rw [hs.sz];have:=hg1.size;omega,fun k q=>(hs.far k q.2.1).trans ((hg1.block k (by omega) fun e=>q.2.2 e.symm).trans (hbel.block k q.1))⟩,fun k q=>?_⟩
    · have e:L=L.take 3++[L[3]]++L.drop (3+1):=by rw [← List.take_succ_eq_append_getElem h3,List.take_append_drop]
      have h2:=HB8.out
      rw [e] at h2
      have:=h2.put hs (by rw [List.length_take];omega) rfl
      rwa [List.set_eq_take_append_cons_drop,if_pos h3,show L.take 3++.slice A9 (n+1) c9 :: L.drop (3+1)=L.take 3++[.slice A9 (n+1) c9]++L.drop (3+1) from by simp]
    · exact own_kept ho8 (row:=some nb) ⟨hs.os,hs.tape,hs.output,Nat.le_of_eq hs.sz.symm,fun k _ z=>hs.far k fun q=>z (by rw [q])⟩ fun k q e=>by
        cases q
        have:=(own_cells ho8 e).1
        omega
    · rcases hw with z | z
      · exact .inl (z ▸ q)
      · rw [z] at q
        cases q
        exact .inr (by rw [World.size_alloc,hsz];omega)
  have HR:=Lib.hid hr
  have HX:=Lib.hid hbx
  have HLC:=Lib.hid hC
  clear hg hg1 hr ho8 hw hvb hb1 ho1 hbx hsz hbel ho hb h1 hL q1 q2 q3 q4
  go_enter Tryz.func111,Tryz.ntmps111
  go_upto_region 1 with fail
  have hS0:(fun w':World=>w'.heap[w.heap.size]?=w1.heap[w.heap.size]?) (w.alloc (.cells C.toArray 126)).drew:=by rw [hw1]
  refine wp_region_held_drew (S:=fun w'=>w'.heap[w.heap.size]?=w1.heap[w.heap.size]?) (by kernel_rfl) hS0 (fun hHeld0=>?_)
  rw [hw1] at *
  refine wpAnyH_take (i:=0) (oi:=⟨some 4,_,_,_,_,_⟩) (v:=?_) rfl (by kernel_rfl) (by kernel_rfl) (by kernel_rfl) (fun _ _ _ h=>h) (Or.inl ⟨by rfl,?_⟩) (by assumption) ?_
  rotate_left
  · intro w' hSw
    go_simp
    try with_reducible rfl
  try go_frame
  refine wpAnyH_take (i:=1) (oi:=⟨some 5,_,_,_,_,_⟩) (v:=?_) rfl (by kernel_rfl) (by kernel_rfl) (by kernel_rfl) (fun _ _ _ h=>h) (Or.inl ⟨by rfl,?_⟩) (by assumption) ?_
  rotate_left
  · intro w' hSw
    go_simp
    try with_reducible rfl
  try go_frame
  refine wpAnyH_take (i:=2) (oi:=⟨some 6,_,_,_,_,_⟩) (v:=?_) rfl (by kernel_rfl) (by kernel_rfl) (by kernel_rfl) (fun _ _ _ h=>h) (Or.inl ⟨by rfl,?_⟩) (by assumption) ?_
  rotate_left
  · intro w' hSw
    go_simp
    try with_reducible rfl
  try go_frame
  refine wpAnyH_take (i:=3) (oi:=⟨some 7,_,_,_,_,_⟩) (v:=?_) rfl (by kernel_rfl) (by kernel_rfl) (by kernel_rfl) (fun _ _ _ h=>h) (Or.inl ⟨by rfl,?_⟩) (by assumption) ?_
  rotate_left
  · intro w' hSw
    go_simp
    try with_reducible rfl
  try go_frame
  refine wpAnyH_take (i:=5) (oi:=⟨some 9,_,_,_,_,_⟩) (v:=_) rfl (by kernel_rfl) (by kernel_rfl) (by kernel_rfl) (fun _ _ _ h=>h) (yieldsIf_load_mid (by rfl) 126 _ rfl w.heap.size 0 rfl C _ (fun w' hSw=>range_kept HX.out.rg hSw) Tryz.underlying126 rfl (by rw [HLC.out];kernel_rfl)) (by assumption) ?_
  try go_frame
  refine wpAnyH_ready (rs:=[4,6]) (by kernel_rfl) (by simp) ?_
  refine AllReadyH.cons (o:=⟨some 8,_,_,_,_,_⟩) rfl (fun K hK=>?_) (AllReadyH.cons (o:=⟨some 10,_,_,_,_,_⟩) rfl (fun K hK=>?_) AllReadyH.nil)
  · rw [if_pos (by rfl)]
    have c5:=HC5.out
    go_step
    refine hK.out _ _ hHeld0 (fun hHeld=>?_)
    clear hK K
    try go_frame
    refine wpAnyH_ready (rs:=[6]) (by kernel_rfl) (by simp) ?_
    refine AllReadyH.cons (o:=⟨some 10,_,_,_,_,_⟩) rfl (fun K hK=>?_) AllReadyH.nil
    rw [if_pos (by rfl)]
    refine wp_slEv 37 _ rfl rfl (build_slEv HLC.out _) ?_
    refine hK.out _ _ HS7.out (fun hHeld=>?_)
    clear hK K
    try go_frame
    refine wpAnyH_ready (rs:=[7]) (by kernel_rfl) (by simp) ?_
    refine AllReadyH.cons (o:=⟨some 11,_,_,_,_,_⟩) rfl (fun K hK=>?_) AllReadyH.nil
    refine step_append_known rfl _ _ 37 rfl _ _ _ rfl rfl HR.out ?_
    refine hK.out _ _ HS8.out (fun hHeld=>?_)
    clear hK K
    try go_frame
    refine wpAnyH_take (i:=8) (oi:=⟨some 12,_,_,_,_,_⟩) (v:=?_) rfl (by kernel_rfl) (by kernel_rfl) (by kernel_rfl) (fun _ _ _ h=>h) (Or.inl ⟨by rfl,?_⟩) (by assumption) ?_
    rotate_left
    · intro w' hSw
      go_simp
      try with_reducible rfl
    try go_frame
    refine wpAnyH_take (i:=9) (oi:=⟨some 13,_,_,_,_,_⟩) (v:=?_) rfl (by kernel_rfl) (by kernel_rfl) (by kernel_rfl) (fun _ _ _ h=>h) (Or.inl ⟨by rfl,?_⟩) (by assumption) ?_
    rotate_left
    · intro w' hSw
      go_simp
      try with_reducible rfl
    try go_frame
    refine wpAnyH_ready (rs:=[10]) (by kernel_rfl) (by simp) ?_
    refine AllReadyH.cons (o:=⟨none,_,_,_,_,_⟩) rfl (fun K hK=>?_) AllReadyH.nil
    rw [if_pos (by rfl)]
    refine wp_store_one 37 _ _ rfl nb 3 (.slice A9 (n+1) c9) rfl rfl (HB8.out.there 3 1 (by omega)) (by kernel_rfl) rfl rfl ?_
    intro W9 hs
    have HF:=Lib.hid (HFN.out W9 hs)
    clear hs
    refine hK.out _ _ HF.out.1 (fun hHeld=>?_)
    clear hK K
    try go_frame
    refine wpAnyH_done (by kernel_rfl) ?_ _
    try go_frame
    exact bodyPost_end (v:=.tuple #[]) (by simp [results,Tryz.results111,go_sem]) rfl HF.out.2
  · rw [if_pos (by rfl)]
    refine wp_slEv 37 _ rfl rfl (build_slEv HLC.out _) ?_
    refine hK.out _ _ HS7.out (fun hHeld=>?_)
    clear hK K
    try go_frame
    refine wpAnyH_ready (rs:=[4]) (by kernel_rfl) (by simp) ?_
    refine AllReadyH.cons (o:=⟨some 8,_,_,_,_,_⟩) rfl (fun K hK=>?_) AllReadyH.nil
    rw [if_pos (by rfl)]
    have c5:=HC6.out
    go_step
    refine hK.out _ _ HS7.out (fun hHeld=>?_)
    clear hK K
    try go_frame
    refine wpAnyH_ready (rs:=[7]) (by kernel_rfl) (by simp) ?_
    refine AllReadyH.cons (o:=⟨some 11,_,_,_,_,_⟩) rfl (fun K hK=>?_) AllReadyH.nil
    refine step_append_known rfl _ _ 37 rfl _ _ _ rfl rfl HR.out ?_
    refine hK.out _ _ HS8.out (fun hHeld=>?_)
    clear hK K
    try go_frame
    refine wpAnyH_take (i:=8) (oi:=⟨some 12,_,_,_,_,_⟩) (v:=?_) rfl (by kernel_rfl) (by kernel_rfl) (by kernel_rfl) (fun _ _ _ h=>h) (Or.inl ⟨by rfl,?_⟩) (by assumption) ?_
    rotate_left
    · intro w' hSw
      go_simp
      try with_reducible rfl
    try go_frame
    refine wpAnyH_take (i:=9) (oi:=⟨some 13,_,_,_,_,_⟩) (v:=?_) rfl (by kernel_rfl) (by kernel_rfl) (by kernel_rfl) (fun _ _ _ h=>h) (Or.inl ⟨by rfl,?_⟩) (by assumption) ?_
    rotate_left
    · intro w' hSw
      go_simp
      try with_reducible rfl
    try go_frame
    refine wpAnyH_ready (rs:=[10]) (by kernel_rfl) (by simp) ?_
    refine AllReadyH.cons (o:=⟨none,_,_,_,_,_⟩) rfl (fun K hK=>?_) AllReadyH.nil
    rw [if_pos (by rfl)]
    refine wp_store_one 37 _ _ rfl nb 3 (.slice A9 (n+1) c9) rfl rfl (HB8.out.there 3 1 (by omega)) (by kernel_rfl) rfl rfl ?_
    intro W9 hs
    have HF:=Lib.hid (HFN.out W9 hs)
    clear hs
    refine hK.out _ _ HF.out.1 (fun hHeld=>?_)
    clear hK K
    try go_frame
    refine wpAnyH_done (by kernel_rfl) ?_ _
    try go_frame
    exact bodyPost_end (v:=.tuple #[]) (by simp [results,Tryz.results111,go_sem]) rfl HF.out.2
def SendOut (nb B:Nat) (L:List Value) (v:Value) (n:Nat) (xs:List Value) (sent m i:Nat) (w:World) (e:Ending) (w':World):Prop:=
  e=.returned (.tuple #[])∧∃ b X d v',b.length=m∧b[0]?=some 254∧b[5]?=some (UInt8.ofNat i)∧Blk w' nb ((L.set 2 (.int .i64 ((sent:Int)+1))).set 3 v')∧w'.ownsRow B 126 123 v' (n+1) (xs++evC 2 (.slice X m d) 0)∧FlatQ (fun k=>w.heap.size≤k∧k < w'.heap.size∧k≠nb∧v'.ownBlock≠some k) w' X (bsV b)∧KeptS (fun k=>k < w.heap.size∧k≠nb∧v.ownBlock≠some k) w w'∧∀ k,v'.ownBlock=some k→v.ownBlock=some k∨w.heap.size≤k
theorem wpList_evB {P:Program} {ops:Array Oper} {rest:List Oper} {o:Oper} {a:Act} {w:World} {Q:Exit→Act→World→Prop} (hgd:o.guard=none) (t:TypeId) (x y:Operand) (ho:o.op=.build t #[(0,x),(2,y)]) {u u' v:Value} (hx:a.eval x=u) (hy:a.eval y=u') (hr:(Instr.build t #[(0,u),(2,u')]).run P w=.ok v w)
    (h:wpList P ops Q rest (a.put o.dst v) w):wpList P ops Q (o :: rest) a w:=
  wpList_exec hgd (by unfold execOp;rw [ho];simp [hx,hy,hr]) h
set_option maxRecDepth 8000 in
set_option maxHeartbeats 400000 in
theorem linkSend_any {R:Nat→Prop} {w:World} (nb B:Nat) (L:List Value) (v:Value) (n:Nat) (xs:List Value) (sent q s c i:Nat) (hb:Blk w nb L) (h0:L[0]?=some (.int .i64 (s:Int))) (h1:L[1]?=some (.int .i64 (c:Int))) (h2:L[2]?=some (.int .i64 (sent:Int))) (h3:L[3]?=some v) (ho:w.ownsRow B 126 123 v n xs) (hB:nb < B) (hBs:B≤w.heap.size) (hn:n≤1000)
    (hand:bits .and .i64 (sent:Int) 255=(q:Int)) (hsent:sent≤1000) (hq:q < 256) (hs:s < 256) (hc:c < 256) (hi:i < 256) (X:Option Addr) (d:Nat) (vs:List Int) (hV:FlatQ R w X (i64sV vs)) (hne:(findF (i:Int)).1≠⟨#[]⟩) (hl:vs.length=cntP (findF (i:Int)).2) (hfit:∀ (k:Nat) f v,(fldsS (findF (i:Int)).2)[k]?=some f→(putL (findF (i:Int)).2 vs)[k]?=some v→FitsS f v) (hw:widF (fldsS (findF (i:Int)).2)≤250) :
    Calls Tryz.prog 116 #[.pointer (some ⟨nb,0,none⟩),.int .i64 (i:Int),.slice X vs.length d] w (SendOut nb B L v n xs sent (widF (fldsS (findF (i:Int)).2)+8) i w):=by
  have HP:=fun W (hW:Below w.heap.size w W)=>Lib.hid (tlmPut_any q s c i X d vs hq hs hc hi (hV.lt.below hW fun b q=>q.2) hne hl hfit hw)
  generalize widF (fldsS (findF (i:Int)).2)+8=m at *
  generalize vs.length=vl at *
  have HB:=Lib.hid hb
  have HO:=Lib.hid ho
  have HL:=Lib.hid (And.intro h0 (And.intro h1 (And.intro h2 h3)))
  have HBN:=Lib.hid hb.lt
  clear hV hne hl hfit hb ho
  go_enter Tryz.func116,Tryz.ntmps116
  go_upto_region 0 with fail
  have hS0:Below w.heap.size w w.drew:=bdrew (Below.refl _ _)
  refine wp_region_held_drew (S:=fun w'=>Below w.heap.size w w') (by kernel_rfl) hS0 (fun hHeld0=>?_)
  refine wpAnyH_take (i:=0) (oi:=⟨some 9,_,_,_,_,_⟩) (v:=?_) rfl (by kernel_rfl) (by kernel_rfl) (by kernel_rfl) (fun _ _ _ h=>h) (Or.inl ⟨by rfl,?_⟩) (by assumption) ?_
  rotate_left
  · intro w' hSw
    go_simp
    try with_reducible rfl
  try go_frame
  refine wpAnyH_take (i:=1) (oi:=⟨some 10,_,_,_,_,_⟩) (v:=?_) rfl (by kernel_rfl) (by kernel_rfl) (by kernel_rfl) (fun _ _ _ h=>h) (Or.inl ⟨by rfl,?_⟩) (by assumption) ?_
  rotate_left
  · intro w' hSw
    go_simp
    try with_reducible rfl
  try go_frame
  refine wpAnyH_take (i:=2) (oi:=⟨some 11,_,_,_,_,_⟩) (v:=?_) rfl (by kernel_rfl) (by kernel_rfl) (by kernel_rfl) (fun _ _ _ h=>h) (Or.inl ⟨by rfl,?_⟩) (by assumption) ?_
  rotate_left
  · intro w' hSw
    go_simp
    try with_reducible rfl
  try go_frame
  refine wpAnyH_take (i:=3) (oi:=⟨some 12,_,_,_,_,_⟩) (v:=?_) rfl (by kernel_rfl) (by kernel_rfl) (by kernel_rfl) (fun _ _ _ h=>h) (Or.inl ⟨by rfl,?_⟩) (by assumption) ?_
  rotate_left
  · intro w' hSw
    have q:=(HB.out.on hSw).cell 2 HL.out.2.2.1
    go_simp
    try with_reducible rfl
  try go_frame
  refine wpAnyH_take (i:=4) (oi:=⟨some 13,_,_,_,_,_⟩) (v:=?_) rfl (by kernel_rfl) (by kernel_rfl) (by kernel_rfl) (fun _ _ _ h=>h) (Or.inl ⟨by rfl,?_⟩) (by assumption) ?_
  rotate_left
  · intro w' hSw
    have q:=hand
    go_simp
    try with_reducible rfl
  try go_frame
  refine wpAnyH_take (i:=5) (oi:=⟨some 14,_,_,_,_,_⟩) (v:=?_) rfl (by kernel_rfl) (by kernel_rfl) (by kernel_rfl) (fun _ _ _ h=>h) (Or.inl ⟨by rfl,?_⟩) (by assumption) ?_
  rotate_left
  · intro w' hSw
    go_simp
    try with_reducible rfl
  try go_frame
  refine wpAnyH_take (i:=6) (oi:=⟨some 15,_,_,_,_,_⟩) (v:=?_) rfl (by kernel_rfl) (by kernel_rfl) (by kernel_rfl) (fun _ _ _ h=>h) (Or.inl ⟨by rfl,?_⟩) (by assumption) ?_
  rotate_left
  · intro w' hSw
    go_simp
    try with_reducible rfl
  try go_frame
  refine wpAnyH_take (i:=7) (oi:=⟨some 16,_,_,_,_,_⟩) (v:=?_) rfl (by kernel_rfl) (by kernel_rfl) (by kernel_rfl) (fun _ _ _ h=>h) (Or.inl ⟨by rfl,?_⟩) (by assumption) ?_
  rotate_left
  · intro w' hSw
    go_simp
    try with_reducible rfl
  try go_frame
  refine wpAnyH_take (i:=8) (oi:=⟨some 17,_,_,_,_,_⟩) (v:=?_) rfl (by kernel_rfl) (by kernel_rfl) (by kernel_rfl) (fun _ _ _ h=>h) (Or.inl ⟨by rfl,?_⟩) (by assumption) ?_
  rotate_left
  · intro w' hSw
    have q:=(HB.out.on hSw).cell 0 HL.out.1
    go_simp
    try with_reducible rfl
  try go_frame
  refine wpAnyH_take (i:=9) (oi:=⟨some 18,_,_,_,_,_⟩) (v:=?_) rfl (by kernel_rfl) (by kernel_rfl) (by kernel_rfl) (fun _ _ _ h=>h) (Or.inl ⟨by rfl,?_⟩) (by assumption) ?_
  rotate_left
  · intro w' hSw
    go_simp
    try with_reducible rfl
  try go_frame
  refine wpAnyH_take (i:=10) (oi:=⟨some 19,_,_,_,_,_⟩) (v:=?_) rfl (by kernel_rfl) (by kernel_rfl) (by kernel_rfl) (fun _ _ _ h=>h) (Or.inl ⟨by rfl,?_⟩) (by assumption) ?_
  rotate_left
  · intro w' hSw
    go_simp
    try with_reducible rfl
  try go_frame
  refine wpAnyH_take (i:=11) (oi:=⟨some 20,_,_,_,_,_⟩) (v:=?_) rfl (by kernel_rfl) (by kernel_rfl) (by kernel_rfl) (fun _ _ _ h=>h) (Or.inl ⟨by rfl,?_⟩) (by assumption) ?_
  rotate_left
  · intro w' hSw
    go_simp
    try with_reducible rfl
  try go_frame
  refine wpAnyH_take (i:=12) (oi:=⟨some 21,_,_,_,_,_⟩) (v:=?_) rfl (by kernel_rfl) (by kernel_rfl) (by kernel_rfl) (fun _ _ _ h=>h) (Or.inl ⟨by rfl,?_⟩) (by assumption) ?_
  rotate_left
  · intro w' hSw
    have q:=(HB.out.on hSw).cell 1 HL.out.2.1
    go_simp
    try with_reducible rfl
  try go_frame
  refine wpAnyH_take (i:=13) (oi:=⟨some 22,_,_,_,_,_⟩) (v:=?_) rfl (by kernel_rfl) (by kernel_rfl) (by kernel_rfl) (fun _ _ _ h=>h) (Or.inl ⟨by rfl,?_⟩) (by assumption) ?_
  rotate_left
  · intro w' hSw
    go_simp
    try with_reducible rfl
  try go_frame
  refine wpAnyH_take (i:=14) (oi:=⟨some 23,_,_,_,_,_⟩) (v:=?_) rfl (by kernel_rfl) (by kernel_rfl) (by kernel_rfl) (fun _ _ _ h=>h) (Or.inl ⟨by rfl,?_⟩) (by assumption) ?_
  rotate_left
  · intro w' hSw
    go_simp
    try with_reducible rfl
  try go_frame
  refine wpAnyH_take (i:=15) (oi:=⟨some 24,_,_,_,_,_⟩) (v:=?_) rfl (by kernel_rfl) (by kernel_rfl) (by kernel_rfl) (fun _ _ _ h=>h) (Or.inl ⟨by rfl,?_⟩) (by assumption) ?_
  rotate_left
  · intro w' hSw
    go_simp
    try with_reducible rfl
  try go_frame
  refine wpAnyH_take (i:=16) (oi:=⟨some 25,_,_,_,_,_⟩) (v:=?_) rfl (by kernel_rfl) (by kernel_rfl) (by kernel_rfl) (fun _ _ _ h=>h) (Or.inl ⟨by rfl,?_⟩) (by assumption) ?_
  rotate_left
  · intro w' hSw
    go_simp
    try with_reducible rfl
  try go_frame
  refine wpAnyH_ready (rs:=[17]) (by kernel_rfl) (by simp) ?_
  refine AllReadyH.cons (o:=⟨some 26,_,_,_,_,_⟩) rfl (fun K hK=>?_) AllReadyH.nil
  rw [if_pos (by rfl)]
  go_step
  refine (HP _ hHeld0).out.mono ?_
  rintro e w2 ⟨b,X2,d2,hb1,hb2,hb3,rfl,hf,hb4⟩
  have HB5:Hid (Below w.heap.size w w2):=hHeld0.trans (hb4.mono hHeld0.size)
  have HF:=Lib.hid (And.intro hb1 (And.intro hb2 (And.intro hb3 hf)))
  clear hb1 hb2 hb3 hf hb4
  try go_frame
  refine hK.out _ _ (HB5.out) (fun hHeld=>?_)
  clear hK K
  try go_frame
  refine wpAnyH_take (i:=18) (oi:=⟨some 8,_,_,_,_,_⟩) (v:=?_) rfl (by kernel_rfl) (by kernel_rfl) (by kernel_rfl) (fun _ _ _ h=>h) (Or.inl ⟨by rfl,?_⟩) (by assumption) ?_
  rotate_left
  · intro w' hSw
    go_simp
    try with_reducible rfl
  try go_frame
  refine wpAnyH_take (i:=19) (oi:=⟨some 27,_,_,_,_,_⟩) (v:=?_) rfl (by kernel_rfl) (by kernel_rfl) (by kernel_rfl) (fun _ _ _ h=>h) (Or.inl ⟨by rfl,?_⟩) (by assumption) ?_
  rotate_left
  · intro w' hSw
    go_simp
    try with_reducible rfl
  try go_frame
  refine wpAnyH_take (i:=20) (oi:=⟨some 28,_,_,_,_,_⟩) (v:=?_) rfl (by kernel_rfl) (by kernel_rfl) (by kernel_rfl) (fun _ _ _ h=>h) (Or.inl ⟨by rfl,?_⟩) (by assumption) ?_
  rotate_left
  · intro w' hSw
    go_simp
    try with_reducible rfl
  try go_frame
  refine wpAnyH_take (i:=21) (oi:=⟨some 6,_,_,_,_,_⟩) (v:=?_) rfl (by kernel_rfl) (by kernel_rfl) (by kernel_rfl) (fun _ _ _ h=>h) (Or.inl ⟨by rfl,?_⟩) (by assumption) ?_
  rotate_left
  · intro w' hSw
    go_simp
    try with_reducible rfl
  try go_frame
  refine wpAnyH_take (i:=22) (oi:=⟨some 7,_,_,_,_,_⟩) (v:=?_) rfl (by kernel_rfl) (by kernel_rfl) (by kernel_rfl) (fun _ _ _ h=>h) (Or.inl ⟨by rfl,?_⟩) (by assumption) ?_
  rotate_left
  · intro w' hSw
    go_simp
    try with_reducible rfl
  try go_frame
  refine wpAnyH_done (by kernel_rfl) ?_ _
  try go_frame
  have HB2:=Lib.hid (HB.out.on HB5.out)
  have s1:Stored w2 (w2.setCell ⟨nb,2,none⟩ (.int .i64 ((sent:Int)+1))) nb 2 [.int .i64 ((sent:Int)+1)]:=(HB2.out.set (by have:=(List.getElem?_eq_some_iff.1 HL.out.2.2.1).1;exact this) (.int .i64 ((sent:Int)+1))).2
  have HS1:=Lib.hid s1
  have HB3:Hid (Blk (w2.setCell ⟨nb,2,none⟩ (.int .i64 ((sent:Int)+1))) nb (L.set 2 (.int .i64 ((sent:Int)+1)))):=(HB2.out.set (by have:=(List.getElem?_eq_some_iff.1 HL.out.2.2.1).1;exact this) (.int .i64 ((sent:Int)+1))).1
  have c2:=HB2.out.cell 2 HL.out.2.2.1
  have z2:=HB2.out.fz 2
  have HT:Hid (Calls Tryz.prog 111 #[.pointer (some ⟨nb,0,none⟩),.agg (evC 2 (.slice X2 m d2) 0).toArray] (w2.setCell ⟨nb,2,none⟩ (.int .i64 ((sent:Int)+1))) (TellOut nb B (L.set 2 (.int .i64 ((sent:Int)+1))) v n xs (evC 2 (.slice X2 m d2) 0) (w2.setCell ⟨nb,2,none⟩ (.int .i64 ((sent:Int)+1))))):=
    linkTell_any nb B _ v n xs _ HB3.out (by rw [List.getElem?_set_ne (by decide)];exact HL.out.2.2.2) (own_set (own_on HO.out HB5.out) hB _) hB (by have:=HB5.out.size;rw [s1.sz];omega) (evC_len _ _ _) (evC_one _ _ _ _ _) hn
  clear s1 hHeld hHeld0 hS0 HP
  go_wp2_with (refine wpList_evB rfl 126 _ _ rfl (u:=.int .i64 2) (u':=.slice X2 m d2) (v:=.agg (evC 2 (.slice X2 m d2) 0).toArray) rfl rfl (ev_sent X2 m d2 _) ?_)
  refine HT.out.mono ?_
  rintro e w4 ⟨rfl,v',k1,k2,k3,k4⟩
  have hsz:=HS1.out.sz
  have HFIN:Hid (SendOut nb B L v n xs sent m i w (.returned (.tuple #[])) w4):=by
    obtain⟨e1,e2,e3,ef⟩:=HF.out
    have hvb:∀ k,v.ownBlock=some k→k < w.heap.size:=fun k z=>by
      obtain⟨-,cs,y⟩:=own_cells HO.out z
      exact (Array.getElem?_eq_some_iff.1 y).1
    have hz2:=HB5.out.size
    refine⟨rfl,b,X2,d2,v',e1,e2,e3,k1,k2,(ef.keep (w':=w4) fun k z=>?_).less fun k z=>⟨z.1,?_,?_,?_⟩,⟨k3.os.trans (HS1.out.os.trans HB5.out.os),k3.tape.trans (HS1.out.tape.trans HB5.out.tape),k3.output.trans (HS1.out.output.trans HB5.out.output),by have:=k3.size;rw [hsz] at this;omega,fun k z=>(k3.block k ⟨by rw [hsz];omega,z.2.1,z.2.2⟩).trans ((HS1.out.far k z.2.1).trans (HB5.out.block k z.1))⟩,fun k y=>(k4 k y).imp id fun x=>by rw [hsz] at x;omega⟩
    · have z1:w.heap.size≤k:=z.1
      exact (k3.block k ⟨by rw [hsz];exact z.2,by have:=HBN.out;show k≠nb;omega,fun y=>by have:=hvb k y;omega⟩).trans (HS1.out.far k (by have:=HBN.out;show k≠nb;omega))
    · have:=k3.size
      rw [hsz] at this
      omega
    · have z1:w.heap.size≤k:=z.1
      have:=HBN.out
      show k≠nb
      omega
    · intro y
      have z1:w.heap.size≤k:=z.1
      rcases k4 k y with x | x
      · have:=hvb k x;omega
      · rw [hsz] at x;omega
  clear k1 k2 k3 k4 hsz
  go_wp2_with fail
  exact bodyPost_end (v:=.tuple #[]) (by simp [results,Tryz.results116,go_sem]) rfl HFIN.out
end Go.Proofs.YtaiepcgfofpmjaaGreat
