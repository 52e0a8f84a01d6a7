/- Layer 45: a line's step, of the reference. -/
import Derived.Test.YtaiepcgfofpmjaaGreatN20
import Derived.Test.YtaiepcgfofpmjaaGreatN12
import Derived.Test.YtaiepcgfofpmjaaGreatN17
namespace Go.Proofs.YtaiepcgfofpmjaaGreat
set_option linter.unusedVariables false
open Go.RowKit
structure StpsM (Q:Nat→Prop) (w:World) (Cs:List (List Value)) (ss:List StpK):Prop where
  len:Cs.length=ss.length
  at_:∀ i (h:i < Cs.length) (h':i < ss.length),StpM Q w Cs[i] ss[i]
open Go.RowKit Go.Shelf
attribute [local go_sem] Oper.semAt_some
theorem one_at {W:World} {b:Nat} {v:Value} {T:TypeId} (h:W.heap[b]?=some (.cells #[v] T (0,0))):W.cell? ⟨b,0,none⟩=some v∧W.frozen? ⟨b,0,none⟩=false:=by
  constructor
  · simp [World.cell?,h]
  · simp [World.frozen?,h]
open Go.RowKit Go.Shelf
attribute [local go_sem] Oper.semAt_some
def WrtI (a:Nat) (l:List UInt8) (w:World):Prop:=∃ v,Blk w a [v,.bool true,.bool false]∧w.ownsRow (a+1) 5 1 v l.length (bsV l)
theorem WrtI.on {a:Nat} {l:List UInt8} {w w':World} (h:WrtI a l w) (hb:Below w.heap.size w w'):WrtI a l w':=by
  obtain⟨v,h1,h2⟩:=h
  exact⟨v,h1.on hb,own_on h2 hb⟩
theorem rowFine_blk {w:World} {a:Nat} {v:Value} (h:Blk w a [v,.bool true,.bool false]):Calls Tryz.prog 289 #[.pointer (some ⟨a,0,none⟩)] w fun e w'=>e=.returned (.bool true)∧w=w':=by
  have c1:=h.cell 1 (v:=.bool true) rfl
  have c2:=h.cell 2 (v:=.bool false) rfl
  clear h
  go_enter Tryz.func289,Tryz.ntmps289
  go_wp2
  go_ret
  exact⟨rfl,rfl⟩
theorem wrtFail_any {w:World} {a:Nat} {l:List UInt8} (h:WrtI a l w):Calls Tryz.prog 242 #[.pointer (some ⟨a,0,none⟩)] w fun e w'=>e=.returned (.bool false)∧w=w':=by
  obtain⟨v,h,-⟩:=h
  have HC:=Lib.hid (rowFine_blk h)
  clear h
  go_enter Tryz.func242,Tryz.ntmps242
  go_wp2_with (refine HC.out.mono ?_;rintro e w1 ⟨rfl,rfl⟩)
  go_ret
  exact⟨rfl,rfl⟩
theorem bsV_app1 (l:List UInt8) (x:UInt8):bsV (l++[x])=bsV l++[.int .u8 (x.toNat:Int)]:=by simp [bsV,bV]
def PutJ (w:World) (a n0:Nat) (l pre:List UInt8) (W:World):Prop:=
  ∃ v,Blk W a [v,.bool true,.bool false]∧W.ownsRow (a+1) 5 1 v (l.length+pre.length) (bsV (l++pre))∧Below a w W∧W.heap[n0]?=some (.cells #[.pointer (some ⟨a,0,none⟩)] 318 (0,0))∧(∀ k,v.ownBlock=some k→k < n0∨n0+3≤k)∧n0+3≤W.heap.size
theorem PutJ.grown {w:World} {a n0:Nat} {l pre:List UInt8} {W W':World} {row:Option Nat} (h:PutJ w a n0 l pre W) (ha:a < n0) (hg:W.grownBy W' row) (hr:∀ k,row=some k→n0 < k∧(n0+3≤k→∃ o,W.heap[k]?=some o∧o.isCells=false)):PutJ w a n0 l pre W':=by
  obtain⟨v,h1,h2,h3,h4,h5,h6⟩:=h
  have hne:∀ k,row=some k→v.ownBlock≠some k:=fun k q e=>by
    rcases h5 k e with z | z
    · have:=(hr k q).1;omega
    · obtain⟨o,ho,hc⟩:=(hr k q).2 z
      obtain⟨-,cs,x⟩:=own_cells h2 e
      rw [x] at ho
      cases ho
      cases hc
  have hk:∀ k,k≤n0→k < W.heap.size→W'.heap[k]?=W.heap[k]?:=fun k q z=>hg.block k z fun e=>by have:=(hr k e.symm).1;omega
  exact⟨v,h1.kept (hk a (by omega) (by omega)) hg.size,own_kept h2 hg hne,h3.grown hg (by have:=h3.size;omega) fun k q=>by have:=(hr k q).1;omega,(hk n0 (Nat.le_refl _) (by omega)).trans h4,h5,Nat.le_trans h6 hg.size⟩
def MarkPostT (P:Program) (fn:Func) (R:Ending→World→Prop) (_:Exit→Act→World→Prop):Exit→Act→World→Prop
  | .ret,a,w=>bodyPostM Fence.wide 8 P fn R .ret a w
  | .normal,a,w=>bodyPostM Fence.wide 8 P fn R .normal a w
  | _,_,_=>False
theorem calls_of_markT {P:Program} {f:FuncId} {fn:Func} {c:Code} {args:Array Value} {w:World} {R:Ending→World→Prop} (hf:P.funcs[f]?=some fn) (hb:fn.body=some c)
    (h:c.wp P (MarkPostT P fn R (bodyPost P fn R)) { tmps:=args++Array.replicate (fn.ntmps - args.size) undef,defers:=[] } w):Calls P f args w R:=by
  refine (callsIn_wide (n:=8)).1 (callsIn_of_wp_marks hf hb trivial (wpIn_wide.2 (wp_mono h ?_)) rfl)
  intro e a w' hq
  cases e with
  | ret=>exact hq
  | normal=>exact hq
  | _=>exact hq.elim
set_option maxRecDepth 8000 in
set_option maxHeartbeats 4000000 in
theorem wrtPut_any {w:World} {a:Nat} {l:List UInt8} (n v:Nat) (h:WrtI a l w) (h8:n≤8) (hv:v < 18446744073709551616) (hl:l.length≤10000000) :
    Calls Tryz.prog 241 #[.pointer (some ⟨a,0,none⟩),.int .i64 (n:Int),.int .u64 (v:Int),.bool true] w fun e w'=>e=.returned (.tuple #[])∧WrtI a (l++leB n v) w'∧Below a w w':=by
  obtain⟨v0,hb0,ho0⟩:=h
  have ha:a < w.heap.size:=hb0.lt
  refine calls_of_markT Tryz.func241 rfl ?_
  simp only [Tryz.ntmps241,List.size_toArray,List.length_cons,List.length_nil,Nat.reduceAdd,Nat.reduceSub,Array.replicate_succ,Array.replicate_zero,List.push_toArray,List.append_toArray,List.nil_append,List.cons_append]
  have HFA:=Lib.hid (wrtFail_any (WrtI.on ⟨v0,hb0,ho0⟩ (below_new w (.cells #[.pointer (some ⟨a,0,none⟩)] 318))))
  go_wp2_with fail
  refine HFA.out.mono ?_
  rintro e w1 ⟨rfl,rfl⟩
  go_wp2_with fail
  refine (octBytes_any (n:Int) (v:Int) _).mono ?_
  rintro e w1 ⟨rfl,rfl⟩
  go_wp2_with fail
  have hz5:(((w.alloc (.cells #[.pointer (some ⟨a,0,none⟩)] 318)).alloc (.cells #[.int .i64 (n:Int)] 3)).alloc (.cells #[.int .u64 (v:Int)] 211)).heap.size=w.heap.size+3:=by simp
  have hbel:Below w.heap.size w (((w.alloc (.cells #[.pointer (some ⟨a,0,none⟩)] 318)).alloc (.cells #[.int .i64 (n:Int)] 3)).alloc (.cells #[.int .u64 (v:Int)] 211)):=bthen (bthen (below_new _ _) (below_new _ _)) (below_new _ _)
  have hI0:PutJ w a w.heap.size l [] (((w.alloc (.cells #[.pointer (some ⟨a,0,none⟩)] 318)).alloc (.cells #[.int .i64 (n:Int)] 3)).alloc (.cells #[.int .u64 (v:Int)] 211)):=by
    refine⟨v0,hb0.on hbel,by rw [List.append_nil];exact own_on ho0 hbel,hbel.mono (by omega),(Below.heap_alloc _ _ _ (by simp only [World.size_alloc];omega)).trans ((Below.heap_alloc _ _ _ (by simp)).trans (heap_alloc_at w _)),fun k q=>?_,by omega⟩
    obtain⟨-,cs,z⟩:=own_cells ho0 q
    exact .inl (Array.getElem?_eq_some_iff.1 z).1
  have hcs:(((w.alloc (.cells #[.pointer (some ⟨a,0,none⟩)] 318)).alloc (.cells #[.int .i64 (n:Int)] 3)).alloc (.cells #[.int .u64 (v:Int)] 211)).cell? ⟨w.heap.size+1,0,none⟩=some (.int .i64 (n:Int)):=by
    rw [World.cell?_alloc_past _ _ _ (by simp only [World.size_alloc];omega),World.cell?_alloc_at _ _ _ _ (by simp)];rfl
  have hbf:(((w.alloc (.cells #[.pointer (some ⟨a,0,none⟩)] 318)).alloc (.cells #[.int .i64 (n:Int)] 3)).alloc (.cells #[.int .u64 (v:Int)] 211)).frozen? ⟨w.heap.size+1+1,0,none⟩=false:=by
    simp only [frozen?_alloc_cells]
    unfold World.frozen?
    rw [Array.getElem?_eq_none (by show w.heap.size≤w.heap.size+1+1;omega)]
  have hbs:(((w.alloc (.cells #[.pointer (some ⟨a,0,none⟩)] 318)).alloc (.cells #[.int .i64 (n:Int)] 3)).alloc (.cells #[.int .u64 (v:Int)] 211)).cell? ⟨w.heap.size+1+1,0,none⟩=some (.int .u64 (v:Int)):=by
    rw [World.cell?_alloc_at _ _ _ _ (by simp)];rfl
  generalize ((w.alloc (.cells #[.pointer (some ⟨a,0,none⟩)] 318)).alloc (.cells #[.int .i64 (n:Int)] 3)).alloc (.cells #[.int .u64 (v:Int)] 211)=W5 at *
  clear HFA hbel
  refine (wpIn_wide (n:=8)).1 ?_
  refine wpIn_rangeBoxN (by omega) (gf:=333) (lb:=#[.pointer (some ⟨w.heap.size+1,0,none⟩),.pointer (some ⟨w.heap.size+1+1,0,none⟩)]) rfl (enters_of Tryz.func333 (by kernel_rfl) rfl) (bx:=w.heap.size+1+1) (by omega) (N:=fun k=>k=w.heap.size+1∨k=w.heap.size+1+1) (fun k q=>by omega)
    (octBytes_stops 7 (w.heap.size+1) (w.heap.size+1+1) (by omega) n v hv h8 W5 hbs hbf hcs (by omega) (by omega) (by omega) _ ⟨.inr rfl,.inl rfl⟩) (fun _=>rfl)
    (fun pre W=>PutJ w a w.heap.size l pre W) (fun _ _ _=>False) ?own ?ownx ?box hI0
    (fun T x=>(T.setIfInBounds 22 (.int .u8 (x.toNat:Int))).setIfInBounds 8 (.int .u8 (x.toNat:Int))) ?assign ?body ?done ?stop
  case own=>
    rintro pre W W' row h hg hr
    exact h.grown ha hg fun k q=>⟨by have:=(hr k q).1;omega,fun _=>(hr k q).2⟩
  case ownx=>intro c pre W W' row h _ _;exact h
  case box=>
    rintro pre W W' h hg
    exact h.grown ha hg fun k q=>by cases q;exact⟨by omega,fun z=>by omega⟩
  case assign=>
    intro l x W K hK
    gi_wp2
    exact hK
  case body=>
    rintro lp pre x W ⟨v1,hI1,hI2,hI3,hI4,hI5,hI6⟩ ⟨rest,hrest⟩
    simp only [List.setIfInBounds_toArray,List.set_cons_zero,List.set_cons_succ]
    have hn:pre.length≤8:=by
      have h1:=congrArg List.length hrest
      rw [leB_len,List.length_append] at h1
      omega
    obtain⟨i0,q1,q2,q3,q4⟩:=info_parts byte_infoS
    obtain⟨v',W8,hr,ho,hg,hw⟩:=run_append_mine (P:=Tryz.prog) (W.drew.alloc (.cells #[.int .u8 (x.toNat:Int)] 5)) 22 22 5 i0 _ 1 1 Tryz.underlying22 q1 q2 q3 q4 rfl (by decide) (a+1) v1 _ _ (World.ownsRow.alloc (w:=W.drew) hI2 _) (R:=fun _=>True) (some ⟨W.drew.heap.size,0,none⟩) 1 1 [.int .u8 (x.toNat:Int)] rfl (fun j u hu=>⟨W.drew.heap.size,0,rfl,trivial,by rw [World.cell?_alloc_at _ _ _ _ rfl,Nat.zero_add];simpa using hu⟩) (fun _ q=>one_cell q rfl) (by unfold maxLen;omega) (by omega) (by simp only [World.size_alloc];have:=hI1.lt;show a+1≤W.heap.size+1;omega)
    have hg1:W.drew.grownBy W8 v1.ownBlock:=grew_alloc1 hg
    have hne:∀ k,k≤w.heap.size+2→v1.ownBlock=some k→a < k∧k < w.heap.size:=fun k z q=>by
      have h1:=(own_cells hI2 q).1
      rcases hI5 k q with y | y <;> omega
    have hk:∀ k,k≤w.heap.size+2→(k=a∨w.heap.size≤k)→W8.heap[k]?=W.heap[k]?:=fun k z y=>hg1.block k (by show k < W.heap.size;omega) fun e=>by have:=hne k z e.symm;omega
    have HB8:Hid (Blk W8 a [v1,.bool true,.bool false]):=hI1.kept (hk a (by omega) (.inl rfl)) hg1.size
    have HS8:Hid (W8.heap[w.heap.size]?=W.drew.heap[w.heap.size]?):=hk _ (by omega) (.inr (Nat.le_refl _))
    have HP0:Hid (W.drew.heap[w.heap.size]?=some (.cells #[.pointer (some ⟨a,0,none⟩)] 318 (0,0))):=hI4
    have HV:Hid (∃ A c,v'=.slice A (l.length+pre.length+1) c):=by obtain⟨A,c,z,-,-⟩:=flatq_own ho;exact⟨A,c,z⟩
    have HS7:Hid ((W.drew.alloc (.cells #[.int .u8 (x.toNat:Int)] 5)).heap[w.heap.size]?=W.drew.heap[w.heap.size]?):=Below.heap_alloc _ _ _ (by show w.heap.size < W.heap.size;omega)
    have HC5:Hid (W.drew.cell? ⟨a,0,none⟩=some v1):=hI1.cell 0 rfl
    have HC6:Hid ((W.drew.alloc (.cells #[.int .u8 (x.toNat:Int)] 5)).cell? ⟨a,0,none⟩=some v1):=(World.cell?_alloc_past _ _ _ (by show a < W.heap.size;omega)).trans HC5.out
    obtain⟨A9,c9,rfl⟩:=HV.out
    have HFN:Hid (∀ W9,Stored W8 W9 a 0 [.slice A9 (l.length+pre.length+1) c9]→W9.heap[w.heap.size]?=W.drew.heap[w.heap.size]?∧KeepsFrom W5.heap.size W W9∧(∀ k,(k=w.heap.size+1∨k=w.heap.size+1+1)→W9.heap[k]?=W.heap[k]?)∧PutJ w a w.heap.size l (pre++[x]) W9):=Lib.hid fun W9 hs=>by
      have e9:∀ k,k≤w.heap.size+2→w.heap.size≤k→W9.heap[k]?=W.heap[k]?:=fun k z y=>(hs.far k (by omega)).trans (hk k z (.inr y))
      refine⟨e9 _ (by omega) (Nat.le_refl _),⟨by rw [hs.sz];exact hg1.size,fun k o z y c=>?_⟩,fun k q=>e9 k (by omega) (by omega),⟨_,Blk.put (A:=[]) (M:=[v1]) (D:=[.bool true,.bool false]) HB8.out hs rfl rfl,?_,?_,(e9 _ (by omega) (Nat.le_refl _)).trans hI4,fun k q=>?_,by rw [hs.sz];exact Nat.le_trans hI6 hg1.size⟩⟩
      · rw [hs.far k (by omega)]
        refine (hg1.block k (Array.getElem?_eq_some_iff.1 y).1 fun e=>?_).trans y
        obtain⟨-,cs,x2⟩:=own_cells hI2 e.symm
        rw [y] at x2
        cases x2
        cases c
      · rw [List.length_append,← List.append_assoc,bsV_app1]
        refine own_kept ho (row:=some a) ⟨hs.os,hs.tape,hs.output,Nat.le_of_eq hs.sz.symm,fun k _ z=>hs.far k fun q=>z (by rw [q])⟩ fun k q e=>?_
        cases q
        have:=(own_cells ho e).1
        omega
      · exact ((bdrew hI3).grown hg1 (Nat.le_of_lt hI1.lt) fun k q=>by have:=(own_cells hI2 q).1;omega).trans (hs.below (Nat.le_refl _))
      · rcases hw with z | z
        · exact hI5 k (z ▸ q)
        · rw [z] at q
          cases q
          exact .inr (by simp only [World.size_alloc];show _≤W.heap.size+1;omega)
    have HR:=Lib.hid hr
    clear hg hg1 hr ho hw hk hne hI1 hI2 hI3 hI4 hI5 hI6 hI0 hbs hbf hcs q1 q2 q3 q4 HV hb0 ho0
    apply wpIn_block
    refine wpIn_regionD (r:=some lp) (S:=fun w'=>w'.heap[w.heap.size]?=W.drew.heap[w.heap.size]?) (fun ⟨_,_,h⟩=>h) (by simp) (by kernel_rfl) rfl (fun hHeld0=>?_)
    refine wpAnyH_take (i:=0) (oi:=⟨some 23,_,_,_,_,_⟩) (v:=?_) rfl (by kernel_rfl) (by kernel_rfl) (by kernel_rfl) (fun _ _ _ h=>h) (Or.inl ⟨by rfl,?_⟩) (by assumption) ?_
    rotate_left
    · intro w' hSw
      have c4:=(one_at (hSw.trans HP0.out)).1
      go_simp
      try with_reducible rfl
    try go_frame
    refine wpAnyH_take (i:=1) (oi:=⟨some 24,_,_,_,_,_⟩) (v:=?_) rfl (by kernel_rfl) (by kernel_rfl) (by kernel_rfl) (fun _ _ _ h=>h) (Or.inl ⟨by rfl,?_⟩) (by assumption) ?_
    rotate_left
    · intro w' hSw
      have c4:=(one_at (hSw.trans HP0.out)).1
      go_simp
      try with_reducible rfl
    try go_frame
    refine wpAnyH_take (i:=2) (oi:=⟨some 25,_,_,_,_,_⟩) (v:=?_) rfl (by kernel_rfl) (by kernel_rfl) (by kernel_rfl) (fun _ _ _ h=>h) (Or.inl ⟨by rfl,?_⟩) (by assumption) ?_
    rotate_left
    · intro w' hSw
      go_simp
      try with_reducible rfl
    try go_frame
    refine wpAnyH_take (i:=3) (oi:=⟨some 26,_,_,_,_,_⟩) (v:=?_) rfl (by kernel_rfl) (by kernel_rfl) (by kernel_rfl) (fun _ _ _ h=>h) (Or.inl ⟨by rfl,?_⟩) (by assumption) ?_
    rotate_left
    · intro w' hSw
      go_simp
      try with_reducible rfl
    try go_frame
    refine wpAnyH_take (i:=4) (oi:=⟨some 27,_,_,_,_,_⟩) (v:=?_) rfl (by kernel_rfl) (by kernel_rfl) (by kernel_rfl) (fun _ _ _ h=>h) (Or.inl ⟨by rfl,?_⟩) (by assumption) ?_
    rotate_left
    · intro w' hSw
      go_simp
      try with_reducible rfl
    try go_frame
    refine wpAnyH_take (i:=6) (oi:=⟨some 29,_,_,_,_,_⟩) (v:=?_) rfl (by kernel_rfl) (by kernel_rfl) (by kernel_rfl) (fun _ _ _ h=>h) (Or.inl ⟨by rfl,?_⟩) (by assumption) ?_
    rotate_left
    · intro w' hSw
      go_simp
      try with_reducible rfl
    try go_frame
    refine wpAnyH_ready (rs:=[5,7]) (by kernel_rfl) (by simp) ?_
    refine AllReadyH.cons (o:=⟨some 28,_,_,_,_,_⟩) rfl (fun K hK=>?_) (AllReadyH.cons (o:=⟨some 30,_,_,_,_,_⟩) rfl (fun K hK=>?_) AllReadyH.nil)
    · rw [if_pos (by rfl)]
      have c5:=HC5.out
      go_step
      refine hK.out _ _ hHeld0 (fun hHeld=>?_)
      clear hK K
      try go_frame
      refine wpAnyH_ready (rs:=[7]) (by kernel_rfl) (by simp) ?_
      refine AllReadyH.cons (o:=⟨some 30,_,_,_,_,_⟩) rfl (fun K hK=>?_) AllReadyH.nil
      rw [if_pos (by rfl)]
      go_step
      refine hK.out _ _ HS7.out (fun hHeld=>?_)
      clear hK K
      try go_frame
      refine wpAnyH_ready (rs:=[8]) (by kernel_rfl) (by simp) ?_
      refine AllReadyH.cons (o:=⟨some 31,_,_,_,_,_⟩) rfl (fun K hK=>?_) AllReadyH.nil
      refine step_append_known rfl _ _ 22 rfl _ _ _ rfl rfl HR.out ?_
      refine hK.out _ _ HS8.out (fun hHeld=>?_)
      clear hK K
      try go_frame
      refine wpAnyH_take (i:=9) (oi:=⟨some 32,_,_,_,_,_⟩) (v:=?_) rfl (by kernel_rfl) (by kernel_rfl) (by kernel_rfl) (fun _ _ _ h=>h) (Or.inl ⟨by rfl,?_⟩) (by assumption) ?_
      rotate_left
      · intro w' hSw
        go_simp
        try with_reducible rfl
      try go_frame
      refine wpAnyH_take (i:=10) (oi:=⟨some 33,_,_,_,_,_⟩) (v:=?_) rfl (by kernel_rfl) (by kernel_rfl) (by kernel_rfl) (fun _ _ _ h=>h) (Or.inl ⟨by rfl,?_⟩) (by assumption) ?_
      rotate_left
      · intro w' hSw
        go_simp
        try with_reducible rfl
      try go_frame
      refine wpAnyH_take (i:=11) (oi:=⟨some 34,_,_,_,_,_⟩) (v:=?_) rfl (by kernel_rfl) (by kernel_rfl) (by kernel_rfl) (fun _ _ _ h=>h) (Or.inl ⟨by rfl,?_⟩) (by assumption) ?_
      rotate_left
      · intro w' hSw
        go_simp
        try with_reducible rfl
      try go_frame
      refine wpAnyH_ready (rs:=[12]) (by kernel_rfl) (by simp) ?_
      refine AllReadyH.cons (o:=⟨none,_,_,_,_,_⟩) rfl (fun K hK=>?_) AllReadyH.nil
      rw [if_pos (by rfl)]
      refine wp_store_one 22 _ _ rfl a 0 (.slice A9 (l.length+pre.length+1) c9) rfl rfl (HB8.out.there 0 1 (by simp)) (by kernel_rfl) rfl rfl ?_
      intro W9 hs
      have HF:=Lib.hid (HFN.out W9 hs)
      clear hs
      refine hK.out _ _ HF.out.1 (fun hHeld=>?_)
      clear hK K
      try go_frame
      refine wpAnyH_done (by kernel_rfl) ?_ _
      try go_frame
      exact HF.out.2
    · rw [if_pos (by rfl)]
      go_step
      refine hK.out _ _ HS7.out (fun hHeld=>?_)
      clear hK K
      try go_frame
      refine wpAnyH_ready (rs:=[5]) (by kernel_rfl) (by simp) ?_
      refine AllReadyH.cons (o:=⟨some 28,_,_,_,_,_⟩) rfl (fun K hK=>?_) AllReadyH.nil
      rw [if_pos (by rfl)]
      have c5:(W.alloc (.cells #[.int .u8 (x.toNat:Int)] 5)).drew.cell? ⟨a,0,none⟩=some v1:=HC6.out
      go_step
      refine hK.out _ _ HS7.out (fun hHeld=>?_)
      clear hK K
      try go_frame
      refine wpAnyH_ready (rs:=[8]) (by kernel_rfl) (by simp) ?_
      refine AllReadyH.cons (o:=⟨some 31,_,_,_,_,_⟩) rfl (fun K hK=>?_) AllReadyH.nil
      refine step_append_known rfl _ _ 22 rfl _ _ _ rfl rfl HR.out ?_
      refine hK.out _ _ HS8.out (fun hHeld=>?_)
      clear hK K
      try go_frame
      refine wpAnyH_take (i:=9) (oi:=⟨some 32,_,_,_,_,_⟩) (v:=?_) rfl (by kernel_rfl) (by kernel_rfl) (by kernel_rfl) (fun _ _ _ h=>h) (Or.inl ⟨by rfl,?_⟩) (by assumption) ?_
      rotate_left
      · intro w' hSw
        go_simp
        try with_reducible rfl
      try go_frame
      refine wpAnyH_take (i:=10) (oi:=⟨some 33,_,_,_,_,_⟩) (v:=?_) rfl (by kernel_rfl) (by kernel_rfl) (by kernel_rfl) (fun _ _ _ h=>h) (Or.inl ⟨by rfl,?_⟩) (by assumption) ?_
      rotate_left
      · intro w' hSw
        go_simp
        try with_reducible rfl
      try go_frame
      refine wpAnyH_take (i:=11) (oi:=⟨some 34,_,_,_,_,_⟩) (v:=?_) rfl (by kernel_rfl) (by kernel_rfl) (by kernel_rfl) (fun _ _ _ h=>h) (Or.inl ⟨by rfl,?_⟩) (by assumption) ?_
      rotate_left
      · intro w' hSw
        go_simp
        try with_reducible rfl
      try go_frame
      refine wpAnyH_ready (rs:=[12]) (by kernel_rfl) (by simp) ?_
      refine AllReadyH.cons (o:=⟨none,_,_,_,_,_⟩) rfl (fun K hK=>?_) AllReadyH.nil
      rw [if_pos (by rfl)]
      refine wp_store_one 22 _ _ rfl a 0 (.slice A9 (l.length+pre.length+1) c9) rfl rfl (HB8.out.there 0 1 (by simp)) (by kernel_rfl) rfl rfl ?_
      intro W9 hs
      have HF:=Lib.hid (HFN.out W9 hs)
      clear hs
      refine hK.out _ _ HF.out.1 (fun hHeld=>?_)
      clear hK K
      try go_frame
      refine wpAnyH_done (by kernel_rfl) ?_ _
      try go_frame
      exact HF.out.2
  case done=>
    rintro D xs W hD hS hI hK
    have HS:=Lib.hid hS
    have HI:=Lib.hid hI
    have HK:=Lib.hid hK
    clear hI0 hbs hbf hcs hS hI hK
    refine⟨by simp,.inl ⟨_,_,rfl,run_takeDeferred HK.out,?_⟩⟩
    have hI2:=PutJ.grown HI.out ha (grownBy_putObj' W D (.deferred none)) fun k e=>by
      cases e
      exact⟨by omega,fun _=>⟨_,HK.out,rfl⟩⟩
    refine⟨.tuple #[],by simp [results,Tryz.results241,go_sem],?_⟩
    rw [HS.out] at hI2
    obtain⟨v2,h1,h2,h3,-⟩:=hI2
    exact⟨rfl,⟨v2,h1,by rw [List.length_append];exact h2⟩,h3⟩
  case stop=>
    rintro D pre W hD hrest hX hK
    exact hX.elim
end Go.Proofs.YtaiepcgfofpmjaaGreat
