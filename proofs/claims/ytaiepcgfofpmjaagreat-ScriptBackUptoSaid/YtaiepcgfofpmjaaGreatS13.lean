/- A region within the wide fence, in a round or not, walked as anywhere. -/
import Derived.Test.YtaiepcgfofpmjaaGreatS00
import Derived.RangeFuncNested
import Derived.RangeFuncBound
import Derived.RangeFuncCalls
import Derived.RangeFuncLeaves
import Derived.OwnWalkIn
import Derived.TacticsInMore
import Derived.LoopNIn
import Derived.LoopIn
import Derived.OrdersIn
import Derived.OrdersHeld
import Derived.Test.YtaiepcgfofpmjaaGreatS12
import Derived.RangeFuncOwn
import Derived.OneCell
import Derived.Test.YtaiepcgfofpmjaaGreatS03
import Derived.Test.YtaiepcgfofpmjaaGreatS06
import Derived.LoopN
namespace Go.Proofs.YtaiepcgfofpmjaaGreat
set_option linter.unusedVariables false
open Go.RowKit
section
variable {P : Program} {ops : Array Oper} {a : Act} {w : World} {r : Option Nat} {n : Nat} {Q : Exit → Act → World → Prop} {md : Region.Mode}
abbrev fen (r:Option Nat):Fence:={ Fence.wide with round:=r }
theorem oper_in {o:Oper} {K K':Act→World→Prop} (hd:∀ c,o.op≠.defer c) (hk:∀ a w,K a w→K' a w) (h:o.wp P a w K Q):o.wpIn (fen r) n P a w K' Q:=by
  refine⟨fun f _=>trivial,?_⟩
  have e:o.semAt r a.eval=execOp a.eval o:=by
    cases r with
    | none=>exact Oper.semAt_none ..
    | some l=>exact Oper.semAt_some l _ _ hd
  show o.uponIn (fen r) n P a K' Q ((o.semAt r a.eval).run P w)
  rw [e]
  unfold Oper.wp at h
  revert h
  generalize (execOp a.eval o).run P w=x
  intro h
  cases x with
  | ok y w'=>
    cases y with
    | value v=>exact hk _ _ h
    | skip=>exact hk _ _ h
    | defer d=>exact hk _ _ h
    | enter f args=>
      rw [Oper.uponIn_enter]
      rw [Oper.upon_enter] at h
      exact And.intro (fun q=>by cases q) ((callsIn_wide (n:=n - 1)).2 (Calls.mono h fun e w'' he=>by cases e <;> first | exact hk _ _ he | exact he))
    | row row args=>
      rw [Oper.uponIn_row]
      rw [Oper.upon_row] at h
      exact And.intro (fun q=>by cases q) fun c cs _=>let ⟨v,w'',q,s⟩:=h c cs;⟨v,w'',hk _ _ q,stepsIn_wide.2 s⟩
    | _=>exact h.elim
  | halt y w'=>cases y <;> exact h
theorem list_in (hlo:¬ LetsOut Q):∀ (rest:List Oper),(∀ o∈rest,∀ c,o.op≠.defer c)→∀ a w,wpList P ops Q rest a w→wpListIn (fen r) n P ops Q rest a w
  | [],_,_,_,h=>h
  | o :: rest,hd,a,w,h=>by
    have ih:=list_in hlo rest fun o ho=>hd o (List.mem_cons_of_mem _ ho)
    unfold wpList at h
    unfold wpListIn
    split at h
    · rename_i hw
      rw [if_pos hw]
      exact oper_in (hd o List.mem_cons_self) ih (h.resolve_right fun q=>hlo q.2)
    · rename_i hw
      rw [if_neg hw]
      exact⟨fun f _=>trivial,ih _ _ h⟩
theorem any_in (hlo:¬ LetsOut Q) (hd:∀ o∈ops.toList,∀ c,o.op≠.defer c):∀ (fuel:Nat) listed a w,wpAny P md ops Q fuel listed a w→wpAnyIn (fen r) n P md ops Q fuel listed a w
  | 0,_,_,_,h=>h
  | fuel+1,listed,a,w,h=>by
    refine⟨h.1,fun i hi=>?_⟩
    have h2:=h.2 i hi
    have ih:=any_in hlo hd fuel (listed.setIfInBounds i true)
    unfold wpOp at h2
    unfold wpOpIn
    cases ho:ops[i]? with
    | none=>rw [ho] at h2;exact ih _ _ h2
    | some o=>
      rw [ho] at h2
      dsimp only at h2 ⊢
      split at h2
      · rename_i hw
        rw [if_pos hw]
        exact oper_in (hd o (List.mem_of_getElem? (by rw [Array.getElem?_toList];exact ho))) ih (h2.resolve_right fun q=>hlo q.2)
      · rename_i hw
        rw [if_neg hw]
        exact⟨fun f _=>trivial,ih _ _ h2⟩
theorem wpIn_regionP {id:Nat} {l:List Oper} (hlo:¬ LetsOut Q) (hd:∀ o∈l,∀ c,o.op≠.defer c) (h:wpList P l.toArray Q l a w):(Code.region id l.toArray false).wpIn (fen r) n P Q a w:=
  wpIn_region_lit (list_in hlo l hd a w h)
theorem wpIn_regionD {id:Nat} {S:World→Prop} (hlo:¬ LetsOut Q) (hd:∀ o∈ops.toList,∀ c,o.op≠.defer c) (hm:P.follows .mixedOrders=true) (hS:S w.drew) (h:S w.drew→wpAnyH P .any ops Q S ops.size (Array.replicate ops.size false) a w.drew):(Code.region id ops true).wpIn (fen r) n P Q a w:=
  wpIn_region_any hm (any_in hlo hd _ _ _ _ (wpAny_of_held _ _ _ _ (h hS)))
theorem wpListIn_exec {rest:List Oper} {o:Oper} {W:World} (hgd:o.guard=none) (hd:∀ c,o.op≠.defer c) {v:Value} (hex:(execOp a.eval o).run P w=.ok (.value v) W) (h:wpListIn (fen r) n P ops Q rest (a.put o.dst v) W):wpListIn (fen r) n P ops Q (o :: rest) a w:=
  wpListIn_plain hgd fun K hK=>oper_in (K:=K) hd (fun _ _ q=>q) (by unfold Oper.wp;rw [hex];exact hK _ _ h)
end
open Go.RowKit Go.Shelf
attribute [local go_sem] Oper.semAt_some
def MarkPostS (P:Program) (fn:Func) (R:Ending→World→Prop) (_:Exit→Act→World→Prop):Exit→Act→World→Prop
  | .ret,a,w=>bodyPostM Fence.wide 8 P fn R .ret a w
  | _,_,_=>False
theorem calls_of_markS {P:Program} {f:FuncId} {fn:Func} {c:Code} {args:Array Value} {w:World} {R:Ending→World→Prop} (hf:P.funcs[f]?=some fn) (hb:fn.body=some c)
    (h:c.wp P (MarkPostS P fn R (bodyPost P fn R)) { tmps:=args++Array.replicate (fn.ntmps - args.size) undef,defers:=[] } w):Calls P f args w R:=by
  refine (callsIn_wide (n:=8)).1 (callsIn_of_wp_marks hf hb trivial (wpIn_wide.2 (wp_mono h ?_)) rfl)
  intro e a w' hq
  cases e with
  | ret=>exact hq
  | _=>exact hq.elim
theorem grew_alloc1 {W W':World} {o:Obj} {row:Option Nat} (h:(W.alloc o).grownBy W' row):W.grownBy W' row:=
  ⟨h.os,h.tape,h.output,Nat.le_trans (by simp) h.size,fun k hk hr=>(h.block k (by simp;omega) hr).trans (Below.heap_alloc _ _ _ hk)⟩
theorem own_kept {W W':World} {B:Nat} {v:Value} {n:Nat} {xs:List Value} {T:TypeId} {sz:Nat} {row:Option Nat} (h:W.ownsRow B T sz v n xs) (hg:W.grownBy W' row) (hr:∀ k,row=some k→v.ownBlock≠some k):W'.ownsRow B T sz v n xs:=
  h.kept hg (by
    cases row with
    | none=>exact Classical.em _
    | some k=>exact .inr fun e=>hr k rfl e)
theorem own_cells {W:World} {B:Nat} {v:Value} {n k:Nat} {xs:List Value} {T:TypeId} {sz:Nat} (h:W.ownsRow B T sz v n xs) (hk:v.ownBlock=some k):B≤k∧∃ cs,W.heap[k]?=some (.cells cs T (0,0)):=by
  rcases h.2 with ⟨rfl,-⟩ | ⟨g,cap,cur,rfl,hb,hg,-⟩
  · cases hk
  · simp only [Value.ownBlock,Option.some.injEq] at hk
    subst hk
    exact⟨hb,cur,hg⟩
theorem pushB {P:Program} {B:Nat} {t ty e:TypeId} {z:Value} {size bytes:Nat} {v:Value} {n:Nat} {xs:List Value} {W:World} (h:W.ownsRow B e size v n xs) (hB:B≤W.heap.size) (hi:(P.info? e).map (fun i=>(i.zero,i.size,i.bytes))=some (some z,size,bytes)) (h1:P.underlying t=some (.slice e)) (h6:z.cells.size=size) (h7:0 < size)
    (cs:Array Value) (hcs:cs.size=size) (h1c:∀ u∈cs.toList,u.oneCell'=true) (b1:n+1≤maxLen) (b2:(n+1) * bytes≤140737488355328) :
    ∃ v' W',(Builtin.append_ #[t,t] ty #[v,.slice (some ⟨W.heap.size,0,none⟩) 1 1]).run P (W.alloc (.cells cs e))=.ok v' W'∧W'.ownsRow B e size v' (n+1) (xs++cs.toList)∧W.grownBy W' v.ownBlock:=by
  obtain⟨i,q1,q2,q3,q4⟩:=info_parts hi
  obtain⟨v',W',r1,r2,r3,-⟩:=run_append_mine (P:=P) (W.alloc (.cells cs e)) t ty e i z size bytes h1 q1 q2 q3 q4 h6 h7 B v n xs (h.alloc _) (R:=fun _=>True) (some ⟨W.heap.size,0,none⟩) 1 1 cs.toList (by simp [hcs]) (fun j u hu=>⟨W.heap.size,0,rfl,trivial,by rw [World.cell?_alloc_at _ _ _ _ rfl,Nat.zero_add];simpa using hu⟩) h1c b1 b2 (by simp;omega)
  exact⟨v',W',r1,r2,grew_alloc1 r3⟩
structure RowB (T S:TypeId) (sz:Nat) (w:World) (B ob:Nat) (v:Value) (n:Nat) (xs:List Value) (W:World):Prop where
  own:W.ownsRow B T sz v n xs
  at_:W.heap[ob]?=some (.cells #[v] S (0,0))
  bel:Below w.heap.size w W
  low:w.heap.size≤ob∧ob < B∧B≤W.heap.size
theorem RowB.grown {T S:TypeId} {sz:Nat} {w:World} {B ob:Nat} {v:Value} {n:Nat} {xs:List Value} {W W':World} {row:Option Nat} (h:RowB T S sz w B ob v n xs W) (hg:W.grownBy W' row) (hr:∀ k,row=some k→w.heap.size≤k∧k≠ob∧v.ownBlock≠some k):RowB T S sz w B ob v n xs W':=
  ⟨own_kept h.own hg fun k q=>(hr k q).2.2,(hg.block ob (Array.getElem?_eq_some_iff.1 h.at_).1 fun q=>(hr ob q.symm).2.1 rfl).trans h.at_,h.bel.grown hg h.bel.size fun k q=>(hr k q).1,h.low.1,h.low.2.1,Nat.le_trans h.low.2.2 hg.size⟩
theorem RowB.cell {T S:TypeId} {sz:Nat} {w:World} {B ob:Nat} {v:Value} {n:Nat} {xs:List Value} {W:World} (h:RowB T S sz w B ob v n xs W):W.cell? ⟨ob,0,none⟩=some v∧W.frozen? ⟨ob,0,none⟩=false:=by
  constructor
  · simp [World.cell?,h.at_]
  · simp [World.frozen?,h.at_]
theorem RowB.put {T S:TypeId} {sz:Nat} {w:World} {B ob:Nat} {v v':Value} {n m:Nat} {xs ys:List Value} {W W':World} (h:RowB T S sz w B ob v n xs W) (hg:W.grownBy W' v.ownBlock) (ho:W'.ownsRow B T sz v' m ys):RowB T S sz w B ob v' m ys (W'.setCell ⟨ob,0,none⟩ v')∧(∀ k,k < B→k≠ob→(W'.setCell ⟨ob,0,none⟩ v').heap[k]?=W.heap[k]?)∧KeepsFrom B W (W'.setCell ⟨ob,0,none⟩ v')∧W'.cell? ⟨ob,0,none⟩=some v∧W'.frozen? ⟨ob,0,none⟩=false:=by
  have hb:∀ k,v.ownBlock=some k→B≤k:=fun k q=>(own_cells h.own q).1
  have hl:=h.low
  have ha:W'.heap[ob]?=some (.cells #[v] S (0,0)):=(hg.block ob (Array.getElem?_eq_some_iff.1 h.at_).1 fun q=>by have:=hb ob q.symm;omega).trans h.at_
  have hf:∀ k,k≠ob→(W'.setCell ⟨ob,0,none⟩ v').heap[k]?=W'.heap[k]?:=fun k q=>Below.heap_setCell _ _ _ _ q
  refine⟨⟨own_set ho hl.2.1 v',?_,(h.bel.grown hg h.bel.size fun k q=>by have:=hb k q;omega).setCell hl.1 _,hl.1,hl.2.1,by simpa using Nat.le_trans hl.2.2 hg.size⟩,fun k hk q=>(hf k q).trans (hg.block k (by omega) fun e=>by have:=hb k e.symm;omega),⟨by simpa using hg.size,fun k o hk hko hc=>?_⟩,by simp [World.cell?,ha],by simp [World.frozen?,ha]⟩
  · exact one_setCell ha
  · rw [hf k (by omega)]
    refine (hg.block k (Array.getElem?_eq_some_iff.1 hko).1 fun e=>?_).trans hko
    obtain⟨-,cs,q⟩:=own_cells h.own e.symm
    rw [hko] at q
    injection q with q
    subst q
    cases hc
theorem strL_toL (xs:List ByteArray):(xs.map fun x:ByteArray=>x.data.toList).map strL=xs.map Value.string:=by
  rw [List.map_map]
  exact List.map_congr_left fun x _=>by show Value.string (toB x.data.toList)=_;rw [B_toList]
theorem split_len (c:UInt8):∀ l:List UInt8,(splitB c l).length≤l.length+1
  | []=>Nat.le_refl _
  | x :: l=>by
    have h:=split_len c l
    unfold splitB
    split
    · rw [List.length_cons,List.length_cons];omega
    · split
      · simp
      · rename_i q
        rw [q] at h
        rw [List.length_cons,List.length_cons] at *
        omega
theorem heap_alloc_at (w:World) (o:Obj):(w.alloc o).heap[w.heap.size]?=some o:=World.alloc_heap_new w o
set_option maxRecDepth 8000 in
set_option maxHeartbeats 4000000 in
theorem scrList_any (s:ByteArray) (c:UInt8) (w:World) (hs:s.size≤100000000):Calls Tryz.prog 45 #[.string s,.int .u8 (c.toNat:Int)] w (StrsOut (splitB c s.data.toList) w):=by
  refine calls_of_markS Tryz.func45 rfl ?_
  simp only [Tryz.ntmps45,List.size_toArray,List.length_cons,List.length_nil,Nat.reduceAdd,Nat.reduceSub,Array.replicate_succ,Array.replicate_zero,List.push_toArray,List.append_toArray,List.nil_append,List.cons_append]
  go_wp2_with fail
  refine (scrPieces_any s _ _).mono ?_
  rintro e w1 ⟨rfl,rfl⟩
  go_wp2_with fail
  have hz5:(((w.alloc (.cells #[.slice none 0 0] 134)).alloc (.cells #[.string s] 9)).alloc (.cells #[.int .u8 (c.toNat:Int)] 5)).heap.size=w.heap.size+3:=by simp
  have hI0:RowB 9 134 1 w (w.heap.size+3) w.heap.size (.slice none 0 0) 0 [] (((w.alloc (.cells #[.slice none 0 0] 134)).alloc (.cells #[.string s] 9)).alloc (.cells #[.int .u8 (c.toNat:Int)] 5)):=
    ⟨World.ownsRow_nil _ _ _ _,(Below.heap_alloc _ _ _ (by simp only [World.size_alloc];omega)).trans ((Below.heap_alloc _ _ _ (by simp)).trans (heap_alloc_at w _)),bthen (bthen (below_new _ _) (below_new _ _)) (below_new _ _),Nat.le_refl _,by omega,by omega⟩
  have hbs:(((w.alloc (.cells #[.slice none 0 0] 134)).alloc (.cells #[.string s] 9)).alloc (.cells #[.int .u8 (c.toNat:Int)] 5)).cell? ⟨w.heap.size+1,0,none⟩=some (.string s):=by
    rw [World.cell?_alloc_past _ _ _ (by simp only [World.size_alloc];omega),World.cell?_alloc_at _ _ _ _ (by simp)];rfl
  have hbf:(((w.alloc (.cells #[.slice none 0 0] 134)).alloc (.cells #[.string s] 9)).alloc (.cells #[.int .u8 (c.toNat:Int)] 5)).frozen? ⟨w.heap.size+1,0,none⟩=false:=by
    simp only [frozen?_alloc_cells]
    simp [World.frozen?]
  have hcs:(((w.alloc (.cells #[.slice none 0 0] 134)).alloc (.cells #[.string s] 9)).alloc (.cells #[.int .u8 (c.toNat:Int)] 5)).cell? ⟨w.heap.size+1+1,0,none⟩=some (.int .u8 (c.toNat:Int)):=by
    rw [World.cell?_alloc_at _ _ _ _ (by simp)];rfl
  generalize ((w.alloc (.cells #[.slice none 0 0] 134)).alloc (.cells #[.string s] 9)).alloc (.cells #[.int .u8 (c.toNat:Int)] 5)=W5 at *
  refine (wpIn_wide (n:=8)).1 ?_
  refine wpIn_rangeBoxN (by omega) (gf:=93) (lb:=#[.pointer (some ⟨w.heap.size+1,0,none⟩),.pointer (some ⟨w.heap.size+1+1,0,none⟩)]) rfl (enters_of Tryz.func93 (by kernel_rfl) rfl) (bx:=w.heap.size+1) (by omega) (N:=fun k=>k=w.heap.size+1∨k=w.heap.size+1+1) (fun k q=>by omega)
    (pieces_stops 7 (w.heap.size+1) (w.heap.size+1+1) (by omega) s c hs W5 hbs hbf hcs (by omega) (by omega) (by omega)) (fun _=>rfl)
    (fun pre W=>∃ v,RowB 9 134 1 w (w.heap.size+3) w.heap.size v pre.length (pre.map .string) W) (fun _ _ _=>False) ?own ?ownx ?box ⟨_,hI0⟩
    (fun T x=>(T.setIfInBounds 10 (.string x)).setIfInBounds 6 (.string x)) ?assign ?body ?done ?stop
  case own=>
    rintro pre W W' row ⟨v,h⟩ hg hr
    refine⟨v,h.grown hg fun k q=>⟨by have:=(hr k q).1;omega,by have:=(hr k q).1;omega,fun e=>?_⟩⟩
    obtain⟨-,cs,hcs⟩:=own_cells h.own e
    obtain⟨-,o,ho,hc⟩:=hr k q
    rw [hcs] at ho
    cases ho
    cases hc
  case ownx=>intro c pre W W' row h _ _;exact h
  case box=>
    rintro pre W W' ⟨v,h⟩ hg
    refine⟨v,h.grown hg fun k q=>?_⟩
    cases q
    exact⟨by omega,by omega,fun e=>by have:=(own_cells h.own e).1;omega⟩
  case assign=>
    intro l x W K hK
    gi_wp2
    exact hK
  case body=>
    rintro l pre x W ⟨v,hI⟩ ⟨rest,hrest⟩
    simp only [List.setIfInBounds_toArray,List.set_cons_zero,List.set_cons_succ]
    obtain⟨c0,f0⟩:=hI.cell
    have hn:pre.length≤100000000:=by
      have h1:=congrArg List.length hrest
      have h2:=split_len c s.data.toList
      have h3:s.data.toList.length=s.size:=by simp
      rw [List.length_map,List.length_append,List.length_cons] at h1
      omega
    obtain⟨v',W',hr,ho,hg⟩:=pushB (P:=Tryz.prog) (t:=134) (ty:=134) hI.own hI.low.2.2 str_info Tryz.underlying134 rfl (by decide) #[.string x] rfl (fun _ q=>one_cell q rfl) (by unfold maxLen;omega) (by omega)
    obtain⟨A',n',rfl,-,-⟩:=flatq_own ho
    obtain⟨p1,p2,p3,c1,f1⟩:=hI.put hg ho
    have HR:=Lib.hid hr
    have HP:=Lib.hid (And.intro p1 (And.intro p2 p3))
    clear p1 p2 p3 ho hg hr hI0 hbs hbf hcs
    apply wpIn_block
    refine wpIn_regionP (r:=some l) (fun ⟨_,_,h⟩=>h) (by simp) ?_
    go_wp2_with (at_builtin;refine wpList_append_known rfl _ _ 134 rfl _ _ _ rfl rfl HR.out ?_)
    exact⟨HP.out.2.2,fun k q=>HP.out.2.1 k (by omega) (by omega),_,by rw [List.length_append,List.map_append];exact HP.out.1⟩
  case done=>
    rintro D xs W hD hS ⟨v,hI⟩ hK
    obtain⟨c0,f0⟩:=hI.cell
    have HS:=Lib.hid hS
    have HI:=Lib.hid hI
    have HK:=Lib.hid hK
    clear hI0 hbs hbf hcs hS hI hK
    go_wp2_with fail
    refine⟨by simp,.inl ⟨_,_,rfl,run_takeDeferred HK.out,?_⟩⟩
    have hg:=grownBy_putObj' W D (.deferred none)
    have hI2:=HI.out.grown hg fun k e=>by
      cases e
      refine⟨by omega,by omega,fun e=>?_⟩
      obtain⟨-,cs,q⟩:=own_cells HI.out.own e
      have:=HK.out
      rw [q] at this
      cases this
    refine⟨v,by simp [results,Tryz.results45,go_sem],?_⟩
    rw [← HS.out]
    obtain⟨A,cap,h1,h2,h3,-⟩:=flatq_own hI2.own
    exact⟨A,cap,by rw [h1,List.length_map],by rw [strL_toL];exact h3.less fun b q=>⟨by omega,q.2⟩,hI2.bel,by rw [List.length_map];exact h2⟩
  case stop=>
    rintro D pre W hD hrest hX hK
    exact hX.elim
theorem quatList_c (w:World):Calls Tryz.prog 365 #[.agg #[.int .i32 1073741824,.int .i32 0,.int .i32 0,.int .i32 0]] w fun e w'=>e=.returned (.agg #[.int .i32 1073741824,.int .i32 0,.int .i32 0,.int .i32 0])∧Below w.heap.size w w':=by
  go_enter Tryz.func365,Tryz.ntmps365
  go_wp2_with fail
  have hk:=(Blk.newL (L:=[.int .i32 1073741824,.int .i32 0,.int .i32 0,.int .i32 0]) (grew_alloc (w.alloc (.cells #[.int .i32 1073741824,.int .i32 0,.int .i32 0,.int .i32 0] 48)) #[.int .i32 1073741824,.int .i32 0,.int .i32 0,.int .i32 0] 359) rfl)
  rw [World.size_alloc] at hk
  have hld:=run_loadVar_mid (P:=Tryz.prog) _ (w.heap.size+1) 0 359 _ _ hk.rg Tryz.underlying359 rfl (by kernel_rfl)
  exact bodyPost_ret (v:=.agg #[.int .i32 1073741824,.int .i32 0,.int .i32 0,.int .i32 0]) (by rw [results_cF rfl];simpa [asAddr,Result.andThen] using hld) rfl ⟨rfl,bthen (below_new _ _) (below_new _ _)⟩
set_option maxRecDepth 8000 in
theorem squares_c {w:World} {b o:Nat} (h0:w.cell? ⟨b,o,none⟩=some (.int .i32 1073741824)) (h1:w.cell? ⟨b,o+1,none⟩=some (.int .i32 0)) (h2:w.cell? ⟨b,o+2,none⟩=some (.int .i32 0)) (h3:w.cell? ⟨b,o+3,none⟩=some (.int .i32 0)) :
    Calls Tryz.prog 366 #[.slice (some ⟨b,o,none⟩) 4 4] w fun e w'=>e=.returned (.int .u64 1152921504606846976)∧Below w.heap.size w w':=by
  have a1:∀ W:World,(callFunc 398 #[.int .u64 0,.int .u64 1152921504606846976,.int .u64 0]).run Tryz.prog W=.ok (.value (.tuple #[.int .u64 1152921504606846976,.int .u64 0])) W:=fun W=>by kernel_rfl
  have a2:∀ W:World,(callFunc 398 #[.int .u64 1152921504606846976,.int .u64 0,.int .u64 0]).run Tryz.prog W=.ok (.value (.tuple #[.int .u64 1152921504606846976,.int .u64 0])) W:=fun W=>by kernel_rfl
  go_enter Tryz.func366,Tryz.ntmps366
  go_wp2_with fail
  refine wp_loop_rounds 5 ?_
  rw [rounds_succ]
  go_wp2_with fail
  rw [rounds_succ]
  go_wp2_with fail
  rw [rounds_succ]
  go_wp2_with fail
  rw [rounds_succ]
  go_wp2_with fail
  rw [rounds_succ]
  go_wp2_with fail
  go_ret
  exact⟨rfl,Below.refl _ _⟩
set_option maxRecDepth 8000 in
theorem farthest_c (w:World):Calls Tryz.prog 228 #[.agg #[.int .i32 1073741824,.int .i32 0,.int .i32 0,.int .i32 0]] w fun e w'=>e=.returned (.int .i64 0)∧Below w.heap.size w w':=by
  have x0:∀ W:World,(Instr.index 359 (.agg #[.int .i32 1073741824,.int .i32 0,.int .i32 0,.int .i32 0]) (.int .i64 0)).run Tryz.prog W=.ok (.int .i32 1073741824) W:=fun W=>by kernel_rfl
  have x1:∀ W:World,(Instr.index 359 (.agg #[.int .i32 1073741824,.int .i32 0,.int .i32 0,.int .i32 0]) (.int .i64 1)).run Tryz.prog W=.ok (.int .i32 0) W:=fun W=>by kernel_rfl
  have x2:∀ W:World,(Instr.index 359 (.agg #[.int .i32 1073741824,.int .i32 0,.int .i32 0,.int .i32 0]) (.int .i64 2)).run Tryz.prog W=.ok (.int .i32 0) W:=fun W=>by kernel_rfl
  have x3:∀ W:World,(Instr.index 359 (.agg #[.int .i32 1073741824,.int .i32 0,.int .i32 0,.int .i32 0]) (.int .i64 3)).run Tryz.prog W=.ok (.int .i32 0) W:=fun W=>by kernel_rfl
  go_enter Tryz.func228,Tryz.ntmps228
  go_wp2_with fail
  refine wp_loop_rounds 5 ?_
  rw [rounds_succ]
  go_wp2_with fail
  rw [rounds_succ]
  go_wp2_with fail
  rw [rounds_succ]
  go_wp2_with fail
  rw [rounds_succ]
  go_wp2_with fail
  rw [rounds_succ]
  go_wp2_with fail
  go_ret
  exact⟨rfl,below_new _ _⟩
theorem fixSize_0 (w:World):Calls Tryz.prog 259 #[.int .i64 0] w fun e w'=>e=.returned (.int .u64 0)∧w=w':=by
  go_enter Tryz.func259,Tryz.ntmps259
  go_wp2
  go_ret
  exact⟨rfl,rfl⟩
theorem fixSize_r (w:World):Calls Tryz.prog 259 #[.int .i64 759250125] w fun e w'=>e=.returned (.int .u64 759250125)∧w=w':=by
  go_enter Tryz.func259,Tryz.ntmps259
  go_wp2
  go_ret
  exact⟨rfl,rfl⟩
theorem fixOver_0 (w:World):Calls Tryz.prog 216 #[.int .i64 0,.int .i64 759250125] w fun e w'=>e=.returned (.int .i64 0)∧Below w.heap.size w w':=by
  have H0:=fun W=>Lib.hid (fixSize_0 W)
  have H1:=fun W=>Lib.hid (fixSize_r W)
  go_enter Tryz.func216,Tryz.ntmps216
  go_wp2_with fail
  go_region
  go_wp2_with fail
  refine (H0 _).out.mono ?_
  rintro e w1 ⟨rfl,rfl⟩
  go_wp2_with fail
  refine (H1 _).out.mono ?_
  rintro e w1 ⟨rfl,rfl⟩
  go_wp2_with fail
  go_ret
  exact⟨rfl,bdrew (Below.refl _ _)⟩
theorem number_0 (w:World):Calls Tryz.prog 231 #[.int .i64 0] w fun e w'=>e=.returned (.int .u32 512)∧Below w.heap.size w w':=by
  have H0:=fun W=>Lib.hid (fixOver_0 W)
  go_enter Tryz.func231,Tryz.ntmps231
  go_wp2_with fail
  refine (H0 _).out.mono ?_
  rintro e w1 ⟨rfl,hb⟩
  go_wp2_with fail
  go_ret
  exact⟨rfl,hb⟩
theorem quatNorm_c (w:World):Calls Tryz.prog 313 #[.agg #[.int .i32 1073741824,.int .i32 0,.int .i32 0,.int .i32 0]] w fun e w'=>e=.returned (.int .u64 1152921504606846976)∧Below w.heap.size w w':=by
  have H0:=fun W=>Lib.hid (quatList_c W)
  go_enter Tryz.func313,Tryz.ntmps313
  go_wp2_with fail
  refine (H0 _).out.mono ?_
  rintro e w1 ⟨rfl,hb⟩
  have HB:Hid (Below w.heap.size w w1):=bthen (below_new _ _) hb
  clear hb
  go_wp2_with fail
  have ks:∀ o v,(#[Value.int .i32 1073741824,.int .i32 0,.int .i32 0,.int .i32 0]:Array Value)[o]?=some v→(w1.alloc (.cells #[.int .i32 1073741824,.int .i32 0,.int .i32 0,.int .i32 0] 359)).cell? ⟨w1.heap.size,o,none⟩=some v:=fun o v h=>(World.cell?_alloc_at _ _ _ _ rfl).trans h
  refine (squares_c (ks 0 _ rfl) (ks 1 _ rfl) (ks 2 _ rfl) (ks 3 _ rfl)).mono ?_
  rintro e w2 ⟨rfl,hb2⟩
  go_wp2_with fail
  go_ret
  exact⟨rfl,bthen (bthen HB.out (below_new _ _)) hb2⟩
theorem unitIs_c (w:World):Calls Tryz.prog 227 #[.agg #[.int .i32 1073741824,.int .i32 0,.int .i32 0,.int .i32 0]] w fun e w'=>e=.returned (.bool true)∧Below w.heap.size w w':=by
  have H0:∀ W,Hid (Calls Tryz.prog 270 #[.agg #[.int .i32 1073741824,.int .i32 0,.int .i32 0,.int .i32 0]] W fun e w'=>e=.returned (.int .u64 0)∧Below W.heap.size W w'):=fun W=>Lib.hid (by
    have H0:=fun W=>Lib.hid (quatNorm_c W)
    go_enter Tryz.func270,Tryz.ntmps270
    go_wp2_with fail
    refine (H0 _).out.mono ?_
    rintro e w1 ⟨rfl,hb⟩
    go_wp2_with fail
    go_ret
    exact⟨rfl,bthen (below_new _ _) hb⟩)
  go_enter Tryz.func227,Tryz.ntmps227
  go_wp2_with fail
  refine (H0 _).out.mono ?_
  rintro e w1 ⟨rfl,hb⟩
  go_wp2_with fail
  go_ret
  exact⟨rfl,bthen (below_new _ _) hb⟩
theorem bitsPlace_c (at_ n:Int) (h1:0≤at_) (h2:1≤n) (h3:at_+n≤32) (w:World):Calls Tryz.prog 314 #[.int .i64 at_,.int .i64 n] w fun e w'=>e=.returned (.bool true)∧w=w':=by
  have a1:n≤32:=by omega
  have a2:at_≤32 - n:=by omega
  go_enter Tryz.func314,Tryz.ntmps314
  go_wp2
  go_ret
  exact⟨rfl,rfl⟩
theorem bitsMask_10 (w:World):Calls Tryz.prog 315 #[.int .i64 10] w fun e w'=>e=.returned (.int .u32 1023)∧w=w':=by
  go_enter Tryz.func315,Tryz.ntmps315
  go_wp2
  go_ret
  exact⟨rfl,rfl⟩
theorem bitsMask_2 (w:World):Calls Tryz.prog 315 #[.int .i64 2] w fun e w'=>e=.returned (.int .u32 3)∧w=w':=by
  go_enter Tryz.func315,Tryz.ntmps315
  go_wp2
  go_ret
  exact⟨rfl,rfl⟩
theorem bitsPut_0 (w:World):Calls Tryz.prog 274 #[.int .u32 0,.int .i64 30,.int .i64 2,.int .u32 0] w fun e w'=>e=.returned (.tuple #[.int .u32 0,.bool true])∧Below w.heap.size w w':=by
  have HP:=fun W=>Lib.hid (bitsPlace_c 30 2 (by decide) (by decide) (by decide) W)
  have HM:=fun W=>Lib.hid (bitsMask_2 W)
  go_enter Tryz.func274,Tryz.ntmps274
  go_wp2_with (first | (refine (HP _).out.mono ?_;rintro e w1 ⟨rfl,rfl⟩) | (refine (HM _).out.mono ?_;rintro e w1 ⟨rfl,rfl⟩))
  go_region_with (first | (go_at_call 315;refine (HM _).out.mono ?_;rintro e w1 ⟨rfl,rfl⟩))
  all_goals go_wp2
  all_goals go_ret2
  all_goals exact⟨rfl,bdrew (Below.refl _ _)⟩
theorem bitsPut_1 (w:World):Calls Tryz.prog 274 #[.int .u32 0,.int .i64 20,.int .i64 10,.int .u32 512] w fun e w'=>e=.returned (.tuple #[.int .u32 536870912,.bool true])∧Below w.heap.size w w':=by
  have HP:=fun W=>Lib.hid (bitsPlace_c 20 10 (by decide) (by decide) (by decide) W)
  have HM:=fun W=>Lib.hid (bitsMask_10 W)
  go_enter Tryz.func274,Tryz.ntmps274
  go_wp2_with (first | (refine (HP _).out.mono ?_;rintro e w1 ⟨rfl,rfl⟩) | (refine (HM _).out.mono ?_;rintro e w1 ⟨rfl,rfl⟩))
  go_region_with (first | (go_at_call 315;refine (HM _).out.mono ?_;rintro e w1 ⟨rfl,rfl⟩))
  all_goals go_wp2
  all_goals go_ret2
  all_goals exact⟨rfl,bdrew (Below.refl _ _)⟩
theorem bitsPut_2 (w:World):Calls Tryz.prog 274 #[.int .u32 536870912,.int .i64 10,.int .i64 10,.int .u32 512] w fun e w'=>e=.returned (.tuple #[.int .u32 537395200,.bool true])∧Below w.heap.size w w':=by
  have HP:=fun W=>Lib.hid (bitsPlace_c 10 10 (by decide) (by decide) (by decide) W)
  have HM:=fun W=>Lib.hid (bitsMask_10 W)
  go_enter Tryz.func274,Tryz.ntmps274
  go_wp2_with (first | (refine (HP _).out.mono ?_;rintro e w1 ⟨rfl,rfl⟩) | (refine (HM _).out.mono ?_;rintro e w1 ⟨rfl,rfl⟩))
  go_region_with (first | (go_at_call 315;refine (HM _).out.mono ?_;rintro e w1 ⟨rfl,rfl⟩))
  all_goals go_wp2
  all_goals go_ret2
  all_goals exact⟨rfl,bdrew (Below.refl _ _)⟩
theorem bitsPut_3 (w:World):Calls Tryz.prog 274 #[.int .u32 537395200,.int .i64 0,.int .i64 10,.int .u32 512] w fun e w'=>e=.returned (.tuple #[.int .u32 537395712,.bool true])∧Below w.heap.size w w':=by
  have HP:=fun W=>Lib.hid (bitsPlace_c 0 10 (by decide) (by decide) (by decide) W)
  have HM:=fun W=>Lib.hid (bitsMask_10 W)
  go_enter Tryz.func274,Tryz.ntmps274
  go_wp2_with (first | (refine (HP _).out.mono ?_;rintro e w1 ⟨rfl,rfl⟩) | (refine (HM _).out.mono ?_;rintro e w1 ⟨rfl,rfl⟩))
  go_region_with (first | (go_at_call 315;refine (HM _).out.mono ?_;rintro e w1 ⟨rfl,rfl⟩))
  all_goals go_wp2
  all_goals go_ret2
  all_goals exact⟨rfl,bdrew (Below.refl _ _)⟩
theorem joinFn_any {w:World} {p l r o c:Nat} (k:Nat) (at_ n a v a':Int) (hk:k < 4) (h1:w.cell? ⟨p,0,none⟩=some (.int .u32 a)) (hf:w.frozen? ⟨p,0,none⟩=false) (h2:w.cell? ⟨l,0,none⟩=some (.slice (some ⟨r,o,none⟩) 4 c)) (h3:w.cell? ⟨r,o+k,none⟩=some (.int .u32 v))
    (HP:∀ W,Hid (Calls Tryz.prog 274 #[.int .u32 a,.int .i64 at_,.int .i64 n,.int .u32 v] W fun e w'=>e=.returned (.tuple #[.int .u32 a',.bool true])∧Below W.heap.size W w')) :
    Calls Tryz.prog 273 #[.int .i64 (k:Int),.int .i64 at_,.int .i64 n,.pointer (some ⟨p,0,none⟩),.pointer (some ⟨l,0,none⟩)] w fun e w'=>e=.returned (.bool true)∧w'.cell? ⟨p,0,none⟩=some (.int .u32 a')∧KeptS (fun j=>j < w.heap.size∧j≠p) w w'∧w'.frozen? ⟨p,0,none⟩=false:=by
  have hk0:(0:Int)≤(k:Int):=by omega
  have hk4:(k:Int) < 4:=by omega
  have hpl:p < w.heap.size:=World.block_lt_of_cell? w _ h1
  have H1:=Lib.hid h1
  have HF:=Lib.hid hf
  have HPL:=Lib.hid hpl
  clear hpl
  go_enter Tryz.func273,Tryz.ntmps273
  go_wp2_with fail
  go_region_with (first | (go_at_call 274;refine (HP _).out.mono ?_;rintro e w1 ⟨rfl,hb1⟩))
  all_goals have HB:Hid (Below w.heap.size w w1):=bthen (bdrew (Below.refl _ _)) hb1
  all_goals have p1:=(HB.out.cell (p:=⟨p,0,none⟩) HPL.out).trans H1.out
  all_goals have f1:=(HB.out.frozen (p:=⟨p,0,none⟩) HPL.out).trans HF.out
  all_goals have HP1:=Lib.hid (And.intro p1 f1)
  all_goals clear hb1 h1 h2 h3 hf
  all_goals go_wp2_with fail
  all_goals go_ret
  all_goals exact⟨rfl,World.cell?_setCell_same' _ _ _ (by rw [HP1.out.1];rfl),(KeptS.of_below HB.out fun j q=>q.1).set (fun q=>q.2 rfl) _ _,by rw [World.frozen?_setCell];exact HP1.out.2⟩
set_option maxRecDepth 8000 in
theorem placesJ_c {w:World} {b p l r c:Nat} (d0:w.cell? ⟨b,0,none⟩=some (.int .i64 2)) (d1:w.cell? ⟨b,1,none⟩=some (.int .i64 10)) (d2:w.cell? ⟨b,2,none⟩=some (.int .i64 10)) (d3:w.cell? ⟨b,3,none⟩=some (.int .i64 10))
    (h1:w.cell? ⟨p,0,none⟩=some (.int .u32 0)) (hf:w.frozen? ⟨p,0,none⟩=false) (h2:w.cell? ⟨l,0,none⟩=some (.slice (some ⟨r,0,none⟩) 4 c)) (r0:w.cell? ⟨r,0,none⟩=some (.int .u32 0)) (r1:w.cell? ⟨r,1,none⟩=some (.int .u32 512)) (r2:w.cell? ⟨r,2,none⟩=some (.int .u32 512)) (r3:w.cell? ⟨r,3,none⟩=some (.int .u32 512)) (hbp:b≠p) (hlp:l≠p) (hrp:r≠p) :
    Calls Tryz.prog 272 #[.slice (some ⟨b,0,none⟩) 4 4,.func (.func 273) #[] #[.pointer (some ⟨p,0,none⟩),.pointer (some ⟨l,0,none⟩)]] w fun e w'=>e=.returned (.bool true)∧w'.cell? ⟨p,0,none⟩=some (.int .u32 537395712)∧KeptS (fun j=>j < w.heap.size∧j≠p) w w':=by
  have hbl:b < w.heap.size:=World.block_lt_of_cell? w _ d0
  have hll:l < w.heap.size:=World.block_lt_of_cell? w _ h2
  have hrl:r < w.heap.size:=World.block_lt_of_cell? w _ r0
  have H0:=Lib.hid (joinFn_any 0 30 2 0 0 0 (by decide) h1 hf h2 r0 fun W=>Lib.hid (bitsPut_0 W))
  have HC:=Lib.hid (And.intro d0 (And.intro d1 (And.intro d2 (And.intro d3 (And.intro h2 (And.intro r0 (And.intro r1 (And.intro r2 r3))))))))
  have HN:=Lib.hid (And.intro hbp (And.intro hlp (And.intro hrp (And.intro hbl (And.intro hll hrl)))))
  clear h1 hf h2 r0 r1 r2 r3 hbl hll hrl
  go_enter Tryz.func272,Tryz.ntmps272
  go_wp2_with fail
  refine wp_loop_rounds 5 ?_
  rw [rounds_succ]
  go_wp2_with fail
  rw [rounds_succ]
  go_wp2_with fail
  rw [rounds_succ]
  go_wp2_with fail
  rw [rounds_succ]
  go_wp2_with fail
  rw [rounds_succ]
  go_wp2_with fail
  refine wp_loop_rounds 5 ?_
  rw [rounds_succ]
  go_wp2_with fail
  refine H0.out.mono ?_
  rintro e w1 ⟨rfl,p1,k1,f1⟩
  have K1:=Lib.hid k1
  have H1:=Lib.hid (joinFn_any (l:=l) (r:=r) (o:=0) (c:=c) 1 20 10 0 512 536870912 (by decide) p1 f1 ((K1.out.cell ⟨HN.out.2.2.2.2.1,HN.out.2.1⟩).trans HC.out.2.2.2.2.1) ((K1.out.cell ⟨HN.out.2.2.2.2.2,HN.out.2.2.1⟩).trans HC.out.2.2.2.2.2.2.1) fun W=>Lib.hid (bitsPut_1 W))
  have d1:=(K1.out.cell (o:=1) ⟨HN.out.2.2.2.1,HN.out.1⟩).trans HC.out.2.1
  clear p1 k1 f1
  go_wp2_with fail
  rw [rounds_succ]
  go_wp2_with fail
  refine H1.out.mono ?_
  rintro e w2 ⟨rfl,p2,k2,f2⟩
  have K2:Hid (KeptS (fun j=>j < w.heap.size∧j≠p) w w2):=K1.out.trans (k2.less fun j q=>⟨Nat.lt_of_lt_of_le q.1 K1.out.size,q.2⟩)
  have H2:=Lib.hid (joinFn_any (l:=l) (r:=r) (o:=0) (c:=c) 2 10 10 536870912 512 537395200 (by decide) p2 f2 ((K2.out.cell ⟨HN.out.2.2.2.2.1,HN.out.2.1⟩).trans HC.out.2.2.2.2.1) ((K2.out.cell ⟨HN.out.2.2.2.2.2,HN.out.2.2.1⟩).trans HC.out.2.2.2.2.2.2.2.1) fun W=>Lib.hid (bitsPut_2 W))
  have d2:=(K2.out.cell (o:=2) ⟨HN.out.2.2.2.1,HN.out.1⟩).trans HC.out.2.2.1
  clear p2 k2 f2
  go_wp2_with fail
  rw [rounds_succ]
  go_wp2_with fail
  refine H2.out.mono ?_
  rintro e w3 ⟨rfl,p3,k3,f3⟩
  have K3:Hid (KeptS (fun j=>j < w.heap.size∧j≠p) w w3):=K2.out.trans (k3.less fun j q=>⟨Nat.lt_of_lt_of_le q.1 K2.out.size,q.2⟩)
  have H3:=Lib.hid (joinFn_any (l:=l) (r:=r) (o:=0) (c:=c) 3 0 10 537395200 512 537395712 (by decide) p3 f3 ((K3.out.cell ⟨HN.out.2.2.2.2.1,HN.out.2.1⟩).trans HC.out.2.2.2.2.1) ((K3.out.cell ⟨HN.out.2.2.2.2.2,HN.out.2.2.1⟩).trans HC.out.2.2.2.2.2.2.2.2) fun W=>Lib.hid (bitsPut_3 W))
  have d3:=(K3.out.cell (o:=3) ⟨HN.out.2.2.2.1,HN.out.1⟩).trans HC.out.2.2.2.1
  clear p3 k3 f3
  go_wp2_with fail
  rw [rounds_succ]
  go_wp2_with fail
  refine H3.out.mono ?_
  rintro e w4 ⟨rfl,p4,k4,f4⟩
  have K4:Hid (KeptS (fun j=>j < w.heap.size∧j≠p) w w4):=K3.out.trans (k4.less fun j q=>⟨Nat.lt_of_lt_of_le q.1 K3.out.size,q.2⟩)
  have HF:=Lib.hid p4
  clear k4 f4 p4 d0 d1 d2 d3
  go_wp2_with fail
  rw [rounds_succ]
  go_wp2_with fail
  go_ret
  exact⟨rfl,HF.out,K4.out⟩
theorem bitsJoin_c {w:World} {b r c:Nat} (d0:w.cell? ⟨b,0,none⟩=some (.int .i64 2)) (d1:w.cell? ⟨b,1,none⟩=some (.int .i64 10)) (d2:w.cell? ⟨b,2,none⟩=some (.int .i64 10)) (d3:w.cell? ⟨b,3,none⟩=some (.int .i64 10)) (r0:w.cell? ⟨r,0,none⟩=some (.int .u32 0)) (r1:w.cell? ⟨r,1,none⟩=some (.int .u32 512)) (r2:w.cell? ⟨r,2,none⟩=some (.int .u32 512)) (r3:w.cell? ⟨r,3,none⟩=some (.int .u32 512)) :
    Calls Tryz.prog 232 #[.slice (some ⟨b,0,none⟩) 4 4,.slice (some ⟨r,0,none⟩) 4 c] w fun e w'=>e=.returned (.tuple #[.int .u32 537395712,.bool true])∧Below w.heap.size w w':=by
  have hbl:b < w.heap.size:=World.block_lt_of_cell? w _ d0
  have hrl:r < w.heap.size:=World.block_lt_of_cell? w _ r0
  have hb2:Below w.heap.size w ((w.alloc (.cells #[.slice (some ⟨r,0,none⟩) 4 c] 362)).alloc (.cells #[.int .u32 0] 69)):=bthen (below_new _ _) (below_new _ _)
  have cb:=fun o=>hb2.cell (p:=⟨b,o,none⟩) hbl
  have cr:=fun o=>hb2.cell (p:=⟨r,o,none⟩) hrl
  have HPL:=Lib.hid (placesJ_c (w:=(w.alloc (.cells #[.slice (some ⟨r,0,none⟩) 4 c] 362)).alloc (.cells #[.int .u32 0] 69)) (b:=b) (p:=w.heap.size+1) (l:=w.heap.size) (r:=r) (c:=c) ((cb 0).trans d0) ((cb 1).trans d1) ((cb 2).trans d2) ((cb 3).trans d3) (World.cell?_alloc_at _ _ _ _ (by simp)) (by rw [frozen?_alloc_cells,frozen?_alloc_cells];exact frozen_past _ _ _ (by omega)) ((World.cell?_alloc_past _ _ _ (by simp)).trans (World.cell?_alloc_at _ _ _ _ rfl)) ((cr 0).trans r0) ((cr 1).trans r1) ((cr 2).trans r2) ((cr 3).trans r3) (by omega) (by omega) (by omega))
  have HB2:=Lib.hid hb2
  clear d0 d1 d2 d3 r0 r1 r2 r3 cb cr hb2
  go_enter Tryz.func232,Tryz.ntmps232
  go_wp2_with fail
  refine HPL.out.mono ?_
  rintro e w1 ⟨rfl,p1,k1⟩
  have HB:Hid (Below w.heap.size w w1):=HB2.out.trans (k1.below fun j q=>⟨by simp;omega,by omega⟩)
  clear k1
  go_wp2_with fail
  go_ret2
  exact⟨rfl,HB.out⟩
end Go.Proofs.YtaiepcgfofpmjaaGreat
