/- Layer 12: the word of the start. -/
import Derived.Test.YtaiepcgfofpmjaaGreatS13
import Derived.Test.YtaiepcgfofpmjaaGreatS21
import Derived.Test.YtaiepcgfofpmjaaGreatS35
import Derived.Deep.DeepCutAuto
namespace Go.Proofs.YtaiepcgfofpmjaaGreat
set_option linter.unusedVariables false
open Go.RowKit
open Go.RowKit Go.Shelf
attribute [local go_sem] Oper.semAt_some
theorem run_store_funcN {P:Program} {w:World} {a:Addr} {m:Mode} (f:_) (x:_) (y:_):(store a (.func f x y) m).run P w=stored P w a (.func f x y) m:=run_store P w a _ m rfl
def oth0:List (Nat×Nat):=[(0,1),(1,2),(2,3)]
def encO (x:Nat×Nat):Array Value:=#[.int .i64 (x.1:Int),.int .i64 (x.2:Int)]
theorem others_any (w:World):Calls Tryz.prog 230 #[.int .i64 0] w fun e w'=>e=.returned (.func (.func 271) #[] #[.pointer (some ⟨w.heap.size,0,none⟩)])∧w'=w.alloc (.cells #[.int .i64 0] 3):=by
  go_enter Tryz.func230,Tryz.ntmps230
  go_wp2
  go_ret
  exact⟨rfl,rfl⟩
set_option maxRecDepth 100000 in
set_option maxHeartbeats 2000000 in
theorem others_stops (m bx:Nat) (hm:1≤m) (w:World) (hw:w.cell? ⟨bx,0,none⟩=some (.int .i64 0)) (hbx:bx < w.heap.size) :
    BoxStopN m Tryz.prog 271 #[.pointer (some ⟨bx,0,none⟩)] encO bx (fun k=>k=bx) (fun xs=>xs=oth0) w:=by
  intro l J Jx W hW hJ hY h0
  have hbW:W.cell? ⟨bx,0,none⟩=some (.int .i64 0):=(hW.cell (p:=⟨bx,0,none⟩) hbx).trans hw
  have HY:=Lib.hid hY
  clear hJ hY hW hw
  refine callsIn_of_wp Tryz.func271 rfl trivial ?_ rfl
  simp only [Tryz.ntmps271,List.size_toArray,List.length_cons,List.length_nil,Nat.reduceAdd,Nat.reduceSub,Array.replicate_succ,Array.replicate_zero,List.push_toArray,List.append_toArray,List.nil_append,List.cons_append]
  gi_wp2
  gi_loopw [3,5] (fun k i wr=>∃ p j:Nat,(j=0∧p=0∨j=p+1)∧p≤3∧i=.int .i64 (j:Int)∧k=.int .i64 (p:Int)∧Hid (J (oth0.take p) wr)∧Hid (wr.cell? ⟨bx,0,none⟩=some (.int .i64 0))) (fun _ i _=>4 - (intOf i).toNat)
  case atStart=>exact⟨0,0,.inl ⟨rfl,rfl⟩,by omega,rfl,rfl,h0,hbW⟩
  case round=>
    obtain⟨p,j,hjp,hp,rfl,rfl,HI,HB⟩:=hrel
    have cb:=HB.out
    rcases hjp with ⟨rfl,rfl⟩ | hjp
    · gi_wp2
      go_roundw
      case rel=>exact⟨0,1,.inr rfl,by omega,rfl,rfl,HI,HB⟩
      case measure=>simp [intOf]
    · by_cases hlt:p < 3
      · have hx:(∃ rest,oth0.take p++(p,j) :: rest=oth0)∧oth0.take (p+1)=oth0.take p++[(p,j)]:=by
          subst hjp
          rcases (by omega:p=0∨p=1∨p=2) with rfl | rfl | rfl
          · exact⟨⟨_,rfl⟩,rfl⟩
          · exact⟨⟨_,rfl⟩,rfl⟩
          · exact⟨⟨_,rfl⟩,rfl⟩
        have HTK:=Lib.hid hx.2
        obtain⟨fn,tmps,assign,body,hy,hR⟩:=HY.out _ (p,j) _ HI.out hx.1
        unfold encO at hy
        dsimp only at hy
        have HR:=Lib.hid hR
        have hj0:((j:Int)==0)=false:=by rw [beq_eq_false_iff_ne];omega
        have hj4:(j:Int) < 4:=by omega
        have HJP:=Lib.hid hjp
        clear hR hx hjp
        gi_wp2
        refine HR.out.mono ?_
        rintro e W3 (⟨rfl,hJ3,hk3⟩ | ⟨rfl,hJx3⟩)
        · have HI3:Hid (J (oth0.take (p+1)) W3):=by rw [HTK.out];exact hJ3
          have HB3:Hid (W3.cell? ⟨bx,0,none⟩=some (.int .i64 0)):=(World.cell?_of_block (a:=⟨bx,0,none⟩) (hk3 bx rfl)).trans HB.out
          clear hJ3 hk3 HI HB cb
          gi_wp2
          go_roundw
          case rel=>exact⟨p+1,j+1,.inr (by have:=HJP.out;omega),by omega,by simp,by simp,HI3,HB3⟩
          case measure=>have:=HJP.out;simp [intOf];omega
        · have HI3:=Lib.hid hJx3
          clear hJx3 HI
          gi_wp2
          refine bodyPost_ret (results_none rfl _ _ _) rfl ?_
          exact⟨⟨_,rfl⟩,.inr ⟨oth0.take (p+1),⟨oth0.drop (p+1),List.take_append_drop _ _⟩,by rw [HTK.out];exact HI3.out⟩⟩
      · obtain rfl:p=3:=by omega
        obtain rfl:j=4:=by omega
        have HI3:Hid (J oth0 wr):=HI.out
        clear HI
        gi_wp2
        go_end0
        exact⟨⟨_,rfl⟩,.inl HI3.out⟩
open Go.RowKit Go.Shelf
attribute [local go_sem] Oper.semAt_some
def fstL:List Value:=[.int .i32 1073741824,.int .i32 0,.int .i32 0,.int .i32 0,.int .i32 0,.int .i32 0,.int .i32 0,.int .i64 0,.int .i64 0]
structure PackJ (w:World) (p y:Nat) (v:Value) (n:Nat) (W:World):Prop where
  own:W.ownsRow (y+2) 69 1 v (n+1) (.int .u32 0 :: List.replicate n (.int .u32 512))
  ne:∀ k,v.ownBlock=some k→k=y+2∨y+5≤k
  at1:W.heap[p]?=some (.cells #[.int .i32 1073741824,.int .i32 0,.int .i32 0,.int .i32 0] 359 (0,0))
  at2:W.heap[y]?=some (.cells #[.int .i64 0] 3 (0,0))
  at3:W.heap[y+1]?=some (.cells #[.func (.func 229) #[] #[.pointer (some ⟨p,0,none⟩),.pointer (some ⟨y,0,none⟩)]] 361 (0,0))
  at4:Blk W (y+3) [v]
  bel:Below w.heap.size w W
  low:(w.heap.size≤p∧p < y)∧y+5≤W.heap.size
theorem PackJ.grown {w:World} {p y:Nat} {v:Value} {n:Nat} {W W':World} {row:Option Nat} (h:PackJ w p y v n W) (hg:W.grownBy W' row) (hr:∀ k,row=some k→k=y+4∨(y+5≤k∧∃ o,W.heap[k]?=some o∧o.isCells=false)):PackJ w p y v n W':=by
  have hl:=h.low
  have hk:∀ k,k < y+4→W'.heap[k]?=W.heap[k]?:=fun k q=>hg.block k (by omega) fun e=>by have:=hr k e.symm;omega
  refine⟨own_kept h.own hg fun k q e=>?_,h.ne,(hk _ (by omega)).trans h.at1,(hk _ (by omega)).trans h.at2,(hk _ (by omega)).trans h.at3,h.at4.kept (hk _ (by omega)) hg.size,h.bel.grown hg h.bel.size fun k q=>by have:=hr k q;omega,hl.1,Nat.le_trans hl.2 hg.size⟩
  rcases hr k q with z | ⟨-,o,ho,hc⟩
  · have:=h.ne k e;omega
  · obtain⟨-,cs,x⟩:=own_cells h.own e
    rw [x] at ho
    cases ho
    cases hc
def Pack3 (p y:Nat) (W w':World):Prop:=w'.heap[y+1]?=W.heap[y+1]?∧w'.heap[p]?=W.heap[p]?∧w'.heap[y]?=W.heap[y]?
theorem PackJ.three {w:World} {p y:Nat} {v:Value} {n:Nat} {W W':World} (h:PackJ w p y v n W) (hb:Below W.heap.size W W'):Pack3 p y W W':=by
  have hl:=h.low
  exact⟨hb.block _ (by omega),hb.block _ (by omega),hb.block _ (by omega)⟩
theorem PackJ.word {w:World} {p y:Nat} {v:Value} {n:Nat} {W W':World} (h:PackJ w p y v n W) (hb:Below W.heap.size W W'):W'.cell? ⟨y+3,0,none⟩=some v:=by
  have hl:=h.low
  exact (hb.cell (p:=⟨y+3,0,none⟩) (by show y+3 < _;omega)).trans (h.at4.cell 0 rfl)
theorem info_u32:(Tryz.prog.info? 69).map (fun i=>(i.zero,i.size,i.bytes))=some (some (.int .u32 0),1,4):=by kernel_rfl
theorem PackJ.push {w:World} {p y:Nat} {v:Value} {n:Nat} {W:World} (h:PackJ w p y v n W) (hn:n≤3) {W6:World} (hb:Below W.heap.size W W6) :
    ∃ A c W8,(Builtin.append_ #[362,362] 362 #[v,.slice (some ⟨W6.heap.size,0,none⟩) 1 1]).run Tryz.prog (W6.alloc (.cells #[.int .u32 512] 69))=.ok (.slice A (n+2) c) W8∧Pack3 p y W W8∧W8.there (y+3) 0 1 ∧
      ∀ W9,Stored W8 W9 (y+3) 0 [.slice A (n+2) c]→Pack3 p y W W9∧KeepsFrom (y+5) W W9∧W9.heap[y+4]?=W.heap[y+4]?∧PackJ w p y (.slice A (n+2) c) (n+1) W9:=by
  have hl:=h.low
  have hz6:=hb.size
  obtain⟨i,q1,q2,q3,q4⟩:=info_parts info_u32
  obtain⟨v',W8,r1,r2,r3,r4⟩:=run_append_mine (P:=Tryz.prog) (W6.alloc (.cells #[.int .u32 512] 69)) 362 362 69 i _ 1 4 Tryz.underlying362 q1 q2 q3 q4 rfl (by decide) (y+2) v (n+1) _ ((own_on h.own hb).alloc _) (R:=fun _=>True) (some ⟨W6.heap.size,0,none⟩) 1 1 [.int .u32 512] rfl (fun j u hu=>⟨W6.heap.size,0,rfl,trivial,by rw [World.cell?_alloc_at _ _ _ _ rfl,Nat.zero_add];simpa using hu⟩) (fun _ q=>one_cell q rfl) (by unfold maxLen;omega) (by omega) (by simp;omega)
  have hg:=grew_alloc1 r3
  obtain⟨A,c,rfl,-,-⟩:=flatq_own r2
  have hvb:∀ k,v.ownBlock=some k→k < W.heap.size:=fun k q=>by
    obtain⟨-,cs,z⟩:=own_cells h.own q
    exact (Array.getElem?_eq_some_iff.1 z).1
  have hk:∀ k,k < W.heap.size→v.ownBlock≠some k→W8.heap[k]?=W.heap[k]?:=fun k q z=>(hg.block k (by omega) fun e=>z e.symm).trans (hb.block k q)
  have hk5:∀ k,k < y+5→k≠y+2→W8.heap[k]?=W.heap[k]?:=fun k q z=>hk k (by omega) fun e=>by have:=h.ne k e;omega
  have h4:Blk W8 (y+3) [v]:=h.at4.kept (hk5 (y+3) (by omega) (by omega)) (Nat.le_trans hz6 hg.size)
  refine⟨A,c,W8,r1,⟨hk5 _ (by omega) (by omega),hk5 _ (by omega) (by omega),hk5 _ (by omega) (by omega)⟩,h4.there 0 1 (Nat.le_refl _),fun W9 hs=>?_⟩
  have k9:∀ k,k < y+5→k≠y+2→k≠y+3→W9.heap[k]?=W.heap[k]?:=fun k q z z'=>(hs.far k z').trans (hk5 k q z)
  have hz9:W.heap.size≤W9.heap.size:=by rw [hs.sz];exact Nat.le_trans hz6 hg.size
  refine⟨⟨k9 _ (by omega) (by omega) (by omega),k9 _ (by omega) (by omega) (by omega),k9 _ (by omega) (by omega) (by omega)⟩,⟨hz9,fun k o z yk cc=>?_⟩,k9 _ (by omega) (by omega) (by omega),⟨?_,fun k q=>?_,(k9 _ (by omega) (by omega) (by omega)).trans h.at1,(k9 _ (by omega) (by omega) (by omega)).trans h.at2,(k9 _ (by omega) (by omega) (by omega)).trans h.at3,?_,?_,hl.1,by omega⟩⟩
  · rw [hs.far k (by omega)]
    refine (hk k (Array.getElem?_eq_some_iff.1 yk).1 fun e=>?_).trans yk
    obtain⟨-,cs,x2⟩:=own_cells h.own e
    rw [yk] at x2
    cases x2
    cases cc
  · have e:(.int .u32 0 :: List.replicate n (Value.int .u32 512))++[.int .u32 512]=.int .u32 0 :: List.replicate (n+1) (.int .u32 512):=by
      rw [List.replicate_succ',List.cons_append]
    rw [← e]
    refine own_kept r2 (row:=some (y+3)) ⟨hs.os,hs.tape,hs.output,Nat.le_of_eq hs.sz.symm,fun k _ z=>hs.far k fun q=>z (by rw [q])⟩ fun k q e=>?_
    cases q
    rcases r4 with z | z
    · have:=h.ne _ (z ▸ e);omega
    · rw [z] at e;injection e with e;simp at e;omega
  · rcases r4 with z | z
    · exact h.ne k (z ▸ q)
    · rw [z] at q;injection q with q;simp at q;omega
  · exact h4.all hs rfl
  · exact (h.bel.trans (hb.mono h.bel.size)).trans ((Below.refl _ _).grown hg (by omega) fun k q=>by have:=h.ne k q;omega) |>.trans (hs.below (by omega))
theorem PackJ.join {w:World} {p y:Nat} {v:Value} {W:World} (h:PackJ w p y v 3 W):∃ r c,v=.slice (some ⟨r,0,none⟩) 4 c∧r < W.heap.size∧W.cell? ⟨r,0,none⟩=some (.int .u32 0)∧W.cell? ⟨r,1,none⟩=some (.int .u32 512)∧W.cell? ⟨r,2,none⟩=some (.int .u32 512)∧W.cell? ⟨r,3,none⟩=some (.int .u32 512):=by
  obtain⟨A,c,rfl,-,hf,-⟩:=flatq_own h.own
  rcases h.own.2 with ⟨z,-⟩ | ⟨g,cap,cur,e,hg,hh,-⟩
  · cases z
  · cases e
    have key:∀ (j:Nat) u,(Value.int .u32 0 :: List.replicate 3 (.int .u32 512))[j]?=some u→W.cell? ⟨g,j,none⟩=some u:=fun j u hu=>by
      obtain⟨b,off,e,-,z⟩:=hf j u hu
      cases e
      rwa [Nat.zero_add] at z
    exact⟨g,_,rfl,(Array.getElem?_eq_some_iff.1 hh).1,key 0 _ rfl,key 1 _ rfl,key 2 _ rfl,key 3 _ rfl⟩
theorem packFn_any {w:World} {p y:Nat} (h1:w.heap[p]?=some (.cells #[.int .i32 1073741824,.int .i32 0,.int .i32 0,.int .i32 0] 359 (0,0))) (h2:w.heap[y]?=some (.cells #[.int .i64 0] 3 (0,0))) :
    Calls Tryz.prog 229 #[.int .i32 0,.pointer (some ⟨p,0,none⟩),.pointer (some ⟨y,0,none⟩)] w fun e w'=>e=.returned (.int .i64 0)∧w=w':=by
  have c1:w.cell? ⟨p,0,none⟩=some (.int .i32 1073741824):=by simp [World.cell?,h1]
  have c2:=(one_at h2).1
  clear h1 h2
  go_enter Tryz.func229,Tryz.ntmps229
  go_wp2
  go_ret
  exact⟨rfl,rfl⟩
theorem widths_any (w:World):Calls Tryz.prog 233 #[] w fun e w'=>e=.returned (.slice (some ⟨w.heap.size,0,none⟩) 4 4)∧Below w.heap.size w w'∧w'.cell? ⟨w.heap.size,0,none⟩=some (.int .i64 2)∧w'.cell? ⟨w.heap.size,1,none⟩=some (.int .i64 10)∧w'.cell? ⟨w.heap.size,2,none⟩=some (.int .i64 10)∧w'.cell? ⟨w.heap.size,3,none⟩=some (.int .i64 10):=by
  go_enter Tryz.func233,Tryz.ntmps233
  go_wp2
  go_ret
  exact⟨rfl,below_new _ _,(World.cell?_alloc_at _ _ _ _ rfl).trans rfl,(World.cell?_alloc_at _ _ _ _ rfl).trans rfl,(World.cell?_alloc_at _ _ _ _ rfl).trans rfl,(World.cell?_alloc_at _ _ _ _ rfl).trans rfl⟩
set_option maxRecDepth 8000 in
set_option maxHeartbeats 2000000 in
theorem smallPack_c (w:World):Calls Tryz.prog 183 #[.agg #[.int .i32 1073741824,.int .i32 0,.int .i32 0,.int .i32 0]] w fun e w'=>e=.returned (.tuple #[.int .u32 537395712,.bool true])∧Below w.heap.size w w':=by
  have hsf:=@run_store_funcN Tryz.prog
  refine calls_of_markS Tryz.func183 rfl ?_
  simp only [Tryz.ntmps183,List.size_toArray,List.length_cons,List.length_nil,Nat.reduceAdd,Nat.reduceSub,Array.replicate_succ,Array.replicate_zero,List.push_toArray,List.append_toArray,List.nil_append,List.cons_append]
  go_wp2_with fail
  refine (unitIs_c _).mono ?_
  rintro e w1 ⟨rfl,hb1⟩
  have HB1:Hid (Below w.heap.size w w1):=bthen (below_new _ _) hb1
  have hk1:=(Blk.newL (L:=[.int .i32 1073741824,.int .i32 0,.int .i32 0,.int .i32 0]) (grew_alloc w #[.int .i32 1073741824,.int .i32 0,.int .i32 0,.int .i32 0] 48) rfl).on hb1
  have q0:=hk1.cell 0 (v:=.int .i32 1073741824) rfl
  have q1:=hk1.cell 1 (v:=.int .i32 0) rfl
  have q2:=hk1.cell 2 (v:=.int .i32 0) rfl
  have q3:=hk1.cell 3 (v:=.int .i32 0) rfl
  clear hb1 hk1
  go_wp2_with fail
  refine (farthest_c _).mono ?_
  rintro e w2 ⟨rfl,hb2⟩
  clear q0 q1 q2 q3
  have HA1:Hid (w2.heap[w1.heap.size]?=some (.cells #[.int .i32 1073741824,.int .i32 0,.int .i32 0,.int .i32 0] 359 (0,0))):=(hb2.block _ (by simp)).trans (World.alloc_heap_new _ _)
  have HL:Hid (w1.heap.size < w2.heap.size):=by have:=hb2.size;simp at this;exact this
  have HB2:Hid (Below w.heap.size w w2):=bthen HB1.out (bthen (below_new _ _) hb2)
  clear hb2
-- REST
  go_wp2_with fail
  refine (others_any _).mono ?_
  rintro e w3 ⟨rfl,rfl⟩
  go_wp2_with fail
  have hz5:(((((w2.alloc (.cells #[.int .i64 0] 3)).alloc (.cells #[.func (.func 229) #[] #[.pointer (some ⟨w1.heap.size,0,none⟩),.pointer (some ⟨w2.heap.size,0,none⟩)]] 361)).alloc (.cells #[.int .u32 0] 69)).alloc (.cells #[.slice (some ⟨w2.heap.size+1+1,0,none⟩) 1 1] 362)).alloc (.cells #[.int .i64 0] 3)).heap.size=w2.heap.size+5:=by simp
  have al:∀ (W:World) (o:Obj) (k:Nat) (p:Obj),W.heap[k]?=some p→(W.alloc o).heap[k]?=some p:=fun W o k p h=>(Below.heap_alloc _ _ _ (Array.getElem?_eq_some_iff.1 h).1).trans h
  have an:∀ (W:World) (o:Obj) (k:Nat),k=W.heap.size→(W.alloc o).heap[k]?=some o:=fun W o k h=>by rw [h];exact World.alloc_heap_new W o
  have hB3:=Blk.newL (L:=[.slice (some ⟨w2.heap.size+1+1,0,none⟩) 1 1]) (grew_alloc (((w2.alloc (.cells #[.int .i64 0] 3)).alloc (.cells #[.func (.func 229) #[] #[.pointer (some ⟨w1.heap.size,0,none⟩),.pointer (some ⟨w2.heap.size,0,none⟩)]] 361)).alloc (.cells #[.int .u32 0] 69)) #[.slice (some ⟨w2.heap.size+1+1,0,none⟩) 1 1] 362) rfl
  rw [World.size_alloc,World.size_alloc,World.size_alloc] at hB3
  have hI0:PackJ w w1.heap.size w2.heap.size (.slice (some ⟨w2.heap.size+1+1,0,none⟩) 1 1) 0 (((((w2.alloc (.cells #[.int .i64 0] 3)).alloc (.cells #[.func (.func 229) #[] #[.pointer (some ⟨w1.heap.size,0,none⟩),.pointer (some ⟨w2.heap.size,0,none⟩)]] 361)).alloc (.cells #[.int .u32 0] 69)).alloc (.cells #[.slice (some ⟨w2.heap.size+1+1,0,none⟩) 1 1] 362)).alloc (.cells #[.int .i64 0] 3)):=by
    refine⟨⟨rfl,.inr ⟨w2.heap.size+1+1,1,#[.int .u32 0],rfl,by omega,al _ _ _ _ (al _ _ _ _ (an _ _ _ (by simp))),by omega,by unfold maxLen;omega,rfl,rfl⟩⟩,fun k q=>?_,al _ _ _ _ (al _ _ _ _ (al _ _ _ _ (al _ _ _ _ (al _ _ _ _ HA1.out)))),al _ _ _ _ (al _ _ _ _ (al _ _ _ _ (al _ _ _ _ (an _ _ _ rfl)))),al _ _ _ _ (al _ _ _ _ (al _ _ _ _ (an _ _ _ (by simp)))),hB3.on (below_new _ _),bthen (bthen (bthen (bthen (bthen HB2.out (below_new _ _)) (below_new _ _)) (below_new _ _)) (below_new _ _)) (below_new _ _),⟨HB1.out.size,HL.out⟩,Nat.le_of_eq hz5.symm⟩
    cases q
    exact .inl rfl
  have hbs:(((((w2.alloc (.cells #[.int .i64 0] 3)).alloc (.cells #[.func (.func 229) #[] #[.pointer (some ⟨w1.heap.size,0,none⟩),.pointer (some ⟨w2.heap.size,0,none⟩)]] 361)).alloc (.cells #[.int .u32 0] 69)).alloc (.cells #[.slice (some ⟨w2.heap.size+1+1,0,none⟩) 1 1] 362)).alloc (.cells #[.int .i64 0] 3)).cell? ⟨w2.heap.size+1+1+1+1,0,none⟩=some (.int .i64 0):=(World.cell?_alloc_at _ _ _ _ (by simp)).trans rfl
  generalize ((((w2.alloc (.cells #[.int .i64 0] 3)).alloc (.cells #[.func (.func 229) #[] #[.pointer (some ⟨w1.heap.size,0,none⟩),.pointer (some ⟨w2.heap.size,0,none⟩)]] 361)).alloc (.cells #[.int .u32 0] 69)).alloc (.cells #[.slice (some ⟨w2.heap.size+1+1,0,none⟩) 1 1] 362)).alloc (.cells #[.int .i64 0] 3)=W5 at *
  clear HA1 HB2 HB1 hsf al an hB3
  refine (wpIn_wide (n:=8)).1 ?_
  refine wpIn_rangeBoxN (by omega) (gf:=271) (lb:=#[.pointer (some ⟨w2.heap.size+1+1+1+1,0,none⟩)]) rfl (enters_of Tryz.func271 (by kernel_rfl) rfl) (bx:=w2.heap.size+1+1+1+1) (by omega) (N:=fun k=>k=w2.heap.size+1+1+1+1) (fun k q=>by omega)
    (others_stops 7 (w2.heap.size+1+1+1+1) (by omega) W5 hbs (by omega)) (fun _=>rfl)
    (fun pre W=>∃ v,PackJ w w1.heap.size w2.heap.size v pre.length W) (fun _ _ _=>False) ?own ?ownx ?box ⟨_,hI0⟩
    (fun T x=>((T.setIfInBounds 30 (.int .i64 (x.1:Int))).setIfInBounds 31 (.int .i64 (x.2:Int))).setIfInBounds 9 (.int .i64 (x.2:Int))) ?assign ?body ?done ?stop
  case own=>
    rintro pre W W' row ⟨v,h⟩ hg hr
    exact⟨v,h.grown hg fun k q=>.inr ⟨by have:=(hr k q).1;omega,(hr k q).2⟩⟩
  case ownx=>intro c pre W W' row h _ _;exact h
  case box=>
    rintro pre W W' ⟨v,h⟩ hg
    exact⟨v,h.grown hg fun k q=>by cases q;exact .inl rfl⟩
  case assign=>
    rintro l ⟨xk,xi⟩ W K hK
    unfold encO
    gi_wp2
    exact hK
  case body=>
    rintro l pre ⟨xk,xi⟩ W ⟨v,hI⟩ ⟨rest,hrest⟩
    simp only [List.setIfInBounds_toArray,List.set_cons_zero,List.set_cons_succ]
    have hx:pre.length≤2∧1≤xi∧xi≤3:=by
      have h1:=congrArg List.length hrest
      rw [List.length_append,List.length_cons] at h1
      have h2:(xk,xi)∈oth0:=by rw [← hrest];simp
      have h3:oth0.length=3:=rfl
      refine⟨by omega,?_⟩
      unfold oth0 at h2
      simp only [List.mem_cons,Prod.mk.injEq,List.not_mem_nil,or_false] at h2
      omega
    have HPU:=fun W6 hb=>Lib.hid (hI.push (by omega) (W6:=W6) hb)
    have HIN:=Lib.hid hI
    have e4:(#[Value.int .i32 1073741824,.int .i32 0,.int .i32 0,.int .i32 0]:Array Value)[xi]?=some (.int .i32 0):=by
      rcases (by omega:xi=1∨xi=2∨xi=3) with rfl | rfl | rfl <;> rfl
    have HE4:=Lib.hid e4
    have hi0:(0:Int)≤(xi:Int):=by omega
    have hi4:(xi:Int) < 4:=by omega
    have HX:=Lib.hid hx
    have HLN:Hid ((pre++[(xk,xi)]).length=pre.length+1):=by show _=_;simp
    generalize pre.length=n at *
    clear hI hI0 hbs hrest e4 hx
    apply wpIn_block
    refine wpIn_regionD (r:=some l) (S:=Pack3 w1.heap.size w2.heap.size W) (fun ⟨_,_,h⟩=>h) (by simp) (by kernel_rfl) ⟨rfl,rfl,rfl⟩ (fun hHeld0=>?_)
    refine wpAnyH_take (i:=1) (oi:=⟨some 33,_,_,_,_,_⟩) (v:=?_) rfl (by kernel_rfl) (by kernel_rfl) (by kernel_rfl) (fun _ _ _ h=>h) (Or.inl ⟨by rfl,?_⟩) (by assumption) ?_
    rotate_left
    · intro w' hSw
      have c6:=(one_at (hSw.1.trans HIN.out.at3)).1
      go_simp
      try with_reducible rfl
    try go_frame
    refine wpAnyH_take (i:=2) (oi:=⟨some 34,_,_,_,_,_⟩) (v:=?_) rfl (by kernel_rfl) (by kernel_rfl) (by kernel_rfl) (fun _ _ _ h=>h) (Or.inl ⟨by rfl,?_⟩) (by assumption) ?_
    rotate_left
    · intro w' hSw
      go_simp
      try with_reducible rfl
    try go_frame
    refine wpAnyH_take (i:=3) (oi:=⟨some 35,_,_,_,_,_⟩) (v:=?_) rfl (by kernel_rfl) (by kernel_rfl) (by kernel_rfl) (fun _ _ _ h=>h) (Or.inl ⟨by rfl,?_⟩) (by assumption) ?_
    rotate_left
    · intro w' hSw
      go_simp
      try with_reducible rfl
    try go_frame
    refine wpAnyH_take (i:=4) (oi:=⟨some 36,_,_,_,_,_⟩) (v:=?_) rfl (by kernel_rfl) (by kernel_rfl) (by kernel_rfl) (fun _ _ _ h=>h) (Or.inl ⟨by rfl,?_⟩) (by assumption) ?_
    rotate_left
    · intro w' hSw
      have c7:w'.cell? ⟨w1.heap.size,xi,none⟩=some (.int .i32 0):=by have:=hSw.2.1.trans HIN.out.at1;simp only [World.cell?,this];exact HE4.out
      go_simp
      try with_reducible rfl
    try go_frame
    have HC0:Hid (W.drew.cell? ⟨w2.heap.size+3,0,none⟩=some v):=HIN.out.at4.cell 0 rfl
    refine wpAnyH_ready (rs:=[0,5]) (by kernel_rfl) (by simp) ?_
    refine AllReadyH.cons (o:=⟨some 32,_,_,_,_,_⟩) rfl (fun K hK=>?_) (AllReadyH.cons (o:=⟨some 37,_,_,_,_,_⟩) rfl (fun K hK=>?_) AllReadyH.nil)
    · rw [if_pos (by rfl)]
      have c0:=HC0.out
      go_step
      clear c0
      refine hK.out _ _ (hHeld0) (fun hHeld=>?_)
      clear hK K
      try go_frame
      refine wpAnyH_ready (rs:=[5]) (by kernel_rfl) (by simp) ?_
      refine AllReadyH.cons (o:=⟨some 37,_,_,_,_,_⟩) rfl (fun K hK=>?_) AllReadyH.nil
      rw [if_pos (by rfl)]
      go_step
      refine (packFn_any (hHeld0.2.1.trans HIN.out.at1) (hHeld0.2.2.trans HIN.out.at2)).mono ?_
      rintro e w5 ⟨rfl,rfl⟩
      try go_frame
      refine hK.out _ _ (hHeld0) (fun hHeld=>?_)
      clear hK K
      try go_frame
      refine wpAnyH_ready (rs:=[6]) (by kernel_rfl) (by simp) ?_
      refine AllReadyH.cons (o:=⟨some 38,_,_,_,_,_⟩) rfl (fun K hK=>?_) AllReadyH.nil
      rw [if_pos (by rfl)]
      go_step
      refine (number_0 _).mono ?_
      rintro e w6 ⟨rfl,hb6⟩
      have HB6:Hid (Below W.heap.size W w6):=bthen (bdrew (Below.refl _ _)) hb6
      have HS6:Hid (Pack3 w1.heap.size w2.heap.size W w6):=HIN.out.three HB6.out
      have HS7:Hid (Pack3 w1.heap.size w2.heap.size W (w6.alloc (.cells #[.int .u32 512] 69))):=HIN.out.three (bthen HB6.out (below_new _ _))
      have HC6:Hid (w6.cell? ⟨w2.heap.size+3,0,none⟩=some v):=HIN.out.word HB6.out
      have HC7:Hid ((w6.alloc (.cells #[.int .u32 512] 69)).cell? ⟨w2.heap.size+3,0,none⟩=some v):=HIN.out.word (bthen HB6.out (below_new _ _))
      obtain⟨A9,c9,W8,hr,hs8,ht8,hfn⟩:=(HPU _ HB6.out).out
      have HR:=Lib.hid hr
      have HT8:=Lib.hid ht8
      have HS8:=Lib.hid hs8
      have HFN:=Lib.hid hfn
      clear hb6 hr hs8 ht8 hfn
      try go_frame
      refine hK.out _ _ (HS6.out) (fun hHeld=>?_)
      clear hK K
      try go_frame
      refine wpAnyH_ready (rs:=[7]) (by kernel_rfl) (by simp) ?_
      refine AllReadyH.cons (o:=⟨some 39,_,_,_,_,_⟩) rfl (fun K hK=>?_) AllReadyH.nil
      rw [if_pos (by rfl)]
      go_step
      refine hK.out _ _ (HS7.out) (fun hHeld=>?_)
      clear hK K
      try go_frame
      refine wpAnyH_ready (rs:=[8]) (by kernel_rfl) (by simp) ?_
      refine AllReadyH.cons (o:=⟨some 40,_,_,_,_,_⟩) rfl (fun K hK=>?_) AllReadyH.nil
      refine step_append_known rfl _ _ 362 rfl _ _ _ rfl rfl HR.out ?_
      refine hK.out _ _ (HS8.out) (fun hHeld=>?_)
      clear hK K
      try go_frame
      refine wpAnyH_ready (rs:=[9]) (by kernel_rfl) (by simp) ?_
      refine AllReadyH.cons (o:=⟨none,_,_,_,_,_⟩) rfl (fun K hK=>?_) AllReadyH.nil
      rw [if_pos (by rfl)]
      refine wp_store_one 362 _ _ rfl (w2.heap.size+3) 0 (.slice A9 (n+2) c9) rfl rfl HT8.out (by kernel_rfl) rfl rfl ?_
      intro W9 hs
      have HF:=Lib.hid (HFN.out W9 hs)
      clear hs
      refine hK.out _ _ (HF.out.1) (fun hHeld=>?_)
      clear hK K
      try go_frame
      refine wpAnyH_done (by kernel_rfl) ?_ _
      try go_frame
      exact⟨by rw [hz5];exact HF.out.2.1,fun k q=>by rw [q];exact HF.out.2.2.1,_,by rw [HLN.out];exact HF.out.2.2.2⟩
    · rw [if_pos (by rfl)]
      go_step
      refine (packFn_any (hHeld0.2.1.trans HIN.out.at1) (hHeld0.2.2.trans HIN.out.at2)).mono ?_
      rintro e w5 ⟨rfl,rfl⟩
      try go_frame
      refine hK.out _ _ (hHeld0) (fun hHeld=>?_)
      clear hK K
      try go_frame
      refine wpAnyH_ready (rs:=[0,6]) (by kernel_rfl) (by simp) ?_
      refine AllReadyH.cons (o:=⟨some 32,_,_,_,_,_⟩) rfl (fun K hK=>?_) (AllReadyH.cons (o:=⟨some 38,_,_,_,_,_⟩) rfl (fun K hK=>?_) AllReadyH.nil)
      · rw [if_pos (by rfl)]
        have c0:=HC0.out
        go_step
        clear c0
        refine hK.out _ _ (hHeld0) (fun hHeld=>?_)
        clear hK K
        try go_frame
        refine wpAnyH_ready (rs:=[6]) (by kernel_rfl) (by simp) ?_
        refine AllReadyH.cons (o:=⟨some 38,_,_,_,_,_⟩) rfl (fun K hK=>?_) AllReadyH.nil
        rw [if_pos (by rfl)]
        go_step
        refine (number_0 _).mono ?_
        rintro e w6 ⟨rfl,hb6⟩
        have HB6:Hid (Below W.heap.size W w6):=bthen (bdrew (Below.refl _ _)) hb6
        have HS6:Hid (Pack3 w1.heap.size w2.heap.size W w6):=HIN.out.three HB6.out
        have HS7:Hid (Pack3 w1.heap.size w2.heap.size W (w6.alloc (.cells #[.int .u32 512] 69))):=HIN.out.three (bthen HB6.out (below_new _ _))
        have HC6:Hid (w6.cell? ⟨w2.heap.size+3,0,none⟩=some v):=HIN.out.word HB6.out
        have HC7:Hid ((w6.alloc (.cells #[.int .u32 512] 69)).cell? ⟨w2.heap.size+3,0,none⟩=some v):=HIN.out.word (bthen HB6.out (below_new _ _))
        obtain⟨A9,c9,W8,hr,hs8,ht8,hfn⟩:=(HPU _ HB6.out).out
        have HR:=Lib.hid hr
        have HT8:=Lib.hid ht8
        have HS8:=Lib.hid hs8
        have HFN:=Lib.hid hfn
        clear hb6 hr hs8 ht8 hfn
        try go_frame
        refine hK.out _ _ (HS6.out) (fun hHeld=>?_)
        clear hK K
        try go_frame
        refine wpAnyH_ready (rs:=[7]) (by kernel_rfl) (by simp) ?_
        refine AllReadyH.cons (o:=⟨some 39,_,_,_,_,_⟩) rfl (fun K hK=>?_) AllReadyH.nil
        rw [if_pos (by rfl)]
        go_step
        refine hK.out _ _ (HS7.out) (fun hHeld=>?_)
        clear hK K
        try go_frame
        refine wpAnyH_ready (rs:=[8]) (by kernel_rfl) (by simp) ?_
        refine AllReadyH.cons (o:=⟨some 40,_,_,_,_,_⟩) rfl (fun K hK=>?_) AllReadyH.nil
        refine step_append_known rfl _ _ 362 rfl _ _ _ rfl rfl HR.out ?_
        refine hK.out _ _ (HS8.out) (fun hHeld=>?_)
        clear hK K
        try go_frame
        refine wpAnyH_ready (rs:=[9]) (by kernel_rfl) (by simp) ?_
        refine AllReadyH.cons (o:=⟨none,_,_,_,_,_⟩) rfl (fun K hK=>?_) AllReadyH.nil
        rw [if_pos (by rfl)]
        refine wp_store_one 362 _ _ rfl (w2.heap.size+3) 0 (.slice A9 (n+2) c9) rfl rfl HT8.out (by kernel_rfl) rfl rfl ?_
        intro W9 hs
        have HF:=Lib.hid (HFN.out W9 hs)
        clear hs
        refine hK.out _ _ (HF.out.1) (fun hHeld=>?_)
        clear hK K
        try go_frame
        refine wpAnyH_done (by kernel_rfl) ?_ _
        try go_frame
        exact⟨by rw [hz5];exact HF.out.2.1,fun k q=>by rw [q];exact HF.out.2.2.1,_,by rw [HLN.out];exact HF.out.2.2.2⟩
      · rw [if_pos (by rfl)]
        go_step
        refine (number_0 _).mono ?_
        rintro e w6 ⟨rfl,hb6⟩
        have HB6:Hid (Below W.heap.size W w6):=bthen (bdrew (Below.refl _ _)) hb6
        have HS6:Hid (Pack3 w1.heap.size w2.heap.size W w6):=HIN.out.three HB6.out
        have HS7:Hid (Pack3 w1.heap.size w2.heap.size W (w6.alloc (.cells #[.int .u32 512] 69))):=HIN.out.three (bthen HB6.out (below_new _ _))
        have HC6:Hid (w6.cell? ⟨w2.heap.size+3,0,none⟩=some v):=HIN.out.word HB6.out
        have HC7:Hid ((w6.alloc (.cells #[.int .u32 512] 69)).cell? ⟨w2.heap.size+3,0,none⟩=some v):=HIN.out.word (bthen HB6.out (below_new _ _))
        obtain⟨A9,c9,W8,hr,hs8,ht8,hfn⟩:=(HPU _ HB6.out).out
        have HR:=Lib.hid hr
        have HT8:=Lib.hid ht8
        have HS8:=Lib.hid hs8
        have HFN:=Lib.hid hfn
        clear hb6 hr hs8 ht8 hfn
        try go_frame
        refine hK.out _ _ (HS6.out) (fun hHeld=>?_)
        clear hK K
        try go_frame
        refine wpAnyH_ready (rs:=[0,7]) (by kernel_rfl) (by simp) ?_
        refine AllReadyH.cons (o:=⟨some 32,_,_,_,_,_⟩) rfl (fun K hK=>?_) (AllReadyH.cons (o:=⟨some 39,_,_,_,_,_⟩) rfl (fun K hK=>?_) AllReadyH.nil)
        · rw [if_pos (by rfl)]
          have c0:=HC6.out
          go_step
          clear c0
          refine hK.out _ _ (HS6.out) (fun hHeld=>?_)
          clear hK K
          try go_frame
          refine wpAnyH_ready (rs:=[7]) (by kernel_rfl) (by simp) ?_
          refine AllReadyH.cons (o:=⟨some 39,_,_,_,_,_⟩) rfl (fun K hK=>?_) AllReadyH.nil
          rw [if_pos (by rfl)]
          go_step
          refine hK.out _ _ (HS7.out) (fun hHeld=>?_)
          clear hK K
          try go_frame
          refine wpAnyH_ready (rs:=[8]) (by kernel_rfl) (by simp) ?_
          refine AllReadyH.cons (o:=⟨some 40,_,_,_,_,_⟩) rfl (fun K hK=>?_) AllReadyH.nil
          refine step_append_known rfl _ _ 362 rfl _ _ _ rfl rfl HR.out ?_
          refine hK.out _ _ (HS8.out) (fun hHeld=>?_)
          clear hK K
          try go_frame
          refine wpAnyH_ready (rs:=[9]) (by kernel_rfl) (by simp) ?_
          refine AllReadyH.cons (o:=⟨none,_,_,_,_,_⟩) rfl (fun K hK=>?_) AllReadyH.nil
          rw [if_pos (by rfl)]
          refine wp_store_one 362 _ _ rfl (w2.heap.size+3) 0 (.slice A9 (n+2) c9) rfl rfl HT8.out (by kernel_rfl) rfl rfl ?_
          intro W9 hs
          have HF:=Lib.hid (HFN.out W9 hs)
          clear hs
          refine hK.out _ _ (HF.out.1) (fun hHeld=>?_)
          clear hK K
          try go_frame
          refine wpAnyH_done (by kernel_rfl) ?_ _
          try go_frame
          exact⟨by rw [hz5];exact HF.out.2.1,fun k q=>by rw [q];exact HF.out.2.2.1,_,by rw [HLN.out];exact HF.out.2.2.2⟩
        · rw [if_pos (by rfl)]
          go_step
          refine hK.out _ _ (HS7.out) (fun hHeld=>?_)
          clear hK K
          try go_frame
          refine wpAnyH_ready (rs:=[0]) (by kernel_rfl) (by simp) ?_
          refine AllReadyH.cons (o:=⟨some 32,_,_,_,_,_⟩) rfl (fun K hK=>?_) AllReadyH.nil
          rw [if_pos (by rfl)]
          have c0:=HC7.out
          go_step
          clear c0
          refine hK.out _ _ (HS7.out) (fun hHeld=>?_)
          clear hK K
          try go_frame
          refine wpAnyH_ready (rs:=[8]) (by kernel_rfl) (by simp) ?_
          refine AllReadyH.cons (o:=⟨some 40,_,_,_,_,_⟩) rfl (fun K hK=>?_) AllReadyH.nil
          refine step_append_known rfl _ _ 362 rfl _ _ _ rfl rfl HR.out ?_
          refine hK.out _ _ (HS8.out) (fun hHeld=>?_)
          clear hK K
          try go_frame
          refine wpAnyH_ready (rs:=[9]) (by kernel_rfl) (by simp) ?_
          refine AllReadyH.cons (o:=⟨none,_,_,_,_,_⟩) rfl (fun K hK=>?_) AllReadyH.nil
          rw [if_pos (by rfl)]
          refine wp_store_one 362 _ _ rfl (w2.heap.size+3) 0 (.slice A9 (n+2) c9) rfl rfl HT8.out (by kernel_rfl) rfl rfl ?_
          intro W9 hs
          have HF:=Lib.hid (HFN.out W9 hs)
          clear hs
          refine hK.out _ _ (HF.out.1) (fun hHeld=>?_)
          clear hK K
          try go_frame
          refine wpAnyH_done (by kernel_rfl) ?_ _
          try go_frame
          exact⟨by rw [hz5];exact HF.out.2.1,fun k q=>by rw [q];exact HF.out.2.2.1,_,by rw [HLN.out];exact HF.out.2.2.2⟩
  case done=>
    rintro D xs W hD rfl ⟨v,hI⟩ hK
    obtain⟨r,c,rfl,hr,r0,r1,r2,r3⟩:=PackJ.join hI
    have HI:=Lib.hid hI
    have HRR:=Lib.hid (And.intro hr (And.intro r0 (And.intro r1 (And.intro r2 r3))))
    have HK:=Lib.hid hK
    clear hI0 hbs hI hK hr r0 r1 r2 r3
    have HB0:Hid (Below w.heap.size w W):=HI.out.bel
    have HC3:Hid (∀ w',Below W.heap.size W w'→w'.cell? ⟨w2.heap.size+3,0,none⟩=some (.slice (some ⟨r,0,none⟩) 4 c)):=Lib.hid fun w' q=>HI.out.word q
    have HD:Hid (w.heap.size≤D):=by have:=HI.out.low;show _≤_;omega
    clear HI
    go_upto_region 10 with fail
    have hS0:Below W.heap.size W W.drew:=bdrew (Below.refl _ _)
    refine wp_region_held_drew (S:=fun w'=>Below W.heap.size W w') (by kernel_rfl) hS0 (fun hHeld0=>?_)
    refine wpAnyH_take (i:=1) (oi:=⟨some 42,_,_,_,_,_⟩) (v:=?_) rfl (by kernel_rfl) (by kernel_rfl) (by kernel_rfl) (fun _ _ _ h=>h) (Or.inl ⟨by rfl,?_⟩) (by assumption) ?_
    rotate_left
    · intro w' hSw
      have c3:=HC3.out w' hSw
      go_simp
      try with_reducible rfl
    try go_frame
    refine wpAnyH_ready (rs:=[0]) (by kernel_rfl) (by simp) ?_
    refine AllReadyH.cons (o:=⟨some 41,_,_,_,_,_⟩) rfl (fun K hK=>?_) AllReadyH.nil
    rw [if_pos (by rfl)]
    go_step
    refine (widths_any _).mono ?_
    rintro e w8 ⟨rfl,hb8,d0,d1,d2,d3⟩
    have HB8:Hid (Below W.heap.size W w8):=bthen hHeld0 hb8
    have HJ:=Lib.hid (bitsJoin_c (w:=w8) (c:=c) d0 d1 d2 d3 ((HB8.out.cell (p:=⟨r,0,none⟩) HRR.out.1).trans HRR.out.2.1) ((HB8.out.cell (p:=⟨r,1,none⟩) HRR.out.1).trans HRR.out.2.2.1) ((HB8.out.cell (p:=⟨r,2,none⟩) HRR.out.1).trans HRR.out.2.2.2.1) ((HB8.out.cell (p:=⟨r,3,none⟩) HRR.out.1).trans HRR.out.2.2.2.2))
    clear hb8 d0 d1 d2 d3
    try go_frame
    refine hK.out _ _ (HB8.out) (fun hHeld=>?_)
    clear hK K
    try go_frame
    refine wpAnyH_ready (rs:=[2]) (by kernel_rfl) (by simp) ?_
    refine AllReadyH.cons (o:=⟨some 43,_,_,_,_,_⟩) rfl (fun K hK=>?_) AllReadyH.nil
    rw [if_pos (by rfl)]
    go_step
    refine HJ.out.mono ?_
    rintro e w9 ⟨rfl,hb9⟩
    have HB9:Hid (Below W.heap.size W w9):=bthen HB8.out hb9
    clear hb9
    try go_frame
    refine hK.out _ _ (HB9.out) (fun hHeld=>?_)
    clear hK K
    try go_frame
    refine wpAnyH_take (i:=3) (oi:=⟨some 44,_,_,_,_,_⟩) (v:=?_) rfl (by kernel_rfl) (by kernel_rfl) (by kernel_rfl) (fun _ _ _ h=>h) (Or.inl ⟨by rfl,?_⟩) (by assumption) ?_
    rotate_left
    · intro w' hSw
      go_simp
      try with_reducible rfl
    try go_frame
    refine wpAnyH_take (i:=4) (oi:=⟨some 45,_,_,_,_,_⟩) (v:=?_) rfl (by kernel_rfl) (by kernel_rfl) (by kernel_rfl) (fun _ _ _ h=>h) (Or.inl ⟨by rfl,?_⟩) (by assumption) ?_
    rotate_left
    · intro w' hSw
      go_simp
      try with_reducible rfl
    try go_frame
    refine wpAnyH_take (i:=5) (oi:=⟨some 2,_,_,_,_,_⟩) (v:=?_) rfl (by kernel_rfl) (by kernel_rfl) (by kernel_rfl) (fun _ _ _ h=>h) (Or.inl ⟨by rfl,?_⟩) (by assumption) ?_
    rotate_left
    · intro w' hSw
      go_simp
      try with_reducible rfl
    try go_frame
    refine wpAnyH_take (i:=6) (oi:=⟨some 3,_,_,_,_,_⟩) (v:=?_) rfl (by kernel_rfl) (by kernel_rfl) (by kernel_rfl) (fun _ _ _ h=>h) (Or.inl ⟨by rfl,?_⟩) (by assumption) ?_
    rotate_left
    · intro w' hSw
      go_simp
      try with_reducible rfl
    try go_frame
    refine wpAnyH_done (by kernel_rfl) ?_ _
    try go_frame
    go_wp2_with fail
    have HK9:Hid (w9.heap[D]?=some (.deferred (some []))):=(HB9.out.block D (Array.getElem?_eq_some_iff.1 HK.out).1).trans HK.out
    refine⟨by simp,.inl ⟨_,_,rfl,run_takeDeferred HK9.out,?_⟩⟩
    refine⟨_,by simp [results,Tryz.results183,go_sem],rfl,?_⟩
    exact ((HB0.out.trans (HB9.out.mono HB0.out.size))).grown (grownBy_putObj' w9 D (.deferred none)) (Nat.le_trans HB0.out.size HB9.out.size) fun k q=>by cases q;exact HD.out
  case stop=>
    rintro D pre W hD hrest hX hK
    exact hX.elim
theorem fuseWord_c (w:World):Calls Tryz.prog 143 #[.agg #[.int .i32 1073741824,.int .i32 0,.int .i32 0,.int .i32 0,.int .i32 0,.int .i32 0,.int .i32 0,.int .i64 0,.int .i64 0]] w fun e w'=>e=.returned (.int .u32 537395712)∧Below w.heap.size w w':=by
  have H0:=fun W=>Lib.hid (smallPack_c W)
  go_enter Tryz.func143,Tryz.ntmps143
  go_wp2_with fail
  refine (H0 _).out.mono ?_
  rintro e w1 ⟨rfl,hb⟩
  go_wp2_with fail
  go_ret
  exact⟨rfl,bthen (below_new _ _) hb⟩
def nodL (s c sent:Nat) (out:Value) (now:Int) (g tq:Nat) (hr ak bk:Value):List Value:=
  [.int .i64 (s:Int),.int .i64 (c:Int),.int .i64 (sent:Int),out,.int .i64 now,.pointer (some ⟨g,0,none⟩),.int .i32 1073741824,.int .i32 0,.int .i32 0,.int .i32 0,.int .i32 0,.int .i32 0,.int .i32 0,.int .i64 0,.int .i64 0,.pointer (some ⟨tq,0,none⟩),hr,ak,bk,.int .i64 0,.bool false,.int .i32 0,.int .i32 0,.int .i32 0,.pointer none,.bool false,.int .u32 0,.int .i64 0,.int .i64 0,.int .i64 0,.int .i64 0]
def rtL:List Value:=[.int .i64 0,.int .i64 0,.int .i64 0]
theorem nod_state {w:World} {nb s c sent g tq:Nat} {out hr ak bk:Value} {now:Int} (h:Blk w nb (nodL s c sent out now g tq hr ak bk)):w.rangeAt nb 6 fstL:=fun j v hv=>by
  rw [h.cell (6+j) (v:=v) (by
    unfold nodL
    rw [show 6+j=j+6 from by omega]
    unfold fstL at hv
    rcases j with _ | _ | _ | _ | _ | _ | _ | _ | _ | j <;> first | exact hv | (simp at hv))]
theorem nod_rates {w:World} {nb s c sent g tq:Nat} {out hr ak bk:Value} {now:Int} (h:Blk w nb (nodL s c sent out now g tq hr ak bk)):w.rangeAt nb 27 rtL:=fun j v hv=>by
  rw [h.cell (27+j) (v:=v) (by
    unfold nodL
    rw [show 27+j=j+27 from by omega]
    unfold rtL at hv
    rcases j with _ | _ | _ | j <;> first | exact hv | (simp at hv))]
theorem zero_Rt (w:World):(zeroValue 70).run Tryz.prog w=.ok (.agg rtL.toArray) w:=by kernel_rfl
theorem SendOut.from {nb B:Nat} {L:List Value} {v:Value} {n:Nat} {xs:List Value} {sent m i:Nat} {w w1:World} {e:Ending} {w':World} (h:SendOut nb B L v n xs sent m i w1 e w') (hb:Below w.heap.size w w1):SendOut nb B L v n xs sent m i w e w':=by
  obtain⟨e1,b,X,d,v',h1,h2,h3,h4,h5,h6,h7,h8⟩:=h
  have:=hb.size
  exact⟨e1,b,X,d,v',h1,h2,h3,h4,h5,h6.less fun k q=>⟨by omega,q.2⟩,⟨h7.os.trans hb.os,h7.tape.trans hb.tape,h7.output.trans hb.output,by have:=h7.size;omega,fun k q=>(h7.block k ⟨by omega,q.2⟩).trans (hb.block k q.1)⟩,fun k q=>(h8 k q).imp id fun z=>by omega⟩
set_option maxRecDepth 8000 in
set_option maxHeartbeats 1000000 in
theorem stream0_any {w:World} (nb B g tq:Nat) (hr ak bk v:Value) (n:Nat) (xs:List Value) (s c sent q:Nat) (now:Int) (hb:Blk w nb (nodL s c sent v now g tq hr ak bk)) (ho:w.ownsRow B 126 123 v n xs) (hB:nb < B) (hBs:B≤w.heap.size) (hn:n≤1000) (hand:bits .and .i64 (sent:Int) 255=(q:Int)) (hsent:sent≤1000) (hq:q < 256) (hs:s < 256) (hc:c < 256) (b:Nat) (hd:DecI w g b z13 []) (t:Int) :
    Calls Tryz.prog 115 #[.pointer (some ⟨nb,0,none⟩),.int .i64 0,.int .i64 t] w (SendOut nb B (nodL s c sent v now g tq hr ak bk) v n xs sent 17 0 w):=by
  have HSN:∀ w2,Below w.heap.size w w2→Hid (Calls Tryz.prog 116 #[.pointer (some ⟨nb,0,none⟩),.int .i64 0,.slice (some ⟨w2.heap.size,0,none⟩) 6 6] (w2.alloc (.cells #[.int .i64 6,.int .i64 8,.int .i64 0,.int .i64 0,.int .i64 4,.int .i64 3] 2)) (SendOut nb B (nodL s c sent v now g tq hr ak bk) v n xs sent 17 0 (w2.alloc (.cells #[.int .i64 6,.int .i64 8,.int .i64 0,.int .i64 0,.int .i64 4,.int .i64 3] 2)))):=fun w2 h2=>Lib.hid (by
    have hb3:Below w.heap.size w (w2.alloc (.cells #[.int .i64 6,.int .i64 8,.int .i64 0,.int .i64 0,.int .i64 4,.int .i64 3] 2)):=bthen h2 (below_new _ _)
    have:=linkSend_any (R:=fun _=>True) (w:=w2.alloc (.cells #[.int .i64 6,.int .i64 8,.int .i64 0,.int .i64 0,.int .i64 4,.int .i64 3] 2)) nb B (nodL s c sent v now g tq hr ak bk) v n xs sent q s c 0 (hb.on hb3) rfl rfl rfl rfl (own_on ho hb3) hB (Nat.le_trans hBs hb3.size) hn hand hsent hq hs hc (by decide) (some ⟨w2.heap.size,0,none⟩) 6 [6,8,0,0,4,3] (fun j u hu=>⟨w2.heap.size,0,rfl,trivial,by rw [World.cell?_alloc_at _ _ _ _ rfl,Nat.zero_add];simpa [i64sV] using hu⟩) f0_ne (by rw [f0_cnt];rfl) f0_fit (by rw [f0_wid];decide)
    rw [f0_wid] at this
    exact this)
  have HCT:=fun W (hW:Below w.heap.size w W)=>Lib.hid (rsyCounts_zero (hd.on hW))
  have HB:=Lib.hid hb
  have hfl:∀ W:World,(Instr.field 59 (.agg #[.int .i64 0,.int .i64 0,.int .i64 0,.int .i64 0,.int .i64 0,.int .i64 0,.int .i64 0,.int .i64 0,.int .i64 0,.int .i64 0,.int .i64 0,.int .i64 0,.int .i64 0]) 1).run Tryz.prog W=.ok (.agg #[.int .i64 0,.int .i64 0,.int .i64 0,.int .i64 0]) W:=fun W=>by kernel_rfl
  have x0:∀ W:World,(Instr.index 57 (.agg #[.int .i64 0,.int .i64 0,.int .i64 0,.int .i64 0]) (.int .i64 0)).run Tryz.prog W=.ok (.int .i64 0) W:=fun W=>by kernel_rfl
  have x1:∀ W:World,(Instr.index 57 (.agg #[.int .i64 0,.int .i64 0,.int .i64 0,.int .i64 0]) (.int .i64 1)).run Tryz.prog W=.ok (.int .i64 0) W:=fun W=>by kernel_rfl
  have x2:∀ W:World,(Instr.index 57 (.agg #[.int .i64 0,.int .i64 0,.int .i64 0,.int .i64 0]) (.int .i64 2)).run Tryz.prog W=.ok (.int .i64 0) W:=fun W=>by kernel_rfl
  have x3:∀ W:World,(Instr.index 57 (.agg #[.int .i64 0,.int .i64 0,.int .i64 0,.int .i64 0]) (.int .i64 3)).run Tryz.prog W=.ok (.int .i64 0) W:=fun W=>by kernel_rfl
  clear ho hb hd hand
  go_enter Tryz.func115,Tryz.ntmps115
  go_upto_region 2 with (first
    | refine wpList_load_mid rfl _ _ rfl nb 6 rfl fstL _ (nod_state HB.out) Tryz.underlying52 rfl (by kernel_rfl) ?_
    | (refine wpList_alloc_new rfl 52 rfl stZ9 (zero_Filter _) ?_;intro W1 hW;have HC1:=Lib.hid (Blk.newL (L:=stZ9.toList) hW rfl);have HB1:=Lib.hid hW.bel;clear hW)
    | (refine wpList_store_in rfl 52 _ _ rfl w.heap.size 0 fstL.toArray rfl rfl (HC1.out.there 0 9 (by decide)) (by kernel_rfl) (by kernel_rfl) ?_;intro W2 hs2;have HC2:Hid (Blk W2 w.heap.size fstL):=Lib.hid (HC1.out.all hs2 rfl);have HB2:=Lib.hid (HB1.out.trans (hs2.below (Nat.le_refl _)));clear hs2))
  have c5:=(HB.out.on HB2.out).cell 5 (v:=.pointer (some ⟨g,0,none⟩)) rfl
  go_wp2_with fail
  refine (HCT _ HB2.out).out.mono ?_
  rintro e w3 ⟨rfl,-,hb3⟩
  have HB3:=Lib.hid (bthen HB2.out hb3)
  clear hb3 c5
  rw [show cntA z13=#[.int .i64 0,.int .i64 0,.int .i64 0,.int .i64 0,.int .i64 0,.int .i64 0,.int .i64 0,.int .i64 0,.int .i64 0,.int .i64 0,.int .i64 0,.int .i64 0,.int .i64 0] from rfl]
  go_wp2_with fail
  refine wp_loop_rounds 5 ?_
  rw [rounds_succ]
  go_wp2_with fail
  rw [rounds_succ]
  go_wp2_with fail
  rw [rounds_succ]
  go_wp2_with fail
  rw [rounds_succ]
  go_wp2_with fail
  rw [rounds_succ]
  go_wp2_with fail
  refine (HSN _ HB3.out).out.mono ?_
  rintro e w4 h4
  obtain rfl:=h4.1
  have HF:=Lib.hid (h4.from (bthen HB3.out (below_new _ _)))
  clear h4
  go_wp2_with fail
  exact bodyPost_end (v:=.tuple #[]) (by simp [results,Tryz.results115,go_sem]) rfl HF.out
set_option maxRecDepth 8000 in
set_option maxHeartbeats 1000000 in
theorem stream1_any {w:World} (nb B g tq:Nat) (hr ak bk v:Value) (n:Nat) (xs:List Value) (s c sent q:Nat) (now:Int) (hb:Blk w nb (nodL s c sent v now g tq hr ak bk)) (ho:w.ownsRow B 126 123 v n xs) (hB:nb < B) (hBs:B≤w.heap.size) (hn:n≤1000) (hand:bits .and .i64 (sent:Int) 255=(q:Int)) (hsent:sent≤1000) (hq:q < 256) (hs:s < 256) (hc:c < 256) (T:Nat) (hT:T < 4294967296) :
    Calls Tryz.prog 115 #[.pointer (some ⟨nb,0,none⟩),.int .i64 1,.int .i64 (T:Int)] w (SendOut nb B (nodL s c sent v now g tq hr ak bk) v n xs sent 22 200 w):=by
  have HSN:∀ w2,Below w.heap.size w w2→Hid (Calls Tryz.prog 116 #[.pointer (some ⟨nb,0,none⟩),.int .i64 200,.slice (some ⟨w2.heap.size,0,none⟩) 5 5] (w2.alloc (.cells #[.int .i64 (T:Int),.int .i64 537395712,.int .i64 0,.int .i64 0,.int .i64 0] 2)) (SendOut nb B (nodL s c sent v now g tq hr ak bk) v n xs sent 22 200 (w2.alloc (.cells #[.int .i64 (T:Int),.int .i64 537395712,.int .i64 0,.int .i64 0,.int .i64 0] 2)))):=fun w2 h2=>Lib.hid (by
    have hb3:Below w.heap.size w (w2.alloc (.cells #[.int .i64 (T:Int),.int .i64 537395712,.int .i64 0,.int .i64 0,.int .i64 0] 2)):=bthen h2 (below_new _ _)
    have:=linkSend_any (R:=fun _=>True) (w:=w2.alloc (.cells #[.int .i64 (T:Int),.int .i64 537395712,.int .i64 0,.int .i64 0,.int .i64 0] 2)) nb B (nodL s c sent v now g tq hr ak bk) v n xs sent q s c 200 (hb.on hb3) rfl rfl rfl rfl (own_on ho hb3) hB (Nat.le_trans hBs hb3.size) hn hand hsent hq hs hc (by decide) (some ⟨w2.heap.size,0,none⟩) 5 [(T:Int),537395712,0,0,0] (fun j u hu=>⟨w2.heap.size,0,rfl,trivial,by rw [World.cell?_alloc_at _ _ _ _ rfl,Nat.zero_add];simpa [i64sV] using hu⟩) f200_ne (by rw [f200_cnt];rfl) (f200_fit _ _ (by omega) (by omega)) (by rw [f200_wid];decide)
    rw [f200_wid] at this
    exact this)
  have HB:=Lib.hid hb
  have HBN:Hid (nb < w.heap.size):=Lib.hid hb.lt
  have HVB:Hid (∀ k,v.ownBlock=some k→k < w.heap.size):=Lib.hid fun k z=>by
    obtain⟨-,cs,y⟩:=own_cells ho z
    exact (Array.getElem?_eq_some_iff.1 y).1
  have ht:(T:Int).tmod 4294967296=(T:Int):=by rw [Int.tmod_eq_of_lt (by omega) (by omega)]
  clear ho hb hand
  go_enter Tryz.func115,Tryz.ntmps115
  go_upto_region 2 with (first
    | refine wpList_load_mid rfl _ _ rfl nb 6 rfl fstL _ (nod_state HB.out) Tryz.underlying52 rfl (by kernel_rfl) ?_
    | (refine wpList_alloc_new rfl 52 rfl stZ9 (zero_Filter _) ?_;intro W1 hW;have HC1:=Lib.hid (Blk.newL (L:=stZ9.toList) hW rfl);have HB1:=Lib.hid hW.bel;clear hW)
    | (refine wpList_store_in rfl 52 _ _ rfl w.heap.size 0 fstL.toArray rfl rfl (HC1.out.there 0 9 (by decide)) (by kernel_rfl) (by kernel_rfl) ?_;intro W2 hs2;have HC2:Hid (Blk W2 w.heap.size fstL):=Lib.hid (HC1.out.all hs2 rfl);have HB2:=Lib.hid (HB1.out.trans (hs2.below (Nat.le_refl _)));clear hs2))
  go_upto_region 13 with (first
    | refine wpList_load_mid rfl _ _ rfl nb 27 rfl rtL _ (nod_rates (HB.out.on HB2.out)) Tryz.underlying70 rfl (by kernel_rfl) ?_
    | (refine wpList_alloc_new rfl 70 rfl rtL.toArray (zero_Rt _) ?_;intro W3 hW;have HC3:=Lib.hid (Blk.newL (L:=rtL) hW rfl);have HB3:=Lib.hid (bthen HB2.out hW.bel);have HC7:=Lib.hid (HC2.out.on hW.bel);clear hW)
    | (refine wpList_store_in rfl 70 _ _ rfl W2.heap.size 0 rtL.toArray rfl rfl (HC3.out.there 0 3 (by decide)) (by kernel_rfl) (by kernel_rfl) ?_;intro W4 hs4;have HK11:Hid (Blk W4 W2.heap.size rtL):=Lib.hid (HC3.out.all hs4 rfl);have HK7:Hid (Blk W4 w.heap.size fstL):=Lib.hid (HC7.out.far hs4 (by have:=HC2.out.lt;omega));have HB4:Hid (Below w.heap.size w W4):=Lib.hid (HB3.out.trans (hs4.below HB2.out.size));clear hs4))
  try (apply wp_seq_k;intro K_ HK_)
  have hS0:W4.drew.heap[w.heap.size]?=W4.heap[w.heap.size]?∧W4.drew.heap[W2.heap.size]?=W4.heap[W2.heap.size]?∧W4.heap.size≤W4.drew.heap.size:=⟨rfl,rfl,Nat.le_refl _⟩
  refine wp_region_held_drew (S:=fun w'=>w'.heap[w.heap.size]?=W4.heap[w.heap.size]?∧w'.heap[W2.heap.size]?=W4.heap[W2.heap.size]?∧W4.heap.size≤w'.heap.size) (by kernel_rfl) hS0 (fun hHeld0=>?_)
  refine wpAnyH_take (i:=0) (oi:=⟨some 49,_,_,_,_,_⟩) (v:=?_) rfl (by kernel_rfl) (by kernel_rfl) (by kernel_rfl) (fun _ _ _ h=>h) (Or.inl ⟨by rfl,?_⟩) (by assumption) ?_
  rotate_left
  · intro w' hSw
    go_simp
    try with_reducible rfl
  try go_frame
  refine wpAnyH_take (i:=1) (oi:=⟨some 50,_,_,_,_,_⟩) (v:=?_) rfl (by kernel_rfl) (by kernel_rfl) (by kernel_rfl) (fun _ _ _ h=>h) (Or.inl ⟨by rfl,?_⟩) (by assumption) ?_
  rotate_left
  · intro w' hSw
    go_simp
    try with_reducible rfl
  try go_frame
  refine wpAnyH_take (i:=2) (oi:=⟨some 51,_,_,_,_,_⟩) (v:=?_) rfl (by kernel_rfl) (by kernel_rfl) (by kernel_rfl) (fun _ _ _ h=>h) (Or.inl ⟨by rfl,?_⟩) (by assumption) ?_
  rotate_left
  · intro w' hSw
    go_simp
    try with_reducible rfl
  try go_frame
  refine wpAnyH_take (i:=3) (oi:=⟨some 52,_,_,_,_,_⟩) (v:=?_) rfl (by kernel_rfl) (by kernel_rfl) (by kernel_rfl) (fun _ _ _ h=>h) (Or.inl ⟨by rfl,?_⟩) (by assumption) ?_
  rotate_left
  · intro w' hSw
    go_simp
    try with_reducible rfl
  try go_frame
  refine wpAnyH_take (i:=4) (oi:=⟨some 53,_,_,_,_,_⟩) (v:=.agg fstL.toArray) rfl (by kernel_rfl) (by kernel_rfl) (by kernel_rfl) (fun _ _ _ h=>h) (yieldsIf_load_mid (by rfl) 52 _ rfl w.heap.size 0 rfl fstL _ (fun w' hSw=>(HK7.out.kept hSw.1 hSw.2.2).rg) Tryz.underlying52 rfl (by kernel_rfl)) (by assumption) ?_
  try go_frame
  refine wpAnyH_take (i:=7) (oi:=⟨some 56,_,_,_,_,_⟩) (v:=?_) rfl (by kernel_rfl) (by kernel_rfl) (by kernel_rfl) (fun _ _ _ h=>h) (Or.inl ⟨by rfl,?_⟩) (by assumption) ?_
  rotate_left
  · intro w' hSw
    go_simp
    try with_reducible rfl
  try go_frame
  refine wpAnyH_take (i:=8) (oi:=⟨some 57,_,_,_,_,_⟩) (v:=?_) rfl (by kernel_rfl) (by kernel_rfl) (by kernel_rfl) (fun _ _ _ h=>h) (Or.inl ⟨by rfl,?_⟩) (by assumption) ?_
  rotate_left
  · intro w' hSw
    have cq:=(HK11.out.kept hSw.2.1 hSw.2.2).cell 0 (v:=.int .i64 0) rfl
    go_simp
    try with_reducible rfl
  try go_frame
  refine wpAnyH_take (i:=9) (oi:=⟨some 58,_,_,_,_,_⟩) (v:=?_) rfl (by kernel_rfl) (by kernel_rfl) (by kernel_rfl) (fun _ _ _ h=>h) (Or.inl ⟨by rfl,?_⟩) (by assumption) ?_
  rotate_left
  · intro w' hSw
    go_simp
    try with_reducible rfl
  try go_frame
  refine wpAnyH_take (i:=10) (oi:=⟨some 59,_,_,_,_,_⟩) (v:=?_) rfl (by kernel_rfl) (by kernel_rfl) (by kernel_rfl) (fun _ _ _ h=>h) (Or.inl ⟨by rfl,?_⟩) (by assumption) ?_
  rotate_left
  · intro w' hSw
    have cq:=(HK11.out.kept hSw.2.1 hSw.2.2).cell 1 (v:=.int .i64 0) rfl
    go_simp
    try with_reducible rfl
  try go_frame
  refine wpAnyH_take (i:=11) (oi:=⟨some 60,_,_,_,_,_⟩) (v:=?_) rfl (by kernel_rfl) (by kernel_rfl) (by kernel_rfl) (fun _ _ _ h=>h) (Or.inl ⟨by rfl,?_⟩) (by assumption) ?_
  rotate_left
  · intro w' hSw
    go_simp
    try with_reducible rfl
  try go_frame
  refine wpAnyH_take (i:=12) (oi:=⟨some 61,_,_,_,_,_⟩) (v:=?_) rfl (by kernel_rfl) (by kernel_rfl) (by kernel_rfl) (fun _ _ _ h=>h) (Or.inl ⟨by rfl,?_⟩) (by assumption) ?_
  rotate_left
  · intro w' hSw
    have cq:=(HK11.out.kept hSw.2.1 hSw.2.2).cell 2 (v:=.int .i64 0) rfl
    go_simp
    try with_reducible rfl
  try go_frame
  refine wpAnyH_ready (rs:=[5]) (by kernel_rfl) (by simp) ?_
  refine AllReadyH.cons (o:=⟨some 54,_,_,_,_,_⟩) rfl (fun K hK=>?_) AllReadyH.nil
  rw [if_pos (by rfl)]
  go_step
  refine (fuseWord_c _).mono ?_
  rintro e w5 ⟨rfl,hb5⟩
  have HB5:=Lib.hid (bthen (bdrew HB4.out) hb5)
  have HS5:Hid (w5.heap[w.heap.size]?=W4.heap[w.heap.size]?∧w5.heap[W2.heap.size]?=W4.heap[W2.heap.size]?∧W4.heap.size≤w5.heap.size):=⟨hb5.block _ HK7.out.lt,hb5.block _ HK11.out.lt,hb5.size⟩
  clear hb5
  try go_frame
  refine hK.out _ _ HS5.out (fun hHeld=>?_)
  clear hK K
  try go_frame
  refine wpAnyH_take (i:=6) (oi:=⟨some 55,_,_,_,_,_⟩) (v:=?_) rfl (by kernel_rfl) (by kernel_rfl) (by kernel_rfl) (fun _ _ _ h=>h) (Or.inl ⟨by rfl,?_⟩) (by assumption) ?_
  rotate_left
  · intro w' hSw
    go_simp
    try with_reducible rfl
  try go_frame
  refine wpAnyH_ready (rs:=[13]) (by kernel_rfl) (by simp) ?_
  refine AllReadyH.cons (o:=⟨some 62,_,_,_,_,_⟩) rfl (fun K hK=>?_) AllReadyH.nil
  rw [if_pos (by rfl)]
  go_step
  have HS6:Hid ((w5.alloc (.cells #[.int .i64 (T:Int),.int .i64 537395712,.int .i64 0,.int .i64 0,.int .i64 0] 2)).heap[w.heap.size]?=W4.heap[w.heap.size]?∧(w5.alloc (.cells #[.int .i64 (T:Int),.int .i64 537395712,.int .i64 0,.int .i64 0,.int .i64 0] 2)).heap[W2.heap.size]?=W4.heap[W2.heap.size]?∧W4.heap.size≤(w5.alloc (.cells #[.int .i64 (T:Int),.int .i64 537395712,.int .i64 0,.int .i64 0,.int .i64 0] 2)).heap.size):=⟨(Below.heap_alloc _ _ _ (Nat.lt_of_lt_of_le HK7.out.lt HS5.out.2.2)).trans HS5.out.1,(Below.heap_alloc _ _ _ (Nat.lt_of_lt_of_le HK11.out.lt HS5.out.2.2)).trans HS5.out.2.1,by rw [World.size_alloc];have:=HS5.out.2.2;omega⟩
  refine hK.out _ _ HS6.out (fun hHeld=>?_)
  clear hK K
  try go_frame
  refine wpAnyH_ready (rs:=[14]) (by kernel_rfl) (by simp) ?_
  refine AllReadyH.cons (o:=⟨some 63,_,_,_,_,_⟩) rfl (fun K hK=>?_) AllReadyH.nil
  rw [if_pos (by rfl)]
  go_step
  refine (HSN _ HB5.out).out.mono ?_
  rintro e w7 h7
  obtain rfl:=h7.1
  have HS7:Hid (w7.heap[w.heap.size]?=W4.heap[w.heap.size]?∧w7.heap[W2.heap.size]?=W4.heap[W2.heap.size]?∧W4.heap.size≤w7.heap.size):=by
    obtain⟨-,-,-,-,-,-,-,-,-,-,-,hk,-⟩:=h7
    have z7:=HK7.out.lt
    have z11:=HK11.out.lt
    have z5:=HS5.out.2.2
    have hnb:=HBN.out
    have hz2:=HB2.out.size
    exact⟨(hk.block _ ⟨by rw [World.size_alloc];omega,by omega,fun q=>by have:=HVB.out _ q;omega⟩).trans HS6.out.1,(hk.block _ ⟨by rw [World.size_alloc];omega,by omega,fun q=>by have:=HVB.out _ q;omega⟩).trans HS6.out.2.1,Nat.le_trans HS6.out.2.2 hk.size⟩
  have HF:=Lib.hid (h7.from (bthen HB5.out (below_new _ _)))
  clear h7
  try go_frame
  refine hK.out _ _ HS7.out (fun hHeld=>?_)
  clear hK K
  try go_frame
  refine wpAnyH_done (by kernel_rfl) ?_ _
  try go_frame
  exact bodyPost_end (v:=.tuple #[]) (by simp [results,Tryz.results115,go_sem]) rfl HF.out
def rowK (k:Nat):List Tr:=if k≤9 then [(1,100 * ((k:Int)+1),100),(0,1000,1000)] else [(1,100 * (k:Int),100),(0,2000,1000)]
def fireK (k:Nat):Tr:=if k=9 then (0,1000,1000) else if k < 9 then (1,100 * ((k:Int)+1),100) else (1,100 * (k:Int),100)
theorem fire_least (k:Nat) (h:k≤11):Least (fireK k) (rowK k):=by
  rcases (by omega:k=0∨k=1∨k=2∨k=3∨k=4∨k=5∨k=6∨k=7∨k=8∨k=9∨k=10∨k=11) with rfl | rfl | rfl | rfl | rfl | rfl | rfl | rfl | rfl | rfl | rfl | rfl <;> exact⟨by decide,by decide⟩
theorem fire_next (k:Nat) (h:k≤10):(((fireK k).1,(fireK k).2.1+(fireK k).2.2,(fireK k).2.2) :: without (rowK k) (fireK k).1).Perm (rowK (k+1)):=by
  rcases (by omega:k=0∨k=1∨k=2∨k=3∨k=4∨k=5∨k=6∨k=7∨k=8∨k=9∨k=10) with rfl | rfl | rfl | rfl | rfl | rfl | rfl | rfl | rfl | rfl | rfl <;> decide
theorem fire_ev (k:Nat):(fireK k).2.2≠0:=by unfold fireK;split <;> (try split) <;> simp
theorem nextK {S:Nat→Prop} {q N:Nat} {w:World} (k:Nat) (hk:k≤10) (h:QueI S q N (rowK k) w) (now:Int) (hl:(fireK k).2.1≤now) (hn:now≤10000) :
    Calls Tryz.prog 114 #[.pointer (some ⟨q,0,none⟩),.int .i64 now] w fun e w'=>e=.returned (.tuple #[.int .i64 (fireK k).1,.int .i64 (fireK k).2.1,.bool true])∧QueI S q N (rowK (k+1)) w'∧KeptS S w w':=
  (next_again h (fire_least k (by omega)) now (by rw [if_neg (by omega)];omega) (fire_ev k)).mono fun e w' ⟨h1,h2,h3⟩=>⟨h1,h2.perm (fire_next k hk),h3⟩
theorem lateK {S:Nat→Prop} {q N:Nat} {w:World} (k:Nat) (hk:k≤11) (h:QueI S q N (rowK k) w) (now:Int) (hl:now < (fireK k).2.1) (hn:now≤10000) :
    Calls Tryz.prog 114 #[.pointer (some ⟨q,0,none⟩),.int .i64 now] w fun e w'=>e=.returned (.tuple #[.int .i64 0,.int .i64 0,.bool false])∧w=w':=
  next_late h (fire_least k hk) now (by rw [if_neg (by omega)];omega)
theorem QueI.away {S:Nat→Prop} {q N:Nat} {r:List Tr} {w w':World} (h:QueI S q N r w) (hk:KeptS (fun k=>k < w.heap.size∧¬ S k) w w'):QueI (fun k=>S k∨(w.heap.size≤k∧k < w'.heap.size)) q N r w':=by
  obtain⟨n,f,v,mb,a⟩:=h
  have hl:=a.row.blocks
  have hv:∀ B,v.ownBlock=some B→¬ (S B∨B=mb):=fun B e=>by
    rcases a.row with ⟨-,rfl,-⟩ | ⟨B',c,rfl,h⟩
    · cases e
    · cases e;exact h.out
  have hx:∀ i,i < n→¬ (S (f i).b∨(f i).b=mb):=fun i hi=>by
    rcases a.row with ⟨rfl,-⟩ | ⟨B',c,rfl,h⟩
    · omega
    · exact (h.tim i hi).out
  have b:=a.keep hk ⟨hl.1,a.outq⟩ ⟨a.pm.lt,a.outm⟩ (fun B e=>⟨hl.2.1 B e,fun s=>hv B e (.inl s)⟩) (fun i hi=>⟨hl.2.2 i hi,fun s=>hx i hi (.inl s)⟩)
  refine⟨n,f,v,mb,{ b with row:=?_,outq:=fun h=>h.elim b.outq (fun h=>by omega),outm:=fun h=>h.elim b.outm (fun h=>by have:=a.pm.lt;omega),lt:=fun k h=>h.elim (b.lt k) (fun h=>h.2) }⟩
  rcases b.row with h | ⟨B,c,e,h⟩
  · exact .inl h
  · refine .inr ⟨B,c,e,⟨h.sl,fun i hi=>{ h.tim i hi with out:=fun o=>?_ },h.inj,h.neq,fun o=>?_,h.le,h.blk⟩⟩
    · have:=hl.2.2 i hi
      have:=(h.tim i hi).out
      rcases o with (o | o) | o
      · exact this (.inl o)
      · omega
      · exact this (.inr o)
    · have:=hl.2.1 B (by rw [e];rfl)
      rcases o with (o | o) | o
      · exact h.out (.inl o)
      · omega
      · exact h.out (.inr o)
theorem DecI.keptB {W W':World} {g b:Nat} {C:List Int} {l:List UInt8} (h:DecI W g b C l) (hg:W'.heap[g]?=W.heap[g]?) (hb:W'.heap[b]?=W.heap[b]?) (hz:W.heap.size≤W'.heap.size):DecI W' g b C l:=
  ⟨h.blk.kept hg hz,h.len,h.win.kept hb hz,h.ne⟩
abbrev EvT:=List UInt8×Option Addr×Nat
def evT (x:EvT):List Value:=evC 2 (.slice x.2.1 x.1.length x.2.2) 0
def evsV (l:List EvT):List Value:=l.flatMap evT
theorem evsV_snoc (l:List EvT) (x:EvT):evsV (l++[x])=evsV l++evT x:=by unfold evsV;rw [List.flatMap_append];simp
def lenK (k:Nat):Nat:=if k=9 then 17 else 22
structure TickI (M:Nat→Prop) (w1 w0:World) (nb B g b tq:Nat) (hr ak bk:Value) (now:Int) (k:Nat) (r:List Tr) (W:World):Prop where
  it:∃ (S:Nat→Prop) (N:Nat) (out:Value) (l:List EvT),Blk W nb (nodL 1 1 k out now g tq hr ak bk)∧DecI W g b z13 []∧QueI S tq N r W∧W.ownsRow B 126 123 out k (evsV l)∧l.length=k ∧
    (∀ (i:Nat) (h:i < l.length),FlatQ (fun j=>S j∧w0.heap.size≤j∧j < W.heap.size∧j≠nb∧out.ownBlock≠some j) W l[i].2.1 (bsV l[i].1)∧l[i].1[0]?=some 254∧l[i].1.length=lenK i) ∧
    S nb∧S g∧S b∧(∀ j,out.ownBlock=some j→S j)∧(∀ j,j < w0.heap.size→S j)∧(∀ j,M j→S j∧j≠nb∧j < W.heap.size∧out.ownBlock≠some j)
  kp:KeptS M w1 W
  bel:Below w0.heap.size w0 W
  ord:w0.heap.size≤nb∧w0.heap.size≤g∧w0.heap.size≤b∧nb≠g∧nb≠b∧nb < B∧g < B∧b < B∧w0.heap.size≤B∧B≤W.heap.size
theorem TickI.next {M:Nat→Prop} {w1 w0:World} {nb B g b tq:Nat} {hr ak bk:Value} {now:Int} {k i:Nat} {W:World} (h:TickI M w1 w0 nb B g b tq hr ak bk now k (rowK i) W) (hi:i≤10) (hl:(fireK i).2.1≤now) (hn:now≤10000) :
    Calls Tryz.prog 114 #[.pointer (some ⟨tq,0,none⟩),.int .i64 now] W fun e w'=>e=.returned (.tuple #[.int .i64 (fireK i).1,.int .i64 (fireK i).2.1,.bool true])∧TickI M w1 w0 nb B g b tq hr ak bk now k (rowK (i+1)) w':=by
  obtain⟨⟨S,N,out,l,h1,h2,h3,h4,h5,h6,h7,h8,h9,h10,h11,h12⟩,hkp,hb,ho⟩:=h
  refine (nextK i hi h3 now hl hn).mono ?_
  rintro e w' ⟨e1,e2,e3⟩
  refine⟨e1,⟨S,N,out,l,h1.kept (e3.block _ h7) e3.size,h2.keptB (e3.block _ h8) (e3.block _ h9) e3.size,e2,?_,h5,fun i hi=>⟨((h6 i hi).1.keep fun j q=>e3.block j q.1).less fun j q=>⟨q.1,q.2.1,Nat.lt_of_lt_of_le q.2.2.1 e3.size,q.2.2.2⟩,(h6 i hi).2⟩,h7,h8,h9,h10,h11,fun j q=>⟨(h12 j q).1,(h12 j q).2.1,Nat.lt_of_lt_of_le (h12 j q).2.2.1 e3.size,(h12 j q).2.2.2⟩⟩,hkp.trans (e3.less fun j q=>(h12 j q).1),hb.trans (e3.below h11),⟨ho.1,ho.2.1,ho.2.2.1,ho.2.2.2.1,ho.2.2.2.2.1,ho.2.2.2.2.2.1,ho.2.2.2.2.2.2.1,ho.2.2.2.2.2.2.2.1,ho.2.2.2.2.2.2.2.2.1,Nat.le_trans ho.2.2.2.2.2.2.2.2.2 e3.size⟩⟩
  refine⟨h4.1,?_⟩
  rcases h4.2 with z | ⟨g',cap,cur,rfl,z1,z2,z3⟩
  · exact .inl z
  · exact .inr ⟨g',cap,cur,rfl,z1,(e3.block g' (h10 g' rfl)).trans z2,z3⟩
theorem TickI.late {M:Nat→Prop} {w1 w0:World} {nb B g b tq:Nat} {hr ak bk:Value} {now:Int} {k i:Nat} {W:World} (h:TickI M w1 w0 nb B g b tq hr ak bk now k (rowK i) W) (hi:i≤11) (hl:now < (fireK i).2.1) (hn:now≤10000) :
    Calls Tryz.prog 114 #[.pointer (some ⟨tq,0,none⟩),.int .i64 now] W fun e w'=>e=.returned (.tuple #[.int .i64 0,.int .i64 0,.bool false])∧W=w':=by
  obtain⟨⟨S,N,out,l,h1,h2,h3,h4⟩,-,hb,ho⟩:=h
  exact lateK i hi h3 now hl hn
theorem TickI.sent {M:Nat→Prop} {w1 w0:World} {nb B g b tq:Nat} {hr ak bk:Value} {now:Int} {k:Nat} {r:List Tr} {W W':World} {S:Nat→Prop} {N:Nat} {out:Value} {l:List EvT} {i:Nat} {e:Ending}
    (h1:Blk W nb (nodL 1 1 k out now g tq hr ak bk)) (h2:DecI W g b z13 []) (h3:QueI S tq N r W) (h5:l.length=k)
    (h6:∀ (i:Nat) (h:i < l.length),FlatQ (fun j=>S j∧w0.heap.size≤j∧j < W.heap.size∧j≠nb∧out.ownBlock≠some j) W l[i].2.1 (bsV l[i].1)∧l[i].1[0]?=some 254∧l[i].1.length=lenK i)
    (h7:S nb) (h8:S g) (h9:S b) (h10:∀ j,out.ownBlock=some j→S j∧B≤j) (h11:∀ j,j < w0.heap.size→S j) (hM:∀ j,M j→S j∧j≠nb∧j < W.heap.size∧out.ownBlock≠some j) (hkp:KeptS M w1 W) (hb:Below w0.heap.size w0 W)
    (ho:w0.heap.size≤nb∧w0.heap.size≤g∧w0.heap.size≤b∧nb≠g∧nb≠b∧nb < B∧g < B∧b < B∧w0.heap.size≤B∧B≤W.heap.size)
    (hs:SendOut nb B (nodL 1 1 k out now g tq hr ak bk) out k (evsV l) k (lenK k) i W e W'):TickI M w1 w0 nb B g b tq hr ak bk now (k+1) r W':=by
  obtain⟨e1,bs,X,d,v',s1,s2,-,s4,s5,s6,s7,s8⟩:=hs
  obtain⟨o1,o2,o3,o4,o5,o6,o7,o8,o9,o10⟩:=ho
  have hz:=s7.size
  have hk:∀ j,j < B→j≠nb→W'.heap[j]?=W.heap[j]?:=fun j q z=>s7.block j ⟨by omega,z,fun y=>by have:=(h10 j y).2;omega⟩
  have hvS:∀ j,v'.ownBlock=some j→(S j∨(W.heap.size≤j∧j < W'.heap.size)):=fun j q=>by
    obtain⟨-,cs,z⟩:=own_cells s5 q
    have:=(Array.getElem?_eq_some_iff.1 z).1
    rcases s8 j q with y | y
    · exact .inl (h10 j y).1
    · exact .inr ⟨y,this⟩
  refine⟨⟨_,N,v',l++[(bs,X,d)],?_,h2.keptB (hk g (by omega) (by omega)) (hk b (by omega) (by omega)) hz,h3.away (s7.less fun j q=>⟨q.1,fun z=>q.2 (z ▸ h7),fun z=>q.2 (h10 j z).1⟩),?_,by rw [List.length_append,h5];rfl,fun j hj=>?_,.inl h7,.inl h8,.inl h9,hvS,fun j q=>.inl (h11 j q),fun j q=>⟨.inl (hM j q).1,(hM j q).2.1,Nat.lt_of_lt_of_le (hM j q).2.2.1 hz,fun z=>(s8 j z).elim (hM j q).2.2.2 (fun y=>by have:=(hM j q).2.2.1;omega)⟩⟩,hkp.trans (s7.less fun j q=>⟨(hM j q).2.2.1,(hM j q).2.1,(hM j q).2.2.2⟩),hb.trans (s7.below fun j q=>⟨by omega,by omega,fun z=>by have:=(h10 j z).2;omega⟩),⟨o1,o2,o3,o4,o5,o6,o7,o8,o9,by omega⟩⟩
  · have:((nodL 1 1 k out now g tq hr ak bk).set 2 (.int .i64 ((k:Int)+1))).set 3 v'=nodL 1 1 (k+1) v' now g tq hr ak bk:=by
      unfold nodL
      simp
    rw [← this]
    exact s4
  · rw [evsV_snoc]
    show World.ownsRow _ _ _ _ _ _ (evsV l++evC 2 (.slice X bs.length d) 0)
    rw [s1]
    exact s5
  · by_cases hjl:j < l.length
    · rw [List.getElem_append_left hjl]
      obtain⟨q1,q2,q3⟩:=h6 j hjl
      refine⟨(q1.keep fun x q=>s7.block x ⟨q.2.2.1,q.2.2.2⟩).less fun x q=>⟨.inl q.1,q.2.1,Nat.lt_of_lt_of_le q.2.2.1 hz,q.2.2.2.1,fun z=>?_⟩,q2,q3⟩
      rcases s8 x z with y | y
      · exact q.2.2.2.2 y
      · have:=q.2.2.1;omega
    · have hjk:j=k:=by rw [List.length_append,h5] at hj;simp at hj;omega
      subst hjk
      rw [List.getElem_append_right (by omega)]
      simp only [h5,Nat.sub_self,List.getElem_cons_zero]
      refine⟨s6.less fun x q=>⟨.inr ⟨q.1,q.2.1⟩,by have:=q.1;omega,q.2.1,q.2.2⟩,s2,s1⟩
end Go.Proofs.YtaiepcgfofpmjaaGreat
