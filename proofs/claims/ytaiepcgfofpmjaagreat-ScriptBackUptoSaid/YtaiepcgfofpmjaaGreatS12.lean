/- A range over an iterator that keeps its state in a cell of its own, and reads others. -/
import Derived.RangeFuncNested
import Derived.RangeFuncBound
import Derived.RangeFuncCalls
import Derived.RangeFuncLeaves
import Derived.WalkKit
import Derived.OwnWalkIn
import Derived.TacticsInMore
import Derived.LoopNIn
import Derived.LoopIn
import Derived.Test.YtaiepcgfofpmjaaGreatS04
import Derived.Test.YtaiepcgfofpmjaaGreatS11
import Derived.Shelf.Abstract
import Derived.Shelf.RegionOpen
import Derived.Sort.QuietIn
import Derived.Test.YtaiepcgfofpmjaaGreatS06
namespace Go.Proofs.YtaiepcgfofpmjaaGreat
set_option linter.unusedVariables false
open Go.RowKit
def BoxStopN {α:Type} (m:Nat) (P:Program) (gf:Nat) (lb:Array Value) (encs:α→Array Value) (bx:Nat) (N:Nat→Prop) (S:List α→Prop) (w:World):Prop:=
  ∀ (l:Nat) (J Jx:List α→World→Prop) (W:World),Below w.heap.size w W→(∀ pre V V',J pre V→V.grownBy V' (some bx)→J pre V') →
    (∀ pre x V,J pre V→(∃ rest,S (pre++x :: rest))→YieldAt Fence.wide (m - 1) P l (encs x) V fun e V'=>
      (e=.returned (.bool true)∧J (pre++[x]) V'∧∀ k,N k→V'.heap[k]?=V.heap[k]?)∨(e=.returned (.bool false)∧Jx (pre++[x]) V')) →
    J [] W →
    CallsIn Fence.wide m P gf (#[.func (.yield l) #[] #[]]++lb) W fun e W'=>(∃ v,e=.returned v)∧((∃ xs,S xs∧J xs W')∨(∃ pre,(∃ rest,S (pre++rest))∧Jx pre W'))
def boxPostN {α:Type} (B:Nat) (N:Nat→Prop) (I:List α→World→Prop) (Ix:Code→List α→World→Prop) (xs:List α) (W:World):Exit→Act→World→Prop
  | .normal,_,W'=>KeepsFrom B W W'∧(∀ k,N k→W'.heap[k]?=W.heap[k]?)∧I xs W'
  | .ret,_,W'=>KeepsFrom B W W'∧Ix .ret xs W'
  | _,_,_=>False
theorem wpIn_rangeBoxN {α:Type} {m:Nat} {P:Program} {g:Operand} {ps:Array Tmp} {assign body:Code} {Q:Exit→Act→World→Prop} {a:Act} {w:World}
    (h1:1≤m) {gf:Nat} {lb:Array Value} (hg:a.eval g=.func (.func gf) #[] lb) (eg:∀ args w,(callFunc gf args).run P w=.ok (.enter gf args) w)
    {encs:α→Array Value} {bx:Nat} (hbx:bx < w.heap.size) {N:Nat→Prop} (hNl:∀ k,N k→k < w.heap.size) {S:List α→Prop} (hseq:BoxStopN (m - 1) P gf lb encs bx N S w) (hps:∀ x,(encs x).size=ps.size)
    (I:List α→World→Prop) (Ix:Code→List α→World→Prop) (hI:OwnFrom w.heap.size I) (hIx:∀ c,OwnFrom w.heap.size (Ix c)) (hIb:∀ pre V V',I pre V→V.grownBy V' (some bx)→I pre V') (h0:I [] w) (A1:Array Value→α→Array Value)
    (hassign:∀ (l:Nat) (x:α) (W:World) (K:Act→World→Prop),K { tmps:=A1 a.tmps x,defers:=[] } W →
      assign.wpIn (Fence.wide.inRound l) (m - 1 - 1) P (Exit.then K (fun _ _ _=>False)) { tmps:=(ps.zip (encs x)).foldl (fun t (p,v)=>t.setIfInBounds p v) a.tmps,defers:=[] } W)
    (hbody:∀ (l:Nat) (pre:List α) (x:α) (W:World),I pre W→(∃ rest,S (pre++x :: rest))→body.wpIn (Fence.wide.inRound l) (m - 1 - 1) P (boxPostN w.heap.size N I Ix (pre++[x]) W) { tmps:=A1 a.tmps x,defers:=[] } W)
    (hdone:∀ (D:Nat) (xs:List α) (W:World),w.heap.size≤D→S xs→I xs W→W.heap[D]?=some (.deferred (some []))→Q .normal { a with defers:={ target:=.collected D,args:=#[] } :: a.defers } W)
    (hstop:∀ (D:Nat) (pre:List α) (W:World),w.heap.size≤D→(∃ rest,S (pre++rest))→Ix .ret pre W→W.heap[D]?=some (.deferred (some []))→Code.ret.wpIn Fence.wide m P Q { a with defers:={ target:=.collected D,args:=#[] } :: a.defers } W) :
    (Code.rangeFunc g ps assign body).wpIn Fence.wide m P Q a w:=by
  refine wpIn_rangeFunc ?_
  intro fn hfn
  show ∃ _,_
  let rec_:LoopState→Option Code→Loop:=fun st pe=>{ state:=st,pending:=pe,fn,tmps:=a.tmps,params:=ps,assign,body,defers:=w.heap.size }
  obtain⟨R,hR⟩:∃ R:LoopState→Option Code→Loop,R=rec_:=⟨_,rfl⟩
  have rS:∀ st pe,(R st pe).state=st:=fun st pe=>by rw [hR]
  obtain⟨W1,hW1⟩:∃ W1,(w.alloc (.deferred (some []))).alloc (.loop (R .ready none))=W1:=⟨_,rfl⟩
  have z1:W1.heap.size=w.heap.size+2:=by rw [← hW1];simp
  have bel:Below w.heap.size w W1:=by rw [← hW1];exact ((Below.refl _ w).alloc (Nat.le_refl _) _).alloc (by simp) _
  have atL:W1.heap[w.heap.size+1]?=some (.loop (R .ready none)):=by
    have:=World.alloc_heap_new (w.alloc (.deferred (some []))) (.loop (R .ready none))
    rw [World.size_alloc] at this
    rw [← hW1];exact this
  have atD:W1.heap[w.heap.size]?=some (.deferred (some [])):=by
    rw [← hW1];exact (Below.heap_alloc _ _ _ (by simp)).trans (World.alloc_heap_new w _)
  have i1:I [] W1:=by rw [← hW1];exact hI.alloc _ (hI.alloc _ h0)
  -- the record and the row of deferred calls,behind a write of block bx
  have far:∀ (V V':World) (k:Nat) (o:Obj),V.grownBy V' (some bx)→w.heap.size≤k→V.heap[k]?=some o→V'.heap[k]?=some o:=fun V V' k o hg hk ho=>
    (hg.block k (Array.getElem?_eq_some_iff.1 ho).1 (fun e=>by cases e;omega)).trans ho
  refine⟨w.heap.size+1,[{ target:=.collected w.heap.size,args:=#[] }],W1,{ target:=.fn (.func gf) lb,args:=#[.func (.yield (w.heap.size+1)) #[] #[]] },W1,gf,
    #[.func (.yield (w.heap.size+1)) #[] #[]]++lb,W1,?_,?_,?_,?_,fun _=>h1,?_⟩
  · rw [← hW1,hR];exact run_enterLoop_outer _ _ _ _ _
  · simp only [resolve,hg]
    simp [go_sem]
  · intro f' hf'
    trivial
  · simp [invoke,go_sem,eg]
  · refine (hseq (w.heap.size+1)
      (fun pre V=>I pre V∧V.heap[w.heap.size+1]?=some (.loop (R .ready none))∧V.heap[w.heap.size]?=some (.deferred (some [])))
      (fun pre V=>Ix .ret pre V∧V.heap[w.heap.size+1]?=some (.loop (R .done (some .ret)))∧V.heap[w.heap.size]?=some (.deferred (some [])))
      W1 bel (fun pre V V' ⟨q1,q2,q3⟩ hg=>⟨hIb pre V V' q1 hg,far V V' _ _ hg (by omega) q2,far V V' _ _ hg (Nat.le_refl _) q3⟩) ?_ ⟨i1,atL,atD⟩).mono ?_
    · rintro pre x V ⟨hi,hl,hd⟩ hx
      have hlt:w.heap.size+1 < V.heap.size:=(Array.getElem?_eq_some_iff.1 hl).1
      have hy:=run_yield (P:=P) (args:=encs x) hl (by rw [hR];exact hps x)
      rw [hR] at hy
      refine⟨fn,_,assign,body,hy,roundIn_of_wpIn hfn (hassign _ x V _ ⟨_,run_beginRound hl (rS _ _),?_⟩)⟩
      obtain⟨V2,hV2⟩:∃ V2,V.putObj (w.heap.size+1) (.loop { R .ready none with state:=.busy })=V2:=⟨_,rfl⟩
      have l2:V2.heap[w.heap.size+1]?=some (.loop { R .ready none with state:=.busy }):=by rw [← hV2];exact World.putObj_heap_same hlt
      have d2:V2.heap[w.heap.size]?=some (.deferred (some [])):=by rw [← hV2];exact (World.putObj_heap_other (by omega)).trans hd
      have b2:∀ k,N k→V2.heap[k]?=V.heap[k]?:=fun k hk=>by rw [← hV2];exact World.putObj_heap_other (by have:=hNl k hk;omega)
      have i2:I pre V2:=by rw [← hV2];exact hI.putObj _ hi (by omega) hl rfl
      rw [hV2]
      refine wpIn_mono (hbody _ pre x V2 i2 hx) ?_
      have fin:∀ (jump:Option Code) (V3:World),KeepsFrom w.heap.size V2 V3 →
          (Instr.endRound (w.heap.size+1) jump).run P V3=.ok (.bool jump.isNone) (V3.putObj (w.heap.size+1) (.loop (R (if jump.isNone then .ready else .done) jump))) ∧
          V3.heap[w.heap.size+1]?=some (.loop { R .ready none with state:=.busy }) ∧
          (V3.putObj (w.heap.size+1) (.loop (R (if jump.isNone then .ready else .done) jump))).heap[w.heap.size+1]?=some (.loop (R (if jump.isNone then .ready else .done) jump)) ∧
          (V3.putObj (w.heap.size+1) (.loop (R (if jump.isNone then .ready else .done) jump))).heap[w.heap.size]?=some (.deferred (some [])):=fun jump V3 hk3=>by
        have l3:=hk3.same _ _ (by omega) l2 rfl
        have hr:=run_endRound (P:=P) jump l3
        rw [hR] at hr l3 ⊢
        exact⟨hr,l3,World.putObj_heap_same (Array.getElem?_eq_some_iff.1 l3).1,(World.putObj_heap_other (by omega)).trans (hk3.same _ _ (Nat.le_refl _) d2 rfl)⟩
      rintro e a3 V3 hp
      cases e with
      | normal=>
        obtain⟨hk3,hb3,hi3⟩:=hp
        obtain⟨hr,l3,l4,d4⟩:=fin none V3 hk3
        exact⟨_,_,hr,.inl ⟨rfl,⟨hI.putObj _ hi3 (by omega) l3 rfl,l4,d4⟩,fun k hk=>(World.putObj_heap_other (by have:=hNl k hk;omega)).trans ((hb3 k hk).trans (b2 k hk))⟩⟩
      | ret=>
        obtain⟨hk3,hi3⟩:=hp
        obtain⟨hr,l3,l4,d4⟩:=fin (some .ret) V3 hk3
        exact⟨_,_,hr,.inr ⟨rfl,(hIx _).putObj _ hi3 (by omega) l3 rfl,l4,d4⟩⟩
      | exit id=>exact hp.elim
      | goto t=>exact hp.elim
      | panic ch=>exact hp.elim
      | outgrown=>exact hp.elim
    · rintro e V ⟨⟨v,rfl⟩,(⟨xs,hS,hi,hl,hd⟩ | ⟨pre,hS,hi,hl,hd⟩)⟩
      · have he:=run_endLoop (P:=P) hl (by rw [hR];simp [rec_])
        rw [hR] at he
        exact⟨none,_,he,hdone _ xs _ (Nat.le_refl _) hS (hI.putObj _ hi (by omega) hl rfl) ((World.putObj_heap_other (by omega)).trans hd)⟩
      · have he:=run_endLoop (P:=P) hl (by rw [hR];simp [rec_])
        rw [hR] at he
        exact⟨some .ret,_,he,hstop _ pre _ (Nat.le_refl _) hS ((hIx _).putObj _ hi (by omega) hl rfl) ((World.putObj_heap_other (by omega)).trans hd)⟩
open Go.RowKit Go.Shelf
attribute [local go_sem] Oper.semAt_some
theorem index_cases (c:UInt8):∀ l:List UInt8,(Lib.indexByte l c=-1∧∀ x∈l,x≠c)∨∃ p r,l=p++c :: r∧(∀ x∈p,x≠c)∧Lib.indexByte l c=(p.length:Int)
  | []=>.inl ⟨rfl,fun x hx=>by cases hx⟩
  | b :: l=>by
    by_cases h:b=c
    · subst h
      exact .inr ⟨[],l,rfl,(fun x hx=>by cases hx),by simp [Lib.indexByte]⟩
    · have hb:(b==c)=false:=by rw [beq_eq_false_iff_ne];exact h
      rcases index_cases c l with ⟨h1,h2⟩ | ⟨p,r,h1,h2,h3⟩
      · refine .inl ⟨by simp [Lib.indexByte,hb,h1],fun x hx=>?_⟩
        rcases List.mem_cons.1 hx with rfl | q
        · exact h
        · exact h2 x q
      · refine .inr ⟨b :: p,r,by rw [h1];rfl,fun x hx=>?_,?_⟩
        · rcases List.mem_cons.1 hx with rfl | q
          · exact h
          · exact h2 x q
        · have hn:¬ ((p.length:Int)=-1):=by omega
          simp [Lib.indexByte,hb,h3,hn]
def PieceI (l:List (List UInt8)) (c:UInt8) (bx cx:Nat) (J:List ByteArray→World→Prop) (w:World):Prop:=
  ∃ pre sr,l=pre.map (fun x:ByteArray=>x.data.toList)++splitB c (ByteArray.data sr).toList∧J pre w∧w.cell? ⟨bx,0,none⟩=some (.string sr)∧w.cell? ⟨cx,0,none⟩=some (.int .u8 (c.toNat:Int))∧w.frozen? ⟨bx,0,none⟩=false∧sr.size≤100000000
def boxLenS (w:World) (bx:Nat):Nat:=match w.cell? ⟨bx,0,none⟩ with | some (.string s)=>s.size | _=>0
theorem boxLenS_of {w:World} {bx:Nat} {s:ByteArray} (h:w.cell? ⟨bx,0,none⟩=some (.string s)):boxLenS w bx=s.size:=by unfold boxLenS;rw [h]
theorem scrPieces_any (s:ByteArray) (c:Int) (w:World):Calls Tryz.prog 43 #[.string s,.int .u8 c] w fun e w'=>e=.returned (.func (.func 93) #[] #[.pointer (some ⟨w.heap.size,0,none⟩),.pointer (some ⟨w.heap.size+1,0,none⟩)])∧w'=(w.alloc (.cells #[.string s] 9)).alloc (.cells #[.int .u8 c] 5):=by
  go_enter Tryz.func43,Tryz.ntmps43
  go_wp2
  go_ret
  exact⟨rfl,rfl⟩
theorem toL_ext (s:ByteArray) (i j:Nat):(s.extract i j).data.toList=(s.data.toList.take j).drop i:=by rw [toB_ext,toList_B]
set_option maxRecDepth 100000 in
set_option maxHeartbeats 2000000 in
theorem pieces_stops (m bx cx:Nat) (hm:1≤m) (s:ByteArray) (c:UInt8) (hs:s.size≤100000000) (w:World) (hw:w.cell? ⟨bx,0,none⟩=some (.string s)) (hf:w.frozen? ⟨bx,0,none⟩=false) (hc:w.cell? ⟨cx,0,none⟩=some (.int .u8 (c.toNat:Int))) (hbx:bx < w.heap.size) (hcx:cx < w.heap.size) (hne:cx≠bx) :
    BoxStopN m Tryz.prog 93 #[.pointer (some ⟨bx,0,none⟩),.pointer (some ⟨cx,0,none⟩)] (fun x:ByteArray=>#[.string x]) bx (fun k=>k=bx∨k=cx) (fun xs=>xs.map (fun x:ByteArray=>x.data.toList)=splitB c s.data.toList) w:=by
  intro l J Jx W hW hJ hY h0
  have hbW:W.cell? ⟨bx,0,none⟩=some (.string s):=(hW.cell (p:=⟨bx,0,none⟩) hbx).trans hw
  have hfW:W.frozen? ⟨bx,0,none⟩=false:=(hW.frozen (p:=⟨bx,0,none⟩) hbx).trans hf
  have hcW:W.cell? ⟨cx,0,none⟩=some (.int .u8 (c.toNat:Int)):=(hW.cell (p:=⟨cx,0,none⟩) hcx).trans hc
  have HJ:=Lib.hid hJ
  have HY:=Lib.hid hY
  have HI0:Hid (PieceI (splitB c s.data.toList) c bx cx J W):=⟨[],s,rfl,h0,hbW,hcW,hfW,hs⟩
  clear hJ hY h0 hW hw hf hbW hfW hcW hc
  refine callsIn_of_wp Tryz.func93 rfl trivial ?_ rfl
  simp only [Tryz.ntmps93,List.size_toArray,List.length_cons,List.length_nil,Nat.reduceAdd,Nat.reduceSub,Array.replicate_succ,Array.replicate_zero,List.push_toArray,List.append_toArray,List.nil_append,List.cons_append]
  gi_wp2
  gi_loopw [] (fun wr=>Hid (PieceI (splitB c s.data.toList) c bx cx J wr)) (fun wr=>boxLenS wr bx)
  case atStart=>exact HI0
  case round=>
    clear HI0
    obtain⟨pre,sr,he,hj,hb,hc,hf,hz⟩:=hrel.out
    have HBL:=Lib.hid (boxLenS_of hb)
    have HIX:=fun W=>Lib.hid (IndexByte_any sr (c.toNat:Int) W)
    have eb:(((c.toNat:Nat):Int)).toNat.toUInt8=c:=by simp
    rw [eb] at HIX
    have hsz:sr.data.toList.length=sr.size:=by simp
    rcases index_cases c sr.data.toList with ⟨h1,h2⟩ | ⟨p,r,h1,h2,h3⟩
    · rw [h1] at HIX
      rw [splitB_free c _ h2] at he
      obtain⟨fn,tmps,assign,body,hy,hR⟩:=HY.out pre sr _ hj ⟨[],by rw [List.map_append,he];rfl⟩
      have HR:=Lib.hid hR
      have HE:=Lib.hid he
      clear hR hrel hj h1 h2 hsz eb HJ he
      gi_wp2
      refine⟨trivial,callsIn_wide.2 ((HIX _).out.mono ?_)⟩
      rintro e w' ⟨rfl,rfl⟩
      gi_wp2
      refine HR.out.mono ?_
      rintro e V' (⟨rfl,hJ3,hb3⟩ | ⟨rfl,hJ3⟩)
      · have HJ3:=Lib.hid hJ3
        clear hJ3 hb3 hb hc hf
        gi_wp2
        refine bodyPost_ret (results_none rfl _ _ _) rfl ?_
        exact⟨⟨_,rfl⟩,.inl ⟨pre++[sr],by rw [List.map_append,HE.out];rfl,HJ3.out⟩⟩
      · have HJ3:=Lib.hid hJ3
        clear hJ3 hb hc hf
        gi_wp2
        refine bodyPost_ret (results_none rfl _ _ _) rfl ?_
        exact⟨⟨_,rfl⟩,.inr ⟨pre++[sr],⟨[],by rw [List.append_nil,List.map_append,HE.out];rfl⟩,HJ3.out⟩⟩
    · rw [h3] at HIX
      have hl:sr.size=p.length+1+r.length:=by rw [← hsz,h1,List.length_append,List.length_cons];omega
      have hx1:(sr.extract 0 p.length).data.toList=p:=by rw [toL_ext,h1];simp
      have hx2:(sr.extract (p.length+1) sr.size).data.toList=r:=by
        rw [toL_ext,List.take_of_length_le (by omega),h1,List.append_cons]
        exact List.drop_left' (by simp)
      rw [h1,splitB_at c p r h2] at he
      obtain⟨fn,tmps,assign,body,hy,hR⟩:=HY.out pre (sr.extract 0 p.length) _ hj ⟨(splitB c r).map fun x=>toB x,by
        rw [List.map_append,List.map_cons,hx1,List.map_map,he]
        congr 2
        exact (List.map_congr_left (fun x _=>toList_B x)).trans (List.map_id _)⟩
      have HR:=Lib.hid hR
      have HE:Hid (splitB c s.data.toList=(pre++[sr.extract 0 p.length]).map (fun x:ByteArray=>x.data.toList)++splitB c (sr.extract (p.length+1) sr.size).data.toList):=by
        show _=_
        rw [he,hx2,List.map_append,List.append_assoc,List.map_cons,hx1]
        rfl
      have HX:Hid ((sr.extract (p.length+1) sr.size).size=r.length):=by
        show _=_
        rw [ByteArray.size_extract];omega
      have i1:(0:Int)≤(p.length:Int):=by omega
      have i2:(p.length:Int)≤(sr.size:Int):=by omega
      have i3:(p.length:Int)+1≤(sr.size:Int):=by omega
      have i4:((p.length:Int)+1).toNat=p.length+1:=by omega
      have HL:=Lib.hid hl
      clear hR hrel hj h1 h2 h3 hx1 hx2 hsz eb he hl
      generalize p.length=n at *
      gi_wp2
      refine⟨trivial,callsIn_wide.2 ((HIX _).out.mono ?_)⟩
      rintro e w' ⟨rfl,rfl⟩
      gi_wp2
      refine HR.out.mono ?_
      rintro e V' (⟨rfl,hJ3,hb3⟩ | ⟨rfl,hJ3⟩)
      · have hb4:V'.cell? ⟨bx,0,none⟩=some (.string sr):=(World.cell?_of_block (a:=⟨bx,0,none⟩) (hb3 _ (.inl rfl))).trans hb
        have hf4:V'.frozen? ⟨bx,0,none⟩=false:=(World.frozen?_of_block (a:=⟨bx,0,none⟩) (hb3 _ (.inl rfl))).trans hf
        have hc4:V'.cell? ⟨cx,0,none⟩=some (.int .u8 (c.toNat:Int)):=(World.cell?_of_block (a:=⟨cx,0,none⟩) (hb3 _ (.inr rfl))).trans hc
        have hj5:=HJ.out _ V' (V'.setCell ⟨bx,0,none⟩ (.string (sr.extract (n+1) sr.size))) hJ3 (grownBy_setCell' V' bx _)
        have hb5:(V'.setCell ⟨bx,0,none⟩ (.string (sr.extract (n+1) sr.size))).cell? ⟨bx,0,none⟩=some (.string (sr.extract (n+1) sr.size)):=World.cell?_setCell_same' _ _ _ (by rw [hb4];rfl)
        have hc5:(V'.setCell ⟨bx,0,none⟩ (.string (sr.extract (n+1) sr.size))).cell? ⟨cx,0,none⟩=some (.int .u8 (c.toNat:Int)):=(World.cell?_setCell_other _ _ _ _ (fun q=>by injection q with q _;exact hne q.symm)).trans hc4
        have hf5:(V'.setCell ⟨bx,0,none⟩ (.string (sr.extract (n+1) sr.size))).frozen? ⟨bx,0,none⟩=false:=by rw [World.frozen?_setCell];exact hf4
        have HL5:=Lib.hid (boxLenS_of hb5)
        have HFIN:Hid (PieceI (splitB c s.data.toList) c bx cx J (V'.setCell ⟨bx,0,none⟩ (.string (sr.extract (n+1) sr.size)))):=⟨_,sr.extract (n+1) sr.size,HE.out,hj5,hb5,hc5,hf5,by rw [HX.out];have:=HL.out;omega⟩
        clear hJ3 hb3 hb hc hf hj5 hb5 hc5 hf5 hc4
        gi_wp2
        go_roundw
        case rel=>exact HFIN
        case measure=>rw [HL5.out,HBL.out,HX.out];have:=HL.out;omega
      · have HJ3:=Lib.hid hJ3
        clear hJ3 hb hc hf
        gi_wp2
        refine bodyPost_ret (results_none rfl _ _ _) rfl ?_
        exact⟨⟨_,rfl⟩,.inr ⟨_,⟨(splitB c (sr.extract (n+1) sr.size).data.toList).map fun x=>toB x,by
          rw [List.map_append,List.map_map,HE.out]
          congr 1
          exact (List.map_congr_left (fun x _=>toList_B x)).trans (List.map_id _)⟩,HJ3.out⟩⟩
open Go.RowKit Go.Shelf
attribute [local go_sem] Oper.semAt_some
def leB:Nat→Nat→List UInt8
  | 0,_=>[]
  | n+1,v=>UInt8.ofNat (v % 256) :: leB n (v / 256)
theorem leB_len:∀ n v,(leB n v).length=n
  | 0,_=>rfl
  | n+1,v=>by show (leB n (v / 256)).length+1=_;rw [leB_len n]
theorem octBytes_any (n v:Int) (w:World):Calls Tryz.prog 288 #[.int .i64 n,.int .u64 v] w fun e w'=>e=.returned (.func (.func 333) #[] #[.pointer (some ⟨w.heap.size,0,none⟩),.pointer (some ⟨w.heap.size+1,0,none⟩)])∧w'=(w.alloc (.cells #[.int .i64 n] 3)).alloc (.cells #[.int .u64 v] 211):=by
  go_enter Tryz.func288,Tryz.ntmps288
  go_wp2
  go_ret
  exact⟨rfl,rfl⟩
def OctI (l:List UInt8) (n k:Nat) (cx bx:Nat) (J:List UInt8→World→Prop) (w:World):Prop:=
  ∃ pre u,l=pre++leB (n - k) u∧J pre w∧w.cell? ⟨bx,0,none⟩=some (.int .u64 ((u:Nat):Int))∧w.cell? ⟨cx,0,none⟩=some (.int .i64 (n:Int))∧w.frozen? ⟨bx,0,none⟩=false∧u < 18446744073709551616
set_option maxRecDepth 100000 in
set_option maxHeartbeats 2000000 in
theorem octBytes_stops (m cx bx:Nat) (hm:1≤m) (n v:Nat) (hv:v < 18446744073709551616) (hn:n≤8) (w:World) (hw:w.cell? ⟨bx,0,none⟩=some (.int .u64 (v:Int))) (hf:w.frozen? ⟨bx,0,none⟩=false) (hc:w.cell? ⟨cx,0,none⟩=some (.int .i64 (n:Int))) (hbx:bx < w.heap.size) (hcx:cx < w.heap.size) (hne:cx≠bx) (N:Nat→Prop) (hN:N bx∧N cx) :
    BoxStopN m Tryz.prog 333 #[.pointer (some ⟨cx,0,none⟩),.pointer (some ⟨bx,0,none⟩)] (fun x:UInt8=>#[.int .u8 (x.toNat:Int)]) bx N (fun xs=>xs=leB n v) w:=by
  intro l J Jx W hW hJ hY h0
  have hbW:W.cell? ⟨bx,0,none⟩=some (.int .u64 (v:Int)):=(hW.cell (p:=⟨bx,0,none⟩) hbx).trans hw
  have hfW:W.frozen? ⟨bx,0,none⟩=false:=(hW.frozen (p:=⟨bx,0,none⟩) hbx).trans hf
  have hcW:W.cell? ⟨cx,0,none⟩=some (.int .i64 (n:Int)):=(hW.cell (p:=⟨cx,0,none⟩) hcx).trans hc
  have HJ:=Lib.hid hJ
  have HY:=Lib.hid hY
  have HN:=Lib.hid hN
  have HI0:Hid (OctI (leB n v) n 0 cx bx J W):=⟨[],v,rfl,h0,hbW,hcW,hfW,hv⟩
  clear hJ hY h0 hW hw hf hbW hfW hc hv hN
  refine callsIn_of_wp Tryz.func333 rfl trivial ?_ rfl
  simp only [Tryz.ntmps333,List.size_toArray,List.length_cons,List.length_nil,Nat.reduceAdd,Nat.reduceSub,Array.replicate_succ,Array.replicate_zero,List.push_toArray,List.append_toArray,List.nil_append,List.cons_append]
  gi_wp2
  clear hcW
  gi_loopw [5] (fun iv wr=>∃ k:Nat,iv=.int .i64 k∧k≤n∧Hid (OctI (leB n v) n k cx bx J wr)) (fun iv _=>n - (intOf iv).toNat)
  case atStart=>exact⟨0,rfl,by omega,HI0⟩
  case round=>
    clear HI0
    obtain⟨k,rfl,hk,HO⟩:=hrel
    obtain⟨pre,u,he,hj,hb,hc,hf,hu⟩:=HO.out
    by_cases hlt:k < n
    · have e1:n - k=(n - (k+1))+1:=by omega
      rw [e1] at he
      obtain⟨fn,tmps,assign,body,hy,hR⟩:=HY.out pre (UInt8.ofNat (u % 256)) _ hj ⟨leB (n - (k+1)) (u / 256),he.symm⟩
      have hub:((UInt8.ofNat (u % 256)).toNat:Int)=(u:Int) % 256:=by
        rw [show (UInt8.ofNat (u % 256)).toNat=u % 256 from by simp]
        omega
      rw [hub] at hy
      have HR:=Lib.hid hR
      have HE:=Lib.hid he
      have HU:=Lib.hid hu
      clear hR HO hj hub he hu
      gi_wp2
      refine HR.out.mono ?_
      rintro e V' (⟨rfl,hJ3,hb3⟩ | ⟨rfl,hJ3⟩)
      · have hb4:V'.cell? ⟨bx,0,none⟩=some (.int .u64 (u:Int)):=(World.cell?_of_block (a:=⟨bx,0,none⟩) (hb3 _ HN.out.1)).trans hb
        have hf4:V'.frozen? ⟨bx,0,none⟩=false:=(World.frozen?_of_block (a:=⟨bx,0,none⟩) (hb3 _ HN.out.1)).trans hf
        have hc4:V'.cell? ⟨cx,0,none⟩=some (.int .i64 (n:Int)):=(World.cell?_of_block (a:=⟨cx,0,none⟩) (hb3 _ HN.out.2)).trans hc
        have hj5:=HJ.out _ V' (V'.setCell ⟨bx,0,none⟩ (.int .u64 ((u / 256:Nat):Int))) hJ3 (grownBy_setCell' V' bx _)
        have hb5:(V'.setCell ⟨bx,0,none⟩ (.int .u64 ((u / 256:Nat):Int))).cell? ⟨bx,0,none⟩=some (.int .u64 ((u / 256:Nat):Int)):=World.cell?_setCell_same' _ _ _ (by rw [hb4];rfl)
        have hc5:(V'.setCell ⟨bx,0,none⟩ (.int .u64 ((u / 256:Nat):Int))).cell? ⟨cx,0,none⟩=some (.int .i64 (n:Int)):=(World.cell?_setCell_other _ _ _ _ (fun q=>by injection q with q _;exact hne q.symm)).trans hc4
        have hf5:(V'.setCell ⟨bx,0,none⟩ (.int .u64 ((u / 256:Nat):Int))).frozen? ⟨bx,0,none⟩=false:=by rw [World.frozen?_setCell];exact hf4
        have HFIN:Hid (OctI (leB n v) n (k+1) cx bx J (V'.setCell ⟨bx,0,none⟩ (.int .u64 ((u / 256:Nat):Int)))):=⟨_,u / 256,by rw [HE.out];simp [leB],hj5,hb5,hc5,hf5,by have:=HU.out;omega⟩
        rw [show ((u / 256:Nat):Int)=(u:Int) / 256 from by omega] at HFIN
        clear hJ3 hb3 hb hc hf hj5 hb5 hc5 hf5 hc4
        gi_wp2
        go_roundw
        case rel=>exact⟨k+1,by go_num,by omega,HFIN⟩
        case measure=>simp [intOf];omega
      · have HJ3:=Lib.hid hJ3
        clear hJ3 hb hc hf
        gi_wp2
        refine bodyPost_ret (results_none rfl _ _ _) rfl ?_
        exact⟨⟨_,rfl⟩,.inr ⟨_,⟨leB (n - (k+1)) (u / 256),by rw [HE.out];simp [leB]⟩,HJ3.out⟩⟩
    · have hke:k=n:=by omega
      subst hke
      rw [Nat.sub_self] at he
      have HE:Hid (pre=leB k v):=by show _=_;rw [he];simp [leB]
      have HJ3:=Lib.hid hj
      clear hj he hb hc hf HO
      gi_wp2
      exact bodyPost_end (v:=.tuple #[]) (results_none rfl _ _ _) rfl ⟨⟨_,rfl⟩,.inl ⟨_,HE.out,HJ3.out⟩⟩
end Go.Proofs.YtaiepcgfofpmjaaGreat
