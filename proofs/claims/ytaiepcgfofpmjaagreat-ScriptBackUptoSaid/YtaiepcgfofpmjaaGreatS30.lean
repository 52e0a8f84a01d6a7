/- Layer 31: what a stable order needs: copies of structs, steps of the plain order, greater. -/
import Derived.Test.YtaiepcgfofpmjaaGreatS29
import Derived.Test.YtaiepcgfofpmjaaGreatS23
import Derived.Test.YtaiepcgfofpmjaaGreatS24
namespace Go.Proofs.YtaiepcgfofpmjaaGreat
set_option linter.unusedVariables false
open Go.RowKit
section
variable {P : Program}
theorem run_copy_all (w:World) (dT sT ty elem:TypeId) (m:Nat) (hu:P.underlying dT=some (.slice elem)) (hs:(P.info? elem).map (·.size)=some m) {R:Nat→Prop} (b n dCap:Nat) (X:Option Addr) (sCap:Nat) (xs:List Value)
    (hx:FlatQ R w X xs) (hl:xs.length=n * m) (h1:∀ v∈xs,v.oneCell'=true) (ht:w.there b 0 (n * m)) :
    ∃ W,(Builtin.copy_ #[dT,sT] ty #[.slice (some ⟨b,0,none⟩) n dCap,.slice X n sCap]).run P w=.ok (goInt n) W∧Stored w W b 0 xs:=by
  obtain⟨i,hq,hi⟩:∃ i,P.info? elem=some i∧i.size=m:=by
    cases hq:P.info? elem with
    | none=>simp [hq] at hs
    | some i=>exact⟨i,rfl,by simpa [hq] using hs⟩
  have hst:=run_storeCells_cells (P:=P) b 0 xs 0 w (fun j hj=>by have:=(ht j (by omega)).1;simpa using this) (fun j hj=>by have:=(ht j (by omega)).2;simpa using this) h1
  refine⟨w.setCells b 0 xs,?_,stored_setCells (by rw [hl];exact ht)⟩
  by_cases h0:xs=[]
  · subst h0
    have hz:n * i.size=0:=by rw [hi];simpa using hl.symm
    cases X with
    | none=>simp [Builtin.copy_,run_underlying hu,Builtin.lenOf,Builtin.firstCells,sizeOf,typeInfo,hq,storeCells,World.setCells]
    | some a=>
      have hll:(loadCells a 0).run P w=.ok #[] w:=by simpa using run_loadCells_list (P:=P) w a [] (by simp)
      simp [Builtin.copy_,run_underlying hu,Builtin.lenOf,Builtin.firstCells,sizeOf,typeInfo,hq,hz,hll,storeCells,World.setCells]
  · have hpos:0 < xs.length:=List.length_pos_iff.2 h0
    obtain⟨xb,xo,hX,-,-⟩:=hx 0 xs[0] (List.getElem?_eq_getElem hpos)
    subst hX
    have hll:=run_loadCells_list (P:=P) w ⟨xb,xo,none⟩ xs (fun j v hv=>by
      obtain⟨b',off,e1,-,e3⟩:=hx j v hv
      injection e1 with e1
      injection e1 with e1 e2
      subst e1 e2
      rw [addr_addQ]
      exact e3)
    rw [hl,← hi] at hll
    simp [Builtin.copy_,run_underlying hu,Builtin.lenOf,Builtin.firstCells,sizeOf,typeInfo,hq,hll,hst]
end
def stepL {α:Type} (r:List α) (x:α) (rest:List α) (j:Nat):List α:=(r.drop j).reverse++(x :: ((r.take j).reverse++rest))
theorem stepL_zero {α:Type} (r:List α) (x:α) (rest:List α):stepL r x rest 0=r.reverse++x :: rest:=by simp [stepL]
theorem stepL_at {α:Type} (r:List α) (x:α) (rest:List α) (j:Nat) (h:j < r.length):stepL r x rest j=(r.drop (j+1)).reverse++([r[j]]++([x]++((r.take j).reverse++rest))):=by
  unfold stepL;rw [List.drop_eq_getElem_cons h,List.reverse_cons];simp
theorem stepL_next {α:Type} (r:List α) (x:α) (rest:List α) (j:Nat) (h:j < r.length):stepL r x rest (j+1)=(r.drop (j+1)).reverse++([x]++([r[j]]++((r.take j).reverse++rest))):=by
  unfold stepL;rw [List.take_succ_eq_append_getElem h,List.reverse_append];simp
theorem insR_stop {α:Type} (ahead:α→α→Bool) (r:List α) (x:α) (j:Nat) (hj:j≤r.length) (hi:insR ahead r x=r.take j++insR ahead (r.drop j) x) (h:∀ (q:j < r.length),ahead x r[j]=false) (rest:List α):stepL r x rest j=(insR ahead r x).reverse++rest:=by
  have e:insR ahead (r.drop j) x=x :: r.drop j:=by
    rcases Nat.lt_or_ge j r.length with q | q
    · rw [List.drop_eq_getElem_cons q];unfold insR;rw [if_neg (by rw [h q];decide)]
    · rw [List.drop_of_length_le q];rfl
  rw [hi,e];simp [stepL]
theorem insR_go {α:Type} (ahead:α→α→Bool) (r:List α) (x:α) (j:Nat) (hj:j < r.length) (hi:insR ahead r x=r.take j++insR ahead (r.drop j) x) (h:ahead x r[j]=true):insR ahead r x=r.take (j+1)++insR ahead (r.drop (j+1)) x:=by
  rw [hi,List.drop_eq_getElem_cons hj]
  conv=>lhs;unfold insR
  rw [if_pos h,List.take_succ_eq_append_getElem hj];simp only [List.append_assoc,List.cons_append,List.nil_append]
def gtP (a b:Prt):Bool:=decide (b.sz < a.sz)
def gtS (a b:Slt):Bool:=decide (b.sz < a.sz)
theorem schGreater_any (p q:Prt) (w:World):Calls Tryz.prog 329 #[.agg #[.string p.nm,.int .i64 p.sz,.bool p.sg,.int .i64 p.mn],.agg #[.string q.nm,.int .i64 q.sz,.bool q.sg,.int .i64 q.mn]] w fun e w'=>e=.returned (.bool (gtP p q))∧Below w.heap.size w w':=by
  obtain⟨nm,sz,sg,mn⟩:=p
  obtain⟨nm',sz',sg',mn'⟩:=q
  unfold gtP
  dsimp only
  by_cases h:sz' < sz
  · have h1:(sz':Int) < (sz:Int):=by omega
    rw [decide_eq_true h]
    go_enter Tryz.func329,Tryz.ntmps329
    go_wp2_with fail
    go_ret
    exact⟨rfl,bthen (below_new _ _) (below_new _ _)⟩
  · have h1:¬ (sz':Int) < (sz:Int):=by omega
    rw [decide_eq_false h]
    go_enter Tryz.func329,Tryz.ntmps329
    go_wp2_with fail
    go_ret
    exact⟨rfl,bthen (below_new _ _) (below_new _ _)⟩
theorem schSlots1_any (p q:Slt) (w:World):Calls Tryz.prog 281 #[.agg #[.int .i64 p.sz,.bool p.sg,.int .i64 p.ix],.agg #[.int .i64 q.sz,.bool q.sg,.int .i64 q.ix]] w fun e w'=>e=.returned (.bool (gtS p q))∧Below w.heap.size w w':=by
  obtain⟨sz,sg,mn⟩:=p
  obtain⟨sz',sg',mn'⟩:=q
  unfold gtS
  dsimp only
  by_cases h:sz' < sz
  · have h1:(sz':Int) < (sz:Int):=by omega
    rw [decide_eq_true h]
    go_enter Tryz.func281,Tryz.ntmps281
    go_wp2_with fail
    go_ret
    exact⟨rfl,bthen (below_new _ _) (below_new _ _)⟩
  · have h1:¬ (sz':Int) < (sz:Int):=by omega
    rw [decide_eq_false h]
    go_enter Tryz.func281,Tryz.ntmps281
    go_wp2_with fail
    go_ret
    exact⟨rfl,bthen (below_new _ _) (below_new _ _)⟩
theorem sortR_snoc {α:Type} (ahead:α→α→Bool) (l:List α) (k:Nat) (h:k < l.length):(l.take (k+1)).foldl (insR ahead) []=insR ahead ((l.take k).foldl (insR ahead) []) l[k]:=by
  rw [List.take_succ_eq_append_getElem h,List.foldl_append];rfl
theorem fold_len {α:Type} (ahead:α→α→Bool) (l:List α) (k:Nat) (h:k≤l.length):((l.take k).foldl (insR ahead) []).length=k:=by
  rw [foldR_len];simp [h]
theorem madeCells_len (z:Array Value) (n:Nat):(madeCells z n).toList.length=n:=by simp [madeCells]
theorem schStabP_at {w:World} {g q:Nat} {D E:List Prt} {x y:Prt} (h:Blk w g (prtsV (D++([y]++([x]++E))))) (hq:D.length=q):(∀ w',Below w.heap.size w w'→w'.rangeAt g ((q+1) * 4) (prtL x))∧(∀ w',Below w.heap.size w w'→w'.rangeAt g (q * 4) (prtL y))∧∀ o,w.frozen? ⟨g,o,none⟩=false:=by
  have e:prtsV (D++([y]++([x]++E)))=prtsV D++prtL y++prtL x++prtsV E:=by simp [prtsV]
  have e2:prtsV (D++([y]++([x]++E)))=prtsV D++prtL y++(prtL x++prtsV E):=by simp [prtsV]
  have l1:(prtsV D).length=q * 4:=by rw [prtsV_len,hq]
  refine⟨fun w' hb=>?_,fun w' hb=>?_,h.fz⟩
  · have q1:=(h.on hb)
    rw [e] at q1
    have q2:=Blk.sub (A:=prtsV D++prtL y) (M:=prtL x) (D:=prtsV E) q1
    rwa [List.length_append,l1,show q * 4+(prtL y).length=(q+1) * 4 from by show q * 4+4=_;omega] at q2
  · have q1:=(h.on hb)
    rw [e2] at q1
    have q2:=Blk.sub (A:=prtsV D) (M:=prtL y) (D:=prtL x++prtsV E) q1
    rwa [l1] at q2
theorem schStabP_swap {w:World} {g q B:Nat} {D E:List Prt} {x y:Prt} (h:Blk w g (prtsV (D++([y]++([x]++E))))) (hq:D.length=q) (hB:B≤g):Blk ((w.setCells g ((q+1) * 4) (prtL y)).setCells g (q * 4) (prtL x)) g (prtsV (D++([x]++([y]++E))))∧Below B w ((w.setCells g ((q+1) * 4) (prtL y)).setCells g (q * 4) (prtL x)):=by
  have e:prtsV (D++([y]++([x]++E)))=(prtsV D++prtL y)++prtL x++prtsV E:=by simp [prtsV]
  have e2:prtsV (D++([x]++([y]++E)))=prtsV D++prtL x++(prtL y++prtsV E):=by simp [prtsV]
  have l1:(prtsV D).length=q * 4:=by rw [prtsV_len,hq]
  have l2:(prtsV D++prtL y).length=(q+1) * 4:=by rw [List.length_append,l1];show q * 4+4=_;omega
  rw [e] at h
  have s1:Stored w (w.setCells g ((q+1) * 4) (prtL y)) g ((q+1) * 4) (prtL y):=stored_setCells (h.there _ _ (by rw [List.length_append,List.length_append,l2];show (q+1) * 4+4≤(q+1) * 4+4+_;omega))
  have h1:=Blk.put (A:=prtsV D++prtL y) (M:=prtL x) (D:=prtsV E) h s1 l2 rfl
  rw [show prtsV D++prtL y++prtL y++prtsV E=prtsV D++prtL y++(prtL y++prtsV E) from by simp] at h1
  have s2:Stored (w.setCells g ((q+1) * 4) (prtL y)) ((w.setCells g ((q+1) * 4) (prtL y)).setCells g (q * 4) (prtL x)) g (q * 4) (prtL x):=stored_setCells (h1.there _ _ (by rw [List.length_append,List.length_append,l1];show q * 4+4≤q * 4+4+_;omega))
  have h2:=Blk.put (A:=prtsV D) (M:=prtL y) (D:=prtL y++prtsV E) h1 s2 l1 rfl
  rw [e2]
  exact⟨h2,(s1.below hB).trans (s2.below hB)⟩
theorem schStabP_cal (x y:Value) (W:World):(callFunc 329 #[x,y]).run Tryz.prog W=.ok (.enter 329 #[x,y]) W:=by kernel_rfl
set_option maxRecDepth 8000 in
set_option maxHeartbeats 4000000 in
theorem schStabP_any {Q:Nat→Prop} {w:World} (A:Option Addr) (l:List Prt) (c:Nat) (h:FlatQ Q w A (prtsV l)) (hm:l.length≤1000) :
    Calls Tryz.prog 328 #[.slice A l.length c,.func (.func 329) #[] #[]] w fun e w'=>∃ g,e=.returned (.slice (some ⟨g,0,none⟩) l.length l.length)∧Blk w' g (prtsV (sortR gtP l))∧w.heap.size≤g∧Below w.heap.size w w':=by
  have HI:=Lib.hid h.lt
  obtain⟨i0,hi,hz0,hz1,hz2⟩:=info_partsS prt_info
  have HIN:=Lib.hid hi
  have HZ:=Lib.hid (And.intro hz0 (And.intro hz1 hz2))
  have HFE:Hid (∀ k,k≤l.length→((l.take k).foldl (insR gtP) []).length=k):=Lib.hid (fold_len gtP l)
  obtain⟨n,hn⟩:∃ n,l.length=n:=⟨_,rfl⟩
  rw [hn] at hm HFE ⊢
  have HL:=Lib.hid hn
  clear hn h hi hz0 hz1 hz2
  have HCL:=fun x y W=>schStabP_cal x y W
  go_enter Tryz.func328,Tryz.ntmps328
  go_wp2_with (refine wpList_make_grew rfl _ _ 369 437 rfl i0 _ Tryz.underlying369 HIN.out HZ.out.1 .i64 .i64 n rfl rfl (by rw [HZ.out.2.2];omega) (by omega) ?_;intro W1 hG;have HG1:=Lib.hid hG;clear hG)
  have HK1:Hid (w.heap.size < W1.heap.size∧W1.there w.heap.size 0 (n * 4)∧Below w.heap.size w W1):=Lib.hid (by
    have hk:=Blk.newL HG1.out rfl
    refine⟨hk.lt,hk.there 0 (n * 4) ?_,HG1.out.bel⟩
    rw [madeCells_len,HZ.out.2.1,Nat.zero_add];exact Nat.le_refl _)
  obtain⟨W2,q1,q2⟩:=run_copy_all (P:=Tryz.prog) W1 369 369 3 437 4 Tryz.underlying369 (by rw [HIN.out];simp [HZ.out.2.1]) w.heap.size n n A c (prtsV l) (HI.out.below HK1.out.2.2 (fun _ q=>q.2)) (by rw [prtsV_len,HL.out]) (prtsV_one l) HK1.out.2.1
  have HK2:Hid (Blk W2 w.heap.size (prtsV l)):=Lib.hid (by
    have hk:=Blk.newL HG1.out rfl
    exact hk.all q2 (by rw [madeCells_len,HZ.out.2.1,prtsV_len,HL.out]))
  have HB2:Hid (Below w.heap.size w W2):=Lib.hid (HK1.out.2.2.trans (q2.below (Nat.le_refl _)))
  have HRC:=Lib.hid q1
  clear q1 q2 HG1 HK1
  go_wp2_with fail
  rw [HRC.out]
  clear HRC
  go_wp2_with fail
  obtain⟨g,hgz⟩:∃ g,w.heap.size=g:=⟨_,rfl⟩
  rw [hgz] at HK2
  simp only [hgz]
  have HGZ:=Lib.hid hgz
  clear hgz
  go_loopg [16] n (fun t s16 wr=>∃ i:Nat,i≤n∧n - i≤t∧s16=.int .i64 i∧Hid (Blk wr g (prtsV (((l.take i).foldl (insR gtP) []).reverse++l.drop i)))∧Hid (Below w.heap.size w wr))
  case atStart=>exact⟨0,by omega,by omega,rfl,HK2.out,HB2⟩
  case round=>
    obtain⟨i,hi,ht,rfl,HK,HB⟩:=hrel
    clear HK2 HB2
    by_cases hlt:i < n
    · have hil:i < l.length:=by rw [HL.out];exact hlt
      have HSN:Hid ((l.take (i+1)).foldl (insR gtP) []=insR gtP ((l.take i).foldl (insR gtP) []) l[i]):=Lib.hid (sortR_snoc gtP l i hil)
      have HRL:=Lib.hid (HFE.out i (by omega))
      have HST:Hid (Blk wr g (prtsV (stepL ((l.take i).foldl (insR gtP) []) l[i] (l.drop (i+1)) 0))):=Lib.hid (by rw [stepL_zero,← List.drop_eq_getElem_cons hil];exact HK.out)
      clear HK
      generalize (l.take i).foldl (insR gtP) []=r at *
      generalize l[i]=x at *
      obtain⟨rest,hrest⟩:∃ rest,l.drop (i+1)=rest:=⟨_,rfl⟩
      rw [hrest] at HST
      have HRS:=Lib.hid hrest
      clear hrest
      have i1:(i:Int) < n:=by omega
      have i2:(0:Int)≤(i:Int):=Int.natCast_nonneg _
      go_wp2_with fail
      go_loopg [7] i (fun t2 s7 wr=>∃ j:Nat,j≤i∧i - j≤t2∧s7=.int .i64 ((i - j:Nat):Int)∧Hid (insR gtP r x=r.take j++insR gtP (r.drop j) x)∧Hid (Blk wr g (prtsV (stepL r x rest j)))∧Hid (Below w.heap.size w wr))
      case atStart=>exact⟨0,by omega,by omega,rfl,rfl,HST,HB⟩
      case round=>
        obtain⟨j,hj,ht2,rfl,HIR,HK,HBI⟩:=hrel
        clear HST HB
        obtain⟨kk,hkk⟩:∃ kk,i - j=kk:=⟨_,rfl⟩
        rw [hkk] at ht2 ⊢
        rcases kk with _ | q
        · obtain rfl:j=i:=by omega
          have HDONE:Hid (stepL r x rest j=(insR gtP r x).reverse++rest):=Lib.hid (insR_stop gtP r x j (by rw [HRL.out];exact Nat.le_refl _) HIR.out (fun q=>absurd q (by rw [HRL.out];omega)) rest)
          have HKN:Hid (Blk wr.drew g (prtsV (((l.take (j+1)).foldl (insR gtP) []).reverse++l.drop (j+1)))):=Lib.hid (by rw [HSN.out,HRS.out,← HDONE.out];exact HK.out.drew)
          have HBN:Hid (Below w.heap.size w wr.drew):=Lib.hid HBI.out.drew
          go_upto_region 7 with fail
          try (apply wp_seq_k;intro K_ HK_)
          have hS0:Below wr.heap.size wr wr.drew:=(Below.refl _ _).drew
          refine wp_region_held_drew (S:=fun w'=>Below wr.heap.size wr w') (by kernel_rfl) hS0 (fun hHeld0=>?_)
          refine wpAnyH_take (i:=0) (oi:=⟨some 20,_,_,_,_,_⟩) (v:=?_) rfl (by kernel_rfl) (by kernel_rfl) (by kernel_rfl) (fun _ _ _ h=>h) (Or.inl ⟨by rfl,?_⟩) (by assumption) ?_
          rotate_left
          · intro w' hSw
            go_simp
            try with_reducible rfl
          try go_frame
          refine wpAnyH_take (i:=1) (oi:=⟨some 21,_,_,_,_,_⟩) (v:=?_) rfl (by kernel_rfl) (by kernel_rfl) (by kernel_rfl) (fun _ _ _ h=>h) (Or.inl ⟨by rfl,?_⟩) (by assumption) ?_
          rotate_left
          · intro w' hSw
            go_simp
            try with_reducible rfl
          try go_frame
          refine wpAnyH_take (i:=2) (oi:=⟨some 22,_,_,_,_,_⟩) (v:=?_) rfl (by kernel_rfl) (by kernel_rfl) (by kernel_rfl) (fun _ _ _ h=>h) (Or.inl ⟨by rfl,?_⟩) (by assumption) ?_
          rotate_left
          · intro w' hSw
            go_simp
            try with_reducible rfl
          try go_frame
          refine wpAnyH_take (i:=3) (oi:=⟨some 23,_,_,_,_,_⟩) (v:=undef) rfl (by kernel_rfl) (by kernel_rfl) (by kernel_rfl) (fun _ _ _ h=>h) (Or.inr ⟨by rfl,rfl⟩) (by assumption) ?_
          try go_frame
          refine wpAnyH_take (i:=4) (oi:=⟨some 24,_,_,_,_,_⟩) (v:=undef) rfl (by kernel_rfl) (by kernel_rfl) (by kernel_rfl) (fun _ _ _ h=>h) (Or.inr ⟨by rfl,rfl⟩) (by assumption) ?_
          try go_frame
          refine wpAnyH_take (i:=5) (oi:=⟨some 25,_,_,_,_,_⟩) (v:=undef) rfl (by kernel_rfl) (by kernel_rfl) (by kernel_rfl) (fun _ _ _ h=>h) (Or.inr ⟨by rfl,rfl⟩) (by assumption) ?_
          try go_frame
          refine wpAnyH_take (i:=6) (oi:=⟨some 26,_,_,_,_,_⟩) (v:=undef) rfl (by kernel_rfl) (by kernel_rfl) (by kernel_rfl) (fun _ _ _ h=>h) (Or.inr ⟨by rfl,rfl⟩) (by assumption) ?_
          try go_frame
          refine wpAnyH_take (i:=7) (oi:=⟨some 27,_,_,_,_,_⟩) (v:=undef) rfl (by kernel_rfl) (by kernel_rfl) (by kernel_rfl) (fun _ _ _ h=>h) (Or.inr ⟨by rfl,rfl⟩) (by assumption) ?_
          try go_frame
          refine wpAnyH_take (i:=8) (oi:=⟨some 28,_,_,_,_,_⟩) (v:=undef) rfl (by kernel_rfl) (by kernel_rfl) (by kernel_rfl) (fun _ _ _ h=>h) (Or.inr ⟨by rfl,rfl⟩) (by assumption) ?_
          try go_frame
          refine wpAnyH_take (i:=9) (oi:=⟨some 29,_,_,_,_,_⟩) (v:=undef) rfl (by kernel_rfl) (by kernel_rfl) (by kernel_rfl) (fun _ _ _ h=>h) (Or.inr ⟨by rfl,rfl⟩) (by assumption) ?_
          try go_frame
          refine wpAnyH_take (i:=10) (oi:=⟨some 30,_,_,_,_,_⟩) (v:=undef) rfl (by kernel_rfl) (by kernel_rfl) (by kernel_rfl) (fun _ _ _ h=>h) (Or.inr ⟨by rfl,rfl⟩) (by assumption) ?_
          try go_frame
          refine wpAnyH_take (i:=11) (oi:=⟨some 31,_,_,_,_,_⟩) (v:=undef) rfl (by kernel_rfl) (by kernel_rfl) (by kernel_rfl) (fun _ _ _ h=>h) (Or.inr ⟨by rfl,rfl⟩) (by assumption) ?_
          try go_frame
          refine wpAnyH_take (i:=12) (oi:=⟨some 32,_,_,_,_,_⟩) (v:=undef) rfl (by kernel_rfl) (by kernel_rfl) (by kernel_rfl) (fun _ _ _ h=>h) (Or.inr ⟨by rfl,rfl⟩) (by assumption) ?_
          try go_frame
          refine wpAnyH_take (i:=13) (oi:=⟨some 33,_,_,_,_,_⟩) (v:=undef) rfl (by kernel_rfl) (by kernel_rfl) (by kernel_rfl) (fun _ _ _ h=>h) (Or.inr ⟨by rfl,rfl⟩) (by assumption) ?_
          try go_frame
          refine wpAnyH_take (i:=14) (oi:=⟨some 34,_,_,_,_,_⟩) (v:=?_) rfl (by kernel_rfl) (by kernel_rfl) (by kernel_rfl) (fun _ _ _ h=>h) (Or.inl ⟨by rfl,?_⟩) (by assumption) ?_
          rotate_left
          · intro w' hSw
            go_simp
            try with_reducible rfl
          try go_frame
          refine wpAnyH_done (by kernel_rfl) ?_ _
          try go_frame
          clear hHeld0 hS0
          go_wp2_with fail
          go_roundg (n - (j+1))
          case measure=>omega
          case rel=>exact⟨j+1,by omega,by omega,by go_num,HKN,HBN⟩
        · have hjr:j < r.length:=by rw [HRL.out];omega
          have HLS:Hid (stepL r x rest j=(r.drop (j+1)).reverse++([r[j]]++([x]++((r.take j).reverse++rest)))):=Lib.hid (stepL_at r x rest j hjr)
          have HLT:Hid (stepL r x rest (j+1)=(r.drop (j+1)).reverse++([x]++([r[j]]++((r.take j).reverse++rest)))):=Lib.hid (stepL_next r x rest j hjr)
          have HGO:Hid (gtP x r[j]=true→insR gtP r x=r.take (j+1)++insR gtP (r.drop (j+1)) x):=Lib.hid (insR_go gtP r x j hjr HIR.out)
          have HSP:Hid (gtP x r[j]=false→stepL r x rest j=(insR gtP r x).reverse++rest):=Lib.hid (fun hh=>insR_stop gtP r x j (Nat.le_of_lt hjr) HIR.out (fun _=>hh) rest)
          have HDQ:Hid ((r.drop (j+1)).reverse.length=q):=Lib.hid (by rw [List.length_reverse,List.length_drop,HRL.out];omega)
          generalize (r.drop (j+1)).reverse=D at HLS HLT HDQ
          generalize (r.take j).reverse++rest=E at HLS HLT
          generalize r[j]=y at HLS HLT HGO HSP
          have HBK:Hid (Blk wr g (prtsV (D++([y]++([x]++E))))):=Lib.hid (by rw [← HLS.out];exact HK.out)
          have HAT:=Lib.hid (schStabP_at HBK.out HDQ.out)
          obtain⟨bb,hbb⟩:∃ bb,gtP x y=bb:=⟨_,rfl⟩
          have HG:∀ W,Hid (Calls Tryz.prog 329 #[.agg (prtL x).toArray,.agg (prtL y).toArray] W fun e w'=>e=.returned (.bool bb)∧Below W.heap.size W w'):=fun W=>Lib.hid (by rw [← hbb];exact schGreater_any x y W)
          have HBB:=Lib.hid hbb
          clear hbb
          obtain⟨x0,x1,x2,x3⟩:=x
          obtain⟨y0,y1,y2,y3⟩:=y
          have HX:Hid (∀ w',Below wr.heap.size wr w'→w'.rangeAt g ((q+1) * 4) [.string x0,.int .i64 (x1:Nat),.bool x2,.int .i64 (x3:Nat)]):=Lib.hid HAT.out.1
          have HY:Hid (∀ w',Below wr.heap.size wr w'→w'.rangeAt g (q * 4) [.string y0,.int .i64 (y1:Nat),.bool y2,.int .i64 (y3:Nat)]):=Lib.hid HAT.out.2.1
          change ∀ W,Hid (Calls Tryz.prog 329 #[.agg #[.string x0,.int .i64 (x1:Nat),.bool x2,.int .i64 (x3:Nat)],.agg #[.string y0,.int .i64 (y1:Nat),.bool y2,.int .i64 (y3:Nat)]] W fun e w'=>e=.returned (.bool bb)∧Below W.heap.size W w') at HG
          have i3:(q:Int)+1 < n:=by omega
          have i4:(0:Int)≤(q:Int)+1:=by omega
          have i5:(q:Int) < n:=by omega
          have i6:(0:Int)≤(q:Int):=by omega
          have i7:(0:Int) < (q:Int)+1:=by omega
          have f1:IntKind.i64.wrap (q:Int)=(q:Int):=IntWalk.i64_in _ (by omega)
          clear HAT
          cases bb
          · have HKN:∀ w2,Below wr.heap.size wr w2→Hid (Blk w2 g (prtsV (((l.take (i+1)).foldl (insR gtP) []).reverse++l.drop (i+1)))):=fun w2 hb=>Lib.hid (by rw [HSN.out,HRS.out,← HSP.out HBB.out];exact HK.out.on hb)
            go_upto_region 7 with fail
            try (apply wp_seq_k;intro K_ HK_)
            have hS0:Below wr.heap.size wr wr.drew:=(Below.refl _ _).drew
            refine wp_region_held_drew (S:=fun w'=>Below wr.heap.size wr w') (by kernel_rfl) hS0 (fun hHeld0=>?_)
            refine wpAnyH_take (i:=0) (oi:=⟨some 20,_,_,_,_,_⟩) (v:=?_) rfl (by kernel_rfl) (by kernel_rfl) (by kernel_rfl) (fun _ _ _ h=>h) (Or.inl ⟨by rfl,?_⟩) (by assumption) ?_
            rotate_left
            · intro w' hSw
              go_simp
              try with_reducible rfl
            try go_frame
            refine wpAnyH_take (i:=1) (oi:=⟨some 21,_,_,_,_,_⟩) (v:=?_) rfl (by kernel_rfl) (by kernel_rfl) (by kernel_rfl) (fun _ _ _ h=>h) (Or.inl ⟨by rfl,?_⟩) (by assumption) ?_
            rotate_left
            · intro w' hSw
              go_simp
              try with_reducible rfl
            try go_frame
            refine wpAnyH_take (i:=2) (oi:=⟨some 22,_,_,_,_,_⟩) (v:=?_) rfl (by kernel_rfl) (by kernel_rfl) (by kernel_rfl) (fun _ _ _ h=>h) (Or.inl ⟨by rfl,?_⟩) (by assumption) ?_
            rotate_left
            · intro w' hSw
              go_simp
              try with_reducible rfl
            try go_frame
            refine wpAnyH_take (i:=3) (oi:=⟨some 23,_,_,_,_,_⟩) (v:=?_) rfl (by kernel_rfl) (by kernel_rfl) (by kernel_rfl) (fun _ _ _ h=>h) (Or.inl ⟨by rfl,?_⟩) (by assumption) ?_
            rotate_left
            · intro w' hSw
              go_simp
              try with_reducible rfl
            try go_frame
            refine wpAnyH_take (i:=4) (oi:=⟨some 24,_,_,_,_,_⟩) (v:=?_) rfl (by kernel_rfl) (by kernel_rfl) (by kernel_rfl) (fun _ _ _ h=>h) (Or.inl ⟨by rfl,?_⟩) (by assumption) ?_
            rotate_left
            · intro w' hSw
              go_simp
              try with_reducible rfl
            try go_frame
            refine wpAnyH_take (i:=5) (oi:=⟨some 25,_,_,_,_,_⟩) (v:=?_) rfl (by kernel_rfl) (by kernel_rfl) (by kernel_rfl) (fun _ _ _ h=>h) (Or.inl ⟨by rfl,?_⟩) (by assumption) ?_
            rotate_left
            · intro w' hSw
              go_simp
              try with_reducible rfl
            try go_frame
            refine wpAnyH_take (i:=6) (oi:=⟨some 26,_,_,_,_,_⟩) (v:=?_) rfl (by kernel_rfl) (by kernel_rfl) (by kernel_rfl) (fun _ _ _ h=>h) (Or.inl ⟨by rfl,?_⟩) (by assumption) ?_
            rotate_left
            · intro w' hSw
              go_simp
              try with_reducible rfl
            try go_frame
            refine wpAnyH_take (i:=7) (oi:=⟨some 27,_,_,_,_,_⟩) (v:=_) rfl (by kernel_rfl) (by kernel_rfl) (by kernel_rfl) (fun _ _ _ h=>h) (yieldsIf_load_mid (by rfl) 437 _ rfl g ((q+1) * 4) rfl [.string x0,.int .i64 (x1:Nat),.bool x2,.int .i64 (x3:Nat)] _ (fun w' hSw=>(HX.out w' hSw)) Tryz.underlying437 rfl (by kernel_rfl)) (by assumption) ?_
            try go_frame
            refine wpAnyH_take (i:=8) (oi:=⟨some 28,_,_,_,_,_⟩) (v:=?_) rfl (by kernel_rfl) (by kernel_rfl) (by kernel_rfl) (fun _ _ _ h=>h) (Or.inl ⟨by rfl,?_⟩) (by assumption) ?_
            rotate_left
            · intro w' hSw
              go_simp
              try with_reducible rfl
            try go_frame
            refine wpAnyH_take (i:=9) (oi:=⟨some 29,_,_,_,_,_⟩) (v:=?_) rfl (by kernel_rfl) (by kernel_rfl) (by kernel_rfl) (fun _ _ _ h=>h) (Or.inl ⟨by rfl,?_⟩) (by assumption) ?_
            rotate_left
            · intro w' hSw
              go_simp
              try with_reducible rfl
            try go_frame
            refine wpAnyH_take (i:=10) (oi:=⟨some 30,_,_,_,_,_⟩) (v:=?_) rfl (by kernel_rfl) (by kernel_rfl) (by kernel_rfl) (fun _ _ _ h=>h) (Or.inl ⟨by rfl,?_⟩) (by assumption) ?_
            rotate_left
            · intro w' hSw
              go_simp
              try with_reducible rfl
            try go_frame
            refine wpAnyH_take (i:=11) (oi:=⟨some 31,_,_,_,_,_⟩) (v:=?_) rfl (by kernel_rfl) (by kernel_rfl) (by kernel_rfl) (fun _ _ _ h=>h) (Or.inl ⟨by rfl,?_⟩) (by assumption) ?_
            rotate_left
            · intro w' hSw
              go_simp
              try with_reducible rfl
            try go_frame
            refine wpAnyH_take (i:=12) (oi:=⟨some 32,_,_,_,_,_⟩) (v:=_) rfl (by kernel_rfl) (by kernel_rfl) (by kernel_rfl) (fun _ _ _ h=>h) (yieldsIf_load_mid (by rfl) 437 _ rfl g (q * 4) rfl [.string y0,.int .i64 (y1:Nat),.bool y2,.int .i64 (y3:Nat)] _ (fun w' hSw=>(HY.out w' hSw)) Tryz.underlying437 rfl (by kernel_rfl)) (by assumption) ?_
            try go_frame
            refine wpAnyH_ready (rs:=[13]) (by kernel_rfl) (by simp) ?_
            refine AllReadyH.cons (o:=⟨some 33,_,_,_,_,_⟩) rfl (fun K hK=>?_) AllReadyH.nil
            rw [if_pos (by rfl)]
            go_step
            refine (HG _).out.mono ?_
            rintro e w2 ⟨rfl,hb⟩
            have HS2:Hid (Below wr.heap.size wr w2):=Lib.hid (hHeld0.trans (hb.mono hHeld0.size))
            clear hb
            try go_frame
            refine hK.out _ _ (HS2.out) (fun hHeld=>?_)
            clear hK K
            try go_frame
            refine wpAnyH_take (i:=14) (oi:=⟨some 34,_,_,_,_,_⟩) (v:=?_) rfl (by kernel_rfl) (by kernel_rfl) (by kernel_rfl) (fun _ _ _ h=>h) (Or.inl ⟨by rfl,?_⟩) (by assumption) ?_
            rotate_left
            · intro w' hSw
              go_simp
              try with_reducible rfl
            try go_frame
            refine wpAnyH_done (by kernel_rfl) ?_ _
            try go_frame
            have HKN2:=HKN w2 HS2.out
            have HBN:=Lib.hid (bthen HBI.out HS2.out)
            clear hHeld hHeld0 hS0
            go_wp2_with fail
            go_roundg (n - (i+1))
            case measure=>omega
            case rel=>exact⟨i+1,by omega,by omega,by go_num,HKN2,HBN⟩
          · go_upto_region 7 with fail
            try (apply wp_seq_k;intro K_ HK_)
            have hS0:Below wr.heap.size wr wr.drew:=(Below.refl _ _).drew
            refine wp_region_held_drew (S:=fun w'=>Below wr.heap.size wr w') (by kernel_rfl) hS0 (fun hHeld0=>?_)
            refine wpAnyH_take (i:=0) (oi:=⟨some 20,_,_,_,_,_⟩) (v:=?_) rfl (by kernel_rfl) (by kernel_rfl) (by kernel_rfl) (fun _ _ _ h=>h) (Or.inl ⟨by rfl,?_⟩) (by assumption) ?_
            rotate_left
            · intro w' hSw
              go_simp
              try with_reducible rfl
            try go_frame
            refine wpAnyH_take (i:=1) (oi:=⟨some 21,_,_,_,_,_⟩) (v:=?_) rfl (by kernel_rfl) (by kernel_rfl) (by kernel_rfl) (fun _ _ _ h=>h) (Or.inl ⟨by rfl,?_⟩) (by assumption) ?_
            rotate_left
            · intro w' hSw
              go_simp
              try with_reducible rfl
            try go_frame
            refine wpAnyH_take (i:=2) (oi:=⟨some 22,_,_,_,_,_⟩) (v:=?_) rfl (by kernel_rfl) (by kernel_rfl) (by kernel_rfl) (fun _ _ _ h=>h) (Or.inl ⟨by rfl,?_⟩) (by assumption) ?_
            rotate_left
            · intro w' hSw
              go_simp
              try with_reducible rfl
            try go_frame
            refine wpAnyH_take (i:=3) (oi:=⟨some 23,_,_,_,_,_⟩) (v:=?_) rfl (by kernel_rfl) (by kernel_rfl) (by kernel_rfl) (fun _ _ _ h=>h) (Or.inl ⟨by rfl,?_⟩) (by assumption) ?_
            rotate_left
            · intro w' hSw
              go_simp
              try with_reducible rfl
            try go_frame
            refine wpAnyH_take (i:=4) (oi:=⟨some 24,_,_,_,_,_⟩) (v:=?_) rfl (by kernel_rfl) (by kernel_rfl) (by kernel_rfl) (fun _ _ _ h=>h) (Or.inl ⟨by rfl,?_⟩) (by assumption) ?_
            rotate_left
            · intro w' hSw
              go_simp
              try with_reducible rfl
            try go_frame
            refine wpAnyH_take (i:=5) (oi:=⟨some 25,_,_,_,_,_⟩) (v:=?_) rfl (by kernel_rfl) (by kernel_rfl) (by kernel_rfl) (fun _ _ _ h=>h) (Or.inl ⟨by rfl,?_⟩) (by assumption) ?_
            rotate_left
            · intro w' hSw
              go_simp
              try with_reducible rfl
            try go_frame
            refine wpAnyH_take (i:=6) (oi:=⟨some 26,_,_,_,_,_⟩) (v:=?_) rfl (by kernel_rfl) (by kernel_rfl) (by kernel_rfl) (fun _ _ _ h=>h) (Or.inl ⟨by rfl,?_⟩) (by assumption) ?_
            rotate_left
            · intro w' hSw
              go_simp
              try with_reducible rfl
            try go_frame
            refine wpAnyH_take (i:=7) (oi:=⟨some 27,_,_,_,_,_⟩) (v:=_) rfl (by kernel_rfl) (by kernel_rfl) (by kernel_rfl) (fun _ _ _ h=>h) (yieldsIf_load_mid (by rfl) 437 _ rfl g ((q+1) * 4) rfl [.string x0,.int .i64 (x1:Nat),.bool x2,.int .i64 (x3:Nat)] _ (fun w' hSw=>(HX.out w' hSw)) Tryz.underlying437 rfl (by kernel_rfl)) (by assumption) ?_
            try go_frame
            refine wpAnyH_take (i:=8) (oi:=⟨some 28,_,_,_,_,_⟩) (v:=?_) rfl (by kernel_rfl) (by kernel_rfl) (by kernel_rfl) (fun _ _ _ h=>h) (Or.inl ⟨by rfl,?_⟩) (by assumption) ?_
            rotate_left
            · intro w' hSw
              go_simp
              try with_reducible rfl
            try go_frame
            refine wpAnyH_take (i:=9) (oi:=⟨some 29,_,_,_,_,_⟩) (v:=?_) rfl (by kernel_rfl) (by kernel_rfl) (by kernel_rfl) (fun _ _ _ h=>h) (Or.inl ⟨by rfl,?_⟩) (by assumption) ?_
            rotate_left
            · intro w' hSw
              go_simp
              try with_reducible rfl
            try go_frame
            refine wpAnyH_take (i:=10) (oi:=⟨some 30,_,_,_,_,_⟩) (v:=?_) rfl (by kernel_rfl) (by kernel_rfl) (by kernel_rfl) (fun _ _ _ h=>h) (Or.inl ⟨by rfl,?_⟩) (by assumption) ?_
            rotate_left
            · intro w' hSw
              go_simp
              try with_reducible rfl
            try go_frame
            refine wpAnyH_take (i:=11) (oi:=⟨some 31,_,_,_,_,_⟩) (v:=?_) rfl (by kernel_rfl) (by kernel_rfl) (by kernel_rfl) (fun _ _ _ h=>h) (Or.inl ⟨by rfl,?_⟩) (by assumption) ?_
            rotate_left
            · intro w' hSw
              go_simp
              try with_reducible rfl
            try go_frame
            refine wpAnyH_take (i:=12) (oi:=⟨some 32,_,_,_,_,_⟩) (v:=_) rfl (by kernel_rfl) (by kernel_rfl) (by kernel_rfl) (fun _ _ _ h=>h) (yieldsIf_load_mid (by rfl) 437 _ rfl g (q * 4) rfl [.string y0,.int .i64 (y1:Nat),.bool y2,.int .i64 (y3:Nat)] _ (fun w' hSw=>(HY.out w' hSw)) Tryz.underlying437 rfl (by kernel_rfl)) (by assumption) ?_
            try go_frame
            refine wpAnyH_ready (rs:=[13]) (by kernel_rfl) (by simp) ?_
            refine AllReadyH.cons (o:=⟨some 33,_,_,_,_,_⟩) rfl (fun K hK=>?_) AllReadyH.nil
            rw [if_pos (by rfl)]
            go_step
            refine (HG _).out.mono ?_
            rintro e w2 ⟨rfl,hb⟩
            have HS2:Hid (Below wr.heap.size wr w2):=Lib.hid (hHeld0.trans (hb.mono hHeld0.size))
            clear hb
            try go_frame
            refine hK.out _ _ (HS2.out) (fun hHeld=>?_)
            clear hK K
            try go_frame
            refine wpAnyH_take (i:=14) (oi:=⟨some 34,_,_,_,_,_⟩) (v:=?_) rfl (by kernel_rfl) (by kernel_rfl) (by kernel_rfl) (fun _ _ _ h=>h) (Or.inl ⟨by rfl,?_⟩) (by assumption) ?_
            rotate_left
            · intro w' hSw
              go_simp
              try with_reducible rfl
            try go_frame
            refine wpAnyH_done (by kernel_rfl) ?_ _
            try go_frame
            have HK2:=Lib.hid (HBK.out.on HS2.out)
            have HBN:=Lib.hid (bthen HBI.out HS2.out)
            have hcx:=HX.out w2 HS2.out
            have hcy:=HY.out w2 HS2.out
            have cx0:w2.cell? ⟨g,(q+1) * 4,none⟩=some (.string x0):=hcx 0 _ rfl
            have cx1:w2.cell? ⟨g,(q+1) * 4+1,none⟩=some (.int .i64 (x1:Nat)):=hcx 1 _ rfl
            have cx2:w2.cell? ⟨g,(q+1) * 4+2,none⟩=some (.bool x2):=hcx 2 _ rfl
            have cx3:w2.cell? ⟨g,(q+1) * 4+3,none⟩=some (.int .i64 (x3:Nat)):=hcx 3 _ rfl
            have cy0:w2.cell? ⟨g,q * 4,none⟩=some (.string y0):=hcy 0 _ rfl
            have cy1:w2.cell? ⟨g,q * 4+1,none⟩=some (.int .i64 (y1:Nat)):=hcy 1 _ rfl
            have cy2:w2.cell? ⟨g,q * 4+2,none⟩=some (.bool y2):=hcy 2 _ rfl
            have cy3:w2.cell? ⟨g,q * 4+3,none⟩=some (.int .i64 (y3:Nat)):=hcy 3 _ rfl
            have zx0:w2.frozen? ⟨g,(q+1) * 4,none⟩=false:=HK2.out.fz _
            have zx1:w2.frozen? ⟨g,(q+1) * 4+1,none⟩=false:=HK2.out.fz _
            have zx2:w2.frozen? ⟨g,(q+1) * 4+2,none⟩=false:=HK2.out.fz _
            have zx3:w2.frozen? ⟨g,(q+1) * 4+3,none⟩=false:=HK2.out.fz _
            have zy0:w2.frozen? ⟨g,q * 4,none⟩=false:=HK2.out.fz _
            have zy1:w2.frozen? ⟨g,q * 4+1,none⟩=false:=HK2.out.fz _
            have zy2:w2.frozen? ⟨g,q * 4+2,none⟩=false:=HK2.out.fz _
            have zy3:w2.frozen? ⟨g,q * 4+3,none⟩=false:=HK2.out.fz _
            have HSW:=Lib.hid (schStabP_swap (B:=w.heap.size) HK2.out HDQ.out (by rw [HGZ.out];exact Nat.le_refl _))
            clear hHeld hHeld0 hS0 hcx hcy
            go_upto_region 9 with fail
            have HKN:Hid (Blk (((((((((w2.setCell ⟨g,(q+1) * 4,none⟩ (.string y0)).setCell ⟨g,(q+1) * 4+1,none⟩ (.int .i64 (y1:Nat))).setCell ⟨g,(q+1) * 4+2,none⟩ (.bool y2)).setCell ⟨g,(q+1) * 4+3,none⟩ (.int .i64 (y3:Nat))).setCell ⟨g,q * 4,none⟩ (.string x0)).setCell ⟨g,q * 4+1,none⟩ (.int .i64 (x1:Nat))).setCell ⟨g,q * 4+2,none⟩ (.bool x2)).setCell ⟨g,q * 4+3,none⟩ (.int .i64 (x3:Nat)))).drew g (prtsV (stepL r ⟨x0,x1,x2,x3⟩ rest (j+1)))):=Lib.hid (by rw [HLT.out];exact HSW.out.1.drew)
            have HBX:Hid (Below w.heap.size w (((((((((w2.setCell ⟨g,(q+1) * 4,none⟩ (.string y0)).setCell ⟨g,(q+1) * 4+1,none⟩ (.int .i64 (y1:Nat))).setCell ⟨g,(q+1) * 4+2,none⟩ (.bool y2)).setCell ⟨g,(q+1) * 4+3,none⟩ (.int .i64 (y3:Nat))).setCell ⟨g,q * 4,none⟩ (.string x0)).setCell ⟨g,q * 4+1,none⟩ (.int .i64 (x1:Nat))).setCell ⟨g,q * 4+2,none⟩ (.bool x2)).setCell ⟨g,q * 4+3,none⟩ (.int .i64 (x3:Nat)))).drew):=Lib.hid (HBN.out.trans HSW.out.2.drew)
            have HIN2:=Lib.hid (HGO.out HBB.out)
            have HQJ:Hid (i - (j+1)=q):=Lib.hid (by omega)
            clear HSW HK2 HBN
            go_region
            clear cx0 zx0 cx1 zx1 cx2 zx2 cx3 zx3 cy0 zy0 cy1 zy1 cy2 zy2 cy3 zy3
            generalize (((((((((w2.setCell ⟨g,(q+1) * 4,none⟩ (.string y0)).setCell ⟨g,(q+1) * 4+1,none⟩ (.int .i64 (y1:Nat))).setCell ⟨g,(q+1) * 4+2,none⟩ (.bool y2)).setCell ⟨g,(q+1) * 4+3,none⟩ (.int .i64 (y3:Nat))).setCell ⟨g,q * 4,none⟩ (.string x0)).setCell ⟨g,q * 4+1,none⟩ (.int .i64 (x1:Nat))).setCell ⟨g,q * 4+2,none⟩ (.bool x2)).setCell ⟨g,q * 4+3,none⟩ (.int .i64 (x3:Nat)))).drew=w3 at *
            go_wp2_with fail
            go_roundg (i - (j+1))
            case measure=>omega
            case rel=>exact⟨j+1,by omega,by omega,by rw [HQJ.out],HIN2,HKN,HBX⟩
    · obtain rfl:i=n:=by omega
      have HKN:Hid (Blk wr g (prtsV (sortR gtP l))):=Lib.hid (by
        have q:=HK.out
        rw [← HL.out,List.take_length,List.drop_length,List.append_nil] at q
        exact q)
      go_wp2_with fail
      go_ret
      exact⟨g,rfl,HKN.out,by rw [HGZ.out];exact Nat.le_refl _,HB.out⟩
theorem slt_info:(Tryz.prog.info? 377).map (fun i=>(i.zero,i.size,i.bytes))=some (some (.agg #[.int .i64 0,.bool false,.int .i64 0]),3,24):=by kernel_rfl
theorem sltsV_app (l m:List Slt):sltsV (l++m)=sltsV l++sltsV m:=List.flatMap_append
theorem sltL_one (p:Slt):∀ v∈sltL p,v.oneCell'=true:=by
  intro v hv
  simp only [sltL,List.mem_cons,List.not_mem_nil,or_false] at hv
  rcases hv with rfl | rfl | rfl <;> rfl
theorem sltsV_one (l:List Slt):∀ v∈sltsV l,v.oneCell'=true:=by
  intro v hv
  obtain⟨p,-,h⟩:=List.mem_flatMap.1 hv
  exact sltL_one p v h
theorem schStabS_at {w:World} {g q:Nat} {D E:List Slt} {x y:Slt} (h:Blk w g (sltsV (D++([y]++([x]++E))))) (hq:D.length=q):(∀ w',Below w.heap.size w w'→w'.rangeAt g ((q+1) * 3) (sltL x))∧(∀ w',Below w.heap.size w w'→w'.rangeAt g (q * 3) (sltL y))∧∀ o,w.frozen? ⟨g,o,none⟩=false:=by
  have e:sltsV (D++([y]++([x]++E)))=sltsV D++sltL y++sltL x++sltsV E:=by simp [sltsV]
  have e2:sltsV (D++([y]++([x]++E)))=sltsV D++sltL y++(sltL x++sltsV E):=by simp [sltsV]
  have l1:(sltsV D).length=q * 3:=by rw [sltsV_len,hq]
  refine⟨fun w' hb=>?_,fun w' hb=>?_,h.fz⟩
  · have q1:=(h.on hb)
    rw [e] at q1
    have q2:=Blk.sub (A:=sltsV D++sltL y) (M:=sltL x) (D:=sltsV E) q1
    rwa [List.length_append,l1,show q * 3+(sltL y).length=(q+1) * 3 from by show q * 3+3=_;omega] at q2
  · have q1:=(h.on hb)
    rw [e2] at q1
    have q2:=Blk.sub (A:=sltsV D) (M:=sltL y) (D:=sltL x++sltsV E) q1
    rwa [l1] at q2
theorem schStabS_swap {w:World} {g q B:Nat} {D E:List Slt} {x y:Slt} (h:Blk w g (sltsV (D++([y]++([x]++E))))) (hq:D.length=q) (hB:B≤g):Blk ((w.setCells g ((q+1) * 3) (sltL y)).setCells g (q * 3) (sltL x)) g (sltsV (D++([x]++([y]++E))))∧Below B w ((w.setCells g ((q+1) * 3) (sltL y)).setCells g (q * 3) (sltL x)):=by
  have e:sltsV (D++([y]++([x]++E)))=(sltsV D++sltL y)++sltL x++sltsV E:=by simp [sltsV]
  have e2:sltsV (D++([x]++([y]++E)))=sltsV D++sltL x++(sltL y++sltsV E):=by simp [sltsV]
  have l1:(sltsV D).length=q * 3:=by rw [sltsV_len,hq]
  have l2:(sltsV D++sltL y).length=(q+1) * 3:=by rw [List.length_append,l1];show q * 3+3=_;omega
  rw [e] at h
  have s1:Stored w (w.setCells g ((q+1) * 3) (sltL y)) g ((q+1) * 3) (sltL y):=stored_setCells (h.there _ _ (by rw [List.length_append,List.length_append,l2];show (q+1) * 3+3≤(q+1) * 3+3+_;omega))
  have h1:=Blk.put (A:=sltsV D++sltL y) (M:=sltL x) (D:=sltsV E) h s1 l2 rfl
  rw [show sltsV D++sltL y++sltL y++sltsV E=sltsV D++sltL y++(sltL y++sltsV E) from by simp] at h1
  have s2:Stored (w.setCells g ((q+1) * 3) (sltL y)) ((w.setCells g ((q+1) * 3) (sltL y)).setCells g (q * 3) (sltL x)) g (q * 3) (sltL x):=stored_setCells (h1.there _ _ (by rw [List.length_append,List.length_append,l1];show q * 3+3≤q * 3+3+_;omega))
  have h2:=Blk.put (A:=sltsV D) (M:=sltL y) (D:=sltL y++sltsV E) h1 s2 l1 rfl
  rw [e2]
  exact⟨h2,(s1.below hB).trans (s2.below hB)⟩
theorem schStabS_cal (x y:Value) (W:World):(callFunc 281 #[x,y]).run Tryz.prog W=.ok (.enter 281 #[x,y]) W:=by kernel_rfl
set_option maxRecDepth 8000 in
set_option maxHeartbeats 4000000 in
theorem schStabS_any {Q:Nat→Prop} {w:World} (A:Option Addr) (l:List Slt) (c:Nat) (h:FlatQ Q w A (sltsV l)) (hm:l.length≤1000) :
    Calls Tryz.prog 280 #[.slice A l.length c,.func (.func 281) #[] #[]] w fun e w'=>∃ g,e=.returned (.slice (some ⟨g,0,none⟩) l.length l.length)∧Blk w' g (sltsV (sortR gtS l))∧w.heap.size≤g∧Below w.heap.size w w':=by
  have HI:=Lib.hid h.lt
  obtain⟨i0,hi,hz0,hz1,hz2⟩:=info_partsS slt_info
  have HIN:=Lib.hid hi
  have HZ:=Lib.hid (And.intro hz0 (And.intro hz1 hz2))
  have HFE:Hid (∀ k,k≤l.length→((l.take k).foldl (insR gtS) []).length=k):=Lib.hid (fold_len gtS l)
  obtain⟨n,hn⟩:∃ n,l.length=n:=⟨_,rfl⟩
  rw [hn] at hm HFE ⊢
  have HL:=Lib.hid hn
  clear hn h hi hz0 hz1 hz2
  have HCL:=fun x y W=>schStabS_cal x y W
  go_enter Tryz.func280,Tryz.ntmps280
  go_wp2_with (refine wpList_make_grew rfl _ _ 373 377 rfl i0 _ Tryz.underlying373 HIN.out HZ.out.1 .i64 .i64 n rfl rfl (by rw [HZ.out.2.2];omega) (by omega) ?_;intro W1 hG;have HG1:=Lib.hid hG;clear hG)
  have HK1:Hid (w.heap.size < W1.heap.size∧W1.there w.heap.size 0 (n * 3)∧Below w.heap.size w W1):=Lib.hid (by
    have hk:=Blk.newL HG1.out rfl
    refine⟨hk.lt,hk.there 0 (n * 3) ?_,HG1.out.bel⟩
    rw [madeCells_len,HZ.out.2.1,Nat.zero_add];exact Nat.le_refl _)
  obtain⟨W2,q1,q2⟩:=run_copy_all (P:=Tryz.prog) W1 373 373 3 377 3 Tryz.underlying373 (by rw [HIN.out];simp [HZ.out.2.1]) w.heap.size n n A c (sltsV l) (HI.out.below HK1.out.2.2 (fun _ q=>q.2)) (by rw [sltsV_len,HL.out]) (sltsV_one l) HK1.out.2.1
  have HK2:Hid (Blk W2 w.heap.size (sltsV l)):=Lib.hid (by
    have hk:=Blk.newL HG1.out rfl
    exact hk.all q2 (by rw [madeCells_len,HZ.out.2.1,sltsV_len,HL.out]))
  have HB2:Hid (Below w.heap.size w W2):=Lib.hid (HK1.out.2.2.trans (q2.below (Nat.le_refl _)))
  have HRC:=Lib.hid q1
  clear q1 q2 HG1 HK1
  go_wp2_with fail
  rw [HRC.out]
  clear HRC
  go_wp2_with fail
  obtain⟨g,hgz⟩:∃ g,w.heap.size=g:=⟨_,rfl⟩
  rw [hgz] at HK2
  simp only [hgz]
  have HGZ:=Lib.hid hgz
  clear hgz
  go_loopg [16] n (fun t s16 wr=>∃ i:Nat,i≤n∧n - i≤t∧s16=.int .i64 i∧Hid (Blk wr g (sltsV (((l.take i).foldl (insR gtS) []).reverse++l.drop i)))∧Hid (Below w.heap.size w wr))
  case atStart=>exact⟨0,by omega,by omega,rfl,HK2.out,HB2⟩
  case round=>
    obtain⟨i,hi,ht,rfl,HK,HB⟩:=hrel
    clear HK2 HB2
    by_cases hlt:i < n
    · have hil:i < l.length:=by rw [HL.out];exact hlt
      have HSN:Hid ((l.take (i+1)).foldl (insR gtS) []=insR gtS ((l.take i).foldl (insR gtS) []) l[i]):=Lib.hid (sortR_snoc gtS l i hil)
      have HRL:=Lib.hid (HFE.out i (by omega))
      have HST:Hid (Blk wr g (sltsV (stepL ((l.take i).foldl (insR gtS) []) l[i] (l.drop (i+1)) 0))):=Lib.hid (by rw [stepL_zero,← List.drop_eq_getElem_cons hil];exact HK.out)
      clear HK
      generalize (l.take i).foldl (insR gtS) []=r at *
      generalize l[i]=x at *
      obtain⟨rest,hrest⟩:∃ rest,l.drop (i+1)=rest:=⟨_,rfl⟩
      rw [hrest] at HST
      have HRS:=Lib.hid hrest
      clear hrest
      have i1:(i:Int) < n:=by omega
      have i2:(0:Int)≤(i:Int):=Int.natCast_nonneg _
      go_wp2_with fail
      go_loopg [7] i (fun t2 s7 wr=>∃ j:Nat,j≤i∧i - j≤t2∧s7=.int .i64 ((i - j:Nat):Int)∧Hid (insR gtS r x=r.take j++insR gtS (r.drop j) x)∧Hid (Blk wr g (sltsV (stepL r x rest j)))∧Hid (Below w.heap.size w wr))
      case atStart=>exact⟨0,by omega,by omega,rfl,rfl,HST,HB⟩
      case round=>
        obtain⟨j,hj,ht2,rfl,HIR,HK,HBI⟩:=hrel
        clear HST HB
        obtain⟨kk,hkk⟩:∃ kk,i - j=kk:=⟨_,rfl⟩
        rw [hkk] at ht2 ⊢
        rcases kk with _ | q
        · obtain rfl:j=i:=by omega
          have HDONE:Hid (stepL r x rest j=(insR gtS r x).reverse++rest):=Lib.hid (insR_stop gtS r x j (by rw [HRL.out];exact Nat.le_refl _) HIR.out (fun q=>absurd q (by rw [HRL.out];omega)) rest)
          have HKN:Hid (Blk wr.drew g (sltsV (((l.take (j+1)).foldl (insR gtS) []).reverse++l.drop (j+1)))):=Lib.hid (by rw [HSN.out,HRS.out,← HDONE.out];exact HK.out.drew)
          have HBN:Hid (Below w.heap.size w wr.drew):=Lib.hid HBI.out.drew
          go_upto_region 7 with fail
          try (apply wp_seq_k;intro K_ HK_)
          have hS0:Below wr.heap.size wr wr.drew:=(Below.refl _ _).drew
          refine wp_region_held_drew (S:=fun w'=>Below wr.heap.size wr w') (by kernel_rfl) hS0 (fun hHeld0=>?_)
          refine wpAnyH_take (i:=0) (oi:=⟨some 20,_,_,_,_,_⟩) (v:=?_) rfl (by kernel_rfl) (by kernel_rfl) (by kernel_rfl) (fun _ _ _ h=>h) (Or.inl ⟨by rfl,?_⟩) (by assumption) ?_
          rotate_left
          · intro w' hSw
            go_simp
            try with_reducible rfl
          try go_frame
          refine wpAnyH_take (i:=1) (oi:=⟨some 21,_,_,_,_,_⟩) (v:=?_) rfl (by kernel_rfl) (by kernel_rfl) (by kernel_rfl) (fun _ _ _ h=>h) (Or.inl ⟨by rfl,?_⟩) (by assumption) ?_
          rotate_left
          · intro w' hSw
            go_simp
            try with_reducible rfl
          try go_frame
          refine wpAnyH_take (i:=2) (oi:=⟨some 22,_,_,_,_,_⟩) (v:=?_) rfl (by kernel_rfl) (by kernel_rfl) (by kernel_rfl) (fun _ _ _ h=>h) (Or.inl ⟨by rfl,?_⟩) (by assumption) ?_
          rotate_left
          · intro w' hSw
            go_simp
            try with_reducible rfl
          try go_frame
          refine wpAnyH_take (i:=3) (oi:=⟨some 23,_,_,_,_,_⟩) (v:=undef) rfl (by kernel_rfl) (by kernel_rfl) (by kernel_rfl) (fun _ _ _ h=>h) (Or.inr ⟨by rfl,rfl⟩) (by assumption) ?_
          try go_frame
          refine wpAnyH_take (i:=4) (oi:=⟨some 24,_,_,_,_,_⟩) (v:=undef) rfl (by kernel_rfl) (by kernel_rfl) (by kernel_rfl) (fun _ _ _ h=>h) (Or.inr ⟨by rfl,rfl⟩) (by assumption) ?_
          try go_frame
          refine wpAnyH_take (i:=5) (oi:=⟨some 25,_,_,_,_,_⟩) (v:=undef) rfl (by kernel_rfl) (by kernel_rfl) (by kernel_rfl) (fun _ _ _ h=>h) (Or.inr ⟨by rfl,rfl⟩) (by assumption) ?_
          try go_frame
          refine wpAnyH_take (i:=6) (oi:=⟨some 26,_,_,_,_,_⟩) (v:=undef) rfl (by kernel_rfl) (by kernel_rfl) (by kernel_rfl) (fun _ _ _ h=>h) (Or.inr ⟨by rfl,rfl⟩) (by assumption) ?_
          try go_frame
          refine wpAnyH_take (i:=7) (oi:=⟨some 27,_,_,_,_,_⟩) (v:=undef) rfl (by kernel_rfl) (by kernel_rfl) (by kernel_rfl) (fun _ _ _ h=>h) (Or.inr ⟨by rfl,rfl⟩) (by assumption) ?_
          try go_frame
          refine wpAnyH_take (i:=8) (oi:=⟨some 28,_,_,_,_,_⟩) (v:=undef) rfl (by kernel_rfl) (by kernel_rfl) (by kernel_rfl) (fun _ _ _ h=>h) (Or.inr ⟨by rfl,rfl⟩) (by assumption) ?_
          try go_frame
          refine wpAnyH_take (i:=9) (oi:=⟨some 29,_,_,_,_,_⟩) (v:=undef) rfl (by kernel_rfl) (by kernel_rfl) (by kernel_rfl) (fun _ _ _ h=>h) (Or.inr ⟨by rfl,rfl⟩) (by assumption) ?_
          try go_frame
          refine wpAnyH_take (i:=10) (oi:=⟨some 30,_,_,_,_,_⟩) (v:=undef) rfl (by kernel_rfl) (by kernel_rfl) (by kernel_rfl) (fun _ _ _ h=>h) (Or.inr ⟨by rfl,rfl⟩) (by assumption) ?_
          try go_frame
          refine wpAnyH_take (i:=11) (oi:=⟨some 31,_,_,_,_,_⟩) (v:=undef) rfl (by kernel_rfl) (by kernel_rfl) (by kernel_rfl) (fun _ _ _ h=>h) (Or.inr ⟨by rfl,rfl⟩) (by assumption) ?_
          try go_frame
          refine wpAnyH_take (i:=12) (oi:=⟨some 32,_,_,_,_,_⟩) (v:=undef) rfl (by kernel_rfl) (by kernel_rfl) (by kernel_rfl) (fun _ _ _ h=>h) (Or.inr ⟨by rfl,rfl⟩) (by assumption) ?_
          try go_frame
          refine wpAnyH_take (i:=13) (oi:=⟨some 33,_,_,_,_,_⟩) (v:=undef) rfl (by kernel_rfl) (by kernel_rfl) (by kernel_rfl) (fun _ _ _ h=>h) (Or.inr ⟨by rfl,rfl⟩) (by assumption) ?_
          try go_frame
          refine wpAnyH_take (i:=14) (oi:=⟨some 34,_,_,_,_,_⟩) (v:=?_) rfl (by kernel_rfl) (by kernel_rfl) (by kernel_rfl) (fun _ _ _ h=>h) (Or.inl ⟨by rfl,?_⟩) (by assumption) ?_
          rotate_left
          · intro w' hSw
            go_simp
            try with_reducible rfl
          try go_frame
          refine wpAnyH_done (by kernel_rfl) ?_ _
          try go_frame
          clear hHeld0 hS0
          go_wp2_with fail
          go_roundg (n - (j+1))
          case measure=>omega
          case rel=>exact⟨j+1,by omega,by omega,by go_num,HKN,HBN⟩
        · have hjr:j < r.length:=by rw [HRL.out];omega
          have HLS:Hid (stepL r x rest j=(r.drop (j+1)).reverse++([r[j]]++([x]++((r.take j).reverse++rest)))):=Lib.hid (stepL_at r x rest j hjr)
          have HLT:Hid (stepL r x rest (j+1)=(r.drop (j+1)).reverse++([x]++([r[j]]++((r.take j).reverse++rest)))):=Lib.hid (stepL_next r x rest j hjr)
          have HGO:Hid (gtS x r[j]=true→insR gtS r x=r.take (j+1)++insR gtS (r.drop (j+1)) x):=Lib.hid (insR_go gtS r x j hjr HIR.out)
          have HSP:Hid (gtS x r[j]=false→stepL r x rest j=(insR gtS r x).reverse++rest):=Lib.hid (fun hh=>insR_stop gtS r x j (Nat.le_of_lt hjr) HIR.out (fun _=>hh) rest)
          have HDQ:Hid ((r.drop (j+1)).reverse.length=q):=Lib.hid (by rw [List.length_reverse,List.length_drop,HRL.out];omega)
          generalize (r.drop (j+1)).reverse=D at HLS HLT HDQ
          generalize (r.take j).reverse++rest=E at HLS HLT
          generalize r[j]=y at HLS HLT HGO HSP
          have HBK:Hid (Blk wr g (sltsV (D++([y]++([x]++E))))):=Lib.hid (by rw [← HLS.out];exact HK.out)
          have HAT:=Lib.hid (schStabS_at HBK.out HDQ.out)
          obtain⟨bb,hbb⟩:∃ bb,gtS x y=bb:=⟨_,rfl⟩
          have HG:∀ W,Hid (Calls Tryz.prog 281 #[.agg (sltL x).toArray,.agg (sltL y).toArray] W fun e w'=>e=.returned (.bool bb)∧Below W.heap.size W w'):=fun W=>Lib.hid (by rw [← hbb];exact schSlots1_any x y W)
          have HBB:=Lib.hid hbb
          clear hbb
          obtain⟨x0,x1,x2⟩:=x
          obtain⟨y0,y1,y2⟩:=y
          have HX:Hid (∀ w',Below wr.heap.size wr w'→w'.rangeAt g ((q+1) * 3) [.int .i64 (x0:Nat),.bool x1,.int .i64 (x2:Nat)]):=Lib.hid HAT.out.1
          have HY:Hid (∀ w',Below wr.heap.size wr w'→w'.rangeAt g (q * 3) [.int .i64 (y0:Nat),.bool y1,.int .i64 (y2:Nat)]):=Lib.hid HAT.out.2.1
          change ∀ W,Hid (Calls Tryz.prog 281 #[.agg #[.int .i64 (x0:Nat),.bool x1,.int .i64 (x2:Nat)],.agg #[.int .i64 (y0:Nat),.bool y1,.int .i64 (y2:Nat)]] W fun e w'=>e=.returned (.bool bb)∧Below W.heap.size W w') at HG
          have i3:(q:Int)+1 < n:=by omega
          have i4:(0:Int)≤(q:Int)+1:=by omega
          have i5:(q:Int) < n:=by omega
          have i6:(0:Int)≤(q:Int):=by omega
          have i7:(0:Int) < (q:Int)+1:=by omega
          have f1:IntKind.i64.wrap (q:Int)=(q:Int):=IntWalk.i64_in _ (by omega)
          clear HAT
          cases bb
          · have HKN:∀ w2,Below wr.heap.size wr w2→Hid (Blk w2 g (sltsV (((l.take (i+1)).foldl (insR gtS) []).reverse++l.drop (i+1)))):=fun w2 hb=>Lib.hid (by rw [HSN.out,HRS.out,← HSP.out HBB.out];exact HK.out.on hb)
            go_upto_region 7 with fail
            try (apply wp_seq_k;intro K_ HK_)
            have hS0:Below wr.heap.size wr wr.drew:=(Below.refl _ _).drew
            refine wp_region_held_drew (S:=fun w'=>Below wr.heap.size wr w') (by kernel_rfl) hS0 (fun hHeld0=>?_)
            refine wpAnyH_take (i:=0) (oi:=⟨some 20,_,_,_,_,_⟩) (v:=?_) rfl (by kernel_rfl) (by kernel_rfl) (by kernel_rfl) (fun _ _ _ h=>h) (Or.inl ⟨by rfl,?_⟩) (by assumption) ?_
            rotate_left
            · intro w' hSw
              go_simp
              try with_reducible rfl
            try go_frame
            refine wpAnyH_take (i:=1) (oi:=⟨some 21,_,_,_,_,_⟩) (v:=?_) rfl (by kernel_rfl) (by kernel_rfl) (by kernel_rfl) (fun _ _ _ h=>h) (Or.inl ⟨by rfl,?_⟩) (by assumption) ?_
            rotate_left
            · intro w' hSw
              go_simp
              try with_reducible rfl
            try go_frame
            refine wpAnyH_take (i:=2) (oi:=⟨some 22,_,_,_,_,_⟩) (v:=?_) rfl (by kernel_rfl) (by kernel_rfl) (by kernel_rfl) (fun _ _ _ h=>h) (Or.inl ⟨by rfl,?_⟩) (by assumption) ?_
            rotate_left
            · intro w' hSw
              go_simp
              try with_reducible rfl
            try go_frame
            refine wpAnyH_take (i:=3) (oi:=⟨some 23,_,_,_,_,_⟩) (v:=?_) rfl (by kernel_rfl) (by kernel_rfl) (by kernel_rfl) (fun _ _ _ h=>h) (Or.inl ⟨by rfl,?_⟩) (by assumption) ?_
            rotate_left
            · intro w' hSw
              go_simp
              try with_reducible rfl
            try go_frame
            refine wpAnyH_take (i:=4) (oi:=⟨some 24,_,_,_,_,_⟩) (v:=?_) rfl (by kernel_rfl) (by kernel_rfl) (by kernel_rfl) (fun _ _ _ h=>h) (Or.inl ⟨by rfl,?_⟩) (by assumption) ?_
            rotate_left
            · intro w' hSw
              go_simp
              try with_reducible rfl
            try go_frame
            refine wpAnyH_take (i:=5) (oi:=⟨some 25,_,_,_,_,_⟩) (v:=?_) rfl (by kernel_rfl) (by kernel_rfl) (by kernel_rfl) (fun _ _ _ h=>h) (Or.inl ⟨by rfl,?_⟩) (by assumption) ?_
            rotate_left
            · intro w' hSw
              go_simp
              try with_reducible rfl
            try go_frame
            refine wpAnyH_take (i:=6) (oi:=⟨some 26,_,_,_,_,_⟩) (v:=?_) rfl (by kernel_rfl) (by kernel_rfl) (by kernel_rfl) (fun _ _ _ h=>h) (Or.inl ⟨by rfl,?_⟩) (by assumption) ?_
            rotate_left
            · intro w' hSw
              go_simp
              try with_reducible rfl
            try go_frame
            refine wpAnyH_take (i:=7) (oi:=⟨some 27,_,_,_,_,_⟩) (v:=_) rfl (by kernel_rfl) (by kernel_rfl) (by kernel_rfl) (fun _ _ _ h=>h) (yieldsIf_load_mid (by rfl) 377 _ rfl g ((q+1) * 3) rfl [.int .i64 (x0:Nat),.bool x1,.int .i64 (x2:Nat)] _ (fun w' hSw=>(HX.out w' hSw)) Tryz.underlying377 rfl (by kernel_rfl)) (by assumption) ?_
            try go_frame
            refine wpAnyH_take (i:=8) (oi:=⟨some 28,_,_,_,_,_⟩) (v:=?_) rfl (by kernel_rfl) (by kernel_rfl) (by kernel_rfl) (fun _ _ _ h=>h) (Or.inl ⟨by rfl,?_⟩) (by assumption) ?_
            rotate_left
            · intro w' hSw
              go_simp
              try with_reducible rfl
            try go_frame
            refine wpAnyH_take (i:=9) (oi:=⟨some 29,_,_,_,_,_⟩) (v:=?_) rfl (by kernel_rfl) (by kernel_rfl) (by kernel_rfl) (fun _ _ _ h=>h) (Or.inl ⟨by rfl,?_⟩) (by assumption) ?_
            rotate_left
            · intro w' hSw
              go_simp
              try with_reducible rfl
            try go_frame
            refine wpAnyH_take (i:=10) (oi:=⟨some 30,_,_,_,_,_⟩) (v:=?_) rfl (by kernel_rfl) (by kernel_rfl) (by kernel_rfl) (fun _ _ _ h=>h) (Or.inl ⟨by rfl,?_⟩) (by assumption) ?_
            rotate_left
            · intro w' hSw
              go_simp
              try with_reducible rfl
            try go_frame
            refine wpAnyH_take (i:=11) (oi:=⟨some 31,_,_,_,_,_⟩) (v:=?_) rfl (by kernel_rfl) (by kernel_rfl) (by kernel_rfl) (fun _ _ _ h=>h) (Or.inl ⟨by rfl,?_⟩) (by assumption) ?_
            rotate_left
            · intro w' hSw
              go_simp
              try with_reducible rfl
            try go_frame
            refine wpAnyH_take (i:=12) (oi:=⟨some 32,_,_,_,_,_⟩) (v:=_) rfl (by kernel_rfl) (by kernel_rfl) (by kernel_rfl) (fun _ _ _ h=>h) (yieldsIf_load_mid (by rfl) 377 _ rfl g (q * 3) rfl [.int .i64 (y0:Nat),.bool y1,.int .i64 (y2:Nat)] _ (fun w' hSw=>(HY.out w' hSw)) Tryz.underlying377 rfl (by kernel_rfl)) (by assumption) ?_
            try go_frame
            refine wpAnyH_ready (rs:=[13]) (by kernel_rfl) (by simp) ?_
            refine AllReadyH.cons (o:=⟨some 33,_,_,_,_,_⟩) rfl (fun K hK=>?_) AllReadyH.nil
            rw [if_pos (by rfl)]
            go_step
            refine (HG _).out.mono ?_
            rintro e w2 ⟨rfl,hb⟩
            have HS2:Hid (Below wr.heap.size wr w2):=Lib.hid (hHeld0.trans (hb.mono hHeld0.size))
            clear hb
            try go_frame
            refine hK.out _ _ (HS2.out) (fun hHeld=>?_)
            clear hK K
            try go_frame
            refine wpAnyH_take (i:=14) (oi:=⟨some 34,_,_,_,_,_⟩) (v:=?_) rfl (by kernel_rfl) (by kernel_rfl) (by kernel_rfl) (fun _ _ _ h=>h) (Or.inl ⟨by rfl,?_⟩) (by assumption) ?_
            rotate_left
            · intro w' hSw
              go_simp
              try with_reducible rfl
            try go_frame
            refine wpAnyH_done (by kernel_rfl) ?_ _
            try go_frame
            have HKN2:=HKN w2 HS2.out
            have HBN:=Lib.hid (bthen HBI.out HS2.out)
            clear hHeld hHeld0 hS0
            go_wp2_with fail
            go_roundg (n - (i+1))
            case measure=>omega
            case rel=>exact⟨i+1,by omega,by omega,by go_num,HKN2,HBN⟩
          · go_upto_region 7 with fail
            try (apply wp_seq_k;intro K_ HK_)
            have hS0:Below wr.heap.size wr wr.drew:=(Below.refl _ _).drew
            refine wp_region_held_drew (S:=fun w'=>Below wr.heap.size wr w') (by kernel_rfl) hS0 (fun hHeld0=>?_)
            refine wpAnyH_take (i:=0) (oi:=⟨some 20,_,_,_,_,_⟩) (v:=?_) rfl (by kernel_rfl) (by kernel_rfl) (by kernel_rfl) (fun _ _ _ h=>h) (Or.inl ⟨by rfl,?_⟩) (by assumption) ?_
            rotate_left
            · intro w' hSw
              go_simp
              try with_reducible rfl
            try go_frame
            refine wpAnyH_take (i:=1) (oi:=⟨some 21,_,_,_,_,_⟩) (v:=?_) rfl (by kernel_rfl) (by kernel_rfl) (by kernel_rfl) (fun _ _ _ h=>h) (Or.inl ⟨by rfl,?_⟩) (by assumption) ?_
            rotate_left
            · intro w' hSw
              go_simp
              try with_reducible rfl
            try go_frame
            refine wpAnyH_take (i:=2) (oi:=⟨some 22,_,_,_,_,_⟩) (v:=?_) rfl (by kernel_rfl) (by kernel_rfl) (by kernel_rfl) (fun _ _ _ h=>h) (Or.inl ⟨by rfl,?_⟩) (by assumption) ?_
            rotate_left
            · intro w' hSw
              go_simp
              try with_reducible rfl
            try go_frame
            refine wpAnyH_take (i:=3) (oi:=⟨some 23,_,_,_,_,_⟩) (v:=?_) rfl (by kernel_rfl) (by kernel_rfl) (by kernel_rfl) (fun _ _ _ h=>h) (Or.inl ⟨by rfl,?_⟩) (by assumption) ?_
            rotate_left
            · intro w' hSw
              go_simp
              try with_reducible rfl
            try go_frame
            refine wpAnyH_take (i:=4) (oi:=⟨some 24,_,_,_,_,_⟩) (v:=?_) rfl (by kernel_rfl) (by kernel_rfl) (by kernel_rfl) (fun _ _ _ h=>h) (Or.inl ⟨by rfl,?_⟩) (by assumption) ?_
            rotate_left
            · intro w' hSw
              go_simp
              try with_reducible rfl
            try go_frame
            refine wpAnyH_take (i:=5) (oi:=⟨some 25,_,_,_,_,_⟩) (v:=?_) rfl (by kernel_rfl) (by kernel_rfl) (by kernel_rfl) (fun _ _ _ h=>h) (Or.inl ⟨by rfl,?_⟩) (by assumption) ?_
            rotate_left
            · intro w' hSw
              go_simp
              try with_reducible rfl
            try go_frame
            refine wpAnyH_take (i:=6) (oi:=⟨some 26,_,_,_,_,_⟩) (v:=?_) rfl (by kernel_rfl) (by kernel_rfl) (by kernel_rfl) (fun _ _ _ h=>h) (Or.inl ⟨by rfl,?_⟩) (by assumption) ?_
            rotate_left
            · intro w' hSw
              go_simp
              try with_reducible rfl
            try go_frame
            refine wpAnyH_take (i:=7) (oi:=⟨some 27,_,_,_,_,_⟩) (v:=_) rfl (by kernel_rfl) (by kernel_rfl) (by kernel_rfl) (fun _ _ _ h=>h) (yieldsIf_load_mid (by rfl) 377 _ rfl g ((q+1) * 3) rfl [.int .i64 (x0:Nat),.bool x1,.int .i64 (x2:Nat)] _ (fun w' hSw=>(HX.out w' hSw)) Tryz.underlying377 rfl (by kernel_rfl)) (by assumption) ?_
            try go_frame
            refine wpAnyH_take (i:=8) (oi:=⟨some 28,_,_,_,_,_⟩) (v:=?_) rfl (by kernel_rfl) (by kernel_rfl) (by kernel_rfl) (fun _ _ _ h=>h) (Or.inl ⟨by rfl,?_⟩) (by assumption) ?_
            rotate_left
            · intro w' hSw
              go_simp
              try with_reducible rfl
            try go_frame
            refine wpAnyH_take (i:=9) (oi:=⟨some 29,_,_,_,_,_⟩) (v:=?_) rfl (by kernel_rfl) (by kernel_rfl) (by kernel_rfl) (fun _ _ _ h=>h) (Or.inl ⟨by rfl,?_⟩) (by assumption) ?_
            rotate_left
            · intro w' hSw
              go_simp
              try with_reducible rfl
            try go_frame
            refine wpAnyH_take (i:=10) (oi:=⟨some 30,_,_,_,_,_⟩) (v:=?_) rfl (by kernel_rfl) (by kernel_rfl) (by kernel_rfl) (fun _ _ _ h=>h) (Or.inl ⟨by rfl,?_⟩) (by assumption) ?_
            rotate_left
            · intro w' hSw
              go_simp
              try with_reducible rfl
            try go_frame
            refine wpAnyH_take (i:=11) (oi:=⟨some 31,_,_,_,_,_⟩) (v:=?_) rfl (by kernel_rfl) (by kernel_rfl) (by kernel_rfl) (fun _ _ _ h=>h) (Or.inl ⟨by rfl,?_⟩) (by assumption) ?_
            rotate_left
            · intro w' hSw
              go_simp
              try with_reducible rfl
            try go_frame
            refine wpAnyH_take (i:=12) (oi:=⟨some 32,_,_,_,_,_⟩) (v:=_) rfl (by kernel_rfl) (by kernel_rfl) (by kernel_rfl) (fun _ _ _ h=>h) (yieldsIf_load_mid (by rfl) 377 _ rfl g (q * 3) rfl [.int .i64 (y0:Nat),.bool y1,.int .i64 (y2:Nat)] _ (fun w' hSw=>(HY.out w' hSw)) Tryz.underlying377 rfl (by kernel_rfl)) (by assumption) ?_
            try go_frame
            refine wpAnyH_ready (rs:=[13]) (by kernel_rfl) (by simp) ?_
            refine AllReadyH.cons (o:=⟨some 33,_,_,_,_,_⟩) rfl (fun K hK=>?_) AllReadyH.nil
            rw [if_pos (by rfl)]
            go_step
            refine (HG _).out.mono ?_
            rintro e w2 ⟨rfl,hb⟩
            have HS2:Hid (Below wr.heap.size wr w2):=Lib.hid (hHeld0.trans (hb.mono hHeld0.size))
            clear hb
            try go_frame
            refine hK.out _ _ (HS2.out) (fun hHeld=>?_)
            clear hK K
            try go_frame
            refine wpAnyH_take (i:=14) (oi:=⟨some 34,_,_,_,_,_⟩) (v:=?_) rfl (by kernel_rfl) (by kernel_rfl) (by kernel_rfl) (fun _ _ _ h=>h) (Or.inl ⟨by rfl,?_⟩) (by assumption) ?_
            rotate_left
            · intro w' hSw
              go_simp
              try with_reducible rfl
            try go_frame
            refine wpAnyH_done (by kernel_rfl) ?_ _
            try go_frame
            have HK2:=Lib.hid (HBK.out.on HS2.out)
            have HBN:=Lib.hid (bthen HBI.out HS2.out)
            have hcx:=HX.out w2 HS2.out
            have hcy:=HY.out w2 HS2.out
            have cx0:w2.cell? ⟨g,(q+1) * 3,none⟩=some (.int .i64 (x0:Nat)):=hcx 0 _ rfl
            have cx1:w2.cell? ⟨g,(q+1) * 3+1,none⟩=some (.bool x1):=hcx 1 _ rfl
            have cx2:w2.cell? ⟨g,(q+1) * 3+2,none⟩=some (.int .i64 (x2:Nat)):=hcx 2 _ rfl
            have cy0:w2.cell? ⟨g,q * 3,none⟩=some (.int .i64 (y0:Nat)):=hcy 0 _ rfl
            have cy1:w2.cell? ⟨g,q * 3+1,none⟩=some (.bool y1):=hcy 1 _ rfl
            have cy2:w2.cell? ⟨g,q * 3+2,none⟩=some (.int .i64 (y2:Nat)):=hcy 2 _ rfl
            have zx0:w2.frozen? ⟨g,(q+1) * 3,none⟩=false:=HK2.out.fz _
            have zx1:w2.frozen? ⟨g,(q+1) * 3+1,none⟩=false:=HK2.out.fz _
            have zx2:w2.frozen? ⟨g,(q+1) * 3+2,none⟩=false:=HK2.out.fz _
            have zy0:w2.frozen? ⟨g,q * 3,none⟩=false:=HK2.out.fz _
            have zy1:w2.frozen? ⟨g,q * 3+1,none⟩=false:=HK2.out.fz _
            have zy2:w2.frozen? ⟨g,q * 3+2,none⟩=false:=HK2.out.fz _
            have HSW:=Lib.hid (schStabS_swap (B:=w.heap.size) HK2.out HDQ.out (by rw [HGZ.out];exact Nat.le_refl _))
            clear hHeld hHeld0 hS0 hcx hcy
            go_upto_region 9 with fail
            have HKN:Hid (Blk (((((((w2.setCell ⟨g,(q+1) * 3,none⟩ (.int .i64 (y0:Nat))).setCell ⟨g,(q+1) * 3+1,none⟩ (.bool y1)).setCell ⟨g,(q+1) * 3+2,none⟩ (.int .i64 (y2:Nat))).setCell ⟨g,q * 3,none⟩ (.int .i64 (x0:Nat))).setCell ⟨g,q * 3+1,none⟩ (.bool x1)).setCell ⟨g,q * 3+2,none⟩ (.int .i64 (x2:Nat)))).drew g (sltsV (stepL r ⟨x0,x1,x2⟩ rest (j+1)))):=Lib.hid (by rw [HLT.out];exact HSW.out.1.drew)
            have HBX:Hid (Below w.heap.size w (((((((w2.setCell ⟨g,(q+1) * 3,none⟩ (.int .i64 (y0:Nat))).setCell ⟨g,(q+1) * 3+1,none⟩ (.bool y1)).setCell ⟨g,(q+1) * 3+2,none⟩ (.int .i64 (y2:Nat))).setCell ⟨g,q * 3,none⟩ (.int .i64 (x0:Nat))).setCell ⟨g,q * 3+1,none⟩ (.bool x1)).setCell ⟨g,q * 3+2,none⟩ (.int .i64 (x2:Nat)))).drew):=Lib.hid (HBN.out.trans HSW.out.2.drew)
            have HIN2:=Lib.hid (HGO.out HBB.out)
            have HQJ:Hid (i - (j+1)=q):=Lib.hid (by omega)
            clear HSW HK2 HBN
            go_region
            clear cx0 zx0 cx1 zx1 cx2 zx2 cy0 zy0 cy1 zy1 cy2 zy2
            generalize (((((((w2.setCell ⟨g,(q+1) * 3,none⟩ (.int .i64 (y0:Nat))).setCell ⟨g,(q+1) * 3+1,none⟩ (.bool y1)).setCell ⟨g,(q+1) * 3+2,none⟩ (.int .i64 (y2:Nat))).setCell ⟨g,q * 3,none⟩ (.int .i64 (x0:Nat))).setCell ⟨g,q * 3+1,none⟩ (.bool x1)).setCell ⟨g,q * 3+2,none⟩ (.int .i64 (x2:Nat)))).drew=w3 at *
            go_wp2_with fail
            go_roundg (i - (j+1))
            case measure=>omega
            case rel=>exact⟨j+1,by omega,by omega,by rw [HQJ.out],HIN2,HKN,HBX⟩
    · obtain rfl:i=n:=by omega
      have HKN:Hid (Blk wr g (sltsV (sortR gtS l))):=Lib.hid (by
        have q:=HK.out
        rw [← HL.out,List.take_length,List.drop_length,List.append_nil] at q
        exact q)
      go_wp2_with fail
      go_ret
      exact⟨g,rfl,HKN.out,by rw [HGZ.out];exact Nat.le_refl _,HB.out⟩
set_option maxRecDepth 8000 in
theorem schWord_any (p:Prt) (hz:p.sz=1∨p.sz=2∨p.sz=4∨p.sz=8) (w:World):Calls Tryz.prog 284 #[.agg #[.string p.nm,.int .i64 p.sz,.bool p.sg,.int .i64 p.mn]] w fun e w'=>e=.returned (.string (wordP p))∧Below w.heap.size w w':=by
  obtain⟨nm,sz,sg,mn⟩:=p
  dsimp only at *
  rcases hz with rfl | rfl | rfl | rfl <;> cases sg <;> unfold wordP <;> dsimp only
  all_goals
    go_enter Tryz.func284,Tryz.ntmps284
    go_wp2_with fail
    go_ret
    exact⟨rfl,bthen (below_new _ _) (below_new _ _)⟩
theorem schWire_any {Q:Nat→Prop} {w:World} (A:Option Addr) (l:List Prt) (c:Nat) (h:FlatQ Q w A (prtsV l)) (hm:l.length≤1000) :
    Calls Tryz.prog 283 #[.slice A l.length c] w fun e w'=>∃ g,e=.returned (.slice (some ⟨g,0,none⟩) l.length l.length)∧Blk w' g (prtsV (wireP l))∧w.heap.size≤g∧Below w.heap.size w w':=by
  have H:=Lib.hid (schStabP_any A l c h hm)
  have HE:Hid (sortR gtP l=wireP l):=Lib.hid rfl
  rw [HE.out] at H
  generalize wireP l=s at *
  generalize l.length=n at *
  clear h
  go_enter Tryz.func283,Tryz.ntmps283
  go_wp2_with fail
  refine (H.out).mono ?_
  rintro e w1 ⟨g,rfl,hk,hg,hb⟩
  have HK:=Lib.hid (And.intro hk (And.intro hg hb))
  clear hk hg hb
  go_wp2_with fail
  go_ret
  exact⟨g,rfl,HK.out⟩
end Go.Proofs.YtaiepcgfofpmjaaGreat
