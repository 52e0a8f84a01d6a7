/- Layer 43: Set. -/
import Derived.Test.YtaiepcgfofpmjaaGreatS02
namespace Go.Proofs.YtaiepcgfofpmjaaGreat
set_option linter.unusedVariables false
open Go.RowKit
theorem unset_any {S:Nat→Prop} {q N:Nat} {r:List Tr} {w:World} (h:QueI S q N r w) {id:Int} (hw:(Lit.int .i64 id).wf=true) :
    Calls Tryz.prog 108 #[.pointer (some ⟨q,0,none⟩),.int .i64 id] w fun e w'=>e=.returned (.bool (r.any fun x=>x.1==id))∧QueI S q N (without r id) w'∧KeptS S w w':=by
  by_cases hno:∀ x∈r,x.1≠id
  · rw [without_none hno,show (r.any fun x=>x.1==id)=false from by
      rw [List.any_eq_false];exact fun x hx=>by simpa using hno x hx]
    exact (unset_miss h hw hno).mono fun e w' ⟨h1,h2⟩=>⟨h1,h2 ▸ h,h2 ▸ KeptS.refl S w⟩
  · obtain⟨x,hxn⟩:=Classical.not_forall.1 hno
    obtain⟨hx,he⟩:=Classical.not_imp.1 hxn
    clear hxn hno
    have he:x.1=id:=Classical.not_not.1 he
    subst he
    rw [show (r.any fun y=>y.1==x.1)=true from List.any_eq_true.2 ⟨x,hx,by simp⟩]
    obtain⟨n,f,v,mb,a⟩:=h
    obtain⟨i,hi,rfl⟩:=a.at hx
    exact (unset_hit a hi).mono fun e w' ⟨h1,h2,h3,_⟩=>⟨h1,h2,h3⟩
def setB (id t ev:Int):Bool:=decide (0≤id) && decide (id≤15) && inB t && inB ev
abbrev timO (id t ev p:Int):Obj:=.cells #[.int .i64 id,.int .i64 t,.int .i64 ev,.int .i64 p] 203
theorem QueA.mapped {S:Nat→Prop} {q N n mb:Nat} {r:List Tr} {f:Nat→Tm} {v:Value} {w:World} (a:QueA S q N r n f v mb w) {id t ev:Int} (hok:okT (id,t,ev)) (hno:∀ x∈r,x.1≠id) (hN:N < 1000000) :
    ∃ w3,(Instr.mapUpdate 196 (.map (some mb)) (.int .i64 id) (.pointer (some ⟨w.heap.size,0,none⟩))).run Tryz.prog (w.alloc (timO id t ev 0))=.ok () w3∧(w.alloc (timO id t ev 0)).mapTurned w3 mb ∧
      PMap Tryz.prog kI keyI w3 mb (N+1) ((id,w.heap.size) :: (TL f n).map fun x=>(x.id,x.b)):=by
  have a2:=a.below (below_new w (timO id t ev 0))
  obtain⟨w3,g1,g2,g3⟩:=a2.pm.put_at kKeyed Tryz.underlying196 (by unfold maxLen;omega) w.heap.size (key_int (id_wf ⟨hok.1,hok.2.1⟩)) (fun p hp e=>by
    obtain⟨x,hx,rfl⟩:=List.mem_map.1 hp
    exact hno (tri x) (a.rep.mem_iff.2 (List.mem_map.2 ⟨x,hx,rfl⟩)) (keyI_inj e))
  exact⟨w3,g1,g3,g2⟩
theorem QueA.added {S:Nat→Prop} {q N n mb:Nat} {r:List Tr} {f:Nat→Tm} {v:Value} {w w3 w4:World} (a:QueA S q N r n f v mb w) {id t ev:Int} (hok:okT (id,t,ev)) (hg:(w.alloc (timO id t ev 0)).mapTurned w3 mb)
    (hpm:PMap Tryz.prog kI keyI w3 mb (N+1) ((id,w.heap.size) :: (TL f n).map fun x=>(x.id,x.b)))
    (h4:∃ B c f',RowI (fun k=>S k∨k=mb) q B c (n+1) f' w4∧HeapF f' (n+1)∧SameS (pushF f n ⟨w.heap.size,id,t,ev⟩) f' (n+1)∧KeptS (fun k=>S k∨k=mb) w3 w4∧QKeep q w3 w4):QueI S q (N+1) ((id,t,ev) :: r) w4∧KeptS S w w4:=by
  obtain⟨B,c,f',h1,h2,h3,h4,h5⟩:=h4
  have a2:=a.below (below_new w (timO id t ev 0))
  have hk:=turned_kept hg
  have hql:=a2.row.blocks.1
  have hinj:InjT (pushF f n ⟨w.heap.size,id,t,ev⟩) (n+1):=fun i j hi hj e=>by
    have b0:=a.row.blocks.2.2
    by_cases ei:i=n
    · by_cases ej:j=n
      · omega
      · rw [ei,pushF_at,pushF_lt f _ (show j < n by omega)] at e
        have:=b0 j (by omega)
        have e':w.heap.size=(f j).b:=e
        omega
    · by_cases ej:j=n
      · rw [ej,pushF_at,pushF_lt f _ (show i < n by omega)] at e
        have:=b0 i (by omega)
        have e':(f i).b=w.heap.size:=e
        omega
      · rw [pushF_lt f _ (show i < n by omega),pushF_lt f _ (show j < n by omega)] at e
        exact a.inj i j (by omega) (by omega) e
  have hp:=(TL_push f n ⟨w.heap.size,id,t,ev⟩).symm.trans (h3.perm hinj h1.inj)
  refine⟨⟨n+1,f',.slice (some ⟨B,0,none⟩) (n+1) c,mb,⟨.inr ⟨B,c,rfl,h1⟩,h2,(h5.1 1 (by decide)).trans ((hk.cell ⟨a.mbq,hql⟩).trans a2.map),fun o=>(h5.2 o).trans ((hk.frozen ⟨a.mbq,hql⟩).trans (a2.fro o)),?_,fun x hx=>?_,?_,a.outq,a.outm,fun k hk'=>?_⟩⟩,?_⟩
  · exact (hpm.block (h4.block mb (.inr rfl))).perm (hp.map (fun x:Tm=>(x.id,x.b)))
  · rcases List.mem_cons.1 hx with rfl | hx
    · exact hok
    · exact a.ok x hx
  · exact (a.rep.cons (id,t,ev)).trans (hp.map tri)
  · exact Nat.lt_of_lt_of_le (a2.lt k hk') (Nat.le_trans hk.size h4.size)
  · exact ((KeptS.of_below (below_new w (timO id t ev 0)) a.lt).trans (hk.less (fun k hk'=>⟨fun e=>a.outm (by rw [← e];exact hk'),a2.lt k hk'⟩))).trans (h4.less (fun _ h=>.inl h))
theorem QueA.pushes {S:Nat→Prop} {q N n mb:Nat} {r:List Tr} {f:Nat→Tm} {v:Value} {w w3:World} (a:QueA S q N r n f v mb w) {id t ev:Int} (hg:(w.alloc (timO id t ev 0)).mapTurned w3 mb) :
    Calls Tryz.prog 109 #[heapV q,.iface 195 (.pointer (some ⟨w.heap.size,0,none⟩))] w3 fun e w'=>e=.returned (.tuple #[])∧∃ B c f',RowI (fun k=>S k∨k=mb) q B c (n+1) f' w'∧HeapF f' (n+1)∧SameS (pushF f n ⟨w.heap.size,id,t,ev⟩) f' (n+1)∧KeptS (fun k=>S k∨k=mb) w3 w'∧QKeep q w3 w':=by
  have a2:=a.below (below_new w (timO id t ev 0))
  have hk:=turned_kept hg
  have hqm:=a.mbq
  have hbl:=a2.row.blocks
  have hmS:∀ B,v.ownBlock=some B→B≠mb:=fun B e=>by
    rcases a.row with ⟨-,rfl,-⟩ | ⟨B',c,rfl,h⟩
    · cases e
    · injection e with e
      have e':B'=B:=e
      exact fun e2=>h.out (.inr (e'.trans e2))
  have hmT:∀ i,i < n→(f i).b≠mb:=fun i hi=>by
    obtain⟨B,c,-,h⟩:=a.rowI (by omega)
    exact fun e=>(h.tim i hi).out (.inr e)
  have hbm:w.heap.size≠mb:=by have:=a.pm.lt;omega
  have hcell:∀ o,w3.cell? ⟨w.heap.size,o,none⟩=(#[Value.int .i64 id,.int .i64 t,.int .i64 ev,.int .i64 0]:Array Value)[o]?:=fun o=>
    (hk.cell ⟨hbm,by simp⟩).trans (World.cell?_alloc_at _ _ _ _ rfl)
  have b0:=a.row.blocks
  refine heapPush_any (x:=⟨w.heap.size,id,t,ev⟩) (a2.row.keep hk ⟨hqm,hbl.1⟩ (fun B e=>⟨hmS B e,hbl.2.1 B e⟩) (fun i hi=>⟨hmT i hi,hbl.2.2 i hi⟩)) ⟨hcell 0,hcell 1,hcell 2,⟨_,hcell 3⟩,fun o=>?_,?_,fun h=>?_,fun i hi=>?_,fun e=>?_⟩ (fun k h=>?_) (fun h=>h.elim a.outq hqm) ?_ (by have:=a.few;omega) a.heap
  · exact (hk.frozen ⟨hbm,by simp⟩).trans (by rw [frozen?_alloc_cells];exact frozen_past _ _ _ (Nat.le_refl _))
  · exact fun e=>by have:=b0.1;have e':w.heap.size=q:=e;omega
  · rcases h with h | h
    · have h':S w.heap.size:=h
      have:=a.lt _ h'
      omega
    · exact hbm h
  · have:=b0.2.2 i hi
    exact fun e=>by have e':w.heap.size=(f i).b:=e;omega
  · have:=b0.2.1 _ e
    exact Nat.lt_irrefl _ this
  · rcases h with h | h
    · exact Nat.lt_of_lt_of_le (a2.lt k h) hk.size
    · rw [h];exact Nat.lt_of_lt_of_le a2.pm.lt hk.size
  · exact (hk.frozen ⟨hqm,hbl.1⟩).trans (a2.fro 0)
set_option maxRecDepth 8000 in
set_option maxHeartbeats 1000000 in
theorem set_ok {S:Nat→Prop} {q N:Nat} {r:List Tr} {w:World} (h:QueI S q N r w) {id t ev:Int} (hb:setB id t ev=true) (hN:N < 1000000) :
    Calls Tryz.prog 71 #[.pointer (some ⟨q,0,none⟩),.int .i64 id,.int .i64 t,.int .i64 ev] w fun e w'=>e=.returned (.bool true)∧QueI S q (N+1) ((id,t,ev) :: without r id) w'∧KeptS S w w':=by
  simp only [setB,Bool.and_eq_true,decide_eq_true_eq] at hb
  obtain⟨⟨⟨i1,i2⟩,i3⟩,i4⟩:=hb
  have hok:okT (id,t,ev):=by
    have:=of_decide_eq_true i3
    have:=of_decide_eq_true i4
    refine⟨i1,i2,?_,?_,?_,?_⟩ <;> show _≤_ <;> simp only <;> omega
  have H1:=fun W=>Lib.hid (in_any t W)
  have H2:=fun W=>Lib.hid (in_any ev W)
  rw [i3] at H1
  rw [i4] at H2
  have HU:=Lib.hid (unset_any h (id:=id) (id_wf ⟨i1,i2⟩))
  have hm:∃ mb,w.cell? ⟨q,1,none⟩=some (.map (some mb)):=by obtain⟨n,f,v,mb,a⟩:=h;exact⟨mb,a.map⟩
  obtain⟨mb0,hm⟩:=hm
  generalize (r.any fun x=>x.1==id)=ub at *
  have hno:Hid (∀ x∈without r id,x.1≠id):=fun x hx=>of_decide_eq_true (List.mem_filter.1 hx).2
  generalize without r id=r1 at *
  have HOK:=Lib.hid hok
  have i5:id < 16:=by omega
  clear h hok i3 i4 i2
  go_enter Tryz.func71,Tryz.ntmps71
  go_wp2_with (go_at_call 87;refine (there_any q mb0 _ hm).mono ?_;rintro e w' ⟨rfl,rfl⟩)
  refine (H1 _).out.mono ?_
  rintro e w' ⟨rfl,rfl⟩
  go_wp2_with fail
  refine (H2 _).out.mono ?_
  rintro e w' ⟨rfl,rfl⟩
  go_wp2_with fail
  refine HU.out.mono ?_
  rintro e w1 ⟨rfl,hq1,hk1⟩
  obtain⟨n,f,v,mb,a⟩:=hq1
  obtain⟨w3,g1,g2,g3⟩:=a.mapped HOK.out hno.out hN
  have HP:=Lib.hid (a.pushes g2)
  have hm1:(w1.alloc (timO id t ev 0)).cell? ⟨q,1,none⟩=some (.map (some mb)):=(a.below (below_new w1 (timO id t ev 0))).map
  have HG2:=Lib.hid g2
  have HG3:=Lib.hid g3
  have HA:=Lib.hid a
  have HK1:=Lib.hid hk1
  clear a g2 g3 hk1 hm HU
  go_wp2_with fail
  refine HP.out.mono ?_
  rintro e w4 ⟨rfl,h4⟩
  have HF:=Lib.hid (HA.out.added HOK.out HG2.out HG3.out h4)
  clear h4
  go_wp2_with fail
  go_ret
  exact⟨rfl,HF.out.1,HK1.out.trans HF.out.2⟩
def befR (x y:Tr):Bool:=decide (x.2.1 < y.2.1∨x.2.1=y.2.1∧x.1 < y.1)
theorem befR_no {x y:Tr}:befR x y=false↔¬ (x.2.1 < y.2.1∨x.2.1=y.2.1∧x.1 < y.1):=by simp [befR]
theorem uniq_id:∀ {r:List Tr},r.Pairwise (fun x y=>x.1≠y.1)→∀ {x y:Tr},x∈r→y∈r→x.1=y.1→x=y
  | [],_,_,_,hx,_,_=>by cases hx
  | a :: r,h,x,y,hx,hy,e=>by
    obtain⟨h1,h2⟩:=List.pairwise_cons.1 h
    rcases List.mem_cons.1 hx with rfl | hx
    · rcases List.mem_cons.1 hy with rfl | hy
      · rfl
      · exact absurd e (h1 y hy)
    · rcases List.mem_cons.1 hy with hy | hy
      · exact absurd (hy ▸ e.symm) (h1 x hx)
      · exact uniq_id h2 hx hy e
def Least (x:Tr) (r:List Tr):Prop:=x∈r∧∀ y∈r,befR y x=false
theorem QueA.first {S:Nat→Prop} {q N n mb:Nat} {r:List Tr} {f:Nat→Tm} {v:Value} {w:World} (a:QueA S q N r n f v mb w) {x:Tr} (hx:Least x r):0 < n∧tri (f 0)=x:=by
  obtain⟨i,hi,rfl⟩:=a.at hx.1
  have h0:0 < n:=by omega
  have hm:tri (f 0)∈r:=a.rep.mem_iff.2 (List.mem_map.2 ⟨f 0,mem_TL.2 ⟨0,h0,rfl⟩,rfl⟩)
  have h1:=hx.2 _ hm
  have h2:=a.heap.least i hi
  rw [befR_no] at h1
  rw [befT_no] at h2
  refine⟨h0,uniq_id a.ids hm hx.1 ?_⟩
  show (f 0).id=(f i).id
  have e1:(tri (f 0)).2.1=(f 0).t:=rfl
  have e2:(tri (f 0)).1=(f 0).id:=rfl
  have e3:(tri (f i)).2.1=(f i).t:=rfl
  have e4:(tri (f i)).1=(f i).id:=rfl
  rw [e1,e2,e3,e4] at h1
  omega
theorem results3 {fn:Func} {t u v:Tmp} (h:fn.results=#[.tmp t,.tmp u,.tmp v]) (tmps:Array Value) (P:Program) (w:World) :
    (results fn tmps).run P w=.ok (.tuple #[tmps.getD t undef,tmps.getD u undef,tmps.getD v undef]) w:=by
  simp [results,h]
set_option maxRecDepth 8000 in
theorem next_late {S:Nat→Prop} {q N:Nat} {r:List Tr} {w:World} (h:QueI S q N r w) {x:Tr} (hx:Least x r) (now:Int) (hl:(if 1099511627776 < now then 1099511627776 else now) < x.2.1):Calls Tryz.prog 114 #[.pointer (some ⟨q,0,none⟩),.int .i64 now] w fun e w'=>e=.returned (.tuple #[.int .i64 0,.int .i64 0,.bool false])∧w=w':=by
  have HL:=Lib.hid (queLen_any h)
  obtain⟨n,f,v,mb,a⟩:=h
  obtain⟨h0,rfl⟩:=a.first hx
  obtain⟨B,c,rfl,hR⟩:=a.rowI h0
  have ht0:=hR.tim 0 h0
  have cs:=hR.sl
  have c1:=ht0.row
  have c2:=ht0.t
  have hle:=hR.le
  replace hl:(if 1099511627776 < now then 1099511627776 else now) < (f 0).t:=hl
  rw [a.len] at HL
  clear a hR ht0 hx
  generalize (f 0).t=t at *
  generalize (f 0).b=b at *
  have hn0:((n:Int)==0)=false:=by rw [beq_eq_false_iff_ne];omega
  have hl2:(1099511627776 < now∧1099511627776 < t)∨(now≤1099511627776∧now < t):=by
    by_cases hk:1099511627776 < now
    · rw [if_pos hk] at hl;exact .inl ⟨hk,hl⟩
    · rw [if_neg hk] at hl;exact .inr ⟨by omega,hl⟩
  clear hl
  rcases hl2 with ⟨hk,hl⟩ | ⟨hk,hl⟩
  all_goals
    go_enter Tryz.func114,Tryz.ntmps114
    go_wp2_with fail
    refine HL.out.mono ?_
    rintro e w' ⟨rfl,rfl⟩
    go_wp2_with fail
    try simp only [Exit.inBlock,Exit.then]
    refine bodyPost_ret (results3 rfl _ _ _) rfl ?_
    exact⟨rfl,rfl⟩
theorem TL_cons (f:Nat→Tm) (m:Nat):TL f (m+1)=f 0 :: TL (fun k=>f (k+1)) m:=by
  unfold TL
  rw [List.range_succ_eq_map,List.map_cons,List.map_map]
  rfl
def lateF (f:Nat→Tm):Nat→Tm:=fun k=>if k=0 then ⟨(f 0).b,(f 0).id,(f 0).t+(f 0).ev,(f 0).ev⟩ else f k
theorem lateF_s (f:Nat→Tm) {k:Nat} (h:0 < k):lateF f k=f k:=if_neg (by omega)
theorem lateF_b (f:Nat→Tm) (k:Nat):(lateF f k).b=(f k).b∧(lateF f k).id=(f k).id:=by
  unfold lateF
  split
  · rename_i h;subst h;exact⟨rfl,rfl⟩
  · exact⟨rfl,rfl⟩
theorem RowI.later {S:Nat→Prop} {q B c n:Nat} {f:Nat→Tm} {w:World} (h:RowI S q B c n f w) (h0:0 < n):RowI S q B c n (lateF f) (w.setCell ⟨(f 0).b,1,none⟩ (.int .i64 ((f 0).t+(f 0).ev))):=by
  have t0:=h.tim 0 h0
  have hk:KeptS (fun k=>k≠(f 0).b) w (w.setCell ⟨(f 0).b,1,none⟩ (.int .i64 ((f 0).t+(f 0).ev))):=(KeptS.refl _ w).set (fun e=>e rfl) _ _
  have hc:∀ o,o≠1→(w.setCell ⟨(f 0).b,1,none⟩ (.int .i64 ((f 0).t+(f 0).ev))).cell? ⟨(f 0).b,o,none⟩=w.cell? ⟨(f 0).b,o,none⟩:=fun o ho=>World.cell?_setCell_other _ _ _ _ (fun e=>by injection e with _ e;exact ho e.symm)
  refine⟨(hk.cell t0.neq.symm).trans h.sl,fun i hi=>?_,fun i j hi hj e=>h.inj i j hi hj (by rw [← (lateF_b f i).1,← (lateF_b f j).1];exact e),h.neq,h.out,h.le,h.blk.set _ _ _⟩
  by_cases e:i=0
  · subst e
    exact⟨(hk.cell t0.neB.symm).trans t0.row,(hk.frozen t0.neB.symm).trans t0.rowf,(hc 0 (by decide)).trans t0.id,World.cell?_setCell_same _ _ _ t0.t,(hc 2 (by decide)).trans t0.ev,(hc 3 (by decide)).trans t0.place,fun o=>by rw [World.frozen?_setCell];exact t0.fro o,t0.neB,t0.neq,t0.out⟩
  · rw [lateF_s f (by omega)]
    exact (h.tim i hi).keep hk t0.neB.symm (fun e2=>e (h.inj i 0 hi h0 e2))
theorem QueA.later {S:Nat→Prop} {q N n mb B c:Nat} {r:List Tr} {f f2:Nat→Tm} {v:Value} {w w1 w2:World} (a:QueA S q N r n f v mb w) (h0:0 < n) (hR:RowI (fun k=>S k∨k=mb) q B c n f w) (hlim:(f 0).t≤1099511627776)
    (hk1:KeptS (fun k=>k≠(f 0).b) w w1) (h1:RowI (fun k=>S k∨k=mb) q B c n f2 w2) (h2:HeapF f2 n) (h3:SameS (lateF f) f2 n) (h4:KeptS (fun k=>(S k∨k=mb)∨k=q) w1 w2) :
    QueI S q N (((f 0).id,(f 0).t+(f 0).ev,(f 0).ev) :: without r (f 0).id) w2∧KeptS S w w2∧w2.cell? ⟨(f 0).b,0,none⟩=some (.int .i64 (f 0).id):=by
  obtain⟨m,rfl⟩:∃ m,n=m+1:=⟨n - 1,by omega⟩
  have t0:=hR.tim 0 h0
  have hx:=a.ok (tri (f 0)) (a.rep.mem_iff.2 (List.mem_map.2 ⟨f 0,mem_TL.2 ⟨0,h0,rfl⟩,rfl⟩))
  have hp:=h3.perm (fun i j hi hj e=>a.inj i j hi hj (by rw [← (lateF_b f i).1,← (lateF_b f j).1];exact e)) h1.inj
  have hmb:mb≠(f 0).b:=fun e=>t0.out (.inr e.symm)
  have hkq:KeptS (fun k=>(S k∨k=mb)∨k=q) w w2:=by
    refine (hk1.less fun k hk=>?_).trans h4
    rcases hk with hk | hk
    · exact fun e=>t0.out (e ▸ hk)
    · exact fun e=>t0.neq (e.symm.trans hk)
  have etl:(TL (lateF f) (m+1)).map (fun x:Tm=>(x.id,x.b))=(TL f (m+1)).map fun x=>(x.id,x.b):=by
    unfold TL
    rw [List.map_map,List.map_map]
    exact List.map_congr_left fun k _=>Prod.ext (lateF_b f k).2 (lateF_b f k).1
  have erest:TL (fun k=>lateF f (k+1)) m=TL (fun k=>f (k+1)) m:=TL_congr fun k _=>lateF_s f (by omega)
  have hdist:=(List.pairwise_cons.1 (TL_cons f m ▸ a.pm.distinct)).1
  have hrep:r.Perm (tri (f 0) :: (TL (fun k=>f (k+1)) m).map tri):=by have:=a.rep;rw [TL_cons] at this;exact this
  have hwo:(without r (f 0).id).Perm ((TL (fun k=>f (k+1)) m).map tri):=without_perm (x:=tri (f 0)) hrep fun y hy=>by
    obtain⟨z,hz,rfl⟩:=List.mem_map.1 hy
    exact fun e=>hdist z hz e.symm
  refine⟨⟨m+1,f2,.slice (some ⟨B,0,none⟩) (m+1) c,mb,⟨.inr ⟨B,c,rfl,h1⟩,h2,(hkq.cell (.inr rfl)).trans a.map,fun o=>(hkq.frozen (.inr rfl)).trans (a.fro o),?_,fun x hx'=>?_,?_,a.outq,a.outm,fun k hk=>Nat.lt_of_lt_of_le (a.lt k hk) hkq.size⟩⟩,hkq.less (fun _ h=>.inl (.inl h)),?_⟩
  · have h5:=hp.map (fun x:Tm=>(x.id,x.b))
    rw [etl] at h5
    exact (a.pm.block (hkq.block mb (.inl (.inr rfl)))).perm h5
  · rcases List.mem_cons.1 hx' with rfl | hx'
    · obtain⟨x1,x2,x3,x4,x5,x6⟩:=hx
      have e3:(tri (f 0)).2.1=(f 0).t:=rfl
      have e5:(tri (f 0)).2.2=(f 0).ev:=rfl
      rw [e3] at x3 x4
      rw [e5] at x5 x6
      exact⟨x1,x2,by show 0≤(f 0).t+(f 0).ev;omega,by show (f 0).t+(f 0).ev≤_;omega,x5,x6⟩
    · exact a.ok x (List.mem_filter.1 hx').1
  · have h5:=hp.map tri
    rw [TL_cons,erest] at h5
    exact (hwo.cons _).trans h5
  · obtain⟨j,hj,e⟩:=h3.2 0 h0
    have tj:=h1.tim j hj
    rw [e] at tj
    exact tj.id
set_option maxRecDepth 8000 in
set_option maxHeartbeats 1000000 in
theorem next_again {S:Nat→Prop} {q N:Nat} {r:List Tr} {w:World} (h:QueI S q N r w) {x:Tr} (hx:Least x r) (now:Int) (hl:¬ (if 1099511627776 < now then 1099511627776 else now) < x.2.1) (he:x.2.2≠0) :
    Calls Tryz.prog 114 #[.pointer (some ⟨q,0,none⟩),.int .i64 now] w fun e w'=>e=.returned (.tuple #[.int .i64 x.1,.int .i64 x.2.1,.bool true])∧QueI S q N ((x.1,x.2.1+x.2.2,x.2.2) :: without r x.1) w'∧KeptS S w w':=by
  have HL:=Lib.hid (queLen_any h)
  obtain⟨n,f,v,mb,a⟩:=h
  obtain⟨h0,rfl⟩:=a.first hx
  obtain⟨B,c,rfl,hR⟩:=a.rowI h0
  have ht0:=hR.tim 0 h0
  have cs:=hR.sl
  have c1:=ht0.row
  have c0:=ht0.id
  have c2:=ht0.t
  have c3:=ht0.ev
  have cf:=ht0.fro 1
  have hle:=hR.le
  replace hl:¬ (if 1099511627776 < now then 1099511627776 else now) < (f 0).t:=hl
  have hlim:(f 0).t≤1099511627776:=by split at hl <;> omega
  have hok:=a.ok (tri (f 0)) hx.1
  have hw:IntKind.i64.wrap ((f 0).t+(f 0).ev)=(f 0).t+(f 0).ev:=by
    obtain⟨x1,x2,x3,x4,x5,x6⟩:=hok
    have e3:(tri (f 0)).2.1=(f 0).t:=rfl
    have e5:(tri (f 0)).2.2=(f 0).ev:=rfl
    rw [e3] at x3 x4
    rw [e5] at x5 x6
    exact IntWalk.i64_in _ (by omega)
  have hev:((f 0).ev==0)=false:=by rw [beq_eq_false_iff_ne];exact he
  have hk1:∀ k,KeptS (fun k=>k≠(f 0).b) w ((w.setCell ⟨(f 0).b,1,none⟩ (.int .i64 ((f 0).t+(f 0).ev))).drewN k):=fun k=>((KeptS.refl _ w).set (fun e=>e rfl) _ _).drewN k
  have HK1:=Lib.hid hk1
  have HFX:Hid (∀ k,Calls Tryz.prog 142 #[heapV q,.int .i64 0] ((w.setCell ⟨(f 0).b,1,none⟩ (.int .i64 ((f 0).t+(f 0).ev))).drewN k) fun e w'=>e=.returned (.tuple #[])∧∃ f',RowI (fun k=>S k∨k=mb) q B c n f' w'∧HeapF f' n∧SameS (lateF f) f' n∧KeptS (fun k=>(S k∨k=mb)∨k=q) ((w.setCell ⟨(f 0).b,1,none⟩ (.int .i64 ((f 0).t+(f 0).ev))).drewN k) w'):=fun k=>
    heapFix_any ((hR.later h0).drewN k) h0 (by have:=a.few;omega) (DnI.root a.heap (fun k hk=>lateF_s f hk))
  have HFIN:Hid (∀ k f2 w2,RowI (fun k=>S k∨k=mb) q B c n f2 w2→HeapF f2 n→SameS (lateF f) f2 n→KeptS (fun k=>(S k∨k=mb)∨k=q) ((w.setCell ⟨(f 0).b,1,none⟩ (.int .i64 ((f 0).t+(f 0).ev))).drewN k) w2→QueI S q N (((f 0).id,(f 0).t+(f 0).ev,(f 0).ev) :: without r (f 0).id) w2∧KeptS S w w2∧w2.cell? ⟨(f 0).b,0,none⟩=some (.int .i64 (f 0).id)):=fun k f2 w2 a1 a2 a3 a4=>
    a.later h0 hR hlim (HK1.out k) a1 a2 a3 a4
  rw [a.len] at HL
  clear a hR ht0 hx hok hk1 HK1 he
  show Calls Tryz.prog 114 #[.pointer (some ⟨q,0,none⟩),.int .i64 now] w fun e w'=>e=.returned (.tuple #[.int .i64 (f 0).id,.int .i64 (f 0).t,.bool true])∧QueI S q N (((f 0).id,(f 0).t+(f 0).ev,(f 0).ev) :: without r (f 0).id) w'∧KeptS S w w'
  generalize (f 0).t=t at *
  generalize (f 0).ev=ev at *
  generalize (f 0).b=b at *
  generalize (f 0).id=id at *
  have hn0:((n:Int)==0)=false:=by rw [beq_eq_false_iff_ne];omega
  have hl2:(1099511627776 < now∧¬ 1099511627776 < t)∨(now≤1099511627776∧¬ now < t):=by
    by_cases hk:1099511627776 < now
    · rw [if_pos hk] at hl;exact .inl ⟨hk,hl⟩
    · rw [if_neg hk] at hl;exact .inr ⟨by omega,hl⟩
  clear hl
  rcases hl2 with ⟨hk,hl⟩ | ⟨hk,hl⟩
  all_goals
    go_enter Tryz.func114,Tryz.ntmps114
    go_wp2_with fail
    refine HL.out.mono ?_
    rintro e w' ⟨rfl,rfl⟩
    go_wp2_with fail
    go_region
    clear c0 c1 c2 c3 cs cf
    go_wp2_with fail
    refine (HFX.out 1).mono ?_
    rintro e w2 ⟨rfl,f2,a1,a2,a3,a4⟩
    obtain⟨g1,g2,g3⟩:=HFIN.out 1 f2 w2 a1 a2 a3 a4
    have G1:=Lib.hid g1
    have G2:=Lib.hid g2
    clear g1 g2 a1 a2 a3 a4 HFX HFIN
    go_wp2_with fail
    try simp only [Exit.inBlock,Exit.then]
    refine bodyPost_ret (results3 rfl _ _ _) rfl ?_
    exact⟨rfl,G1.out,G2.out⟩
end Go.Proofs.YtaiepcgfofpmjaaGreat
