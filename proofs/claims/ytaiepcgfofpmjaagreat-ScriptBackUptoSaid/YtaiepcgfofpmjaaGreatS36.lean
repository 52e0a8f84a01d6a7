/- Layer 44: a young node's time goes by (stream, tick, Do). -/
import Derived.Test.YtaiepcgfofpmjaaGreatS22
import Derived.Deep.LoopGhost
import Derived.Test.YtaiepcgfofpmjaaGreatS20
namespace Go.Proofs.YtaiepcgfofpmjaaGreat
set_option linter.unusedVariables false
open Go.RowKit
theorem TickI.on {M:Nat→Prop} {w1 w0:World} {nb B g b tq:Nat} {hr ak bk:Value} {now:Int} {k:Nat} {r:List Tr} {W W':World} (h:TickI M w1 w0 nb B g b tq hr ak bk now k r W) (hb':Below W.heap.size W W'):TickI M w1 w0 nb B g b tq hr ak bk now k r W':=by
  obtain⟨⟨S,N,out,l,h1,h2,h3,h4,h5,h6,h7,h8,h9,h10,h11,h12⟩,hkp,hb,ho⟩:=h
  exact⟨⟨S,N,out,l,h1.on hb',h2.on hb',h3.below hb',own_on h4 hb',h5,fun i hi=>⟨((h6 i hi).1.keep fun j q=>hb'.block j q.2.2.1).less fun j q=>⟨q.1,q.2.1,Nat.lt_of_lt_of_le q.2.2.1 hb'.size,q.2.2.2⟩,(h6 i hi).2⟩,h7,h8,h9,h10,h11,fun j q=>⟨(h12 j q).1,(h12 j q).2.1,Nat.lt_of_lt_of_le (h12 j q).2.2.1 hb'.size,(h12 j q).2.2.2⟩⟩,hkp.trans (KeptS.of_below hb' fun j q=>(h12 j q).2.2.1),bthen hb hb',⟨ho.1,ho.2.1,ho.2.2.1,ho.2.2.2.1,ho.2.2.2.2.1,ho.2.2.2.2.2.1,ho.2.2.2.2.2.2.1,ho.2.2.2.2.2.2.2.1,ho.2.2.2.2.2.2.2.2.1,Nat.le_trans ho.2.2.2.2.2.2.2.2.2 hb'.size⟩⟩
theorem TickI.clock {M:Nat→Prop} {w1 w0:World} {nb B g b tq:Nat} {hr ak bk:Value} {now:Int} {k:Nat} {r:List Tr} {W:World} (h:TickI M w1 w0 nb B g b tq hr ak bk now k r W) (now':Int):TickI M w1 w0 nb B g b tq hr ak bk now' k r (W.setCell ⟨nb,4,none⟩ (.int .i64 now')):=by
  obtain⟨⟨S,N,out,l,h1,h2,h3,h4,h5,h6,h7,h8,h9,h10,h11,h12⟩,hkp,hb,ho⟩:=h
  have fx:∀ j,j≠nb→(W.setCell ⟨nb,4,none⟩ (.int .i64 now')).heap[j]?=W.heap[j]?:=fun j q=>Below.heap_setCell _ _ _ _ q
  have hz:(W.setCell ⟨nb,4,none⟩ (.int .i64 now')).heap.size=W.heap.size:=by simp
  obtain⟨o1,o2,o3,o4,o5,o6,o7,o8,o9,o10⟩:=ho
  refine⟨⟨_,N,out,l,(h1.set (o:=4) (by show 4 < 31;omega) (.int .i64 now')).1,h2.keptB (fx g (fun e=>o4 e.symm)) (fx b (fun e=>o5 e.symm)) (Nat.le_of_eq hz.symm),h3.away ⟨rfl,rfl,rfl,Nat.le_of_eq hz.symm,fun j q=>fx j fun e=>q.2 (e ▸ h7)⟩,own_set h4 o6 _,h5,fun i hi=>⟨((h6 i hi).1.keep fun j q=>fx j q.2.2.2.1).less fun j q=>⟨.inl q.1,q.2.1,by rw [hz];exact q.2.2.1,q.2.2.2⟩,(h6 i hi).2⟩,.inl h7,.inl h8,.inl h9,fun j q=>.inl (h10 j q),fun j q=>.inl (h11 j q),fun j q=>⟨.inl (h12 j q).1,(h12 j q).2.1,by rw [hz];exact (h12 j q).2.2.1,(h12 j q).2.2.2⟩⟩,hkp.set (fun q=>(h12 nb q).2.1 rfl) _ _,hb.setCell (by show w0.heap.size≤nb;exact o1) _,⟨o1,o2,o3,o4,o5,o6,o7,o8,o9,by rw [hz];exact o10⟩⟩
theorem and_small (k:Nat) (h:k≤10):bits .and .i64 (k:Int) 255=(k:Int):=by
  rcases (by omega:k=0∨k=1∨k=2∨k=3∨k=4∨k=5∨k=6∨k=7∨k=8∨k=9∨k=10) with rfl | rfl | rfl | rfl | rfl | rfl | rfl | rfl | rfl | rfl | rfl <;> rfl
theorem TickI.stream {M:Nat→Prop} {w1 w0:World} {nb B g b tq:Nat} {hr ak bk:Value} {now:Int} {k:Nat} {r:List Tr} {W:World} (h:TickI M w1 w0 nb B g b tq hr ak bk now k r W) (hk:k≤10) :
    Calls Tryz.prog 115 #[.pointer (some ⟨nb,0,none⟩),.int .i64 (fireK k).1,.int .i64 (fireK k).2.1] W fun e w'=>e=.returned (.tuple #[])∧TickI M w1 w0 nb B g b tq hr ak bk now (k+1) r w':=by
  obtain⟨⟨S,N,out,l,h1,h2,h3,h4,h5,h6,h7,h8,h9,h10,h11,h12⟩,hkp,hb,ho⟩:=h
  have h13:∀ j,out.ownBlock=some j→S j∧B≤j:=fun j q=>⟨h10 j q,(own_cells h4 q).1⟩
  have ho':=ho
  obtain⟨o1,o2,o3,o4,o5,o6,o7,o8,o9,o10⟩:=ho
  by_cases h9k:k=9
  · subst h9k
    exact (stream0_any nb B g tq hr ak bk out 9 (evsV l) 1 1 9 9 now h1 h4 o6 o10 (by omega) rfl (by omega) (by omega) (by omega) (by omega) b h2 1000).mono fun e w' hs=>⟨hs.1,TickI.sent h1 h2 h3 h5 h6 h7 h8 h9 h13 h11 h12 hkp hb ho' hs⟩
  · obtain⟨T,hT,e1⟩:∃ T:Nat,T < 4294967296∧fireK k=(1,(T:Int),100):=by
      unfold fireK
      rw [if_neg h9k]
      by_cases hk8:k < 9
      · exact⟨100 * (k+1),by omega,by rw [if_pos hk8];simp⟩
      · exact⟨100 * k,by omega,by rw [if_neg hk8];simp⟩
    have e2:lenK k=22:=if_neg h9k
    rw [e1]
    exact (stream1_any nb B g tq hr ak bk out k (evsV l) 1 1 k k now h1 h4 o6 o10 (by omega) (and_small k hk) (by omega) (by omega) (by omega) (by omega) T hT).mono fun e w' hs=>⟨hs.1,TickI.sent h1 h2 h3 h5 h6 h7 h8 h9 h13 h11 h12 hkp hb ho' (by rw [e2];exact hs)⟩
theorem TickI.facts {M:Nat→Prop} {w1 w0:World} {nb B g b tq:Nat} {hr ak bk:Value} {now:Int} {k:Nat} {r:List Tr} {W:World} (h:TickI M w1 w0 nb B g b tq hr ak bk now k r W):W.cell? ⟨nb,4,none⟩=some (.int .i64 now)∧(∀ o,W.frozen? ⟨nb,o,none⟩=false)∧W.cell? ⟨nb,15,none⟩=some (.pointer (some ⟨tq,0,none⟩))∧W.cell? ⟨nb,5,none⟩=some (.pointer (some ⟨g,0,none⟩))∧nb < W.heap.size:=by
  obtain⟨⟨S,N,out,l,h1,-⟩,-,-,-⟩:=h
  exact⟨h1.cell 4 rfl,h1.fz,h1.cell 15 rfl,h1.cell 5 rfl,h1.lt⟩
def tickC (A1:Option Addr) (c1:Nat) (A2:Option Addr) (c2:Nat) (A3:Option Addr) (c3:Nat) (now:Int):Array Value:=#[.int .i64 1,.slice A1 0 c1,.int .i64 now,.int .i64 0,.slice A2 0 c2,.int .i64 0,.slice A3 0 c3]
def LoopK (M:Nat→Prop) (w1 w0:World) (nb B g b tq:Nat) (hr ak bk:Value) (now:Int) (m k:Nat) (u5 u6 u7:Value) (W:World):Prop:=
  (k < m∧u5=.int .i64 (fireK k).1∧u6=.int .i64 (fireK k).2.1∧u7=.bool true∧TickI M w1 w0 nb B g b tq hr ak bk now k (rowK (k+1)) W)∨(k=m∧u7=.bool false∧TickI M w1 w0 nb B g b tq hr ak bk now m (rowK m) W)
set_option maxRecDepth 8000 in
set_option maxHeartbeats 1000000 in
theorem nodTick_any {A1 A2 A3:Option Addr} {c1 c2 c3:Nat} {M:Nat→Prop} {w w1 w0:World} {nb B g b tq:Nat} {hr ak bk:Value} (now:Int) (m:Nat) (hm:now=1000∧m=11∨now=100∧m=1) (h:TickI M w1 w0 nb B g b tq hr ak bk 0 0 (rowK 0) w) :
    Calls Tryz.prog 74 #[.pointer (some ⟨nb,0,none⟩),.agg #[.int .i64 1,.slice A1 0 c1,.int .i64 now,.int .i64 0,.slice A2 0 c2,.int .i64 0,.slice A3 0 c3]] w fun e w'=>e=.returned (.tuple #[])∧TickI M w1 w0 nb B g b tq hr ak bk now m (rowK m) w':=by
  have hd:∀ i,i < m→(fireK i).2.1≤now:=fun i hi=>by
    rcases hm with ⟨rfl,rfl⟩ | ⟨rfl,rfl⟩
    · rcases (by omega:i=0∨i=1∨i=2∨i=3∨i=4∨i=5∨i=6∨i=7∨i=8∨i=9∨i=10) with rfl | rfl | rfl | rfl | rfl | rfl | rfl | rfl | rfl | rfl | rfl <;> decide
    · obtain rfl:i=0:=by omega
      decide
  have hend:now < (fireK m).2.1:=by rcases hm with ⟨rfl,rfl⟩ | ⟨rfl,rfl⟩ <;> decide
  have hm1:1≤m∧m≤11:=by omega
  have hn0:0≤now∧now≤10000:=by omega
  have HD:=Lib.hid (And.intro hd (And.intro hend (And.intro hm1 hn0)))
  have HT:=Lib.hid (h.on (below_new w (.cells (tickC A1 c1 A2 c2 A3 c3 now) 30)))
  have hbx:∀ o v,(tickC A1 c1 A2 c2 A3 c3 now)[o]?=some v→(w.alloc (.cells (tickC A1 c1 A2 c2 A3 c3 now) 30)).cell? ⟨w.heap.size,o,none⟩=some v:=fun o v q=>(World.cell?_alloc_at _ _ _ _ rfl).trans q
  have k2:=hbx 2 (.int .i64 now) rfl
  have n1:¬ now < 0:=by omega
  have n2:now≤10000:=hn0.2
  have hnl:now≤1099511627776:=by omega
  clear h hd hend hm1 hn0 hm hbx
  show Calls Tryz.prog _ #[_,.agg (tickC A1 c1 A2 c2 A3 c3 now)] w _
  unfold tickC at *
  go_enter Tryz.func74,Tryz.ntmps74
  go_upto_region 3 with fail
  generalize hW1:w.alloc (.cells #[.int .i64 1,.slice A1 0 c1,.int .i64 now,.int .i64 0,.slice A2 0 c2,.int .i64 0,.slice A3 0 c3] 30)=W1 at *
  obtain⟨t4,tf,t15,t5,tl⟩:=HT.out.facts
  have tf4:=tf 4
  go_region
  go_wp2_with fail
  have hwr:IntKind.i64.wrap (0+now)=now:=by rw [Int.zero_add];exact IntWalk.i64_in _ (by omega)
  go_region
  have HT2:Hid (TickI M w1 w0 nb B g b tq hr ak bk now 0 (rowK 0) (W1.setCell ⟨nb,4,none⟩ (.int .i64 now)).drew.drew):=Lib.hid ((HT.out.clock now).on (bdrew (bdrew (Below.refl _ _))))
  generalize (W1.setCell ⟨nb,4,none⟩ (.int .i64 now)).drew.drew=W2 at *
  clear t4 tf t15 t5 tl tf4 k2 HT hW1
  obtain⟨t4,-,t15,-,-⟩:=HT2.out.facts
  have HN:=Lib.hid (HT2.out.next (i:=0) (by omega) (HD.out.1 0 (by have:=HD.out.2.2.1;omega)) n2)
  clear HT2
  go_wp2_with fail
  refine HN.out.mono ?_
  rintro e w3 ⟨rfl,hT3⟩
  have HL3:Hid (LoopK M w1 w0 nb B g b tq hr ak bk now m 0 (.int .i64 (fireK 0).1) (.int .i64 (fireK 0).2.1) (.bool true) w3):=Lib.hid (.inl ⟨by have:=HD.out.2.2.1;omega,rfl,rfl,rfl,hT3⟩)
  clear hT3 t4 t15 HN
  go_wp2_with fail
  go_loopg [5,6,7] m (fun gg u5 u6 u7 wr=>∃ k:Nat,k≤m∧m - k≤gg∧Hid (LoopK M w1 w0 nb B g b tq hr ak bk now m k u5 u6 u7 wr))
  case atStart=>exact⟨0,by omega,by omega,HL3⟩
  case round=>
    obtain⟨k,hk,hg,HL⟩:=hrel
    clear HL3
    rcases HL.out with ⟨hkm,rfl,rfl,rfl,hT⟩ | ⟨rfl,rfl,hT⟩
    · have HS:=Lib.hid (hT.stream (by have:=HD.out.2.2.1;omega))
      clear HL hT
      go_wp2_with fail
      refine HS.out.mono ?_
      rintro e w4 ⟨rfl,hT4⟩
      obtain⟨t4,-,t15,-,-⟩:=hT4.facts
      by_cases hlast:k+1=m
      · have HN:Hid (Calls Tryz.prog 114 #[.pointer (some ⟨tq,0,none⟩),.int .i64 now] w4 fun e w'=>e=.returned (.tuple #[.int .i64 0,.int .i64 0,.bool false])∧w4=w'):=Lib.hid (by rw [hlast] at hT4;exact hT4.late (by have:=HD.out.2.2.1;omega) HD.out.2.1 n2)
        have HT4:=Lib.hid hT4
        have HLA:=Lib.hid hlast
        clear hT4 hlast
        go_wp2_with fail
        refine HN.out.mono ?_
        rintro e w5 ⟨rfl,rfl⟩
        have HL5:Hid (LoopK M w1 w0 nb B g b tq hr ak bk now m (k+1) (.int .i64 0) (.int .i64 0) (.bool false) w4):=Lib.hid (.inr ⟨HLA.out,rfl,by have:=HT4.out;rwa [HLA.out] at this⟩)
        clear HT4 t4 t15
        go_wp2_with fail
        go_roundg (m - (k+1))
        case rel=>exact⟨k+1,by omega,by omega,HL5⟩
        case measure=>omega
      · have HN:=Lib.hid (hT4.next (i:=k+1) (by have:=HD.out.2.2.1;omega) (HD.out.1 (k+1) (by omega)) n2)
        clear hT4
        go_wp2_with fail
        refine HN.out.mono ?_
        rintro e w5 ⟨rfl,hT5⟩
        have HL5:Hid (LoopK M w1 w0 nb B g b tq hr ak bk now m (k+1) (.int .i64 (fireK (k+1)).1) (.int .i64 (fireK (k+1)).2.1) (.bool true) w5):=Lib.hid (.inl ⟨by omega,rfl,rfl,rfl,hT5⟩)
        clear hT5 t4 t15
        go_wp2_with fail
        go_roundg (m - (k+1))
        case rel=>exact⟨k+1,by omega,by omega,HL5⟩
        case measure=>omega
    · have HT5:=Lib.hid hT
      clear HL hT
      go_wp2_with fail
      exact bodyPost_end (v:=.tuple #[]) (by simp [results,Tryz.results74,go_sem]) rfl ⟨rfl,HT5.out⟩
theorem TickI.fresh {M:Nat→Prop} {w1 w0:World} {nb B g b tq:Nat} {hr ak bk:Value} {now:Int} {r:List Tr} {W:World} (h:TickI M w1 w0 nb B g b tq hr ak bk now 0 r W):TickI M w1 w0 nb B g b tq hr ak bk now 0 r (W.setCell ⟨nb,3,none⟩ (.slice none 0 0)):=by
  obtain⟨⟨S,N,out,l,h1,h2,h3,h4,h5,h6,h7,h8,h9,h10,h11,h12⟩,hkp,hb,ho⟩:=h
  have fx:∀ j,j≠nb→(W.setCell ⟨nb,3,none⟩ (.slice none 0 0)).heap[j]?=W.heap[j]?:=fun j q=>Below.heap_setCell _ _ _ _ q
  have hz:(W.setCell ⟨nb,3,none⟩ (.slice none 0 0)).heap.size=W.heap.size:=by simp
  obtain⟨o1,o2,o3,o4,o5,o6,o7,o8,o9,o10⟩:=ho
  exact⟨⟨_,N,.slice none 0 0,[],(h1.set (o:=3) (by show 3 < 31;omega) (.slice none 0 0)).1,h2.keptB (fx g (fun e=>o4 e.symm)) (fx b (fun e=>o5 e.symm)) (Nat.le_of_eq hz.symm),h3.away ⟨rfl,rfl,rfl,Nat.le_of_eq hz.symm,fun j q=>fx j fun e=>q.2 (e ▸ h7)⟩,World.ownsRow_nil _ _ _ _,rfl,fun i hi=>absurd hi (Nat.not_lt_zero _),.inl h7,.inl h8,.inl h9,fun j q=>(by cases q),fun j q=>.inl (h11 j q),fun j q=>⟨.inl (h12 j q).1,(h12 j q).2.1,by rw [hz];exact (h12 j q).2.2.1,fun z=>by cases z⟩⟩,hkp.set (fun q=>(h12 nb q).2.1 rfl) _ _,hb.setCell (by show w0.heap.size≤nb;exact o1) _,⟨o1,o2,o3,o4,o5,o6,o7,o8,o9,by rw [hz];exact o10⟩⟩
theorem TickI.out {M:Nat→Prop} {w1 w0:World} {nb B g b tq:Nat} {hr ak bk:Value} {now:Int} {k:Nat} {r:List Tr} {W:World} (h:TickI M w1 w0 nb B g b tq hr ak bk now k r W):∃ A c,W.cell? ⟨nb,3,none⟩=some (.slice A k c)∧W.frozen? ⟨nb,3,none⟩=false:=by
  obtain⟨⟨S,N,out,l,h1,h2,h3,h4,-⟩,-,-,-⟩:=h
  obtain⟨A,c,rfl,-⟩:=flatq_own h4
  exact⟨A,c,h1.cell 3 rfl,h1.fz 3⟩
def DoneI (M:Nat→Prop) (w1 w0:World) (nb g:Nat) (now:Int) (m:Nat) (e:Ending) (w':World):Prop:=
  ∃ (A:Option Addr) (c:Nat) (l:List EvT),e=.returned (.slice A m c)∧l.length=m∧FlatQ (fun j=>j < w'.heap.size) w' A (evsV l) ∧
    (∀ (i:Nat) (h:i < l.length),FlatQ (fun j=>j < w'.heap.size) w' l[i].2.1 (bsV l[i].1)∧l[i].1[0]?=some 254∧l[i].1.length=lenK i)∧Below w0.heap.size w0 w'∧w'.cell? ⟨nb,4,none⟩=some (.int .i64 now)∧w'.cell? ⟨nb,5,none⟩=some (.pointer (some ⟨g,0,none⟩))∧nb < w'.heap.size∧KeptS M w1 w'
theorem TickI.done {M:Nat→Prop} {w1 w0:World} {nb B g b tq:Nat} {hr ak bk:Value} {now:Int} {k:Nat} {r:List Tr} {W:World} {A:Option Addr} {c:Nat} (h:TickI M w1 w0 nb B g b tq hr ak bk now k r W) (hA:W.cell? ⟨nb,3,none⟩=some (.slice A k c)):DoneI M w1 w0 nb g now k (.returned (.slice A k c)) (W.setCell ⟨nb,3,none⟩ (.slice none 0 0)):=by
  obtain⟨⟨S,N,out,l,h1,h2,h3,h4,h5,h6,h7,h8,h9,h10,h11,h12⟩,hkp,hb,ho⟩:=h
  have fx:∀ j,j≠nb→(W.setCell ⟨nb,3,none⟩ (.slice none 0 0)).heap[j]?=W.heap[j]?:=fun j q=>Below.heap_setCell _ _ _ _ q
  have hz:(W.setCell ⟨nb,3,none⟩ (.slice none 0 0)).heap.size=W.heap.size:=by simp
  obtain⟨A',c',rfl,-,hf,-⟩:=flatq_own h4
  have e:=(h1.cell 3 (v:=.slice A' k c') rfl).symm.trans hA
  injection e with e
  injection e with e1 _ e2
  subst e1 e2
  have hbk:=(h1.set (o:=3) (by show 3 < 31;omega) (.slice none 0 0)).1
  refine⟨A',c',l,rfl,h5,(hf.keep fun j q=>fx j fun e=>by have:=ho.2.2.2.2.2.1;have:=q.1;omega).less fun j q=>by rw [hz];exact q.2,fun i hi=>⟨((h6 i hi).1.keep fun j q=>fx j q.2.2.2.1).less fun j q=>by rw [hz];exact q.2.2.1,(h6 i hi).2⟩,hb.setCell (by show w0.heap.size≤nb;exact ho.1) _,hbk.cell 4 rfl,hbk.cell 5 rfl,hbk.lt,hkp.set (fun q=>(h12 nb q).2.1 rfl) _ _⟩
set_option maxRecDepth 8000 in
set_option maxHeartbeats 1000000 in
theorem nodDo_tick {A1 A2 A3:Option Addr} {c1 c2 c3:Nat} {M:Nat→Prop} {w w1 w0:World} {nb B g b tq:Nat} {hr ak bk:Value} (now:Int) (m:Nat) (hm:now=1000∧m=11∨now=100∧m=1) (h:TickI M w1 w0 nb B g b tq hr ak bk 0 0 (rowK 0) w) :
    Calls Tryz.prog 10 #[.pointer (some ⟨nb,0,none⟩),.agg #[.int .i64 1,.slice A1 0 c1,.int .i64 now,.int .i64 0,.slice A2 0 c2,.int .i64 0,.slice A3 0 c3]] w (DoneI M w1 w0 nb g now m):=by
  have HNB:Hid (nb < w.heap.size):=h.facts.2.2.2.2
  have HT:=Lib.hid (h.on (below_new w (.cells (tickC A1 c1 A2 c2 A3 c3 now) 30)))
  have HM:=Lib.hid hm
  have hk:=Blk.newL (L:=(tickC A1 c1 A2 c2 A3 c3 now).toList) (grew_alloc w (tickC A1 c1 A2 c2 A3 c3 now) 30) rfl
  have HK:=Lib.hid hk
  clear h hk hm
  unfold tickC at *
  go_enter Tryz.func10,Tryz.ntmps10
  go_upto_region 1 with fail
  generalize hW1:w.alloc (.cells #[.int .i64 1,.slice A1 0 c1,.int .i64 now,.int .i64 0,.slice A2 0 c2,.int .i64 0,.slice A3 0 c3] 30)=W1 at *
  obtain⟨t4,tf,t15,t5,tl⟩:=HT.out.facts
  obtain⟨A0,c0,t3,tf3⟩:=HT.out.out
  have HTH:=Lib.hid (nodThere_yes t5)
  go_wp2_with fail
  refine HTH.out.mono ?_
  rintro e w2 ⟨rfl,rfl⟩
  go_upto_region 4 with fail
  have HT2:=Lib.hid HT.out.fresh
  have hk2:Blk (W1.setCell ⟨nb,3,none⟩ (.slice none 0 0)) w.heap.size [.int .i64 1,.slice A1 0 c1,.int .i64 now,.int .i64 0,.slice A2 0 c2,.int .i64 0,.slice A3 0 c3]:=HK.out.kept (Below.heap_setCell _ _ _ _ (fun q=>by have:=HNB.out;have q':w.heap.size=nb:=q;omega)) (by simp)
  have s0:=hk2.cell 0 (v:=.int .i64 1) rfl
  have s1:=hk2.cell 1 (v:=.slice A1 0 c1) rfl
  have s2:=hk2.cell 2 (v:=.int .i64 now) rfl
  have s3:=hk2.cell 3 (v:=.int .i64 0) rfl
  have s4:=hk2.cell 4 (v:=.slice A2 0 c2) rfl
  have s5:=hk2.cell 5 (v:=.int .i64 0) rfl
  have s6:=hk2.cell 6 (v:=.slice A3 0 c3) rfl
  clear t4 tf t15 t5 tl t3 tf3 hk2 HT hW1 HTH
  generalize W1.setCell ⟨nb,3,none⟩ (.slice none 0 0)=W2 at *
  have HTK:=Lib.hid (nodTick_any (A1:=A1) (A2:=A2) (A3:=A3) (c1:=c1) (c2:=c2) (c3:=c3) now m HM.out HT2.out)
  have HW:=fun W=>Lib.hid (nodWay_1 W)
  go_wp2_with fail
  refine (HW _).out.mono ?_
  rintro e w3 ⟨rfl,rfl⟩
  go_wp2_with fail
  refine HTK.out.mono ?_
  rintro e w4 ⟨rfl,hT4⟩
  clear s0 s1 s2 s3 s4 s5 s6 HT2 HTK
  obtain⟨A,c,t3,tf3⟩:=hT4.out
  have HD:=Lib.hid (hT4.done t3)
  clear hT4
  go_wp2_with fail
  go_ret
  exact HD.out
theorem TickI.mark {M:Nat→Prop} {w1 w0:World} {nb B g b tq:Nat} {hr ak bk:Value} {now:Int} {k:Nat} {r:List Tr} {W W':World} (h:TickI M w1 w0 nb B g b tq hr ak bk now k r W) (hb':Below W.heap.size W W'):TickI (fun j=>W.heap.size≤j∧j < W'.heap.size) W' w0 nb B g b tq hr ak bk now k r W':=by
  obtain⟨⟨S,N,out,l,h1,h2,h3,h4,h5,h6,h7,h8,h9,h10,h11,-⟩,-,hb,ho⟩:=h
  have hlt:=h1.lt
  refine⟨⟨_,N,out,l,h1.on hb',h2.on hb',h3.also hb',own_on h4 hb',h5,fun i hi=>⟨((h6 i hi).1.keep fun j q=>hb'.block j q.2.2.1).less fun j q=>⟨.inl q.1,q.2.1,Nat.lt_of_lt_of_le q.2.2.1 hb'.size,q.2.2.2⟩,(h6 i hi).2⟩,.inl h7,.inl h8,.inl h9,fun j q=>.inl (h10 j q),fun j q=>.inl (h11 j q),fun j q=>⟨.inr q,by omega,q.2,fun z=>?_⟩⟩,KeptS.refl _ _,bthen hb hb',⟨ho.1,ho.2.1,ho.2.2.1,ho.2.2.2.1,ho.2.2.2.2.1,ho.2.2.2.2.2.1,ho.2.2.2.2.2.2.1,ho.2.2.2.2.2.2.2.1,ho.2.2.2.2.2.2.2.2.1,Nat.le_trans ho.2.2.2.2.2.2.2.2.2 hb'.size⟩⟩
  obtain⟨-,cs,y⟩:=own_cells h4 z
  have:=(Array.getElem?_eq_some_iff.1 y).1
  omega
theorem build_lnk (w:World):(Instr.build 62 #[(0,.int .i64 1),(1,.int .i64 1)]).run Tryz.prog w=.ok (.agg #[.int .i64 1,.int .i64 1,.int .i64 0,.slice none 0 0]) w:=by kernel_rfl
theorem build_nod (g q h a b:Nat) (w:World):(Instr.build 74 #[(0,.agg #[.int .i64 1,.int .i64 1,.int .i64 0,.slice none 0 0]),(2,.pointer (some ⟨g,0,none⟩)),(3,.agg #[.int .i32 1073741824,.int .i32 0,.int .i32 0,.int .i32 0,.int .i32 0,.int .i32 0,.int .i32 0,.int .i64 0,.int .i64 0]),(4,.pointer (some ⟨q,0,none⟩)),(5,.pointer (some ⟨h,0,none⟩)),(6,.pointer (some ⟨a,0,none⟩)),(7,.pointer (some ⟨b,0,none⟩))]).run Tryz.prog w=.ok (.agg (nodL 1 1 0 (.slice none 0 0) 0 g q (.pointer (some ⟨h,0,none⟩)) (.pointer (some ⟨a,0,none⟩)) (.pointer (some ⟨b,0,none⟩))).toArray) w:=by kernel_rfl
set_option maxRecDepth 8000 in
set_option maxHeartbeats 1000000 in
theorem nodNew_11 (w:World):Calls Tryz.prog 33 #[.int .i64 1,.int .i64 1] w fun e w'=>∃ nb B g b tq hr ak bk,e=.returned (.pointer (some ⟨nb,0,none⟩))∧TickI (fun _=>False) w w nb B g b tq hr ak bk 0 0 (rowK 0) w':=by
  go_enter Tryz.func33,Tryz.ntmps33
  go_wp2_with (refine wpList_build2 rfl 62 0 1 _ _ rfl (u:=.int .i64 1) (u':=.int .i64 1) (v:=.agg #[.int .i64 1,.int .i64 1,.int .i64 0,.slice none 0 0]) rfl rfl (build_lnk _) ?_)
  refine (rsyNew_any _).mono ?_
  rintro e w1 ⟨rfl,hd1,hb1,hz1⟩
  have HD1:=Lib.hid hd1
  have HB1:=Lib.hid (And.intro hb1 hz1)
  clear hd1 hb1 hz1
  go_wp2_with fail
  refine (fuseStart_any _).mono ?_
  rintro e w2 ⟨rfl,hb2⟩
  have HB2:=Lib.hid hb2
  clear hb2
  go_wp2_with fail
  refine (dueNew_any _).mono ?_
  rintro e w3 ⟨tq,rfl,hb3,hq3⟩
  have HB3:=Lib.hid hb3
  have HQ3:=Lib.hid hq3
  clear hb3 hq3
  go_wp2_with fail
  refine (gapsNew_any _).mono ?_
  rintro e w4 ⟨hr,rfl,hb4⟩
  have HB4:=Lib.hid hb4
  clear hb4
  go_wp2_with fail
  refine (ackNew_any _).mono ?_
  rintro e w5 ⟨ak,rfl,hb5,-,-⟩
  have HB5:=Lib.hid hb5
  clear hb5
  go_wp2_with fail
  refine (gsvNew_any _).mono ?_
  rintro e w6 ⟨bk,rfl,hb6,-,-⟩
  have HB6:=Lib.hid hb6
  clear hb6
  go_wp2_with (first
    | (refine wpList_build rfl 74 _ rfl (v:=.agg (nodL 1 1 0 (.slice none 0 0) 0 (w.heap.size+1) tq (.pointer (some ⟨hr,0,none⟩)) (.pointer (some ⟨ak,0,none⟩)) (.pointer (some ⟨bk,0,none⟩))).toArray) #[(0,.agg #[.int .i64 1,.int .i64 1,.int .i64 0,.slice none 0 0]),(2,.pointer (some ⟨w.heap.size+1,0,none⟩)),(3,.agg #[.int .i32 1073741824,.int .i32 0,.int .i32 0,.int .i32 0,.int .i32 0,.int .i32 0,.int .i32 0,.int .i64 0,.int .i64 0]),(4,.pointer (some ⟨tq,0,none⟩)),(5,.pointer (some ⟨hr,0,none⟩)),(6,.pointer (some ⟨ak,0,none⟩)),(7,.pointer (some ⟨bk,0,none⟩))] rfl (build_nod (w.heap.size+1) tq hr ak bk _) ?_)
    | fail)
  have hn7:=Blk.newL (L:=nodL 1 1 0 (.slice none 0 0) 0 (w.heap.size+1) tq (.pointer (some ⟨hr,0,none⟩)) (.pointer (some ⟨ak,0,none⟩)) (.pointer (some ⟨bk,0,none⟩))) (grew_alloc w6 (nodL 1 1 0 (.slice none 0 0) 0 (w.heap.size+1) tq (.pointer (some ⟨hr,0,none⟩)) (.pointer (some ⟨ak,0,none⟩)) (.pointer (some ⟨bk,0,none⟩))).toArray 74) rfl
  have hb7:=below_new w6 (.cells (nodL 1 1 0 (.slice none 0 0) 0 (w.heap.size+1) tq (.pointer (some ⟨hr,0,none⟩)) (.pointer (some ⟨ak,0,none⟩)) (.pointer (some ⟨bk,0,none⟩))).toArray 74)
  have hz7:(w6.alloc (.cells (nodL 1 1 0 (.slice none 0 0) 0 (w.heap.size+1) tq (.pointer (some ⟨hr,0,none⟩)) (.pointer (some ⟨ak,0,none⟩)) (.pointer (some ⟨bk,0,none⟩))).toArray 74)).heap.size=w6.heap.size+1:=World.size_alloc _ _
  have HN7:=Lib.hid hn7
  have HB7:=Lib.hid hb7
  have HZ7:=Lib.hid hz7
  clear hn7 hb7 hz7
  show Calls Tryz.prog _ _ (w6.alloc (.cells (nodL 1 1 0 (.slice none 0 0) 0 (w.heap.size+1) tq (.pointer (some ⟨hr,0,none⟩)) (.pointer (some ⟨ak,0,none⟩)) (.pointer (some ⟨bk,0,none⟩))).toArray 74)) _
  generalize w6.alloc (.cells (nodL 1 1 0 (.slice none 0 0) 0 (w.heap.size+1) tq (.pointer (some ⟨hr,0,none⟩)) (.pointer (some ⟨ak,0,none⟩)) (.pointer (some ⟨bk,0,none⟩))).toArray 74)=W7 at *
  have HX7:Hid (Below w3.heap.size w3 W7):=Lib.hid (bthen (bthen (bthen HB4.out HB5.out) HB6.out) HB7.out)
  have HX0:Hid (Below w.heap.size w w2∧Below w.heap.size w W7∧w3.heap.size≤w6.heap.size∧w2.heap.size≤w3.heap.size∧w.heap.size+2≤w2.heap.size):=Lib.hid ⟨bthen HB1.out.1 HB2.out,bthen (bthen (bthen HB1.out.1 HB2.out) HB3.out) HX7.out,Nat.le_trans HB4.out.size (Nat.le_trans HB5.out.size HB6.out.size),HB3.out.size,by have:=HB2.out.size;have:=HB1.out.2;omega⟩
  have HD7:Hid (DecI W7 (w.heap.size+1) w.heap.size z13 []):=Lib.hid ((HD1.out.on (bthen HB2.out HB3.out)).on HX7.out)
  have hq7:=HQ3.out.also HX7.out
  generalize hS:(fun k=>k < w2.heap.size∨(w3.heap.size≤k∧k < W7.heap.size))=S at hq7
  have HSS:Hid ((∀ k,k < w2.heap.size→S k)∧S w6.heap.size):=Lib.hid ⟨fun k q=>by rw [← hS];exact .inl q,by rw [← hS];exact .inr ⟨HX0.out.2.2.1,by rw [HZ7.out];omega⟩⟩
  clear hS HQ3 HB1 HB2 HB3 HB4 HB5 HB6 HB7 HD1 HX7
  have HS1:=Lib.hid (set_ok hq7 (id:=0) (t:=1000) (ev:=1000) (by decide) (by decide))
  clear hq7
  generalize w6.heap.size=nb at *
  refine HS1.out.mono ?_
  rintro e w8 ⟨rfl,hq8,hk8⟩
  have HN8:Hid (Blk w8 nb _):=Lib.hid (HN7.out.kept (hk8.block _ HSS.out.2) hk8.size)
  have HS2:=Lib.hid (set_ok hq8 (id:=1) (t:=100) (ev:=100) (by decide) (by decide))
  have HK8:=Lib.hid hk8
  clear hq8 hk8 HS1
  have c15:=HN8.out.cell 15 (v:=.pointer (some ⟨tq,0,none⟩)) rfl
  go_wp2_with fail
  refine HS2.out.mono ?_
  rintro e w9 ⟨rfl,hq9,hk9⟩
  have HK9:Hid (KeptS S W7 w9):=Lib.hid (HK8.out.trans hk9)
  have HQ9:=Lib.hid hq9
  clear hq9 hk9 c15 HS2 HN8 HK8
  go_wp2_with fail
  go_ret
  refine⟨nb,nb+1,w.heap.size+1,w.heap.size,tq,_,_,_,rfl,⟨S,_,.slice none 0 0,[],HN7.out.kept (HK9.out.block _ HSS.out.2) HK9.out.size,HD7.out.keptB (HK9.out.block _ (HSS.out.1 _ (by have:=HX0.out;omega))) (HK9.out.block _ (HSS.out.1 _ (by have:=HX0.out;omega))) HK9.out.size,HQ9.out,World.ownsRow_nil _ _ _ _,rfl,fun i hi=>absurd hi (Nat.not_lt_zero _),HSS.out.2,HSS.out.1 _ (by have:=HX0.out;omega),HSS.out.1 _ (by have:=HX0.out;omega),fun j q=>(by cases q),fun j q=>HSS.out.1 j (by have:=HX0.out;omega),fun j q=>q.elim⟩,KeptS.of_below (HX0.out.2.1.trans (HK9.out.below fun j q=>HSS.out.1 j (by have:=HX0.out;omega))) (fun _ q=>q.elim),HX0.out.2.1.trans (HK9.out.below fun j q=>HSS.out.1 j (by have:=HX0.out;omega)),?_⟩
  have h1:=HX0.out
  have h2:=HZ7.out
  have h3:=HK9.out.size
  omega
end Go.Proofs.YtaiepcgfofpmjaaGreat
