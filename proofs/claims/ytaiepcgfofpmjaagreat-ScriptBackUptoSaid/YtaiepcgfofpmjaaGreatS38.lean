/- Layer 45: whether numbers, pairs, steps are the same. -/
import Derived.Test.YtaiepcgfofpmjaaGreatS21
import Derived.BigQuiet
import Derived.Deep.QuietTactic
namespace Go.Proofs.YtaiepcgfofpmjaaGreat
set_option linter.unusedVariables false
open Go.RowKit
theorem same_first2 {α:Type} {x y:List α} {k:Nat} (hx:k < x.length) (hy:k < y.length) (h:∀ j,j < k→x[j]?=y[j]?) (he:x[k]=y[k]):∀ j,j < k+1→x[j]?=y[j]?:=fun j hj=>by
  rcases (by omega:j < k∨j=k) with q | rfl
  · exact h j q
  · rw [List.getElem?_eq_getElem hx,List.getElem?_eq_getElem hy,he]
theorem same_all {α:Type} {x y:List α} {n:Nat} (hx:x.length=n) (hy:y.length=n) (h:∀ j,j < n→x[j]?=y[j]?):x=y:=List.ext_getElem? fun j=>by
  by_cases q:j < n
  · exact h j q
  · rw [List.getElem?_eq_none (by omega),List.getElem?_eq_none (by omega)]
set_option maxHeartbeats 2000000 in
theorem s03Same_any {Q R:Nat→Prop} {w:World} (A B:Option Addr) (c d:Nat) (x y:List Int) (hA:FlatQ Q w A (x.map intL)) (hB:FlatQ R w B (y.map intL)) (hx:x.length≤1000000) :
    Calls Tryz.prog 60 #[.slice A x.length c,.slice B y.length d] w fun e w'=>e=.returned (.bool (decide (x=y)))∧Below w.heap.size w w':=by
  by_cases hnm:x.length=y.length
  · have HX:=Lib.hid hA
    have HY:=Lib.hid hB
    have HPT:Hid (x=y→decide (x=y)=true):=Lib.hid fun h=>decide_eq_true h
    have HPF:Hid (x≠y→decide (x=y)=false):=Lib.hid fun h=>decide_eq_false h
    generalize decide (x=y)=T at *
    obtain⟨n,hn⟩:∃ n,x.length=n:=⟨_,rfl⟩
    have HL:=Lib.hid (And.intro hn (hnm.symm.trans hn))
    rw [← hnm,hn]
    rw [hn] at hx
    have hnn:((n:Int) != (n:Int))=false:=by rw [bne_eq_false_iff_eq]
    clear hnm hn hA hB
    go_enter Tryz.func60,Tryz.ntmps60
    go_wp2_with fail
    go_loopg [5] n (fun g iv wr=>∃ k:Nat,k≤n∧n - k≤g∧iv=.int .i64 k∧Hid (Below w.heap.size w wr)∧Hid (∀ j,j < k→x[j]?=y[j]?))
    case atStart=>exact⟨0,Nat.zero_le _,by omega,rfl,Below.refl _ _,fun j hj=>absurd hj (Nat.not_lt_zero _)⟩
    case round=>
      obtain⟨k,hk,hg,rfl,HB,HP⟩:=hrel
      by_cases hlt:k < n
      · have hkx:k < x.length:=by rw [HL.out.1];exact hlt
        have hky:k < y.length:=by rw [HL.out.2];exact hlt
        obtain⟨b1,o1,rfl,k0⟩:=int_at HX.out HB.out k hkx
        obtain⟨b2,o2,rfl,k1⟩:=int_at HY.out HB.out k hky
        have i1:(0:Int)≤(k:Int):=by omega
        have i2:(k:Int) < (n:Int):=by omega
        by_cases he:x[k]=y[k]
        · have HN:=Lib.hid (same_first2 hkx hky HP.out he)
          have hq:(x[k] != y[k])=false:=by rw [bne_eq_false_iff_eq];exact he
          clear he HP
          go_wp2_with fail
          go_quiet (fail)
          go_wp2_with fail
          go_roundg (n - (k+1))
          case rel=>exact⟨k+1,by omega,by omega,by go_num,bdrewN HB.out _,HN⟩
          case measure=>omega
        · have HN:Hid (T=false):=HPF.out fun e=>he (by subst e;rfl)
          have hq:(x[k] != y[k])=true:=by rw [bne_iff_ne];exact he
          clear he
          go_wp2_with fail
          go_quiet (fail)
          go_wp2_with fail
          go_ret
          exact⟨by rw [HN.out];rfl,bdrewN HB.out _⟩
      · have HE:Hid (T=true):=HPT.out (same_all HL.out.1 HL.out.2 fun j hj=>HP.out j (by omega))
        have hge:(n:Int)≤(k:Int):=by omega
        go_wp2_with fail
        go_ret
        exact⟨by rw [HE.out];rfl,HB.out⟩
  · have hd:decide (x=y)=false:=decide_eq_false fun e=>hnm (by rw [e])
    have hne:((x.length:Int) != (y.length:Int))=true:=by rw [bne_iff_ne];omega
    rw [hd]
    clear hd hnm hA hB
    go_enter Tryz.func60,Tryz.ntmps60
    go_wp2_with fail
    go_ret
    exact⟨rfl,Below.refl _ _⟩
set_option maxHeartbeats 2000000 in
theorem s20Same_any {Q R:Nat→Prop} {w:World} (t u:Int) (A B:Option Addr) (c d:Nat) (x y:List (Int×Int)) (hA:FlatQ Q w A (pairC x)) (hB:FlatQ R w B (pairC y)) (hx:x.length≤1000000) :
    Calls Tryz.prog 61 #[.agg #[.int .i64 t,.slice A x.length c],.agg #[.int .i64 u,.slice B y.length d]] w fun e w'=>e=.returned (.bool (decide (t=u) && decide (x=y)))∧Below w.heap.size w w':=by
  by_cases htu:t=u
  · subst htu
    rw [decide_eq_true rfl,Bool.true_and]
    have htt:(t != t)=false:=by rw [bne_eq_false_iff_eq]
    by_cases hnm:x.length=y.length
    · have HX:=Lib.hid hA
      have HY:=Lib.hid hB
      have HPT:Hid (x=y→decide (x=y)=true):=Lib.hid fun h=>decide_eq_true h
      have HPF:Hid (x≠y→decide (x=y)=false):=Lib.hid fun h=>decide_eq_false h
      generalize decide (x=y)=T at *
      obtain⟨n,hn⟩:∃ n,x.length=n:=⟨_,rfl⟩
      have HL:=Lib.hid (And.intro hn (hnm.symm.trans hn))
      rw [← hnm,hn]
      rw [hn] at hx
      have hnn:((n:Int) != (n:Int))=false:=by rw [bne_eq_false_iff_eq]
      have HB0:=Lib.hid (bthen (below_new w (.cells #[.int .i64 t,.slice A n c] 28)) (below_new (w.alloc (.cells #[.int .i64 t,.slice A n c] 28)) (.cells #[.int .i64 t,.slice B n d] 28)))
      have HC0:Hid (∀ W,Below ((w.alloc (.cells #[.int .i64 t,.slice A n c] 28)).alloc (.cells #[.int .i64 t,.slice B n d] 28)).heap.size ((w.alloc (.cells #[.int .i64 t,.slice A n c] 28)).alloc (.cells #[.int .i64 t,.slice B n d] 28)) W→W.cell? ⟨w.heap.size,1,none⟩=some (.slice A n c)∧W.cell? ⟨w.heap.size+1,1,none⟩=some (.slice B n d)):=Lib.hid fun W hW=>
        ⟨(hW.cell (p:=⟨w.heap.size,1,none⟩) (by simp only [World.size_alloc];omega)).trans (by rw [World.cell?_alloc_past _ _ _ (by simp),World.cell?_alloc_at _ _ _ _ rfl];rfl),(hW.cell (p:=⟨w.heap.size+1,1,none⟩) (by simp only [World.size_alloc];omega)).trans (by rw [World.cell?_alloc_at _ _ _ _ (by simp)];rfl)⟩
      clear hnm hn hA hB
      go_enter Tryz.func61,Tryz.ntmps61
      go_wp2_with fail
      generalize (w.alloc (.cells #[.int .i64 t,.slice A n c] 28)).alloc (.cells #[.int .i64 t,.slice B n d] 28)=W0 at *
      go_loopg [5] n (fun g iv wr=>∃ k:Nat,k≤n∧n - k≤g∧iv=.int .i64 k∧Hid (Below W0.heap.size W0 wr)∧Hid (∀ j,j < k→x[j]?=y[j]?))
      case atStart=>exact⟨0,Nat.zero_le _,by omega,rfl,Below.refl _ _,fun j hj=>absurd hj (Nat.not_lt_zero _)⟩
      case round=>
        obtain⟨k,hk,hg,rfl,HB,HP⟩:=hrel
        have HBW:=Lib.hid (HB0.out.trans (HB.out.mono HB0.out.size))
        obtain⟨z0,z1⟩:=HC0.out wr HB.out
        by_cases hlt:k < n
        · have hkx:k < x.length:=by rw [HL.out.1];exact hlt
          have hky:k < y.length:=by rw [HL.out.2];exact hlt
          obtain⟨b1,o1,rfl,k0,k1⟩:=pair_at HX.out HBW.out k hkx
          obtain⟨b2,o2,rfl,k2,k3⟩:=pair_at HY.out HBW.out k hky
          have i1:(0:Int)≤(k:Int):=by omega
          have i2:(k:Int) < (n:Int):=by omega
          by_cases he:x[k]=y[k]
          · have HN:=Lib.hid (same_first2 hkx hky HP.out he)
            rw [← he] at k2 k3
            clear he HP
            go_wp2_with fail
            go_quiet (fail)
            go_wp2_with fail
            go_roundg (n - (k+1))
            case rel=>exact⟨k+1,by omega,by omega,by go_num,bdrewN HB.out _,HN⟩
            case measure=>omega
          · have HN:Hid (T=false):=HPF.out fun e=>he (by subst e;rfl)
            have hq:(x[k].1==y[k].1)=false∨(x[k].1==y[k].1)=true∧(x[k].2==y[k].2)=false:=by
              by_cases q:x[k].1=y[k].1
              · exact .inr ⟨by rw [beq_iff_eq];exact q,by rw [beq_eq_false_iff_ne];exact fun z=>he (Prod.ext q z)⟩
              · exact .inl (by rw [beq_eq_false_iff_ne];exact q)
            clear he HP
            generalize x[k].1=a1 at *
            generalize x[k].2=a2 at *
            generalize y[k].1=e1 at *
            generalize y[k].2=e2 at *
            rcases hq with hq | ⟨hq,hq2⟩
            all_goals
              go_wp2_with fail
              go_quiet (fail)
              go_wp2_with fail
              go_ret
              exact⟨by rw [HN.out];rfl,bdrewN HBW.out _⟩
        · have HE:Hid (T=true):=HPT.out (same_all HL.out.1 HL.out.2 fun j hj=>HP.out j (by omega))
          have hge:(n:Int)≤(k:Int):=by omega
          go_wp2_with fail
          go_ret
          exact⟨by rw [HE.out];rfl,HBW.out⟩
    · have hd:decide (x=y)=false:=decide_eq_false fun e=>hnm (by rw [e])
      have hne:((x.length:Int) != (y.length:Int))=true:=by rw [bne_iff_ne];omega
      rw [hd]
      clear hd hnm hA hB
      go_enter Tryz.func61,Tryz.ntmps61
      go_wp2_with fail
      go_ret
      exact⟨rfl,bthen (below_new _ _) (below_new _ _)⟩
  · rw [decide_eq_false htu,Bool.false_and]
    have htt:(t != u)=true:=by rw [bne_iff_ne];exact htu
    clear htu hA hB
    go_enter Tryz.func61,Tryz.ntmps61
    go_wp2_with fail
    go_ret
    exact⟨rfl,bthen (below_new _ _) (below_new _ _)⟩
theorem conv_bytes {Q:Nat→Prop} {w:World} {A:Option Addr} {bs:List UInt8} (h:FlatQ Q w A (bs.map byL)) (c:Nat):(convert 22 9 (.slice A bs.length c)).run Tryz.prog w=.ok (.string (toB bs)) w:=by
  cases bs with
  | nil=>
    show (convert 22 9 (.slice A 0 c)).run Tryz.prog w=_
    rw [run_convert_bytes_string w 22 9 5 A 0 c Tryz.underlying22 Tryz.underlying5 Tryz.underlying9]
    cases A <;> rfl
  | cons b r=>
    obtain⟨g,off,rfl,-,-⟩:=h 0 _ rfl
    have h4:=run_conv_row (P:=Tryz.prog) w 22 9 5 ⟨g,off,none⟩ c ((b :: r).map fun c=>(c.toNat:Int)) Tryz.underlying22 Tryz.underlying5 Tryz.underlying9 (fun j hj=>by
      rw [List.length_map] at hj
      obtain⟨g',off',q,-,z⟩:=h j (byL (b :: r)[j]) (by rw [List.getElem?_map,List.getElem?_eq_getElem hj];rfl)
      injection q with q
      injection q with q1 q2
      subst q1 q2
      rw [List.getElem_map,addr_addQ]
      exact z)
    rw [List.length_map,List.map_map] at h4
    have e:∀ q:List UInt8,List.map ((fun n:Int=>UInt8.ofNat n.toNat) ∘ fun c:UInt8=>(c.toNat:Int)) q=q:=fun q=>(List.map_congr_left (fun c _=>by simp)).trans (List.map_id q)
    rw [e] at h4
    exact h4
set_option maxRecDepth 8000 in
set_option maxHeartbeats 4000000 in
theorem r45Same_eq {Q R:Nat→Prop} {w:World} {C D:List Value} {s:StpK} (hC:StpM Q w C s) (hD:StpM R w D s) (hv:s.v.length≤1000000) (hl:s.l.length≤1000000):Calls Tryz.prog 30 #[.agg C.toArray,.agg D.toArray] w fun e w'=>e=.returned (.bool true)∧Below w.heap.size w w':=by
  obtain⟨A1,c1,A2,c2,A3,c3,rfl,h1,h2,h3⟩:=hC.it
  obtain⟨B1,d1,B2,d2,B3,d3,rfl,k1,k2,k3⟩:=hD.it
  obtain⟨sk,sb,sn,sid,sv,sy,sl⟩:=s
  unfold stpC
  dsimp only at *
  have HV:=fun (W:World) (hW:Below w.heap.size w W)=>Lib.hid (s03Same_any A2 B2 c2 d2 sv sv (h2.lt.below hW fun b q=>q.2) (k2.lt.below hW fun b q=>q.2) hv)
  have HL:=fun (W:World) (hW:Below w.heap.size w W)=>Lib.hid (s20Same_any sy sy A3 B3 c3 d3 sl sl (h3.lt.below hW fun b q=>q.2) (k3.lt.below hW fun b q=>q.2) hl)
  have HC1:=fun (W:World) (hW:Below w.heap.size w W)=>Lib.hid (And.intro (conv_bytes (h1.lt.below hW fun b q=>q.2) c1) (conv_bytes (k1.lt.below hW fun b q=>q.2) d1))
  have HB0:=Lib.hid (bthen (below_new w (.cells #[.int .i64 sk,.slice A1 sb.length c1,.int .i64 sn,.int .i64 sid,.slice A2 sv.length c2,.int .i64 sy,.slice A3 sl.length c3] 30)) (below_new (w.alloc (.cells #[.int .i64 sk,.slice A1 sb.length c1,.int .i64 sn,.int .i64 sid,.slice A2 sv.length c2,.int .i64 sy,.slice A3 sl.length c3] 30)) (.cells #[.int .i64 sk,.slice B1 sb.length d1,.int .i64 sn,.int .i64 sid,.slice B2 sv.length d2,.int .i64 sy,.slice B3 sl.length d3] 30)))
  obtain⟨kc1,kc2⟩:=(HC1 _ HB0.out).out
  have HCC:Hid (∀ W,Below ((w.alloc (.cells #[.int .i64 sk,.slice A1 sb.length c1,.int .i64 sn,.int .i64 sid,.slice A2 sv.length c2,.int .i64 sy,.slice A3 sl.length c3] 30)).alloc (.cells #[.int .i64 sk,.slice B1 sb.length d1,.int .i64 sn,.int .i64 sid,.slice B2 sv.length d2,.int .i64 sy,.slice B3 sl.length d3] 30)).heap.size ((w.alloc (.cells #[.int .i64 sk,.slice A1 sb.length c1,.int .i64 sn,.int .i64 sid,.slice A2 sv.length c2,.int .i64 sy,.slice A3 sl.length c3] 30)).alloc (.cells #[.int .i64 sk,.slice B1 sb.length d1,.int .i64 sn,.int .i64 sid,.slice B2 sv.length d2,.int .i64 sy,.slice B3 sl.length d3] 30)) W→W.cell? ⟨w.heap.size,5,none⟩=some (.int .i64 sy)∧W.cell? ⟨w.heap.size,6,none⟩=some (.slice A3 sl.length c3)∧W.cell? ⟨w.heap.size+1,5,none⟩=some (.int .i64 sy)∧W.cell? ⟨w.heap.size+1,6,none⟩=some (.slice B3 sl.length d3)):=Lib.hid fun W hW=>
    ⟨(hW.cell (p:=⟨w.heap.size,5,none⟩) (by simp only [World.size_alloc];omega)).trans (by rw [World.cell?_alloc_past _ _ _ (by simp),World.cell?_alloc_at _ _ _ _ rfl];rfl),(hW.cell (p:=⟨w.heap.size,6,none⟩) (by simp only [World.size_alloc];omega)).trans (by rw [World.cell?_alloc_past _ _ _ (by simp),World.cell?_alloc_at _ _ _ _ rfl];rfl),(hW.cell (p:=⟨w.heap.size+1,5,none⟩) (by simp only [World.size_alloc];omega)).trans (by rw [World.cell?_alloc_at _ _ _ _ (by simp)];rfl),(hW.cell (p:=⟨w.heap.size+1,6,none⟩) (by simp only [World.size_alloc];omega)).trans (by rw [World.cell?_alloc_at _ _ _ _ (by simp)];rfl)⟩
  have dd:∀ (α:Type) [DecidableEq α] (a:α),decide (a=a)=true:=fun α _ a=>decide_eq_true rfl
  have HSS:Hid (decide (sv=sv)=true∧(decide (sy=sy) && decide (sl=sl))=true):=Lib.hid ⟨decide_eq_true rfl,by rw [decide_eq_true rfl,decide_eq_true rfl];rfl⟩
  generalize toB sb=X at *
  clear hC hD h1 h2 h3 k1 k2 k3 dd
  go_enter Tryz.func30,Tryz.ntmps30
  go_wp2_with fail
  clear kc1 kc2
  generalize (w.alloc (.cells #[.int .i64 sk,.slice A1 sb.length c1,.int .i64 sn,.int .i64 sid,.slice A2 sv.length c2,.int .i64 sy,.slice A3 sl.length c3] 30)).alloc (.cells #[.int .i64 sk,.slice B1 sb.length d1,.int .i64 sn,.int .i64 sid,.slice B2 sv.length d2,.int .i64 sy,.slice B3 sl.length d3] 30)=W0 at *
  refine (HV W0 HB0.out).out.mono ?_
  rintro e w1 ⟨rfl,hb⟩
  rw [HSS.out.1]
  have HB1:=Lib.hid (HB0.out.trans (hb.mono HB0.out.size))
  obtain⟨z1,z2,z3,z4⟩:=HCC.out w1 hb
  clear hb
  go_wp2_with fail
  refine (HL w1 HB1.out).out.mono ?_
  rintro e w2 ⟨rfl,hb⟩
  rw [HSS.out.2]
  have HB2:=Lib.hid (bthen HB1.out hb)
  clear hb
  go_wp2_with fail
  go_ret
  exact⟨rfl,HB2.out⟩
theorem flat7:∀ (Cs:List (List Value)) (k j:Nat) (hk:k < Cs.length),(∀ C∈Cs,C.length=7)→j < 7→(List.flatten Cs)[k * 7+j]?=Cs[k][j]?
  | [],k,j,hk,_,_=>absurd hk (Nat.not_lt_zero _)
  | C :: Cs,0,j,_,h,hj=>by
    have:=h C (by simp)
    rw [List.flatten_cons,List.getElem?_append_left (by omega)]
    simp
  | C :: Cs,k+1,j,hk,h,hj=>by
    have h7:=h C (by simp)
    rw [List.flatten_cons,List.getElem?_append_right (by omega),h7,show (k+1) * 7+j - 7=k * 7+j from by omega,flat7 Cs k j (by rw [List.length_cons] at hk;omega) (fun D hD=>h D (by simp [hD])) hj]
    rfl
theorem StpsM.seven {Q:Nat→Prop} {w:World} {Cs:List (List Value)} {ss:List StpK} (h:StpsM Q w Cs ss):∀ C∈Cs,C.length=7:=fun C hC=>by
  obtain⟨j,hj,rfl⟩:=List.getElem_of_mem hC
  exact (h.at_ j hj (by rw [← h.len];exact hj)).len
theorem stps_at {Q R:Nat→Prop} {w W:World} {A:Option Addr} {Cs:List (List Value)} {ss:List StpK} (hf:FlatQ Q w A (List.flatten Cs)) (h:StpsM R w Cs ss) (hb:Below w.heap.size w W) (k:Nat) (hk:k < Cs.length):∃ b off,A=some ⟨b,off,none⟩∧W.rangeAt b (off+k * 7) Cs[k]:=by
  have h7:=h.seven
  have hc7:=h7 Cs[k] (List.getElem_mem hk)
  have e0:=flat7 Cs k 0 hk h7 (by omega)
  obtain⟨b,off,h1,h2,h3⟩:=hf.lt (k * 7+0) Cs[k][0] (by rw [e0,List.getElem?_eq_getElem])
  refine⟨b,off,h1,fun j v hv=>?_⟩
  have hj:j < 7:=by
    rcases Nat.lt_or_ge j 7 with q | q
    · exact q
    · rw [List.getElem?_eq_none (by omega)] at hv;cases hv
  obtain⟨b',off',q1,q2,q3⟩:=hf.lt (k * 7+j) v (by rw [flat7 Cs k j hk h7 hj];exact hv)
  rw [h1] at q1
  injection q1 with q1
  injection q1 with z1 z2
  subst z1 z2
  rw [Nat.add_assoc]
  exact (hb.cell (p:=⟨b,off+(k * 7+j),none⟩) q2.2).trans q3
set_option maxRecDepth 8000 in
set_option maxHeartbeats 4000000 in
theorem r45Steps_eq {Q R Q2 R2:Nat→Prop} {w:World} (A B:Option Addr) (c d:Nat) {Cs Ds:List (List Value)} {ss:List StpK} (hA:FlatQ Q w A (List.flatten Cs)) (hB:FlatQ R w B (List.flatten Ds)) (hC:StpsM Q2 w Cs ss) (hD:StpsM R2 w Ds ss) (hv:∀ s∈ss,s.v.length≤1000000∧s.l.length≤1000000) (hs:ss.length≤1000000000) :
    Calls Tryz.prog 24 #[.slice A ss.length c,.slice B ss.length d] w fun e w'=>e=.returned (.bool true)∧Below w.heap.size w w':=by
  have HA:=Lib.hid (And.intro hA hC)
  have HB:=Lib.hid (And.intro hB hD)
  have HV:=Lib.hid hv
  obtain⟨n,hn⟩:∃ n,ss.length=n:=⟨_,rfl⟩
  have HL:=Lib.hid hn
  rw [hn] at hs ⊢
  have hnn:((n:Int) != (n:Int))=false:=by rw [bne_eq_false_iff_eq]
  clear hA hB hC hD hv hn
  go_enter Tryz.func24,Tryz.ntmps24
  go_wp2_with fail
  go_loopg [5] n (fun g iv wr=>∃ k:Nat,k≤n∧n - k≤g∧iv=.int .i64 k∧Hid (Below w.heap.size w wr))
  case atStart=>exact⟨0,Nat.zero_le _,by omega,rfl,Below.refl _ _⟩
  case round=>
    obtain⟨k,hk,hg,rfl,HBW⟩:=hrel
    by_cases hlt:k < n
    · have hks:k < ss.length:=by rw [HL.out];exact hlt
      have hkc:k < Cs.length:=by rw [HA.out.2.len];exact hks
      have hkd:k < Ds.length:=by rw [HB.out.2.len];exact hks
      obtain⟨b1,o1,rfl,hr1⟩:=stps_at HA.out.1 HA.out.2 HBW.out k hkc
      obtain⟨b2,o2,rfl,hr2⟩:=stps_at HB.out.1 HB.out.2 HBW.out k hkd
      have h1:=HA.out.2.at_ k hkc hks
      have h2:=HB.out.2.at_ k hkd hks
      have HC7:Hid (Cs[k].length=7∧Ds[k].length=7):=⟨h1.len,h2.len⟩
      have HS:∀ W,Hid (Below wr.heap.size wr W→Calls Tryz.prog 30 #[.agg Cs[k].toArray,.agg Ds[k].toArray] W fun e w'=>e=.returned (.bool true)∧Below W.heap.size W w'):=fun W=>Lib.hid fun hW=>by
        have hw:=HBW.out.trans (hW.mono HBW.out.size)
        have f:∀ {X:Nat→Prop} {L:List Value} {z:StpK},StpM X w L z→StpM (fun b=>X b∧b < w.heap.size) W L z:=fun q=>by
          obtain⟨A1,c1,A2,c2,A3,c3,e,q1,q2,q3⟩:=q.it
          exact⟨⟨A1,c1,A2,c2,A3,c3,e,q1.lt.below hw fun b q=>q.2,q2.lt.below hw fun b q=>q.2,q3.lt.below hw fun b q=>q.2⟩⟩
        exact r45Same_eq (f h1) (f h2) (HV.out _ (List.getElem_mem hks)).1 (HV.out _ (List.getElem_mem hks)).2
      have HR1:=Lib.hid hr1
      have HR2:=Lib.hid hr2
      have HLT1:Hid (b1 < wr.heap.size):=World.block_lt_of_cell? wr _ (hr1 0 (Cs[k][0]'(by have:=h1.len;omega)) (List.getElem?_eq_getElem _))
      have HLT2:Hid (b2 < wr.heap.size):=World.block_lt_of_cell? wr _ (hr2 0 (Ds[k][0]'(by have:=h2.len;omega)) (List.getElem?_eq_getElem _))
      have i1:(0:Int)≤(k:Int):=by omega
      have i2:(k:Int) < (n:Int):=by omega
      generalize Cs[k]=C at *
      generalize Ds[k]=E at *
      clear h1 h2 hr1 hr2 hkc hkd hks
      go_upto_region 6 with fail
      have hS0:Below wr.heap.size wr wr.drew:=bdrew (Below.refl _ wr)
      refine wp_region_held_drew (S:=fun w'=>Below wr.heap.size wr w') (by kernel_rfl) hS0 (fun hHeld0=>?_)
      refine wpAnyH_take (i:=0) (oi:=⟨some 17,_,_,_,_,_⟩) (v:=?_) rfl (by kernel_rfl) (by kernel_rfl) (by kernel_rfl) (fun _ _ _ h=>h) (Or.inl ⟨by rfl,?_⟩) (by assumption) ?_
      rotate_left
      · intro w' hSw
        go_simp
        try with_reducible rfl
      try go_frame
      refine wpAnyH_take (i:=1) (oi:=⟨some 18,_,_,_,_,_⟩) (v:=?_) rfl (by kernel_rfl) (by kernel_rfl) (by kernel_rfl) (fun _ _ _ h=>h) (Or.inl ⟨by rfl,?_⟩) (by assumption) ?_
      rotate_left
      · intro w' hSw
        go_simp
        try with_reducible rfl
      try go_frame
      refine wpAnyH_take (i:=2) (oi:=⟨some 19,_,_,_,_,_⟩) (v:=?_) rfl (by kernel_rfl) (by kernel_rfl) (by kernel_rfl) (fun _ _ _ h=>h) (Or.inl ⟨by rfl,?_⟩) (by assumption) ?_
      rotate_left
      · intro w' hSw
        go_simp
        try with_reducible rfl
      try go_frame
      refine wpAnyH_take (i:=3) (oi:=⟨some 20,_,_,_,_,_⟩) (v:=_) rfl (by kernel_rfl) (by kernel_rfl) (by kernel_rfl) (fun _ _ _ h=>h) (yieldsIf_load_mid (by rfl) 30 _ rfl b1 (o1+k * 7) rfl C _ (fun w' hSw=>range_below HR1.out hSw HLT1.out) Tryz.underlying30 rfl (by rw [HC7.out.1];kernel_rfl)) (by assumption) ?_
      try go_frame
      refine wpAnyH_take (i:=4) (oi:=⟨some 21,_,_,_,_,_⟩) (v:=?_) rfl (by kernel_rfl) (by kernel_rfl) (by kernel_rfl) (fun _ _ _ h=>h) (Or.inl ⟨by rfl,?_⟩) (by assumption) ?_
      rotate_left
      · intro w' hSw
        go_simp
        try with_reducible rfl
      try go_frame
      refine wpAnyH_take (i:=5) (oi:=⟨some 22,_,_,_,_,_⟩) (v:=?_) rfl (by kernel_rfl) (by kernel_rfl) (by kernel_rfl) (fun _ _ _ h=>h) (Or.inl ⟨by rfl,?_⟩) (by assumption) ?_
      rotate_left
      · intro w' hSw
        go_simp
        try with_reducible rfl
      try go_frame
      refine wpAnyH_take (i:=6) (oi:=⟨some 23,_,_,_,_,_⟩) (v:=?_) rfl (by kernel_rfl) (by kernel_rfl) (by kernel_rfl) (fun _ _ _ h=>h) (Or.inl ⟨by rfl,?_⟩) (by assumption) ?_
      rotate_left
      · intro w' hSw
        go_simp
        try with_reducible rfl
      try go_frame
      refine wpAnyH_take (i:=7) (oi:=⟨some 24,_,_,_,_,_⟩) (v:=_) rfl (by kernel_rfl) (by kernel_rfl) (by kernel_rfl) (fun _ _ _ h=>h) (yieldsIf_load_mid (by rfl) 30 _ rfl b2 (o2+k * 7) rfl E _ (fun w' hSw=>range_below HR2.out hSw HLT2.out) Tryz.underlying30 rfl (by rw [HC7.out.2];kernel_rfl)) (by assumption) ?_
      try go_frame
      refine wpAnyH_ready (rs:=[8]) (by kernel_rfl) (by simp) ?_
      refine AllReadyH.cons (o:=⟨some 25,_,_,_,_,_⟩) rfl (fun K hK=>?_) AllReadyH.nil
      rw [if_pos (by rfl)]
      go_step
      refine ((HS _).out (hHeld0.mono (Nat.le_refl _))).mono ?_
      rintro e w2 ⟨rfl,hb⟩
      have HS2:Hid (Below wr.heap.size wr w2):=Lib.hid (hHeld0.trans (hb.mono hHeld0.size))
      clear hb
      try go_frame
      refine hK.out _ _ (HS2.out) (fun hHeld=>?_)
      clear hK K
      try go_frame
      refine wpAnyH_take (i:=9) (oi:=⟨some 26,_,_,_,_,_⟩) (v:=?_) rfl (by kernel_rfl) (by kernel_rfl) (by kernel_rfl) (fun _ _ _ h=>h) (Or.inl ⟨by rfl,?_⟩) (by assumption) ?_
      rotate_left
      · intro w' hSw
        go_simp
        try with_reducible rfl
      try go_frame
      refine wpAnyH_done (by kernel_rfl) ?_ _
      try go_frame
      go_wp2_with fail
      go_roundg (n - (k+1))
      case rel=>exact⟨k+1,by omega,by omega,by go_num,Lib.hid (HBW.out.trans (HS2.out.mono HBW.out.size))⟩
      case measure=>omega
    · have hge:(n:Int)≤(k:Int):=by omega
      go_wp2_with fail
      go_ret
      exact⟨rfl,HBW.out⟩
def showK (ss:List StpK):List UInt8:=ss.flatMap fun s=>textK s++[10]
theorem showK_step (ss:List StpK) (k:Nat) (h:k < ss.length):showK (ss.take (k+1))=showK (ss.take k)++textK ss[k]++[10]:=by
  unfold showK
  rw [List.take_succ_eq_append_getElem h,List.flatMap_append]
  simp
theorem showK_le (ss:List StpK) (k:Nat):(showK (ss.take k)).length≤(showK ss).length:=by
  have:showK ss=showK (ss.take k)++showK (ss.drop k):=by unfold showK;rw [← List.flatMap_append,List.take_append_drop]
  rw [this,List.length_append]
  omega
set_option maxHeartbeats 2000000 in
set_option maxRecDepth 100000 in
theorem bldString_new (w:World):Calls Tryz.prog 64 #[.pointer (some ⟨w.heap.size,0,none⟩)] (w.alloc (.cells #[.pointer none,.slice none 0 0] 157)) fun e w'=>e=.returned (.string (toB []))∧Below w.heap.size w w':=by
  have c1:(w.alloc (.cells #[.pointer none,.slice none 0 0] 157)).drew.cell? ⟨w.heap.size,1,none⟩=some (.slice none 0 0):=World.cell?_alloc_at (w:=w) _ _ _ _ rfl
  have HB:=Lib.hid (bdrew (below_new w (.cells #[.pointer none,.slice none 0 0] 157)))
  generalize w.alloc (.cells #[.pointer none,.slice none 0 0] 157)=W at *
  have hSD:(Builtin.unsafeSliceData_ #[22] 216 #[.slice none 0 0]).run Tryz.prog W.drew=.ok (.pointer none) W.drew:=by kernel_rfl
  have hUS:(Builtin.unsafeString_ #[216,3] 9 #[.pointer none,.int .i64 0]).run Tryz.prog W.drew=.ok (.string ⟨#[]⟩) W.drew:=by kernel_rfl
  go_enter Tryz.func64,Tryz.ntmps64
  go_wp2
  go_region
  all_goals (go_wp2;go_ret;exact⟨rfl,HB.out⟩)
set_option maxHeartbeats 4000000 in
theorem scrShow_any {Q R:Nat→Prop} {w:World} (A:Option Addr) (c:Nat) {Cs:List (List Value)} {ss:List StpK} (hA:FlatQ Q w A (List.flatten Cs)) (hC:StpsM R w Cs ss) (hf:∀ s∈ss,StpFit s) (hl:(showK ss).length≤100000000) (hs:ss.length≤1000000000) :
    Calls Tryz.prog 32 #[.slice A ss.length c] w fun e w'=>e=.returned (.string (toB (showK ss)))∧Below w.heap.size w w':=by
  have HZ:=fun W=>Lib.hid (zero_Stp W)
  by_cases h0:ss=[]
  · subst h0
    clear hA hC hf
    go_enter Tryz.func32,Tryz.ntmps32
    go_wp2_with fail
    refine wp_loop_rounds 1 ?_
    rw [rounds_succ]
    go_wp2_with fail
    refine (bldString_new w).mono ?_
    rintro e w1 ⟨rfl,hb⟩
    go_wp2_with fail
    go_ret
    exact⟨rfl,hb⟩
  have HA:=Lib.hid (And.intro hA hC)
  have HF:=Lib.hid hf
  have hp:0 < ss.length:=List.length_pos_iff.2 h0
  have HNE:Hid (showK ss≠[]):=fun q=>by
    cases ss with
    | nil=>exact h0 rfl
    | cons s r=>simp [showK] at q
  obtain⟨n,hn⟩:∃ n,ss.length=n:=⟨_,rfl⟩
  have HL:=Lib.hid hn
  rw [hn] at hs hp ⊢
  have HB0:=Lib.hid (BldI.new w)
  have HLL:=Lib.hid hl
  clear hA hC hf hn h0 hl
  go_enter Tryz.func32,Tryz.ntmps32
  go_wp2_with fail
  go_loopw [8] (fun iv wr=>∃ k:Nat,iv=.int .i64 k∧k≤n∧Hid (BldI w (showK (ss.take k)) wr)) (fun iv _=>n - (intOf iv).toNat)
  case atStart=>exact⟨0,rfl,by omega,HB0⟩
  case round=>
    obtain⟨k,rfl,hk,HB⟩:=hrel
    by_cases hlt:k < n
    · have hks:k < ss.length:=by rw [HL.out];exact hlt
      have hkc:k < Cs.length:=by rw [HA.out.2.len];exact hks
      obtain⟨b,off,rfl,hr⟩:=stps_at HA.out.1 HA.out.2 HB.out.2.1 k hkc
      have h1:=HA.out.2.at_ k hkc hks
      have HC7:=Lib.hid h1.len
      have HCO:=Lib.hid h1.ones
      have HTX:∀ W,Hid (Below wr.heap.size wr W→Calls Tryz.prog 28 #[.agg Cs[k].toArray] W fun e w'=>e=.returned (.string (toB (textK ss[k])))∧Below W.heap.size W w'):=fun W=>Lib.hid fun hW=>by
        have hw:=HB.out.2.1.trans (hW.mono HB.out.2.1.size)
        obtain⟨A1,c1,A2,c2,A3,c3,e,q1,q2,q3⟩:=h1.it
        exact scrText_any (Q:=fun b=>True) ⟨⟨A1,c1,A2,c2,A3,c3,e,(q1.lt.below hw fun b q=>q.2).less fun _ _=>trivial,(q2.lt.below hw fun b q=>q.2).less fun _ _=>trivial,(q3.lt.below hw fun b q=>q.2).less fun _ _=>trivial⟩⟩ (HF.out _ (List.getElem_mem hks))
      have HRG:=Lib.hid hr
      have HS:=Lib.hid (showK_step ss k hks)
      have HSL:Hid ((showK (ss.take k)).length≤100000000∧(textK ss[k]).length≤100000000):=by
        have h2:=showK_le ss k
        have h3:=showK_le ss (k+1)
        have h4:=HLL.out
        rw [HS.out,List.length_append,List.length_append] at h3
        exact⟨by omega,by omega⟩
      generalize Cs[k]=C at *
      generalize textK ss[k]=x at *
      have i1:(0:Int)≤(k:Int):=by omega
      have i2:(k:Int) < (n:Int):=by omega
      clear h1 hr hkc hks
      go_wp2_with (first
        | refine wpList_load_mid rfl 30 _ rfl b (off+k * 7) rfl C _ HRG.out Tryz.underlying30 rfl (by rw [HC7.out];kernel_rfl) ?_
        | (refine wpList_alloc_new rfl 30 rfl stZ.toArray (HZ _).out ?_;intro W1 hW;have HK1:=Lib.hid (Blk.newL (L:=stZ) hW rfl);have HB1:=Lib.hid hW.bel;clear hW)
        | (refine wpList_store_in rfl 30 _ _ rfl wr.heap.size 0 C.toArray rfl rfl (st_there HK1.out rfl HC7.out) (st_size HC7.out) HCO.out ?_;intro W2 hs;have HK2:=Lib.hid (st_put HK1.out rfl HC7.out hs);have HB2:=Lib.hid (HB1.out.trans (hs.below (Nat.le_refl _)));clear hs)
        | refine wpList_load_mid rfl 30 _ rfl wr.heap.size 0 rfl C _ HK2.out.rg Tryz.underlying30 rfl (by rw [HC7.out];kernel_rfl) ?_)
      refine ((HTX _).out HB2.out).mono ?_
      rintro e w3 ⟨rfl,hb⟩
      have HB3:=Lib.hid (HB.out.on (HB2.out.trans (hb.mono HB2.out.size)))
      clear hb
      go_wp2_with fail
      refine (HB3.out.str x (by have:=HSL.out.1;omega) (by have:=HSL.out.2;omega)).mono ?_
      rintro e w4 ⟨rfl,hb⟩
      have HB4:=Lib.hid hb
      clear hb
      go_wp2_with fail
      refine (HB4.out.byte 10 (by rw [List.length_append];have:=HSL.out.1;have:=HSL.out.2;omega)).mono ?_
      rintro e w5 ⟨rfl,hb⟩
      have HB5:Hid (BldI w (showK (ss.take (k+1))) w5):=by show BldI _ _ _;rw [HS.out];exact hb
      clear hb
      go_wp2_with fail
      go_roundw
      case rel=>exact⟨k+1,by go_num,by omega,HB5⟩
      case measure=>simp [intOf];omega
    · have hge:(n:Int)≤(k:Int):=by omega
      have HBE:Hid (BldI w (showK ss) wr):=by
        have:=HB.out
        rw [List.take_of_length_le (by rw [HL.out];omega)] at this
        exact this
      go_wp2_with fail
      refine (HBE.out.text HNE.out).mono ?_
      rintro e w2 ⟨rfl,hb⟩
      go_wp2_with fail
      go_ret
      exact⟨rfl,hb⟩
end Go.Proofs.YtaiepcgfofpmjaaGreat
