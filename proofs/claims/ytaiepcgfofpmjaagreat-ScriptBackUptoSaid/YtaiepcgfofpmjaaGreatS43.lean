/- Layer 45: a step's line, of the reference. -/
import Derived.Test.YtaiepcgfofpmjaaGreatS20
import Derived.Test.YtaiepcgfofpmjaaGreatS40
import Derived.Test.YtaiepcgfofpmjaaGreatS41
import Derived.Test.YtaiepcgfofpmjaaGreatS42
import Derived.Test.YtaiepcgfofpmjaaGreatS38
import Derived.Test.YtaiepcgfofpmjaaGreatS39
namespace Go.Proofs.YtaiepcgfofpmjaaGreat
set_option linter.unusedVariables false
open Go.RowKit
theorem toB_two (x l:List UInt8):toB (joinB 32 [x,l])=toB (x++[32])++toB l:=by
  rw [toB_append]
  show toB (x++32 :: l)=_
  rw [List.append_assoc]
  rfl
theorem r45Text_num {w:World} (s:StpK) (A1:Option Addr) (c1:Nat) (A2:Option Addr) (c2:Nat) (A3:Option Addr) (c3:Nat) (hf:StpFit s) (hk:s.k=1∨s.k=3):Calls Tryz.prog 29 #[.agg (stpC s A1 c1 A2 c2 A3 c3).toArray] w fun e w'=>e=.returned (.string (toB (textK s)))∧Below w.heap.size w w':=by
  obtain⟨sk,sb,sn,sid,sv,sy,sl⟩:=s
  obtain⟨g1,g2,g3,g4,g5,g6,g7,g8⟩:=hf
  unfold stpC
  dsimp only at *
  have HD:=fun W=>Lib.hid (r45Digits_any sn W g1)
  have hl:=(dgT_len g1).2
  have hs:=size_B (dgT sn)
  generalize hq:dgT sn=d at *
  rw [← hs] at hl
  rcases hk with rfl | rfl
  · have HT:Hid (textK ⟨1,sb,sn,sid,sv,sy,sl⟩=joinB 32 [wTick,d]):=by show _=_;rw [← hq];rfl
    have HX:=Lib.hid (toB_two wTick d)
    have hxs:toB (wTick++[32])=⟨(wTick++[32]).toArray⟩:=rfl
    clear hq
    generalize toB d=D at *
    go_enter Tryz.func29,Tryz.ntmps29
    go_wp2_with fail
    refine (HD _).out.mono ?_
    rintro e w1 ⟨rfl,hb⟩
    have HB1:=Lib.hid (bthen (below_new _ _) hb)
    clear hb
    go_wp2_with fail
    go_ret
    exact⟨by rw [HT.out,HX.out];rfl,HB1.out⟩
  · have HT:Hid (textK ⟨3,sb,sn,sid,sv,sy,sl⟩=joinB 32 [wLog,d]):=by show _=_;rw [← hq];rfl
    have HX:=Lib.hid (toB_two wLog d)
    have hxs:toB (wLog++[32])=⟨(wLog++[32]).toArray⟩:=rfl
    clear hq
    generalize toB d=D at *
    go_enter Tryz.func29,Tryz.ntmps29
    go_wp2_with fail
    refine (HD _).out.mono ?_
    rintro e w1 ⟨rfl,hb⟩
    have HB1:=Lib.hid (bthen (below_new _ _) hb)
    clear hb
    go_wp2_with fail
    go_ret
    exact⟨by rw [HT.out,HX.out];rfl,HB1.out⟩
theorem r45Text_none {w:World} (s:StpK) (A1:Option Addr) (c1:Nat) (A2:Option Addr) (c2:Nat) (A3:Option Addr) (c3:Nat) (hk:s.k < 0∨4 < s.k):Calls Tryz.prog 29 #[.agg (stpC s A1 c1 A2 c2 A3 c3).toArray] w fun e w'=>e=.returned (.string (toB (textK s)))∧Below w.heap.size w w':=by
  obtain⟨sk,sb,sn,sid,sv,sy,sl⟩:=s
  have HT:Hid (textK ⟨sk,sb,sn,sid,sv,sy,sl⟩=[]):=by
    show _=_
    unfold textK
    dsimp only at *
    rw [if_neg (by omega),if_neg (by omega),if_neg (by omega),if_neg (by omega),if_neg (by omega)]
  unfold stpC
  dsimp only at *
  have k0:(sk==0)=false:=by rw [beq_eq_false_iff_ne];omega
  have k1:(sk==1)=false:=by rw [beq_eq_false_iff_ne];omega
  have k2:(sk==2)=false:=by rw [beq_eq_false_iff_ne];omega
  have k3:(sk==3)=false:=by rw [beq_eq_false_iff_ne];omega
  have k4:(sk==4)=false:=by rw [beq_eq_false_iff_ne];omega
  clear hk
  go_enter Tryz.func29,Tryz.ntmps29
  go_wp2_with fail
  go_ret
  exact⟨by rw [HT.out];rfl,below_new _ _⟩
theorem r45Text_bytes {Q:Nat→Prop} {w:World} (s:StpK) (A1:Option Addr) (c1:Nat) (A2:Option Addr) (c2:Nat) (A3:Option Addr) (c3:Nat) (hf:StpFit s) (hk:s.k=0) (h1:FlatQ Q w A1 (s.b.map byL)):Calls Tryz.prog 29 #[.agg (stpC s A1 c1 A2 c2 A3 c3).toArray] w fun e w'=>e=.returned (.string (toB (textK s)))∧Below w.heap.size w w':=by
  obtain⟨sk,sb,sn,sid,sv,sy,sl⟩:=s
  obtain⟨g1,g2,g3,g4,g5,g6,g7,g8⟩:=hf
  unfold stpC
  dsimp only at *
  subst hk
  have HD:∀ W,Hid (Below w.heap.size w W→Calls Tryz.prog 57 #[.slice A1 sb.length c1] W fun e w'=>e=.returned (.string (toB (hexT sb)))∧Below W.heap.size W w'):=fun W=>Lib.hid fun hW=>r45Hex_any A1 c1 sb (h1.lt.below hW fun b q=>q.2) (by omega)
  have hl:=hexT_len sb
  have hs:=size_B (hexT sb)
  rw [← hs] at hl
  have HT:Hid (textK ⟨0,sb,sn,sid,sv,sy,sl⟩=joinB 32 [wBytes,hexT sb]):=rfl
  have HX:=Lib.hid (toB_two wBytes (hexT sb))
  generalize hexT sb=d at *
  generalize toB d=D at *
  clear h1
  go_enter Tryz.func29,Tryz.ntmps29
  go_wp2_with fail
  refine ((HD _).out (below_new _ _)).mono ?_
  rintro e w1 ⟨rfl,hb⟩
  have HB1:=Lib.hid (bthen (below_new _ _) hb)
  clear hb
  go_wp2_with fail
  go_ret
  exact⟨by rw [HT.out,HX.out];rfl,HB1.out⟩
set_option maxRecDepth 8000 in
set_option maxHeartbeats 2000000 in
theorem r45Text_send {Q:Nat→Prop} {w:World} (s:StpK) (A1:Option Addr) (c1:Nat) (A2:Option Addr) (c2:Nat) (A3:Option Addr) (c3:Nat) (hf:StpFit s) (hk:s.k=2) (h2:FlatQ Q w A2 (s.v.map intL)):Calls Tryz.prog 29 #[.agg (stpC s A1 c1 A2 c2 A3 c3).toArray] w fun e w'=>e=.returned (.string (toB (textK s)))∧Below w.heap.size w w':=by
  obtain⟨sk,sb,sn,sid,sv,sy,sl⟩:=s
  obtain⟨g1,g2,g3,g4,g5,g6,g7,g8⟩:=hf
  unfold stpC
  dsimp only at *
  subst hk
  have HD:=fun W=>Lib.hid (r45Digits_any sid W g2)
  have hl:=(dgT_len g2).2
  have hs:=size_B (dgT sid)
  have hl2:=tail_words dgT sv fun n hn=>(dgT_len (g4 n hn)).2
  have hs2:=size_B (tailT (sv.map dgT))
  rw [← hs] at hl
  rw [← hs2] at hl2
  have HT:Hid (toB (textK ⟨2,sb,sn,sid,sv,sy,sl⟩)=toB (wSend++[32])++toB (dgT sid)++toB (tailT (sv.map dgT))):=by
    show toB (joinB 32 (wSend :: dgT sid :: sv.map dgT))=_
    rw [joinB_tail,toB_append,toB_append]
    simp [tailT]
  have HA:∀ W,Hid (Below (w.alloc (.cells #[.int .i64 2,.slice A1 sb.length c1,.int .i64 sn,.int .i64 sid,.slice A2 sv.length c2,.int .i64 sy,.slice A3 sl.length c3] 30)).heap.size (w.alloc (.cells #[.int .i64 2,.slice A1 sb.length c1,.int .i64 sn,.int .i64 sid,.slice A2 sv.length c2,.int .i64 sy,.slice A3 sl.length c3] 30)) W→Calls Tryz.prog 59 #[.slice A2 sv.length c2] W fun e w'=>e=.returned (.string (toB (tailT (sv.map dgT))))∧Below W.heap.size W w'):=fun W=>Lib.hid fun hW=>r45Numbers_any A2 c2 sv (h2.lt.below ((below_new w _).trans (hW.mono (by simp))) fun b q=>q.2) g4 (by omega)
  have HC:Hid (∀ W,Below (w.alloc (.cells #[.int .i64 2,.slice A1 sb.length c1,.int .i64 sn,.int .i64 sid,.slice A2 sv.length c2,.int .i64 sy,.slice A3 sl.length c3] 30)).heap.size (w.alloc (.cells #[.int .i64 2,.slice A1 sb.length c1,.int .i64 sn,.int .i64 sid,.slice A2 sv.length c2,.int .i64 sy,.slice A3 sl.length c3] 30)) W→W.cell? ⟨w.heap.size,3,none⟩=some (.int .i64 sid)∧W.cell? ⟨w.heap.size,4,none⟩=some (.slice A2 sv.length c2)):=Lib.hid fun W hW=>
    ⟨(hW.cell (p:=⟨w.heap.size,3,none⟩) (by simp)).trans (by rw [World.cell?_alloc_at _ _ _ _ rfl];rfl),(hW.cell (p:=⟨w.heap.size,4,none⟩) (by simp)).trans (by rw [World.cell?_alloc_at _ _ _ _ rfl];rfl)⟩
  have HB0:=Lib.hid (below_new w (.cells #[.int .i64 2,.slice A1 sb.length c1,.int .i64 sn,.int .i64 sid,.slice A2 sv.length c2,.int .i64 sy,.slice A3 sl.length c3] 30))
  have hxs:(toB (wSend++[32])).size=5:=rfl
  generalize toB (dgT sid)=D at *
  generalize toB (tailT (sv.map dgT))=Y at *
  have n1:¬ 9223372036854775807 < 5+D.size:=by omega
  have n2:¬ 9223372036854775807 < 5+D.size+Y.size:=by omega
  clear h2 g1 g2 g3 g4 g5 hl hl2 hs hs2 hxs
  go_enter Tryz.func29,Tryz.ntmps29
  go_wp2_with fail
  generalize w.alloc (.cells _ 30)=W0 at *
  have hS0:Below W0.heap.size W0 W0.drew:=bdrew (Below.refl _ W0)
  refine wp_region_held_drew (S:=fun w'=>Below W0.heap.size W0 w') (by kernel_rfl) hS0 (fun hHeld0=>?_)
  refine wpAnyH_take (i:=0) (oi:=⟨some 21,_,_,_,_,_⟩) (v:=?_) rfl (by kernel_rfl) (by kernel_rfl) (by kernel_rfl) (fun _ _ _ h=>h) (Or.inl ⟨by rfl,?_⟩) (by assumption) ?_
  rotate_left
  · intro w' hSw
    go_simp
    try with_reducible rfl
  try go_frame
  refine wpAnyH_take (i:=1) (oi:=⟨some 22,_,_,_,_,_⟩) (v:=?_) rfl (by kernel_rfl) (by kernel_rfl) (by kernel_rfl) (fun _ _ _ h=>h) (Or.inl ⟨by rfl,?_⟩) (by assumption) ?_
  rotate_left
  · intro w' hSw
    go_simp
    try with_reducible rfl
  try go_frame
  refine wpAnyH_take (i:=2) (oi:=⟨some 23,_,_,_,_,_⟩) (v:=?_) rfl (by kernel_rfl) (by kernel_rfl) (by kernel_rfl) (fun _ _ _ h=>h) (Or.inl ⟨by rfl,?_⟩) (by assumption) ?_
  rotate_left
  · intro w' hSw
    have c3:=(HC.out w' hSw).1
    go_simp
    try with_reducible rfl
  try go_frame
  refine wpAnyH_take (i:=5) (oi:=⟨some 26,_,_,_,_,_⟩) (v:=?_) rfl (by kernel_rfl) (by kernel_rfl) (by kernel_rfl) (fun _ _ _ h=>h) (Or.inl ⟨by rfl,?_⟩) (by assumption) ?_
  rotate_left
  · intro w' hSw
    go_simp
    try with_reducible rfl
  try go_frame
  refine wpAnyH_take (i:=6) (oi:=⟨some 27,_,_,_,_,_⟩) (v:=?_) rfl (by kernel_rfl) (by kernel_rfl) (by kernel_rfl) (fun _ _ _ h=>h) (Or.inl ⟨by rfl,?_⟩) (by assumption) ?_
  rotate_left
  · intro w' hSw
    go_simp
    try with_reducible rfl
  try go_frame
  refine wpAnyH_take (i:=7) (oi:=⟨some 28,_,_,_,_,_⟩) (v:=?_) rfl (by kernel_rfl) (by kernel_rfl) (by kernel_rfl) (fun _ _ _ h=>h) (Or.inl ⟨by rfl,?_⟩) (by assumption) ?_
  rotate_left
  · intro w' hSw
    have c4:=(HC.out w' hSw).2
    go_simp
    try with_reducible rfl
  try go_frame
  refine wpAnyH_ready (rs:=[3]) (by kernel_rfl) (by simp) ?_
  refine AllReadyH.cons (o:=⟨some 24,_,_,_,_,_⟩) rfl (fun K hK=>?_) AllReadyH.nil
  rw [if_pos (by rfl)]
  go_step
  refine (HD _).out.mono ?_
  rintro e w1 ⟨rfl,hb⟩
  have HS1:Hid (Below W0.heap.size W0 w1):=Lib.hid (hHeld0.trans (hb.mono hHeld0.size))
  clear hb
  try go_frame
  refine hK.out _ _ (HS1.out) (fun hHeld=>?_)
  clear hK K
  try go_frame
  refine wpAnyH_take (i:=4) (oi:=⟨some 25,_,_,_,_,_⟩) (v:=?_) rfl (by kernel_rfl) (by kernel_rfl) (by kernel_rfl) (fun _ _ _ h=>h) (Or.inl ⟨by rfl,?_⟩) (by assumption) ?_
  rotate_left
  · intro w' hSw
    go_simp
    try with_reducible rfl
  try go_frame
  refine wpAnyH_ready (rs:=[8]) (by kernel_rfl) (by simp) ?_
  refine AllReadyH.cons (o:=⟨some 29,_,_,_,_,_⟩) rfl (fun K hK=>?_) AllReadyH.nil
  rw [if_pos (by rfl)]
  go_step
  refine ((HA _).out HS1.out).mono ?_
  rintro e w3 ⟨rfl,hb⟩
  have HS3:Hid (Below W0.heap.size W0 w3):=Lib.hid (bthen HS1.out hb)
  clear hb
  try go_frame
  refine hK.out _ _ (HS3.out) (fun hHeld=>?_)
  clear hK K
  try go_frame
  refine wpAnyH_take (i:=9) (oi:=⟨some 30,_,_,_,_,_⟩) (v:=?_) rfl (by kernel_rfl) (by kernel_rfl) (by kernel_rfl) (fun _ _ _ h=>h) (Or.inl ⟨by rfl,?_⟩) (by assumption) ?_
  rotate_left
  · intro w' hSw
    go_simp
    try with_reducible rfl
  try go_frame
  refine wpAnyH_take (i:=10) (oi:=⟨some 2,_,_,_,_,_⟩) (v:=?_) rfl (by kernel_rfl) (by kernel_rfl) (by kernel_rfl) (fun _ _ _ h=>h) (Or.inl ⟨by rfl,?_⟩) (by assumption) ?_
  rotate_left
  · intro w' hSw
    go_simp
    try with_reducible rfl
  try go_frame
  refine wpAnyH_done (by kernel_rfl) ?_ _
  try go_frame
  have HB4:=Lib.hid (HB0.out.trans (HS3.out.mono HB0.out.size))
  go_wp2_with fail
  go_ret
  exact⟨by rw [HT.out];rfl,HB4.out⟩
set_option maxRecDepth 8000 in
set_option maxHeartbeats 4000000 in
theorem r45Text_ask {Q:Nat→Prop} {w:World} (s:StpK) (A1:Option Addr) (c1:Nat) (A2:Option Addr) (c2:Nat) (A3:Option Addr) (c3:Nat) (hf:StpFit s) (hk:s.k=4) (h3:FlatQ Q w A3 (pairC s.l)):Calls Tryz.prog 29 #[.agg (stpC s A1 c1 A2 c2 A3 c3).toArray] w fun e w'=>e=.returned (.string (toB (textK s)))∧Below w.heap.size w w':=by
  obtain⟨sk,sb,sn,sid,sv,sy,sl⟩:=s
  obtain⟨g1,g2,g3,g4,g5,g6,g7,g8⟩:=hf
  unfold stpC
  dsimp only at *
  subst hk
  have HD:=fun W=>Lib.hid (r45Digits_any sy W g3)
  have hl:=(dgT_len g3).2
  have hs:=size_B (dgT sy)
  rw [← hs] at hl
  have hxs:(toB (wAsk++[32])).size=4:=rfl
  have HT0:Hid (toB (wAsk++[32])++toB (dgT sy)=toB (joinB 32 (wAsk :: dgT sy :: (sl.take 0).map pairT))):=by
    show _=_
    rw [joinB_tail,toB_append]
    simp [tailT]
  have HT1:Hid (∀ k (hk:k < sl.length),toB (joinB 32 (wAsk :: dgT sy :: (sl.take (k+1)).map pairT))=toB (joinB 32 (wAsk :: dgT sy :: (sl.take k).map pairT))++⟨#[32]⟩++toB (dgT sl[k].1)++⟨#[61]⟩++toB (dgT sl[k].2)):=fun k hk=>by
    rw [take_map pairT sl k hk,joinB_tail,joinB_tail,show (⟨#[61]⟩:ByteArray)=toB [61] from rfl,show (⟨#[32]⟩:ByteArray)=toB [32] from rfl,toB_append,toB_append,toB_append,toB_append]
    simp [tailT,pairT]
  have HT2:Hid (joinB 32 (wAsk :: dgT sy :: sl.map pairT)=textK ⟨4,sb,sn,sid,sv,sy,sl⟩):=rfl
  obtain⟨N,hN⟩:∃ N,sl.length=N:=⟨_,rfl⟩
  have HL:=Lib.hid hN
  have HPF:=Lib.hid (And.intro h3 g5)
  rw [hN] at g8
  rw [hN]
  have HB0:=Lib.hid (below_new w (.cells #[.int .i64 4,.slice A1 sb.length c1,.int .i64 sn,.int .i64 sid,.slice A2 sv.length c2,.int .i64 sy,.slice A3 N c3] 30))
  have HC0:Hid (∀ W,Below (w.alloc (.cells #[.int .i64 4,.slice A1 sb.length c1,.int .i64 sn,.int .i64 sid,.slice A2 sv.length c2,.int .i64 sy,.slice A3 N c3] 30)).heap.size (w.alloc (.cells #[.int .i64 4,.slice A1 sb.length c1,.int .i64 sn,.int .i64 sid,.slice A2 sv.length c2,.int .i64 sy,.slice A3 N c3] 30)) W→W.cell? ⟨w.heap.size,6,none⟩=some (.slice A3 N c3)):=Lib.hid fun W hW=>
    (hW.cell (p:=⟨w.heap.size,6,none⟩) (by simp)).trans (by rw [World.cell?_alloc_at _ _ _ _ rfl];rfl)
  generalize toB (dgT sy)=DY at *
  clear h3 g1 g2 g3 g4 g5 g6 g7 hs hN
  go_enter Tryz.func29,Tryz.ntmps29
  go_wp2_with fail
  generalize w.alloc (.cells #[.int .i64 4,.slice A1 sb.length c1,.int .i64 sn,.int .i64 sid,.slice A2 sv.length c2,.int .i64 sy,.slice A3 N c3] 30)=W0 at *
  refine (HD _).out.mono ?_
  rintro e w1 ⟨rfl,hb⟩
  have HB1:=Lib.hid hb
  clear hb
  have hds:DY.size≤20:=hl
  go_wp2_with fail
  go_loopw [3,4] (fun v iv wr=>∃ (k:Nat) (S:ByteArray),iv=.int .i64 k∧v=.string S∧k≤N∧S.size≤24+42 * k∧Hid (S=toB (joinB 32 (wAsk :: dgT sy :: (sl.take k).map pairT)))∧Hid (Below W0.heap.size W0 wr)) (fun _ iv _=>N - (intOf iv).toNat)
  case atStart=>exact⟨0,_,rfl,rfl,by omega,(by rw [ByteArray.size_append];have:(ByteArray.mk #[97,115,107,32]).size=4:=rfl;omega),HT0,HB1⟩
  case round=>
    obtain⟨k,S,rfl,rfl,hk,hsz,HS,HB⟩:=hrel
    have HBW:=Lib.hid (HB0.out.trans (HB.out.mono HB0.out.size))
    have c6:=HC0.out wr HB.out
    by_cases hlt:k < N
    · have hkl:k < sl.length:=by rw [HL.out];exact hlt
      obtain⟨b,off,rfl,k0,k1⟩:=pair_at HPF.out.1 HBW.out k hkl
      have h64:=HPF.out.2 _ (List.getElem_mem hkl)
      have HD1:=fun W=>Lib.hid (r45Digits_any sl[k].1 W h64.1)
      have HD2:=fun W=>Lib.hid (r45Digits_any sl[k].2 W h64.2)
      have s1:=size_B (dgT sl[k].1)
      have s2:=size_B (dgT sl[k].2)
      have l1:=(dgT_len h64.1).2
      have l2:=(dgT_len h64.2).2
      rw [← s1] at l1
      rw [← s2] at l2
      have HN:=HT1.out k hkl
      rw [← HS.out] at HN
      have HN:=Lib.hid HN
      have HCC:Hid (∀ w':World,Below wr.heap.size wr w'→w'.cell? ⟨w.heap.size,6,none⟩=some (.slice (some ⟨b,off,none⟩) N c3)∧w'.cell? ⟨b,off+k * 2,none⟩=some (.int .i64 sl[k].1)∧w'.cell? ⟨b,off+k * 2+1,none⟩=some (.int .i64 sl[k].2)):=Lib.hid fun w' hw=>⟨(hw.cell (p:=⟨w.heap.size,6,none⟩) (World.block_lt_of_cell? wr _ c6)).trans c6,(hw.cell (p:=⟨b,off+k * 2,none⟩) (World.block_lt_of_cell? wr _ k0)).trans k0,(hw.cell (p:=⟨b,off+k * 2+1,none⟩) (World.block_lt_of_cell? wr _ k1)).trans k1⟩
      generalize sl[k].1=a at *
      generalize sl[k].2=c at *
      generalize toB (dgT a)=X at *
      generalize toB (dgT c)=Y at *
      have hz:(S++⟨#[32]⟩++X++⟨#[61]⟩++Y).size≤24+42 * (k+1):=by
        rw [ByteArray.size_append,ByteArray.size_append,ByteArray.size_append,ByteArray.size_append]
        have:(ByteArray.mk #[32]).size=1:=rfl
        have:(ByteArray.mk #[61]).size=1:=rfl
        omega
      have HZ:=Lib.hid hz
      have n1:¬ 9223372036854775807 < S.size+1:=by omega
      have n2:¬ 9223372036854775807 < S.size+1+X.size:=by omega
      have n3:¬ 9223372036854775807 < S.size+1+X.size+1:=by omega
      have n4:¬ 9223372036854775807 < S.size+1+X.size+1+Y.size:=by omega
      have i1:(0:Int)≤(k:Int):=by omega
      have i2:(k:Int) < (N:Int):=by omega
      clear h64 s1 s2 l1 l2 hz
      go_upto_region 15 with fail
      clear k0 k1 c6
      have hS0:Below wr.heap.size wr wr.drew:=bdrew (Below.refl _ wr)
      refine wp_region_held_drew (S:=fun w'=>Below wr.heap.size wr w') (by kernel_rfl) hS0 (fun hHeld0=>?_)
      refine wpAnyH_take (i:=0) (oi:=⟨some 52,_,_,_,_,_⟩) (v:=?_) rfl (by kernel_rfl) (by kernel_rfl) (by kernel_rfl) (fun _ _ _ h=>h) (Or.inl ⟨by rfl,?_⟩) (by assumption) ?_
      rotate_left
      · intro w' hSw
        go_simp
        try with_reducible rfl
      try go_frame
      refine wpAnyH_take (i:=1) (oi:=⟨some 53,_,_,_,_,_⟩) (v:=?_) rfl (by kernel_rfl) (by kernel_rfl) (by kernel_rfl) (fun _ _ _ h=>h) (Or.inl ⟨by rfl,?_⟩) (by assumption) ?_
      rotate_left
      · intro w' hSw
        go_simp
        try with_reducible rfl
      try go_frame
      refine wpAnyH_take (i:=2) (oi:=⟨some 54,_,_,_,_,_⟩) (v:=?_) rfl (by kernel_rfl) (by kernel_rfl) (by kernel_rfl) (fun _ _ _ h=>h) (Or.inl ⟨by rfl,?_⟩) (by assumption) ?_
      rotate_left
      · intro w' hSw
        go_simp
        try with_reducible rfl
      try go_frame
      refine wpAnyH_take (i:=3) (oi:=⟨some 55,_,_,_,_,_⟩) (v:=?_) rfl (by kernel_rfl) (by kernel_rfl) (by kernel_rfl) (fun _ _ _ h=>h) (Or.inl ⟨by rfl,?_⟩) (by assumption) ?_
      rotate_left
      · intro w' hSw
        go_simp
        try with_reducible rfl
      try go_frame
      refine wpAnyH_take (i:=4) (oi:=⟨some 56,_,_,_,_,_⟩) (v:=?_) rfl (by kernel_rfl) (by kernel_rfl) (by kernel_rfl) (fun _ _ _ h=>h) (Or.inl ⟨by rfl,?_⟩) (by assumption) ?_
      rotate_left
      · intro w' hSw
        have cx:=(HCC.out w' hSw)
        have k0:=cx.1
        have k1:=cx.2.1
        have k2:=cx.2.2
        clear cx
        go_simp
        try with_reducible rfl
      try go_frame
      refine wpAnyH_take (i:=5) (oi:=⟨some 57,_,_,_,_,_⟩) (v:=?_) rfl (by kernel_rfl) (by kernel_rfl) (by kernel_rfl) (fun _ _ _ h=>h) (Or.inl ⟨by rfl,?_⟩) (by assumption) ?_
      rotate_left
      · intro w' hSw
        go_simp
        try with_reducible rfl
      try go_frame
      refine wpAnyH_take (i:=6) (oi:=⟨some 58,_,_,_,_,_⟩) (v:=?_) rfl (by kernel_rfl) (by kernel_rfl) (by kernel_rfl) (fun _ _ _ h=>h) (Or.inl ⟨by rfl,?_⟩) (by assumption) ?_
      rotate_left
      · intro w' hSw
        go_simp
        try with_reducible rfl
      try go_frame
      refine wpAnyH_take (i:=7) (oi:=⟨some 59,_,_,_,_,_⟩) (v:=?_) rfl (by kernel_rfl) (by kernel_rfl) (by kernel_rfl) (fun _ _ _ h=>h) (Or.inl ⟨by rfl,?_⟩) (by assumption) ?_
      rotate_left
      · intro w' hSw
        go_simp
        try with_reducible rfl
      try go_frame
      refine wpAnyH_take (i:=8) (oi:=⟨some 60,_,_,_,_,_⟩) (v:=?_) rfl (by kernel_rfl) (by kernel_rfl) (by kernel_rfl) (fun _ _ _ h=>h) (Or.inl ⟨by rfl,?_⟩) (by assumption) ?_
      rotate_left
      · intro w' hSw
        have cx:=(HCC.out w' hSw)
        have k0:=cx.1
        have k1:=cx.2.1
        have k2:=cx.2.2
        clear cx
        go_simp
        try with_reducible rfl
      try go_frame
      refine wpAnyH_take (i:=12) (oi:=⟨some 64,_,_,_,_,_⟩) (v:=?_) rfl (by kernel_rfl) (by kernel_rfl) (by kernel_rfl) (fun _ _ _ h=>h) (Or.inl ⟨by rfl,?_⟩) (by assumption) ?_
      rotate_left
      · intro w' hSw
        go_simp
        try with_reducible rfl
      try go_frame
      refine wpAnyH_take (i:=13) (oi:=⟨some 65,_,_,_,_,_⟩) (v:=?_) rfl (by kernel_rfl) (by kernel_rfl) (by kernel_rfl) (fun _ _ _ h=>h) (Or.inl ⟨by rfl,?_⟩) (by assumption) ?_
      rotate_left
      · intro w' hSw
        go_simp
        try with_reducible rfl
      try go_frame
      refine wpAnyH_take (i:=14) (oi:=⟨some 66,_,_,_,_,_⟩) (v:=?_) rfl (by kernel_rfl) (by kernel_rfl) (by kernel_rfl) (fun _ _ _ h=>h) (Or.inl ⟨by rfl,?_⟩) (by assumption) ?_
      rotate_left
      · intro w' hSw
        have cx:=(HCC.out w' hSw)
        have k0:=cx.1
        have k1:=cx.2.1
        have k2:=cx.2.2
        clear cx
        go_simp
        try with_reducible rfl
      try go_frame
      refine wpAnyH_take (i:=15) (oi:=⟨some 67,_,_,_,_,_⟩) (v:=?_) rfl (by kernel_rfl) (by kernel_rfl) (by kernel_rfl) (fun _ _ _ h=>h) (Or.inl ⟨by rfl,?_⟩) (by assumption) ?_
      rotate_left
      · intro w' hSw
        go_simp
        try with_reducible rfl
      try go_frame
      refine wpAnyH_take (i:=16) (oi:=⟨some 68,_,_,_,_,_⟩) (v:=?_) rfl (by kernel_rfl) (by kernel_rfl) (by kernel_rfl) (fun _ _ _ h=>h) (Or.inl ⟨by rfl,?_⟩) (by assumption) ?_
      rotate_left
      · intro w' hSw
        go_simp
        try with_reducible rfl
      try go_frame
      refine wpAnyH_take (i:=17) (oi:=⟨some 69,_,_,_,_,_⟩) (v:=?_) rfl (by kernel_rfl) (by kernel_rfl) (by kernel_rfl) (fun _ _ _ h=>h) (Or.inl ⟨by rfl,?_⟩) (by assumption) ?_
      rotate_left
      · intro w' hSw
        go_simp
        try with_reducible rfl
      try go_frame
      refine wpAnyH_take (i:=18) (oi:=⟨some 70,_,_,_,_,_⟩) (v:=?_) rfl (by kernel_rfl) (by kernel_rfl) (by kernel_rfl) (fun _ _ _ h=>h) (Or.inl ⟨by rfl,?_⟩) (by assumption) ?_
      rotate_left
      · intro w' hSw
        have cx:=(HCC.out w' hSw)
        have k0:=cx.1
        have k1:=cx.2.1
        have k2:=cx.2.2
        clear cx
        go_simp
        try with_reducible rfl
      try go_frame
      refine wpAnyH_ready (rs:=[9]) (by kernel_rfl) (by simp) ?_
      refine AllReadyH.cons (o:=⟨some 61,_,_,_,_,_⟩) rfl (fun K hK=>?_) AllReadyH.nil
      rw [if_pos (by rfl)]
      go_step
      refine (HD1 _).out.mono ?_
      rintro e w2 ⟨rfl,hb⟩
      have HS2:Hid (Below wr.heap.size wr w2):=Lib.hid (hHeld0.trans (hb.mono hHeld0.size))
      clear hb
      try go_frame
      refine hK.out _ _ (HS2.out) (fun hHeld=>?_)
      clear hK K
      try go_frame
      refine wpAnyH_take (i:=10) (oi:=⟨some 62,_,_,_,_,_⟩) (v:=?_) rfl (by kernel_rfl) (by kernel_rfl) (by kernel_rfl) (fun _ _ _ h=>h) (Or.inl ⟨by rfl,?_⟩) (by assumption) ?_
      rotate_left
      · intro w' hSw
        go_simp
        try with_reducible rfl
      try go_frame
      refine wpAnyH_take (i:=11) (oi:=⟨some 63,_,_,_,_,_⟩) (v:=?_) rfl (by kernel_rfl) (by kernel_rfl) (by kernel_rfl) (fun _ _ _ h=>h) (Or.inl ⟨by rfl,?_⟩) (by assumption) ?_
      rotate_left
      · intro w' hSw
        go_simp
        try with_reducible rfl
      try go_frame
      refine wpAnyH_ready (rs:=[19]) (by kernel_rfl) (by simp) ?_
      refine AllReadyH.cons (o:=⟨some 71,_,_,_,_,_⟩) rfl (fun K hK=>?_) AllReadyH.nil
      rw [if_pos (by rfl)]
      go_step
      refine (HD2 _).out.mono ?_
      rintro e w3 ⟨rfl,hb⟩
      have HS3:Hid (Below wr.heap.size wr w3):=Lib.hid (bthen HS2.out hb)
      clear hb
      try go_frame
      refine hK.out _ _ (HS3.out) (fun hHeld=>?_)
      clear hK K
      try go_frame
      refine wpAnyH_take (i:=20) (oi:=⟨some 72,_,_,_,_,_⟩) (v:=?_) rfl (by kernel_rfl) (by kernel_rfl) (by kernel_rfl) (fun _ _ _ h=>h) (Or.inl ⟨by rfl,?_⟩) (by assumption) ?_
      rotate_left
      · intro w' hSw
        go_simp
        try with_reducible rfl
      try go_frame
      refine wpAnyH_take (i:=21) (oi:=⟨some 3,_,_,_,_,_⟩) (v:=?_) rfl (by kernel_rfl) (by kernel_rfl) (by kernel_rfl) (fun _ _ _ h=>h) (Or.inl ⟨by rfl,?_⟩) (by assumption) ?_
      rotate_left
      · intro w' hSw
        go_simp
        try with_reducible rfl
      try go_frame
      refine wpAnyH_done (by kernel_rfl) ?_ _
      try go_frame
      have HB2:=Lib.hid (HB.out.trans (HS3.out.mono HB.out.size))
      go_wp2_with fail
      go_roundw
      case rel=>exact⟨k+1,_,by go_num,rfl,by omega,HZ.out,Lib.hid HN.out.symm,HB2⟩
      case measure=>simp [intOf];omega
    · have hge:(N:Int)≤(k:Int):=by omega
      have HE:Hid (S=toB (textK ⟨4,sb,sn,sid,sv,sy,sl⟩)):=by
        have:=HS.out
        rw [List.take_of_length_le (by rw [HL.out];omega),HT2.out] at this
        exact this
      go_wp2_with fail
      go_ret
      exact⟨by rw [← HE.out];rfl,HBW.out⟩
theorem r45Text_any {Q:Nat→Prop} {w:World} {C:List Value} {s:StpK} (h:StpM Q w C s) (hf:StpFit s):Calls Tryz.prog 29 #[.agg C.toArray] w fun e w'=>e=.returned (.string (toB (textK s)))∧Below w.heap.size w w':=by
  obtain⟨A1,c1,A2,c2,A3,c3,rfl,h1,h2,h3⟩:=h.it
  rcases (by omega:(s.k < 0∨4 < s.k)∨s.k=0∨(s.k=1∨s.k=3)∨s.k=2∨s.k=4) with q | q | q | q | q
  · exact r45Text_none s A1 c1 A2 c2 A3 c3 q
  · exact r45Text_bytes s A1 c1 A2 c2 A3 c3 hf q h1
  · exact r45Text_num s A1 c1 A2 c2 A3 c3 hf q
  · exact r45Text_send s A1 c1 A2 c2 A3 c3 hf q h2
  · exact r45Text_ask s A1 c1 A2 c2 A3 c3 hf q h3
def stpQ:Option Stp→StpK
  | none=>⟨0,[],0,0,[],0,[]⟩
  | some s=>rawK s
def errQ:Option Stp→Int
  | none=>3
  | some _=>0
theorem LineOut.q {o:Option Stp} {w:World} {e:Ending} {w':World} (h:LineOut o w e w'):∃ A1 c1 A2 c2 A3 c3,e=.returned (.tuple #[.agg (stpC (stpQ o) A1 c1 A2 c2 A3 c3).toArray,.int .i64 (errQ o)])∧StpM (fun b=>b < w'.heap.size) w' (stpC (stpQ o) A1 c1 A2 c2 A3 c3) (stpQ o)∧Below w.heap.size w w':=by
  obtain⟨h,hb⟩:=h
  rcases h with ⟨rfl,h⟩ | ⟨s,C,rfl,h,hm⟩
  · exact⟨none,0,none,0,none,0,h,⟨⟨none,0,none,0,none,0,rfl,FlatQ.nil _ _ _,FlatQ.nil _ _ _,FlatQ.nil _ _ _⟩⟩,hb⟩
  · obtain⟨A1,c1,A2,c2,A3,c3,rfl,h1,h2,h3⟩:=hm.it
    exact⟨A1,c1,A2,c2,A3,c3,h,⟨⟨A1,c1,A2,c2,A3,c3,rfl,h1.less fun b q=>q.2,h2.less fun b q=>q.2,h3.less fun b q=>q.2⟩⟩,hb⟩
theorem stpQ_len (l:List UInt8):(stpQ (lineW l)).v.length≤l.length+1∧(stpQ (lineW l)).l.length≤l.length+1:=by
  cases h:lineW l with
  | none=>exact⟨Nat.zero_le _,Nat.zero_le _⟩
  | some s=>
    have h1:=stepW_len _ _ h
    have h2:=split_len 32 l
    exact⟨Nat.le_trans h1.1 h2,Nat.le_trans h1.2 h2⟩
theorem few_one {s:StpK} (h:fewB [s] 1=true):s.v.length≤300∧s.l.length≤40:=by
  unfold fewB fewK fewK at h
  simp only [Bool.and_eq_true] at h
  have h2:=h.2
  split at h2
  · cases h2
  · omega
set_option maxHeartbeats 2000000 in
set_option maxRecDepth 100000 in
theorem scriptLines_any {w:World} (C:List Value) (s:StpK) (line:ByteArray) (h:StpM (fun b=>b < w.heap.size) w C s) (hi:StpIn s) (hbl:s.b.length≤10000000) (hll:line.size≤maxLen):Calls Tryz.prog 5 #[.agg C.toArray,.string line] w fun e w'=>e=.returned (.bool true)∧Below w.heap.size w w':=by
  have HNU:=fun n W=>Lib.hid (num45_any n W)
  have HKN:=fun W=>Lib.hid (knows45_any W)
  have hb2:Below w.heap.size w ((w.alloc (.cells C.toArray 30)).alloc (.cells C.toArray 30)):=bthen (below_new _ _) (below_new _ _)
  have hrg:((w.alloc (.cells C.toArray 30)).alloc (.cells C.toArray 30)).rangeAt (w.heap.size+1) 0 C:=by
    have:=(Blk.newL (L:=C) (grew_alloc (w.alloc (.cells C.toArray 30)) C.toArray 30) rfl).rg
    rwa [World.size_alloc] at this
  obtain⟨f1,f2⟩:=few_world h (fun b q=>hb2.block b q) hrg
  have HFW:=Lib.hid (few44_any (some ⟨w.heap.size+1,0,none⟩) 1 f1 f2 1 (by simp))
  have hc0:=(Blk.newL (L:=C) (grew_alloc w C.toArray 30) rfl).on (below_new (w.alloc (.cells C.toArray 30)) (.cells C.toArray 30))
  obtain⟨A1,c1,A2,c2,A3,c3,rfl,-,-,-⟩:=h.it
  have HC0:=Lib.hid hc0
  have HB2:=Lib.hid hb2
  have HM:=Lib.hid h
  have HI:=Lib.hid hi
  have HBL:=Lib.hid hbl
  unfold maxLen at hll
  clear hb2 hrg f1 f2 h hc0 hi hbl
  unfold stpC at HC0 HB2 HFW
  show Calls Tryz.prog 5 #[.agg #[.int .i64 s.k,.slice A1 s.b.length c1,.int .i64 s.n,.int .i64 s.id,.slice A2 s.v.length c2,.int .i64 s.y,.slice A3 s.l.length c3],.string line] w _
  go_enter Tryz.func5,Tryz.ntmps5
  go_wp2_with fail
  refine HFW.out.mono ?_
  rintro e w2 ⟨rfl,rfl⟩
  by_cases hf:fewB [s] 1=true
  case neg=>
    rw [Bool.not_eq_true] at hf
    rw [hf]
    go_wp2_with fail
    refine (HKN _).out.mono ?_
    rintro e w3 ⟨rfl,hb3⟩
    go_wp2_with fail
    go_ret
    exact⟨rfl,bthen HB2.out hb3⟩
  rw [hf]
  have HFO:=Lib.hid (few_one hf)
  change Hid (Blk ((w.alloc (.cells #[.int .i64 s.k,.slice A1 s.b.length c1,.int .i64 s.n,.int .i64 s.id,.slice A2 s.v.length c2,.int .i64 s.y,.slice A3 s.l.length c3] 30)).alloc (.cells #[.int .i64 s.k,.slice A1 s.b.length c1,.int .i64 s.n,.int .i64 s.id,.slice A2 s.v.length c2,.int .i64 s.y,.slice A3 s.l.length c3] 30)) w.heap.size [.int .i64 s.k,.slice A1 s.b.length c1,.int .i64 s.n,.int .i64 s.id,.slice A2 s.v.length c2,.int .i64 s.y,.slice A3 s.l.length c3]) at HC0
  change Hid (Below w.heap.size w ((w.alloc (.cells #[.int .i64 s.k,.slice A1 s.b.length c1,.int .i64 s.n,.int .i64 s.id,.slice A2 s.v.length c2,.int .i64 s.y,.slice A3 s.l.length c3] 30)).alloc (.cells #[.int .i64 s.k,.slice A1 s.b.length c1,.int .i64 s.n,.int .i64 s.id,.slice A2 s.v.length c2,.int .i64 s.y,.slice A3 s.l.length c3] 30))) at HB2
  generalize (w.alloc (.cells #[.int .i64 s.k,.slice A1 s.b.length c1,.int .i64 s.n,.int .i64 s.id,.slice A2 s.v.length c2,.int .i64 s.y,.slice A3 s.l.length c3] 30)).alloc (.cells #[.int .i64 s.k,.slice A1 s.b.length c1,.int .i64 s.n,.int .i64 s.id,.slice A2 s.v.length c2,.int .i64 s.y,.slice A3 s.l.length c3] 30)=W2 at *
  clear HFW hf
  by_cases hl:5000 < (line.size:Int)
  · go_wp2_with fail
    refine (HKN _).out.mono ?_
    rintro e w3 ⟨rfl,hb3⟩
    go_wp2_with fail
    go_ret
    exact⟨rfl,bthen HB2.out hb3⟩
  have hl':(line.size:Int)≤5000:=by omega
  clear hl hll
  go_wp2_with fail
  refine (HKN _).out.mono ?_
  rintro e w3 ⟨rfl,hb3⟩
  have HB3:=Lib.hid (bthen HB2.out hb3)
  have HC3:=Lib.hid (HC0.out.on hb3)
  clear hb3
  have HLA:=fun W=>Lib.hid (scrLine_any line W (by omega))
  have HLB:=fun W=>Lib.hid (r45Line_any line W (by omega))
  have hq:=stpQ_len line.data.toList
  have hln:line.data.toList.length=line.size:=by simp
  have hb1:(stpQ (lineW line.data.toList)).v.length≤1000000:=by omega
  have hb2:(stpQ (lineW line.data.toList)).l.length≤1000000:=by omega
  have HQ:=Lib.hid (And.intro hb1 hb2)
  generalize lineW line.data.toList=q at *
  clear hq hln hb1 hb2
  go_wp2_with fail
  refine (HLA _).out.mono ?_
  rintro e w4 hlo
  obtain⟨D1,d1,D2,d2,D3,d3,rfl,hm4,hb4⟩:=hlo.q
  have HB4:=Lib.hid (bthen HB3.out hb4)
  have HC4:=Lib.hid (HC3.out.on hb4)
  have HM4:=Lib.hid hm4
  clear hlo hb4 hm4
  obtain⟨t,ht⟩:∃ t,stpQ q=t:=⟨_,rfl⟩
  have HTQ:=Lib.hid ht
  rw [ht] at HQ HM4
  rw [ht]
  unfold stpC
  obtain⟨qe,hqe⟩:∃ qe,errQ q=qe:=⟨_,rfl⟩
  have HQE:=Lib.hid hqe
  rw [hqe]
  clear ht hqe
  go_wp2_with fail
  have HK5:=Lib.hid (Blk.newL (L:=[.int .i64 t.k,.slice D1 t.b.length d1,.int .i64 t.n,.int .i64 t.id,.slice D2 t.v.length d2,.int .i64 t.y,.slice D3 t.l.length d3]) (grew_alloc w4 #[.int .i64 t.k,.slice D1 t.b.length d1,.int .i64 t.n,.int .i64 t.id,.slice D2 t.v.length d2,.int .i64 t.y,.slice D3 t.l.length d3] 30) rfl)
  have HB5:Hid (Below w.heap.size w (w4.alloc (.cells #[.int .i64 t.k,.slice D1 t.b.length d1,.int .i64 t.n,.int .i64 t.id,.slice D2 t.v.length d2,.int .i64 t.y,.slice D3 t.l.length d3] 30))):=Lib.hid (bthen HB4.out (below_new _ _))
  have HC5:=Lib.hid (HC4.out.on (below_new w4 (.cells #[.int .i64 t.k,.slice D1 t.b.length d1,.int .i64 t.n,.int .i64 t.id,.slice D2 t.v.length d2,.int .i64 t.y,.slice D3 t.l.length d3] 30)))
  have HM5:=Lib.hid (HM4.out.keep (w':=w4.alloc (.cells #[.int .i64 t.k,.slice D1 t.b.length d1,.int .i64 t.n,.int .i64 t.id,.slice D2 t.v.length d2,.int .i64 t.y,.slice D3 t.l.length d3] 30)) (R:=fun b=>b < (w4.alloc (.cells #[.int .i64 t.k,.slice D1 t.b.length d1,.int .i64 t.n,.int .i64 t.id,.slice D2 t.v.length d2,.int .i64 t.y,.slice D3 t.l.length d3] 30)).heap.size) (fun b q=>(below_new w4 _).block b q) fun b q=>Nat.lt_of_lt_of_le q (below_new w4 _).size)
  generalize w4.alloc (.cells #[.int .i64 t.k,.slice D1 t.b.length d1,.int .i64 t.n,.int .i64 t.id,.slice D2 t.v.length d2,.int .i64 t.y,.slice D3 t.l.length d3] 30)=W5 at *
  generalize w4.heap.size=p5 at *
  refine (HLB _).out.mono ?_
  rintro e w6 hlo
  obtain⟨E1,f1,E2,f2,E3,f3,rfl,hm6,hb6⟩:=hlo.q
  rw [HTQ.out] at hm6
  rw [HTQ.out,HQE.out]
  unfold stpC
  have HB6:=Lib.hid (bthen HB5.out hb6)
  have HC6:=Lib.hid (HC5.out.on hb6)
  have HK6:=Lib.hid (HK5.out.on hb6)
  have HM6:=Lib.hid (HM5.out.keep (w':=w6) (R:=fun b=>b < w6.heap.size) (fun b q=>hb6.block b q) fun b q=>Nat.lt_of_lt_of_le q hb6.size)
  have HN6:=Lib.hid hm6
  clear hlo hb6 hm6
  go_upto_region 5 with fail
  have HK7:=Lib.hid (Blk.newL (L:=[.int .i64 t.k,.slice E1 t.b.length f1,.int .i64 t.n,.int .i64 t.id,.slice E2 t.v.length f2,.int .i64 t.y,.slice E3 t.l.length f3]) (grew_alloc w6 #[.int .i64 t.k,.slice E1 t.b.length f1,.int .i64 t.n,.int .i64 t.id,.slice E2 t.v.length f2,.int .i64 t.y,.slice E3 t.l.length f3] 30) rfl)
  have HB7:Hid (Below w.heap.size w (w6.alloc (.cells #[.int .i64 t.k,.slice E1 t.b.length f1,.int .i64 t.n,.int .i64 t.id,.slice E2 t.v.length f2,.int .i64 t.y,.slice E3 t.l.length f3] 30))):=Lib.hid (bthen HB6.out (below_new _ _))
  have HC7:=Lib.hid (HC6.out.on (below_new w6 (.cells #[.int .i64 t.k,.slice E1 t.b.length f1,.int .i64 t.n,.int .i64 t.id,.slice E2 t.v.length f2,.int .i64 t.y,.slice E3 t.l.length f3] 30)))
  have HJ7:=Lib.hid (HK6.out.on (below_new w6 (.cells #[.int .i64 t.k,.slice E1 t.b.length f1,.int .i64 t.n,.int .i64 t.id,.slice E2 t.v.length f2,.int .i64 t.y,.slice E3 t.l.length f3] 30)))
  have HM7:=Lib.hid (HM6.out.keep (w':=w6.alloc (.cells #[.int .i64 t.k,.slice E1 t.b.length f1,.int .i64 t.n,.int .i64 t.id,.slice E2 t.v.length f2,.int .i64 t.y,.slice E3 t.l.length f3] 30)) (R:=fun b=>b < (w6.alloc (.cells #[.int .i64 t.k,.slice E1 t.b.length f1,.int .i64 t.n,.int .i64 t.id,.slice E2 t.v.length f2,.int .i64 t.y,.slice E3 t.l.length f3] 30)).heap.size) (fun b q=>(below_new w6 _).block b q) fun b q=>Nat.lt_of_lt_of_le q (below_new w6 _).size)
  have HN7:=Lib.hid (HN6.out.keep (w':=w6.alloc (.cells #[.int .i64 t.k,.slice E1 t.b.length f1,.int .i64 t.n,.int .i64 t.id,.slice E2 t.v.length f2,.int .i64 t.y,.slice E3 t.l.length f3] 30)) (R:=fun b=>b < (w6.alloc (.cells #[.int .i64 t.k,.slice E1 t.b.length f1,.int .i64 t.n,.int .i64 t.id,.slice E2 t.v.length f2,.int .i64 t.y,.slice E3 t.l.length f3] 30)).heap.size) (fun b q=>(below_new w6 _).block b q) fun b q=>Nat.lt_of_lt_of_le q (below_new w6 _).size)
  generalize w6.alloc (.cells #[.int .i64 t.k,.slice E1 t.b.length f1,.int .i64 t.n,.int .i64 t.id,.slice E2 t.v.length f2,.int .i64 t.y,.slice E3 t.l.length f3] 30)=W7 at *
  generalize w6.heap.size=p7 at *
  have HFT:Hid (StpFit s):=Lib.hid ⟨HI.out.n,HI.out.id,HI.out.y,HI.out.v,HI.out.l,HBL.out,by have:=HFO.out;omega,by have:=HFO.out;omega⟩
  have HTX:Hid (∀ W,Below W7.heap.size W7 W→Calls Tryz.prog 28 #[.agg #[.int .i64 s.k,.slice A1 s.b.length c1,.int .i64 s.n,.int .i64 s.id,.slice A2 s.v.length c2,.int .i64 s.y,.slice A3 s.l.length c3]] W fun e w'=>e=.returned (.string (toB (textK s)))∧Below W.heap.size W w'):=Lib.hid fun W hW=>scrText_any (HM.out.keep (R:=fun _=>True) (fun b q=>(HB7.out.trans (hW.mono HB7.out.size)).block b q) fun _ _=>trivial) HFT.out
  have HTY:Hid (∀ W,Below W7.heap.size W7 W→Calls Tryz.prog 29 #[.agg #[.int .i64 s.k,.slice A1 s.b.length c1,.int .i64 s.n,.int .i64 s.id,.slice A2 s.v.length c2,.int .i64 s.y,.slice A3 s.l.length c3]] W fun e w'=>e=.returned (.string (toB (textK s)))∧Below W.heap.size W w'):=Lib.hid fun W hW=>r45Text_any (HM.out.keep (R:=fun _=>True) (fun b q=>(HB7.out.trans (hW.mono HB7.out.size)).block b q) fun _ _=>trivial) HFT.out
  have HSM:Hid (∀ W,Below W7.heap.size W7 W→Calls Tryz.prog 30 #[.agg #[.int .i64 t.k,.slice D1 t.b.length d1,.int .i64 t.n,.int .i64 t.id,.slice D2 t.v.length d2,.int .i64 t.y,.slice D3 t.l.length d3],.agg #[.int .i64 t.k,.slice E1 t.b.length f1,.int .i64 t.n,.int .i64 t.id,.slice E2 t.v.length f2,.int .i64 t.y,.slice E3 t.l.length f3]] W fun e w'=>e=.returned (.bool true)∧Below W.heap.size W w'):=Lib.hid fun W hW=>r45Same_eq (HM7.out.keep (R:=fun _=>True) (fun b q=>hW.block b q) fun _ _=>trivial) (HN7.out.keep (R:=fun _=>True) (fun b q=>hW.block b q) fun _ _=>trivial) HQ.out.1 HQ.out.2
  have HSZ:∀ (x y:Int) (u v:Int) (a b c:Value),(Tryz.prog.info? 30).map (·.size)=some ([.int .i64 x,a,.int .i64 y,.int .i64 u,b,.int .i64 v,c]:List Value).length:=fun _ _ _ _ _ _ _=>by show _=some 7;kernel_rfl
  obtain⟨tx,htx⟩:∃ tx,toB (textK s)=tx:=⟨_,rfl⟩
  rw [htx] at HTX HTY
  clear htx
  try (apply wp_seq_k;intro K_ HK_)
  have hS0:Below W7.heap.size W7 W7.drew:=bdrew (Below.refl _ _)
  refine wp_region_held_drew (S:=fun w'=>Below W7.heap.size W7 w') (by kernel_rfl) hS0 (fun hHeld0=>?_)
  refine wpAnyH_take (i:=0) (oi:=⟨some 33,_,_,_,_,_⟩) (v:=.agg #[.int .i64 s.k,.slice A1 s.b.length c1,.int .i64 s.n,.int .i64 s.id,.slice A2 s.v.length c2,.int .i64 s.y,.slice A3 s.l.length c3]) rfl (by kernel_rfl) (by kernel_rfl) (by kernel_rfl) (fun _ _ _ h=>h) (yieldsIf_load_mid (by rfl) 30 _ rfl w.heap.size 0 rfl [.int .i64 s.k,.slice A1 s.b.length c1,.int .i64 s.n,.int .i64 s.id,.slice A2 s.v.length c2,.int .i64 s.y,.slice A3 s.l.length c3] _ (fun w' hSw=>(HC7.out.on hSw).rg) Tryz.underlying30 rfl (HSZ _ _ _ _ _ _ _)) (by assumption) ?_
  try go_frame
  refine wpAnyH_take (i:=2) (oi:=⟨some 35,_,_,_,_,_⟩) (v:=.agg #[.int .i64 s.k,.slice A1 s.b.length c1,.int .i64 s.n,.int .i64 s.id,.slice A2 s.v.length c2,.int .i64 s.y,.slice A3 s.l.length c3]) rfl (by kernel_rfl) (by kernel_rfl) (by kernel_rfl) (fun _ _ _ h=>h) (yieldsIf_load_mid (by rfl) 30 _ rfl w.heap.size 0 rfl [.int .i64 s.k,.slice A1 s.b.length c1,.int .i64 s.n,.int .i64 s.id,.slice A2 s.v.length c2,.int .i64 s.y,.slice A3 s.l.length c3] _ (fun w' hSw=>(HC7.out.on hSw).rg) Tryz.underlying30 rfl (HSZ _ _ _ _ _ _ _)) (by assumption) ?_
  try go_frame
  refine wpAnyH_ready (rs:=[1]) (by kernel_rfl) (by simp) ?_
  refine AllReadyH.cons (o:=⟨some 34,_,_,_,_,_⟩) rfl (fun K hK=>?_) AllReadyH.nil
  rw [if_pos (by rfl)]
  go_step
  refine (HTX.out _ hHeld0).mono ?_
  rintro e x1 ⟨rfl,hb⟩
  have HS1:Hid (Below W7.heap.size W7 x1):=Lib.hid (bthen hHeld0 hb)
  clear hb
  try go_frame
  refine hK.out _ _ HS1.out (fun hHeld=>?_)
  clear hK K
  try go_frame
  refine wpAnyH_ready (rs:=[3]) (by kernel_rfl) (by simp) ?_
  refine AllReadyH.cons (o:=⟨some 36,_,_,_,_,_⟩) rfl (fun K hK=>?_) AllReadyH.nil
  rw [if_pos (by rfl)]
  go_step
  refine (HTY.out _ HS1.out).mono ?_
  rintro e x2 ⟨rfl,hb⟩
  have HS2:Hid (Below W7.heap.size W7 x2):=Lib.hid (bthen HS1.out hb)
  clear hb
  try go_frame
  refine hK.out _ _ HS2.out (fun hHeld=>?_)
  clear hK K
  try go_frame
  refine wpAnyH_take (i:=4) (oi:=⟨some 37,_,_,_,_,_⟩) (v:=?_) rfl (by kernel_rfl) (by kernel_rfl) (by kernel_rfl) (fun _ _ _ h=>h) (Or.inl ⟨by rfl,?_⟩) (by assumption) ?_
  rotate_left
  · intro w' hSw
    go_simp
    try with_reducible rfl
  try go_frame
  refine wpAnyH_take (i:=5) (oi:=⟨some 38,_,_,_,_,_⟩) (v:=?_) rfl (by kernel_rfl) (by kernel_rfl) (by kernel_rfl) (fun _ _ _ h=>h) (Or.inl ⟨by rfl,?_⟩) (by assumption) ?_
  rotate_left
  · intro w' hSw
    go_simp
    try with_reducible rfl
  try go_frame
  refine wpAnyH_take (i:=6) (oi:=⟨some 39,_,_,_,_,_⟩) (v:=.agg #[.int .i64 t.k,.slice D1 t.b.length d1,.int .i64 t.n,.int .i64 t.id,.slice D2 t.v.length d2,.int .i64 t.y,.slice D3 t.l.length d3]) rfl (by kernel_rfl) (by kernel_rfl) (by kernel_rfl) (fun _ _ _ h=>h) (yieldsIf_load_mid (by rfl) 30 _ rfl p5 0 rfl [.int .i64 t.k,.slice D1 t.b.length d1,.int .i64 t.n,.int .i64 t.id,.slice D2 t.v.length d2,.int .i64 t.y,.slice D3 t.l.length d3] _ (fun w' hSw=>(HJ7.out.on hSw).rg) Tryz.underlying30 rfl (HSZ _ _ _ _ _ _ _)) (by assumption) ?_
  try go_frame
  refine wpAnyH_take (i:=7) (oi:=⟨some 40,_,_,_,_,_⟩) (v:=.agg #[.int .i64 t.k,.slice E1 t.b.length f1,.int .i64 t.n,.int .i64 t.id,.slice E2 t.v.length f2,.int .i64 t.y,.slice E3 t.l.length f3]) rfl (by kernel_rfl) (by kernel_rfl) (by kernel_rfl) (fun _ _ _ h=>h) (yieldsIf_load_mid (by rfl) 30 _ rfl p7 0 rfl [.int .i64 t.k,.slice E1 t.b.length f1,.int .i64 t.n,.int .i64 t.id,.slice E2 t.v.length f2,.int .i64 t.y,.slice E3 t.l.length f3] _ (fun w' hSw=>(HK7.out.on hSw).rg) Tryz.underlying30 rfl (HSZ _ _ _ _ _ _ _)) (by assumption) ?_
  try go_frame
  refine wpAnyH_ready (rs:=[8]) (by kernel_rfl) (by simp) ?_
  refine AllReadyH.cons (o:=⟨some 41,_,_,_,_,_⟩) rfl (fun K hK=>?_) AllReadyH.nil
  rw [if_pos (by rfl)]
  go_step
  refine (HSM.out _ HS2.out).mono ?_
  rintro e x3 ⟨rfl,hb⟩
  have HS3:Hid (Below W7.heap.size W7 x3):=Lib.hid (bthen HS2.out hb)
  clear hb
  try go_frame
  refine hK.out _ _ HS3.out (fun hHeld=>?_)
  clear hK K
  try go_frame
  refine wpAnyH_take (i:=9) (oi:=⟨some 42,_,_,_,_,_⟩) (v:=?_) rfl (by kernel_rfl) (by kernel_rfl) (by kernel_rfl) (fun _ _ _ h=>h) (Or.inl ⟨by rfl,?_⟩) (by assumption) ?_
  rotate_left
  · intro w' hSw
    go_simp
    try with_reducible rfl
  try go_frame
  refine wpAnyH_take (i:=10) (oi:=⟨some 43,_,_,_,_,_⟩) (v:=?_) rfl (by kernel_rfl) (by kernel_rfl) (by kernel_rfl) (fun _ _ _ h=>h) (Or.inl ⟨by rfl,?_⟩) (by assumption) ?_
  rotate_left
  · intro w' hSw
    go_simp
    try with_reducible rfl
  try go_frame
  refine wpAnyH_take (i:=11) (oi:=⟨some 44,_,_,_,_,_⟩) (v:=?_) rfl (by kernel_rfl) (by kernel_rfl) (by kernel_rfl) (fun _ _ _ h=>h) (Or.inl ⟨by rfl,?_⟩) (by assumption) ?_
  rotate_left
  · intro w' hSw
    go_simp
    try with_reducible rfl
  try go_frame
  refine wpAnyH_take (i:=13) (oi:=⟨some 46,_,_,_,_,_⟩) (v:=?_) rfl (by kernel_rfl) (by kernel_rfl) (by kernel_rfl) (fun _ _ _ h=>h) (Or.inl ⟨by rfl,?_⟩) (by assumption) ?_
  rotate_left
  · intro w' hSw
    go_simp
    try with_reducible rfl
  try go_frame
  refine wpAnyH_ready (rs:=[12]) (by kernel_rfl) (by simp) ?_
  refine AllReadyH.cons (o:=⟨some 45,_,_,_,_,_⟩) rfl (fun K hK=>?_) AllReadyH.nil
  rw [if_pos (by rfl)]
  go_step
  refine (HNU _ _).out.mono ?_
  rintro e y ⟨rfl,rfl⟩
  try go_frame
  refine hK.out _ _ HS3.out (fun hHeld=>?_)
  clear hK K
  try go_frame
  refine wpAnyH_ready (rs:=[14]) (by kernel_rfl) (by simp) ?_
  refine AllReadyH.cons (o:=⟨some 47,_,_,_,_,_⟩) rfl (fun K hK=>?_) AllReadyH.nil
  rw [if_pos (by rfl)]
  go_step
  refine (HNU _ _).out.mono ?_
  rintro e y ⟨rfl,rfl⟩
  try go_frame
  refine hK.out _ _ HS3.out (fun hHeld=>?_)
  clear hK K
  try go_frame
  refine wpAnyH_take (i:=15) (oi:=⟨some 48,_,_,_,_,_⟩) (v:=?_) rfl (by kernel_rfl) (by kernel_rfl) (by kernel_rfl) (fun _ _ _ h=>h) (Or.inl ⟨by rfl,?_⟩) (by assumption) ?_
  rotate_left
  · intro w' hSw
    go_simp
    try with_reducible rfl
  try go_frame
  refine wpAnyH_take (i:=16) (oi:=⟨some 49,_,_,_,_,_⟩) (v:=?_) rfl (by kernel_rfl) (by kernel_rfl) (by kernel_rfl) (fun _ _ _ h=>h) (Or.inl ⟨by rfl,?_⟩) (by assumption) ?_
  rotate_left
  · intro w' hSw
    go_simp
    try with_reducible rfl
  try go_frame
  refine wpAnyH_take (i:=17) (oi:=⟨some 4,_,_,_,_,_⟩) (v:=?_) rfl (by kernel_rfl) (by kernel_rfl) (by kernel_rfl) (fun _ _ _ h=>h) (Or.inl ⟨by rfl,?_⟩) (by assumption) ?_
  rotate_left
  · intro w' hSw
    go_simp
    try with_reducible rfl
  try go_frame
  refine wpAnyH_done (by kernel_rfl) ?_ _
  try go_frame
  have HBZ:=Lib.hid (HB7.out.trans ((HS3.out).mono HB7.out.size))
  go_wp2_with fail
  go_ret
  exact⟨rfl,HBZ.out⟩
theorem scriptLines_walk (C:List Value) (s:StpK) (line:ByteArray) (w:World) (h:StpM (fun b=>b < w.heap.size) w C s) (hi:StpIn s) (hbl:s.b.length≤1048576) (hll:line.size≤maxLen):Calls Tryz.prog 5 #[.agg C.toArray,.string line] w fun e w'=>e=.returned (.bool true)∧Below w.heap.size w w':=scriptLines_any C s line h hi (by omega) hll
theorem stpOf_ok {s:StpK} (h:StpIn s):StpOk (stpOf s):=by
  unfold stpOf
  split
  · exact trivial
  · split
    · exact h.n
    · split
      · exact⟨h.id,h.v⟩
      · split
        · exact h.n
        · exact⟨h.y,h.l⟩
theorem lineT_len {s:StpK} (h:StpIn s):(lineT (stpOf s)).length≤2 * s.b.length+21 * s.v.length+42 * s.l.length+60:=by
  have e1:(tailT []).length=0:=rfl
  have one:∀ x:List UInt8,(tailT [x]).length=x.length+1:=fun x=>by unfold tailT;simp
  have two:∀ (x:List UInt8) (r:List (List UInt8)),(tailT (x :: r)).length=x.length+1+(tailT r).length:=fun x r=>by unfold tailT;rw [List.flatMap_cons,List.length_append,List.length_cons]
  have w1:wBytes.length=5:=rfl
  have w2:wTick.length=4:=rfl
  have w3:wSend.length=4:=rfl
  have w4:wLog.length=3:=rfl
  have w5:wAsk.length=3:=rfl
  unfold stpOf
  split
  · have:=hexT_len s.b
    show (joinB 32 [wBytes,hexT s.b]).length≤_
    rw [joinB_tail,List.length_append,one]
    omega
  · split
    · have:=(dgT_len h.n).2
      show (joinB 32 [wTick,dgT s.n]).length≤_
      rw [joinB_tail,List.length_append,one]
      omega
    · split
      · have h1:=(dgT_len h.id).2
        have h2:=tail_words dgT s.v fun n hn=>(dgT_len (h.v n hn)).2
        show (joinB 32 (wSend :: dgT s.id :: s.v.map dgT)).length≤_
        rw [joinB_tail,List.length_append,two]
        omega
      · split
        · have:=(dgT_len h.n).2
          show (joinB 32 [wLog,dgT s.n]).length≤_
          rw [joinB_tail,List.length_append,one]
          omega
        · have h1:=(dgT_len h.y).2
          have h2:=tail_pairs s.l h.l
          show (joinB 32 (wAsk :: dgT s.y :: s.l.map pairT)).length≤_
          rw [joinB_tail,List.length_append,two]
          omega
theorem showK_showT:∀ ss:List StpK,(∀ s∈ss,0≤s.k∧s.k≤4)→showK ss=showT (ss.map stpOf)
  | [],_=>rfl
  | s :: r,h=>by
    show textK s++[10]++showK r=(lineT (stpOf s)++[10])++showT (r.map stpOf)
    rw [textK_of s (h s (by simp)),showK_showT r fun x hx=>h x (by simp [hx])]
theorem showT_len (M:Nat):∀ ss:List Stp,(∀ s∈ss,(lineT s).length≤M)→(showT ss).length≤ss.length * (M+1)
  | [],_=>Nat.zero_le _
  | s :: r,h=>by
    have h1:=h s (by simp)
    have h2:=showT_len M r fun x hx=>h x (by simp [hx])
    show ((lineT s++[10])++showT r).length≤_
    have e:(s :: r).length * (M+1)=r.length * (M+1)+(M+1):=by rw [List.length_cons,Nat.succ_mul]
    rw [e,List.length_append,List.length_append,List.length_singleton]
    omega
theorem fewK_all:∀ (n:Nat) (ss:List StpK),fewK n ss=true→∀ s∈ss,s.v.length≤300∧s.l.length≤40
  | _,[],_,s,hs=>by cases hs
  | n,x :: r,h,s,hs=>by
    rw [fewK_cons] at h
    split at h
    · cases h
    · rcases List.mem_cons.1 hs with rfl | q
      · omega
      · exact fewK_all _ r h s q
def RowP (w:World) (v:Value) (ss:List Stp) (W:World):Prop:=∃ Cs,OwnR w 30 7 v ss.length (List.flatten Cs) W∧StpsM (fun b=>b < w.heap.size) W Cs (ss.map rawK)
theorem RowP.nil (w:World):RowP w (.slice none 0 0) [] w:=⟨[],OwnR.nil _ _ _ (Below.refl _ _),StpsM.nil _ _⟩
theorem RowP.on {w W W':World} {v:Value} {ss:List Stp} (h:RowP w v ss W) (hb:Below W.heap.size W W'):RowP w v ss W':=by
  obtain⟨Cs,h1,h2⟩:=h
  have:=h1.2.size
  exact⟨Cs,h1.on hb,h2.keep (fun b q=>hb.block b (by omega)) fun _ q=>q⟩
theorem RowP.push {w W:World} {v:Value} {ss:List Stp} (h:RowP w v ss W) (s:Stp) (C:List Value) (hC:StpM (fun b=>b < w.heap.size) W C (rawK s)) (hn:ss.length≤1000000000) (ty:TypeId) :
    ∃ v' W',(Builtin.append_ #[32,32] ty #[v,.slice (some ⟨W.heap.size,0,none⟩) 1 1]).run Tryz.prog (W.alloc (.cells C.toArray 30))=.ok v' W'∧RowP w v' (ss++[s]) W':=by
  obtain⟨Cs,h1,h2⟩:=h
  obtain⟨v',W',r1,r2⟩:=pushT h1 C hC.len hC.ones hn ty
  have hk:∀ b,b < w.heap.size→W'.heap[b]?=W.heap[b]?:=fun b q=>(r2.2.block b q).trans (h1.2.block b q).symm
  refine⟨v',W',r1,Cs++[C],?_,?_⟩
  · rw [List.length_append,List.length_singleton,show (Cs++[C]).flatten=Cs.flatten++C by simp]
    exact r2
  · rw [List.map_append]
    exact (h2.keep hk fun _ q=>q).snoc (hC.keep hk fun _ q=>q)
theorem RowP.flat {w W:World} {v:Value} {ss:List Stp} (h:RowP w v ss W):∃ A c Cs,v=.slice A ss.length c∧FlatQ (fun b=>w.heap.size≤b∧b < W.heap.size) W A (List.flatten Cs)∧StpsM (fun b=>b < w.heap.size) W Cs (ss.map rawK)∧Below w.heap.size w W:=by
  obtain⟨Cs,h1,h2⟩:=h
  obtain⟨A,c,e,-,hf⟩:=h1.flat
  exact⟨A,c,Cs,e,hf,h2,h1.2⟩
set_option maxHeartbeats 4000000 in
set_option maxRecDepth 100000 in
theorem scriptBack_any {w:World} (A:Option Addr) (c:Nat) (Cs:List (List Value)) (ss:List StpK) (hA:FlatQ (fun b=>b < w.heap.size) w A (List.flatten Cs)) (hC:StpsM (fun b=>b < w.heap.size) w Cs ss) (hI:∀ s∈ss,StpIn s) (hbl:∀ s∈ss,s.b.length≤1048576) (hl:ss.length≤9223372036854775807) :
    Calls Tryz.prog 6 #[.slice A ss.length c] w fun e w'=>e=.returned (.bool true)∧Below w.heap.size w w':=by
  have HNU:=fun n W=>Lib.hid (num45_any n W)
  have HKN:=fun W=>Lib.hid (knows45_any W)
  have HFW:=Lib.hid (few44_any A c hA hC 40 hl)
  have HA:=Lib.hid (And.intro hA hC)
  have HI:=Lib.hid (And.intro hI hbl)
  obtain⟨N,hN⟩:∃ N,ss.length=N:=⟨_,rfl⟩
  have HN:=Lib.hid hN
  rw [hN] at HFW hl ⊢
  clear hA hC hI hbl hN
  go_enter Tryz.func6,Tryz.ntmps6
  go_wp2_with fail
  refine HFW.out.mono ?_
  rintro e w2 ⟨rfl,rfl⟩
  by_cases hf:fewB ss 40=true
  case neg=>
    rw [Bool.not_eq_true] at hf
    rw [hf]
    go_wp2_with fail
    refine (HKN _).out.mono ?_
    rintro e w3 ⟨rfl,hb3⟩
    go_wp2_with fail
    go_ret
    exact⟨rfl,hb3⟩
  rw [hf]
  have HFO:Hid ((∀ s∈ss,s.v.length≤300∧s.l.length≤40)∧N≤40):=Lib.hid (by
    unfold fewB at hf
    simp only [Bool.and_eq_true,decide_eq_true_eq] at hf
    exact⟨fewK_all 0 ss hf.2,by have:=HN.out;omega⟩)
  have HFT:Hid (∀ s∈ss,StpFit s):=Lib.hid fun s hs=>⟨(HI.out.1 s hs).n,(HI.out.1 s hs).id,(HI.out.1 s hs).y,(HI.out.1 s hs).v,(HI.out.1 s hs).l,by have:=HI.out.2 s hs;omega,by have:=HFO.out.1 s hs;omega,by have:=HFO.out.1 s hs;omega⟩
  clear HFW hf
  go_wp2_with fail
  refine (HKN _).out.mono ?_
  rintro e w3 ⟨rfl,hb3⟩
  have HB3:=Lib.hid hb3
  have HA3:Hid (FlatQ (fun b=>b < w3.heap.size) w3 A (List.flatten Cs)∧StpsM (fun b=>b < w3.heap.size) w3 Cs ss):=Lib.hid ⟨(HA.out.1.keep fun b q=>hb3.block b q).less fun b q=>Nat.lt_of_lt_of_le q hb3.size,HA.out.2.keep (fun b q=>hb3.block b q) fun b q=>Nat.lt_of_lt_of_le q hb3.size⟩
  clear hb3 HA
  go_wp2_with fail
  go_loopg [3,4] N (fun g u3 u4 wr=>∃ k:Nat,u4=.int .i64 (k:Int)∧k≤N∧N - k≤g∧Hid (RowP w3 u3 ((ss.take k).map stpOf) wr)∧Hid (∀ s∈ss.take k,0≤s.k∧s.k≤4))
  case atStart=>exact⟨0,rfl,by omega,by omega,RowP.nil _,fun s hs=>by simp at hs⟩
  case round=>
    obtain⟨k,rfl,hk,hg,HR,HKK⟩:=hrel
    have HBR:Hid (Below w3.heap.size w3 wr):=by obtain⟨Cs',h1,-⟩:=HR.out;exact h1.2
    by_cases hlt:k < N
    · have hkl:k < ss.length:=by rw [HN.out];exact hlt
      have hkc:k < Cs.length:=by rw [HA3.out.2.len];exact hkl
      obtain⟨b,off,hAe,hr⟩:=stps_at HA3.out.1 HA3.out.2 HBR.out k hkc
      have hmem:ss[k]∈ss:=List.getElem_mem hkl
      have hat:=HA3.out.2.at_ k hkc hkl
      have hatW:StpM (fun b=>b < w3.heap.size) wr Cs[k] ss[k]:=hat.keep (fun b q=>HBR.out.block b q) fun _ q=>q
      obtain⟨A1,c1,A2,c2,A3,c3,eC,-,-,-⟩:=hat.it
      have HTK:Hid (ss.take (k+1)=ss.take k++[ss[k]]):=Lib.hid (List.take_succ_eq_append_getElem hkl)
      have HFK:=Lib.hid (HFT.out _ hmem)
      rw [eC] at hr hatW
      generalize ss[k]=s at *
      have HRG:Hid (wr.rangeAt b (off+k * 7) [.int .i64 s.k,.slice A1 s.b.length c1,.int .i64 s.n,.int .i64 s.id,.slice A2 s.v.length c2,.int .i64 s.y,.slice A3 s.l.length c3]):=Lib.hid hr
      have HMW:=Lib.hid hatW
      have c0:=hr 0 (.int .i64 s.k) rfl
      rw [Nat.add_zero] at c0
      subst hAe
      clear hr hat hatW eC hmem hkc hkl
      have hi0:(k:Int) < (N:Int):=by omega
      have HSZ:(Tryz.prog.info? 30).map (·.size)=some ([.int .i64 s.k,.slice A1 s.b.length c1,.int .i64 s.n,.int .i64 s.id,.slice A2 s.v.length c2,.int .i64 s.y,.slice A3 s.l.length c3]:List Value).length:=by show _=some 7;kernel_rfl
      by_cases hbad:s.k < 0∨4 < s.k
      · have HTX:=Lib.hid (scrText_any HMW.out HFK.out)
        have hte:textK s=[]:=by
          unfold textK
          rw [if_neg (by omega),if_neg (by omega),if_neg (by omega),if_neg (by omega),if_neg (by omega)]
        rw [hte,show toB []=(⟨#[]⟩:ByteArray) from rfl] at HTX
        unfold stpC at HTX
        rcases hbad with hbd | hbd
        · go_wp2_with (refine wpList_load_mid rfl 30 _ rfl b (off+k * 7) rfl [.int .i64 s.k,.slice A1 s.b.length c1,.int .i64 s.n,.int .i64 s.id,.slice A2 s.v.length c2,.int .i64 s.y,.slice A3 s.l.length c3] _ HRG.out Tryz.underlying30 rfl HSZ ?_)
          refine HTX.out.mono ?_
          rintro e w4 ⟨rfl,hb4⟩
          have HBZ:=Lib.hid (HB3.out.trans ((bthen HBR.out hb4).mono HB3.out.size))
          clear hb4
          go_wp2_with fail
          go_ret
          exact⟨rfl,HBZ.out⟩
        · have hbe:0≤s.k:=by omega
          go_wp2_with (refine wpList_load_mid rfl 30 _ rfl b (off+k * 7) rfl [.int .i64 s.k,.slice A1 s.b.length c1,.int .i64 s.n,.int .i64 s.id,.slice A2 s.v.length c2,.int .i64 s.y,.slice A3 s.l.length c3] _ HRG.out Tryz.underlying30 rfl HSZ ?_)
          refine HTX.out.mono ?_
          rintro e w4 ⟨rfl,hb4⟩
          have HBZ:=Lib.hid (HB3.out.trans ((bthen HBR.out hb4).mono HB3.out.size))
          clear hb4
          go_wp2_with fail
          go_ret
          exact⟨rfl,HBZ.out⟩
      have hk0:0≤s.k:=by omega
      have hk4:s.k≤4:=by omega
      have HPL:=Lib.hid (r45Plain_any s HMW.out ⟨hk0,hk4⟩)
      unfold PlainOut at HPL
      unfold stpC at HPL
      clear hbad
      go_wp2_with (refine wpList_load_mid rfl 30 _ rfl b (off+k * 7) rfl [.int .i64 s.k,.slice A1 s.b.length c1,.int .i64 s.n,.int .i64 s.id,.slice A2 s.v.length c2,.int .i64 s.y,.slice A3 s.l.length c3] _ HRG.out Tryz.underlying30 rfl HSZ ?_)
      refine HPL.out.mono ?_
      rintro e w4 ⟨C4,rfl,hm4,hb4⟩
      have hr5:=HR.out.on hb4
      obtain⟨v',W',hrun,hrow⟩:=hr5.push (stpOf s) C4 hm4 (by rw [List.length_map,List.length_take];have:=HFO.out.2;omega) 32
      have HRW:=Lib.hid hrow
      have HKN2:Hid (∀ x∈ss.take (k+1),0≤x.k∧x.k≤4):=Lib.hid fun x hx=>by
        rw [HTK.out] at hx
        rcases List.mem_append.1 hx with q | q
        · exact HKK.out x q
        · rw [List.mem_singleton.1 q];exact⟨hk0,hk4⟩
      have HRX:Hid (RowP w3 v' ((ss.take (k+1)).map stpOf) W'):=Lib.hid (by rw [HTK.out,List.map_append];exact HRW.out)
      obtain⟨B1,d1,B2,d2,B3,d3,rfl,-⟩:=hm4.it
      unfold stpC at hrun
      have HRUN:=Lib.hid hrun
      clear hrun hrow hm4 hr5 hb4 HPL HRW
      unfold stpC
      go_wp2_with (at_builtin;refine wpList_append_known rfl _ _ 32 rfl _ _ _ rfl rfl HRUN.out ?_)
      go_roundg (N - (k+1))
      case rel=>exact⟨k+1,by go_num,by omega,by omega,HRX,HKN2⟩
      case measure=>omega
    · have hge:(N:Int)≤(k:Int):=by omega
      have htk:ss.take k=ss:=List.take_of_length_le (by rw [HN.out];omega)
      have hkk:=HKK.out
      have hrr:=HR.out
      rw [htk] at hkk hrr
      have hst:=showK_showT ss hkk
      have hrb:=read_back (ss.map stpOf) (fun t ht=>by obtain⟨s,hs,rfl⟩:=List.mem_map.1 ht;exact stpOf_ok (HI.out.1 s hs))
      have hsl:(showK ss).length≤100000000:=by
        rw [hst]
        have h1:=showT_len 2106500 (ss.map stpOf) (fun t ht=>by
          obtain⟨s,hs,rfl⟩:=List.mem_map.1 ht
          have h2:=lineT_len (HI.out.1 s hs)
          have h3:=HI.out.2 s hs
          have h4:=HFO.out.1 s hs
          omega)
        rw [List.length_map,HN.out] at h1
        have h5:N * (2106500+1)≤40 * (2106500+1):=Nat.mul_le_mul_right _ HFO.out.2
        omega
      rw [← hst] at hrb
      have HSH:=Lib.hid (scrShow_any (w:=wr) A c (HA3.out.1.keep fun b q=>HBR.out.block b q) (HA3.out.2.keep (fun b q=>HBR.out.block b q) fun _ q=>q) HFT.out hsl (by have:=HFO.out.2;have:=HN.out;omega))
      rw [HN.out] at HSH
      have HRD:=fun W=>Lib.hid (scrRead_any (toB (showK ss)) W (by rw [size_B];exact hsl))
      unfold ReadOut at HRD
      simp only [toList_B,hrb] at HRD
      have HRR:=Lib.hid hrr
      clear hkk hrr hst hrb hsl htk HR HKK
      generalize toB (showK ss)=T at *
      go_wp2_with fail
      refine HSH.out.mono ?_
      rintro e w5 ⟨rfl,hb5⟩
      go_wp2_with fail
      refine (HRD _).out.mono ?_
      rintro e w6 ⟨hro,hb6⟩
      rcases hro with ⟨q,-⟩ | ⟨tt,A6,c6,Cs6,hss,rfl,hf6,hst6,-⟩
      · cases q
      obtain rfl:tt=ss.map stpOf:=by injection hss with h1 _;injection h1 with h1;exact h1.symm
      obtain⟨A7,c7,Cs7,rfl,hf7,hst7,hb7⟩:=HRR.out.flat
      have hb56:Below wr.heap.size wr w6:=bthen hb5 hb6
      have HSE:=Lib.hid (r45Steps_eq (w:=w6) A6 A7 c6 c7 hf6 (hf7.keep fun b q=>hb56.block b q.2) hst6 (hst7.keep (fun b q=>hb56.block b (by have:=hb7.size;omega)) fun _ q=>q) (fun x hx=>by
        obtain⟨y,hy,rfl⟩:=List.mem_map.1 hx
        obtain⟨z,hz,rfl⟩:=List.mem_map.1 hy
        have:=HFO.out.1 z hz
        unfold stpOf
        split
        · exact⟨Nat.zero_le _,Nat.zero_le _⟩
        · split
          · exact⟨Nat.zero_le _,Nat.zero_le _⟩
          · split
            · exact⟨by show z.v.length≤_;omega,Nat.zero_le _⟩
            · split
              · exact⟨Nat.zero_le _,Nat.zero_le _⟩
              · exact⟨Nat.zero_le _,by show z.l.length≤_;omega⟩) (by rw [List.length_map,List.length_map,HN.out];have:=HFO.out.2;omega))
      rw [List.length_map] at HSE
      have HBZ:Hid (Below w.heap.size w w6):=Lib.hid (HB3.out.trans ((HBR.out.trans (hb56.mono HBR.out.size)).mono HB3.out.size))
      generalize (ss.map stpOf).length=m at *
      clear hss hf6 hst6 hf7 hst7 hb7 hb56 hb5 hb6 HRR
      go_wp2_with fail
      refine HSE.out.mono ?_
      rintro e w7 ⟨rfl,hb8⟩
      have HBY:=Lib.hid (bthen HBZ.out hb8)
      clear hb8
      go_wp2_with (refine (HNU _ _).out.mono ?_;rintro e y ⟨rfl,rfl⟩)
      go_ret
      exact⟨rfl,HBY.out⟩
theorem scriptBack_walk (A:Option Addr) (c:Nat) (Cs:List (List Value)) (ss:List StpK) (w:World) (hA:FlatQ (fun b=>b < w.heap.size) w A (List.flatten Cs)) (hC:StpsM (fun b=>b < w.heap.size) w Cs ss) (hI:∀ s∈ss,StpIn s) (hl:ss.length≤maxLen) (hbl:∀ s∈ss,s.b.length≤1048576):Calls Tryz.prog 6 #[.slice A ss.length c] w fun e w'=>e=.returned (.bool true)∧Below w.heap.size w w':=scriptBack_any A c Cs ss hA hC hI hbl (by unfold maxLen at hl;omega)
end Go.Proofs.YtaiepcgfofpmjaaGreat
