/- Layer 45: a step's line, of the program. -/
import Derived.Test.YtaiepcgfofpmjaaGreatS19
import Derived.Laws.ResultCell
namespace Go.Proofs.YtaiepcgfofpmjaaGreat
set_option linter.unusedVariables false
open Go.RowKit
structure StpK where
  k:Int
  b:List UInt8
  n:Int
  id:Int
  v:List Int
  y:Int
  l:List (Int×Int)
def textK (s:StpK):List UInt8:=if s.k=0 then lineT (.bytes s.b) else if s.k=1 then lineT (.tick s.n) else if s.k=2 then lineT (.send s.id s.v) else if s.k=3 then lineT (.log s.n) else if s.k=4 then lineT (.ask s.y s.l) else []
def stpC (s:StpK) (A1:Option Addr) (c1:Nat) (A2:Option Addr) (c2:Nat) (A3:Option Addr) (c3:Nat):List Value:=
  [.int .i64 s.k,.slice A1 s.b.length c1,.int .i64 s.n,.int .i64 s.id,.slice A2 s.v.length c2,.int .i64 s.y,.slice A3 s.l.length c3]
structure StpM (Q:Nat→Prop) (w:World) (C:List Value) (s:StpK):Prop where
  it:∃ A1 c1 A2 c2 A3 c3,C=stpC s A1 c1 A2 c2 A3 c3∧FlatQ Q w A1 (s.b.map byL)∧FlatQ Q w A2 (s.v.map intL)∧FlatQ Q w A3 (pairC s.l)
structure StpFit (s:StpK):Prop where
  n:I64 s.n
  id:I64 s.id
  y:I64 s.y
  v:∀ x∈s.v,I64 x
  l:∀ p∈s.l,I64 p.1∧I64 p.2
  bl:s.b.length≤10000000
  vl:s.v.length≤10000
  ll:s.l.length≤10000
theorem pair_at {Q:Nat→Prop} {w W:World} {A:Option Addr} {ns:List (Int×Int)} (h:FlatQ Q w A (pairC ns)) (hb:Below w.heap.size w W) (k:Nat) (hk:k < ns.length):∃ b off,A=some ⟨b,off,none⟩∧W.cell? ⟨b,off+k * 2,none⟩=some (.int .i64 ns[k].1)∧W.cell? ⟨b,off+k * 2+1,none⟩=some (.int .i64 ns[k].2):=by
  have key:∀ (ns:List (Int×Int)) (k:Nat) (hk:k < ns.length),(pairC ns)[k * 2]?=some (.int .i64 ns[k].1)∧(pairC ns)[k * 2+1]?=some (.int .i64 ns[k].2):=by
    intro ns
    induction ns with
    | nil=>intro k hk;exact absurd hk (Nat.not_lt_zero _)
    | cons p r ih=>
      intro k hk
      rw [show pairC (p :: r)=.int .i64 p.1 :: .int .i64 p.2 :: pairC r from rfl]
      cases k with
      | zero=>exact⟨rfl,rfl⟩
      | succ k=>
        have:=ih k (by rw [List.length_cons] at hk;omega)
        rw [show (k+1) * 2=k * 2+1+1 from by omega]
        simpa using this
  obtain⟨h0,h1⟩:=key ns k hk
  obtain⟨b,off,e1,e2,e3⟩:=h.lt _ _ h0
  obtain⟨b',off',f1,f2,f3⟩:=h.lt _ _ h1
  rw [e1] at f1
  injection f1 with f1
  injection f1 with g1 g2
  subst g1 g2
  exact⟨b,off,e1,(hb.cell (p:=⟨b,off+k * 2,none⟩) e2.2).trans e3,(hb.cell (p:=⟨b,off+k * 2+1,none⟩) e2.2).trans f3⟩
theorem row_one {w:World} (x l:List UInt8) (h:w.heap.size=0∨True) {W:World} (hx:x≠[]) (hxl:x.length≤100000000) (hl:l.length≤90000000):Calls Tryz.prog 53 #[.string (toB x),.slice (some ⟨W.heap.size,0,none⟩) 1 1] (W.alloc (.cells #[.string (toB l)] 9)) fun e w'=>e=.returned (.string (toB (joinB 32 [x,l])))∧Below W.heap.size W w':=by
  refine (scrRow_any (Q:=fun _=>True) x _ 1 [l] (fun j u hu=>⟨W.heap.size,0,rfl,trivial,by rw [World.cell?_alloc_at _ _ _ _ rfl,Nat.zero_add];simpa [strL] using hu⟩) hx hxl (by simp) (by unfold tailT;simp;omega)).mono ?_
  rintro e w' ⟨rfl,hb⟩
  exact⟨rfl,bthen (below_new _ _) hb⟩
theorem hexT_len (bs:List UInt8):(hexT bs).length≤2 * bs.length+1:=by
  unfold hexT
  split
  · simp
  · have:=hexF_len bs
    unfold hexF at this
    omega
theorem tail_words (f:Int→List UInt8) (ns:List Int) (h:∀ n∈ns,(f n).length≤20):(tailT (ns.map f)).length≤21 * ns.length:=by
  induction ns with
  | nil=>exact Nat.le_refl _
  | cons n r ih=>
    have h1:=ih fun m hm=>h m (List.mem_cons_of_mem _ hm)
    have h2:=h n (by simp)
    show (32 :: f n++tailT (r.map f)).length≤_
    rw [List.length_append,List.length_cons,List.length_cons]
    omega
theorem tail_pairs (ns:List (Int×Int)) (h:∀ n∈ns,I64 n.1∧I64 n.2):(tailT (ns.map pairT)).length≤42 * ns.length:=by
  induction ns with
  | nil=>exact Nat.le_refl _
  | cons n r ih=>
    have h1:=ih fun m hm=>h m (List.mem_cons_of_mem _ hm)
    have h2:=h n (by simp)
    have h3:=(dgT_len h2.1).2
    have h4:=(dgT_len h2.2).2
    show (32 :: (dgT n.1++61 :: dgT n.2)++tailT (r.map pairT)).length≤_
    rw [List.length_append,List.length_cons,List.length_append,List.length_cons,List.length_cons]
    omega
theorem scrText_num {w:World} (s:StpK) (A1:Option Addr) (c1:Nat) (A2:Option Addr) (c2:Nat) (A3:Option Addr) (c3:Nat) (hf:StpFit s) (hk:s.k=1∨s.k=3):Calls Tryz.prog 28 #[.agg (stpC s A1 c1 A2 c2 A3 c3).toArray] w fun e w'=>e=.returned (.string (toB (textK s)))∧Below w.heap.size w w':=by
  obtain⟨sk,sb,sn,sid,sv,sy,sl⟩:=s
  obtain⟨g1,g2,g3,g4,g5,g6,g7,g8⟩:=hf
  unfold stpC
  dsimp only at *
  have HD:=fun W=>Lib.hid (scrDigits_any sn W g1)
  have hl:=(dgT_len g1).2
  have HR:∀ (x:List UInt8) W,x≠[]→x.length≤100→Hid (Calls Tryz.prog 53 #[.string (toB x),.slice (some ⟨W.heap.size,0,none⟩) 1 1] (W.alloc (.cells #[.string (toB (dgT sn))] 9)) fun e w'=>e=.returned (.string (toB (joinB 32 [x,dgT sn])))∧Below W.heap.size W w'):=fun x W h1 h2=>row_one (w:=w) x (dgT sn) (.inr trivial) h1 (by omega) (by omega)
  generalize hq:dgT sn=d at *
  generalize toB d=D at *
  rcases hk with rfl | rfl
  · have HT:Hid (textK ⟨1,sb,sn,sid,sv,sy,sl⟩=joinB 32 [wTick,d]):=by show _=_;rw [← hq];rfl
    have HR2:=fun W=>HR wTick W (by decide) (by decide)
    clear HR hq
    go_enter Tryz.func28,Tryz.ntmps28
    go_wp2_with fail
    refine (HD _).out.mono ?_
    rintro e w1 ⟨rfl,hb⟩
    have HB1:=Lib.hid (bthen (below_new _ _) hb)
    clear hb
    go_wp2_with fail
    refine (HR2 _).out.mono ?_
    rintro e w2 ⟨rfl,hb⟩
    have HB2:=Lib.hid (bthen HB1.out hb)
    clear hb
    go_wp2_with fail
    go_ret
    exact⟨by rw [HT.out];rfl,HB2.out⟩
  · have HT:Hid (textK ⟨3,sb,sn,sid,sv,sy,sl⟩=joinB 32 [wLog,d]):=by show _=_;rw [← hq];rfl
    have HR2:=fun W=>HR wLog W (by decide) (by decide)
    clear HR hq
    go_enter Tryz.func28,Tryz.ntmps28
    go_wp2_with fail
    refine (HD _).out.mono ?_
    rintro e w1 ⟨rfl,hb⟩
    have HB1:=Lib.hid (bthen (below_new _ _) hb)
    clear hb
    go_wp2_with fail
    refine (HR2 _).out.mono ?_
    rintro e w2 ⟨rfl,hb⟩
    have HB2:=Lib.hid (bthen HB1.out hb)
    clear hb
    go_wp2_with fail
    go_ret
    exact⟨by rw [HT.out];rfl,HB2.out⟩
theorem scrText_none {w:World} (s:StpK) (A1:Option Addr) (c1:Nat) (A2:Option Addr) (c2:Nat) (A3:Option Addr) (c3:Nat) (hk:s.k < 0∨4 < s.k):Calls Tryz.prog 28 #[.agg (stpC s A1 c1 A2 c2 A3 c3).toArray] w fun e w'=>e=.returned (.string (toB (textK s)))∧Below w.heap.size w w':=by
  obtain⟨sk,sb,sn,sid,sv,sy,sl⟩:=s
  have HT:Hid (textK ⟨sk,sb,sn,sid,sv,sy,sl⟩=[]):=by
    show _=_
    unfold textK
    dsimp only at *
    rw [if_neg (by omega),if_neg (by omega),if_neg (by omega),if_neg (by omega),if_neg (by omega)]
  unfold stpC
  dsimp only at *
  have k0:(sk==0)=false:=by rw [beq_eq_false_iff_ne];omega
  have k1:(sk==1)=false:=by rw [beq_eq_false_iff_ne];omega
  have k2:(sk==2)=false:=by rw [beq_eq_false_iff_ne];omega
  have k3:(sk==3)=false:=by rw [beq_eq_false_iff_ne];omega
  have k4:(sk==4)=false:=by rw [beq_eq_false_iff_ne];omega
  clear hk
  go_enter Tryz.func28,Tryz.ntmps28
  go_wp2_with fail
  go_ret
  exact⟨by rw [HT.out];rfl,below_new _ _⟩
theorem scrText_bytes {Q:Nat→Prop} {w:World} (s:StpK) (A1:Option Addr) (c1:Nat) (A2:Option Addr) (c2:Nat) (A3:Option Addr) (c3:Nat) (hf:StpFit s) (hk:s.k=0) (h1:FlatQ Q w A1 (s.b.map byL)):Calls Tryz.prog 28 #[.agg (stpC s A1 c1 A2 c2 A3 c3).toArray] w fun e w'=>e=.returned (.string (toB (textK s)))∧Below w.heap.size w w':=by
  obtain⟨sk,sb,sn,sid,sv,sy,sl⟩:=s
  obtain⟨g1,g2,g3,g4,g5,g6,g7,g8⟩:=hf
  unfold stpC
  dsimp only at *
  subst hk
  have HD:∀ W,Hid (Below w.heap.size w W→Calls Tryz.prog 54 #[.slice A1 sb.length c1] W fun e w'=>e=.returned (.string (toB (hexT sb)))∧Below W.heap.size W w'):=fun W=>Lib.hid fun hW=>scrHex_any A1 c1 sb (h1.lt.below hW fun b q=>q.2) (by omega)
  have hl:=hexT_len sb
  have HR:∀ W,Hid (Calls Tryz.prog 53 #[.string (toB wBytes),.slice (some ⟨W.heap.size,0,none⟩) 1 1] (W.alloc (.cells #[.string (toB (hexT sb))] 9)) fun e w'=>e=.returned (.string (toB (joinB 32 [wBytes,hexT sb])))∧Below W.heap.size W w'):=fun W=>row_one (w:=w) wBytes (hexT sb) (.inr trivial) (by decide) (by decide) (by omega)
  have HT:Hid (textK ⟨0,sb,sn,sid,sv,sy,sl⟩=joinB 32 [wBytes,hexT sb]):=rfl
  generalize hexT sb=d at *
  generalize toB d=D at *
  clear h1
  go_enter Tryz.func28,Tryz.ntmps28
  go_wp2_with fail
  refine ((HD _).out (below_new _ _)).mono ?_
  rintro e w1 ⟨rfl,hb⟩
  have HB1:=Lib.hid (bthen (below_new _ _) hb)
  clear hb
  go_wp2_with fail
  refine (HR _).out.mono ?_
  rintro e w2 ⟨rfl,hb⟩
  have HB2:=Lib.hid (bthen HB1.out hb)
  clear hb
  go_wp2_with fail
  go_ret
  exact⟨by rw [HT.out];rfl,HB2.out⟩
set_option maxRecDepth 8000 in
set_option maxHeartbeats 2000000 in
theorem scrText_send {Q:Nat→Prop} {w:World} (s:StpK) (A1:Option Addr) (c1:Nat) (A2:Option Addr) (c2:Nat) (A3:Option Addr) (c3:Nat) (hf:StpFit s) (hk:s.k=2) (h2:FlatQ Q w A2 (s.v.map intL)):Calls Tryz.prog 28 #[.agg (stpC s A1 c1 A2 c2 A3 c3).toArray] w fun e w'=>e=.returned (.string (toB (textK s)))∧Below w.heap.size w w':=by
  obtain⟨sk,sb,sn,sid,sv,sy,sl⟩:=s
  obtain⟨g1,g2,g3,g4,g5,g6,g7,g8⟩:=hf
  unfold stpC
  dsimp only at *
  subst hk
  have HD:=fun W=>Lib.hid (scrDigits_any sid W g2)
  have hl:=(dgT_len g2).2
  have HR:∀ W,Hid (Calls Tryz.prog 53 #[.string (toB wSend),.slice (some ⟨W.heap.size,0,none⟩) 1 1] (W.alloc (.cells #[.string (toB (dgT sid))] 9)) fun e w'=>e=.returned (.string (toB (joinB 32 [wSend,dgT sid])))∧Below W.heap.size W w'):=fun W=>row_one (w:=w) wSend (dgT sid) (.inr trivial) (by decide) (by decide) (by omega)
  have hw1:(joinB 32 [wSend,dgT sid]).length≤100:=by
    show (wSend++32 :: dgT sid).length≤100
    rw [List.length_append,List.length_cons]
    have:wSend.length=4:=rfl
    omega
  have hw0:joinB 32 [wSend,dgT sid]≠[]:=by
    show wSend++32 :: dgT sid≠[]
    simp
  have HR2:∀ A c (W0 W:World),FlatQ (fun b=>W0.heap.size≤b∧b < W.heap.size) W A ((sv.map dgT).map strL)→Hid (Calls Tryz.prog 53 #[.string (toB (joinB 32 [wSend,dgT sid])),.slice A sv.length c] W fun e w'=>e=.returned (.string (toB (joinB 32 (joinB 32 [wSend,dgT sid] :: sv.map dgT))))∧Below W.heap.size W w'):=fun A c W0 W h=>by
    have:=scrRow_any (joinB 32 [wSend,dgT sid]) A c (sv.map dgT) h hw0 (by omega) (by rw [List.length_map];omega) (by have:=tail_words dgT sv fun n hn=>(dgT_len (g4 n hn)).2;omega)
    rw [List.length_map] at this
    exact this
  have HT:Hid (textK ⟨2,sb,sn,sid,sv,sy,sl⟩=joinB 32 (joinB 32 [wSend,dgT sid] :: sv.map dgT)):=by
    show joinB 32 (wSend :: dgT sid :: sv.map dgT)=_
    rw [joinB_tail,joinB_tail,joinB_tail]
    simp [tailT]
  have HA:∀ W,Hid (Below (w.alloc (.cells (stpC ⟨2,sb,sn,sid,sv,sy,sl⟩ A1 c1 A2 c2 A3 c3).toArray 30)).heap.size (w.alloc (.cells (stpC ⟨2,sb,sn,sid,sv,sy,sl⟩ A1 c1 A2 c2 A3 c3).toArray 30)) W→Calls Tryz.prog 56 #[.slice A2 sv.length c2] W (StrsOut (sv.map dgT) W)):=fun W=>Lib.hid fun hW=>scrAll_any A2 c2 sv (h2.lt.below ((below_new w _).trans (hW.mono (by simp))) fun b q=>q.2) g4 (by omega)
  have HC:Hid (∀ W,Below (w.alloc (.cells (stpC ⟨2,sb,sn,sid,sv,sy,sl⟩ A1 c1 A2 c2 A3 c3).toArray 30)).heap.size (w.alloc (.cells (stpC ⟨2,sb,sn,sid,sv,sy,sl⟩ A1 c1 A2 c2 A3 c3).toArray 30)) W→W.cell? ⟨w.heap.size,3,none⟩=some (.int .i64 sid)∧W.cell? ⟨w.heap.size,4,none⟩=some (.slice A2 sv.length c2)):=Lib.hid fun W hW=>
    ⟨(hW.cell (p:=⟨w.heap.size,3,none⟩) (by simp)).trans (by rw [World.cell?_alloc_at _ _ _ _ rfl];rfl),(hW.cell (p:=⟨w.heap.size,4,none⟩) (by simp)).trans (by rw [World.cell?_alloc_at _ _ _ _ rfl];rfl)⟩
  have HB0:=Lib.hid (below_new w (.cells (stpC ⟨2,sb,sn,sid,sv,sy,sl⟩ A1 c1 A2 c2 A3 c3).toArray 30))
  have HZ0:Hid (w.heap.size < (w.alloc (.cells (stpC ⟨2,sb,sn,sid,sv,sy,sl⟩ A1 c1 A2 c2 A3 c3).toArray 30)).heap.size):=by show _ < _;simp
  unfold stpC at HC HA HB0 HZ0
  dsimp only at HC HA HB0 HZ0
  generalize joinB 32 (joinB 32 [wSend,dgT sid] :: sv.map dgT)=y at *
  generalize joinB 32 [wSend,dgT sid]=x at *
  generalize toB x=X at *
  generalize toB (dgT sid)=D at *
  clear h2 hw0 hw1 g1 g2 g3 g4 g5 hl
  go_enter Tryz.func28,Tryz.ntmps28
  go_wp2_with fail
  generalize w.alloc (.cells _ 30)=W0 at *
  have hS0:Below W0.heap.size W0 W0.drew:=bdrew (Below.refl _ W0)
  refine wp_region_held_drew (S:=fun w'=>Below W0.heap.size W0 w') (by kernel_rfl) hS0 (fun hHeld0=>?_)
  refine wpAnyH_take (i:=0) (oi:=⟨some 24,_,_,_,_,_⟩) (v:=?_) rfl (by kernel_rfl) (by kernel_rfl) (by kernel_rfl) (fun _ _ _ h=>h) (Or.inl ⟨by rfl,?_⟩) (by assumption) ?_
  rotate_left
  · intro w' hSw
    go_simp
    try with_reducible rfl
  try go_frame
  refine wpAnyH_take (i:=1) (oi:=⟨some 25,_,_,_,_,_⟩) (v:=?_) rfl (by kernel_rfl) (by kernel_rfl) (by kernel_rfl) (fun _ _ _ h=>h) (Or.inl ⟨by rfl,?_⟩) (by assumption) ?_
  rotate_left
  · intro w' hSw
    go_simp
    try with_reducible rfl
  try go_frame
  refine wpAnyH_take (i:=2) (oi:=⟨some 26,_,_,_,_,_⟩) (v:=?_) rfl (by kernel_rfl) (by kernel_rfl) (by kernel_rfl) (fun _ _ _ h=>h) (Or.inl ⟨by rfl,?_⟩) (by assumption) ?_
  rotate_left
  · intro w' hSw
    have c3:=(HC.out w' hSw).1
    go_simp
    try with_reducible rfl
  try go_frame
  refine wpAnyH_take (i:=6) (oi:=⟨some 30,_,_,_,_,_⟩) (v:=?_) rfl (by kernel_rfl) (by kernel_rfl) (by kernel_rfl) (fun _ _ _ h=>h) (Or.inl ⟨by rfl,?_⟩) (by assumption) ?_
  rotate_left
  · intro w' hSw
    go_simp
    try with_reducible rfl
  try go_frame
  refine wpAnyH_take (i:=7) (oi:=⟨some 31,_,_,_,_,_⟩) (v:=?_) rfl (by kernel_rfl) (by kernel_rfl) (by kernel_rfl) (fun _ _ _ h=>h) (Or.inl ⟨by rfl,?_⟩) (by assumption) ?_
  rotate_left
  · intro w' hSw
    go_simp
    try with_reducible rfl
  try go_frame
  refine wpAnyH_take (i:=8) (oi:=⟨some 32,_,_,_,_,_⟩) (v:=?_) rfl (by kernel_rfl) (by kernel_rfl) (by kernel_rfl) (fun _ _ _ h=>h) (Or.inl ⟨by rfl,?_⟩) (by assumption) ?_
  rotate_left
  · intro w' hSw
    have c4:=(HC.out w' hSw).2
    go_simp
    try with_reducible rfl
  try go_frame
  refine wpAnyH_ready (rs:=[3]) (by kernel_rfl) (by simp) ?_
  refine AllReadyH.cons (o:=⟨some 27,_,_,_,_,_⟩) rfl (fun K hK=>?_) AllReadyH.nil
  rw [if_pos (by rfl)]
  go_step
  refine (HD _).out.mono ?_
  rintro e w1 ⟨rfl,hb⟩
  have HS1:Hid (Below W0.heap.size W0 w1):=Lib.hid (hHeld0.trans (hb.mono hHeld0.size))
  clear hb
  try go_frame
  refine hK.out _ _ (HS1.out) (fun hHeld=>?_)
  clear hK K
  try go_frame
  refine wpAnyH_ready (rs:=[4]) (by kernel_rfl) (by simp) ?_
  refine AllReadyH.cons (o:=⟨some 28,_,_,_,_,_⟩) rfl (fun K hK=>?_) AllReadyH.nil
  rw [if_pos (by rfl)]
  go_step
  try go_frame
  refine hK.out _ _ (bthen HS1.out (below_new _ _)) (fun hHeld=>?_)
  clear hK K
  try go_frame
  refine wpAnyH_ready (rs:=[5]) (by kernel_rfl) (by simp) ?_
  refine AllReadyH.cons (o:=⟨some 29,_,_,_,_,_⟩) rfl (fun K hK=>?_) AllReadyH.nil
  rw [if_pos (by rfl)]
  go_step
  refine (HR _).out.mono ?_
  rintro e w2 ⟨rfl,hb⟩
  have HS2:Hid (Below W0.heap.size W0 w2):=Lib.hid (bthen HS1.out hb)
  clear hb
  try go_frame
  refine hK.out _ _ (HS2.out) (fun hHeld=>?_)
  clear hK K
  try go_frame
  refine wpAnyH_ready (rs:=[9]) (by kernel_rfl) (by simp) ?_
  refine AllReadyH.cons (o:=⟨some 33,_,_,_,_,_⟩) rfl (fun K hK=>?_) AllReadyH.nil
  rw [if_pos (by rfl)]
  go_step
  refine ((HA _).out HS2.out).mono ?_
  rintro e w3 ⟨A9,c9,rfl,hf9,hb,hc9⟩
  have HS3:Hid (Below W0.heap.size W0 w3):=Lib.hid (bthen HS2.out hb)
  have HF9:=Lib.hid hf9
  clear hb hf9 hc9
  try go_frame
  refine hK.out _ _ (HS3.out) (fun hHeld=>?_)
  clear hK K
  try go_frame
  refine wpAnyH_ready (rs:=[10]) (by kernel_rfl) (by simp) ?_
  refine AllReadyH.cons (o:=⟨some 34,_,_,_,_,_⟩) rfl (fun K hK=>?_) AllReadyH.nil
  rw [if_pos (by rfl)]
  go_step
  refine (HR2 A9 c9 w2 w3 HF9.out).out.mono ?_
  rintro e w4 ⟨rfl,hb⟩
  have HS4:Hid (Below W0.heap.size W0 w4):=Lib.hid (bthen HS3.out hb)
  clear hb
  try go_frame
  refine hK.out _ _ (HS4.out) (fun hHeld=>?_)
  clear hK K
  try go_frame
  refine wpAnyH_take (i:=11) (oi:=⟨some 2,_,_,_,_,_⟩) (v:=?_) rfl (by kernel_rfl) (by kernel_rfl) (by kernel_rfl) (fun _ _ _ h=>h) (Or.inl ⟨by rfl,?_⟩) (by assumption) ?_
  rotate_left
  · intro w' hSw
    go_simp
    try with_reducible rfl
  try go_frame
  refine wpAnyH_done (by kernel_rfl) ?_ _
  try go_frame
  have HB4:=Lib.hid (HB0.out.trans (HS4.out.mono HB0.out.size))
  go_wp2_with fail
  go_ret
  exact⟨by rw [HT.out];rfl,HB4.out⟩
theorem pushSG {w0 w:World} {v:Value} {n:Nat} {xs:List Value} (h:OwnR w0 9 1 v n xs w) (u:ByteArray) (hn:n≤1000000000) (ty:TypeId) :
    ∃ v' w',(Builtin.append_ #[134,134] ty #[v,.slice (some ⟨w.heap.size,0,none⟩) 1 1]).run Tryz.prog (w.alloc (.cells #[.string u] 9))=.ok v' w'∧OwnR w0 9 1 v' (n+1) (xs++[.string u]) w'∧w.grownBy w' v.ownBlock:=by
  obtain⟨v',w',r,o,g⟩:=pushB (P:=Tryz.prog) (t:=134) (ty:=ty) h.1 h.2.size str_info Tryz.underlying134 rfl (by decide) #[.string u] rfl (fun _ q=>one_cell q rfl) (by unfold maxLen;omega) (by omega)
  exact⟨v',w',r,⟨o,h.2.grown g h.2.size fun k q=>(own_cells h.1 q).1⟩,g⟩
set_option maxRecDepth 8000 in
set_option maxHeartbeats 4000000 in
theorem scrText_ask {Q:Nat→Prop} {w:World} (s:StpK) (A1:Option Addr) (c1:Nat) (A2:Option Addr) (c2:Nat) (A3:Option Addr) (c3:Nat) (hf:StpFit s) (hk:s.k=4) (h3:FlatQ Q w A3 (pairC s.l)):Calls Tryz.prog 28 #[.agg (stpC s A1 c1 A2 c2 A3 c3).toArray] w fun e w'=>e=.returned (.string (toB (textK s)))∧Below w.heap.size w w':=by
  obtain⟨sk,sb,sn,sid,sv,sy,sl⟩:=s
  obtain⟨g1,g2,g3,g4,g5,g6,g7,g8⟩:=hf
  unfold stpC
  dsimp only at *
  subst hk
  have HDY:=fun W=>Lib.hid (scrDigits_any sy W g3)
  have hl:=(dgT_len g3).2
  have HR1:∀ W,Hid (Calls Tryz.prog 53 #[.string (toB wAsk),.slice (some ⟨W.heap.size,0,none⟩) 1 1] (W.alloc (.cells #[.string (toB (dgT sy))] 9)) fun e w'=>e=.returned (.string (toB (joinB 32 [wAsk,dgT sy])))∧Below W.heap.size W w'):=fun W=>row_one (w:=w) wAsk (dgT sy) (.inr trivial) (by decide) (by decide) (by omega)
  have hw1:(joinB 32 [wAsk,dgT sy]).length≤100:=by
    show (wAsk++32 :: dgT sy).length≤100
    rw [List.length_append,List.length_cons]
    have:wAsk.length=3:=rfl
    omega
  have hw0:joinB 32 [wAsk,dgT sy]≠[]:=by
    show wAsk++32 :: dgT sy≠[]
    simp [wAsk]
  have HR2:∀ A c (W:World),FlatQ (fun _=>True) W A ((sl.map pairT).map strL)→Hid (Calls Tryz.prog 53 #[.string (toB (joinB 32 [wAsk,dgT sy])),.slice A sl.length c] W fun e w'=>e=.returned (.string (toB (joinB 32 (joinB 32 [wAsk,dgT sy] :: sl.map pairT))))∧Below W.heap.size W w'):=fun A c W h=>by
    have:=scrRow_any (joinB 32 [wAsk,dgT sy]) A c (sl.map pairT) h hw0 (by omega) (by rw [List.length_map];omega) (by have:=tail_pairs sl g5;omega)
    rw [List.length_map] at this
    exact this
  have HT:Hid (textK ⟨4,sb,sn,sid,sv,sy,sl⟩=joinB 32 (joinB 32 [wAsk,dgT sy] :: sl.map pairT)):=by
    show joinB 32 (wAsk :: dgT sy :: sl.map pairT)=_
    rw [joinB_tail,joinB_tail,joinB_tail]
    simp [tailT]
  obtain⟨N,hN⟩:∃ N,sl.length=N:=⟨_,rfl⟩
  have HL:=Lib.hid hN
  have HPF:=Lib.hid (And.intro h3 g5)
  rw [hN] at HR2 g8
  rw [hN]
  have HB0:=Lib.hid (below_new w (.cells #[.int .i64 4,.slice A1 sb.length c1,.int .i64 sn,.int .i64 sid,.slice A2 sv.length c2,.int .i64 sy,.slice A3 N c3] 30))
  have HC0:Hid (∀ W,Below (w.alloc (.cells #[.int .i64 4,.slice A1 sb.length c1,.int .i64 sn,.int .i64 sid,.slice A2 sv.length c2,.int .i64 sy,.slice A3 N c3] 30)).heap.size (w.alloc (.cells #[.int .i64 4,.slice A1 sb.length c1,.int .i64 sn,.int .i64 sid,.slice A2 sv.length c2,.int .i64 sy,.slice A3 N c3] 30)) W→W.cell? ⟨w.heap.size,5,none⟩=some (.int .i64 sy)):=Lib.hid fun W hW=>
    (hW.cell (p:=⟨w.heap.size,5,none⟩) (by simp)).trans (by rw [World.cell?_alloc_at _ _ _ _ rfl];rfl)
  generalize joinB 32 (joinB 32 [wAsk,dgT sy] :: sl.map pairT)=y at *
  generalize joinB 32 [wAsk,dgT sy]=x at *
  generalize toB x=XX at *
  generalize toB (dgT sy)=DY at *
  clear h3 hw0 hw1 g1 g2 g3 g4 g5 g6 g7 hl hN
  go_enter Tryz.func28,Tryz.ntmps28
  go_wp2_with fail
  generalize w.alloc (.cells #[.int .i64 4,.slice A1 sb.length c1,.int .i64 sn,.int .i64 sid,.slice A2 sv.length c2,.int .i64 sy,.slice A3 N c3] 30)=W0 at *
  go_loopw [3,48] (fun v iv wr=>∃ k:Nat,iv=.int .i64 k∧k≤N∧Hid (OwnR W0 9 1 v k (((sl.take k).map pairT).map strL) wr)) (fun _ iv _=>N - (intOf iv).toNat)
  case atStart=>exact⟨0,rfl,by omega,OwnR.nil _ _ _ (Below.refl _ _)⟩
  case round=>
    obtain⟨k,rfl,hk,HO⟩:=hrel
    have HBW:=Lib.hid (HB0.out.trans (HO.out.2.mono HB0.out.size))
    by_cases hlt:k < N
    · have hkl:k < sl.length:=by rw [HL.out];exact hlt
      obtain⟨b,off,rfl,k0,k1⟩:=pair_at HPF.out.1 HBW.out k hkl
      have h64:=HPF.out.2 _ (List.getElem_mem hkl)
      have HD1:=fun W=>Lib.hid (scrDigits_any sl[k].1 W h64.1)
      have HD2:=fun W=>Lib.hid (scrDigits_any sl[k].2 W h64.2)
      have s1:=size_B (dgT sl[k].1)
      have s2:=size_B (dgT sl[k].2)
      have l1:=(dgT_len h64.1).2
      have l2:=(dgT_len h64.2).2
      have HS:Hid ((((sl.take (k+1)).map pairT).map strL)=((sl.take k).map pairT).map strL++[.string (toB (dgT sl[k].1)++⟨#[61]⟩++toB (dgT sl[k].2))]):=by
        show _=_
        rw [take_map pairT sl k hkl,List.map_append,show (⟨#[61]⟩:ByteArray)=toB [61] from rfl,toB_append,toB_append]
        show _++[Value.string (toB (dgT sl[k].1++61 :: dgT sl[k].2))]=_
        rw [List.append_assoc]
        rfl
      rw [← s1] at l1
      rw [← s2] at l2
      have HC:Hid (∀ W:World,W.heap[wr.heap.size]?=(wr.alloc (.cells #[.int .i64 sl[k].1,.int .i64 sl[k].2] 151)).heap[wr.heap.size]?→W.cell? ⟨wr.heap.size,0,none⟩=some (.int .i64 sl[k].1)∧W.cell? ⟨wr.heap.size,1,none⟩=some (.int .i64 sl[k].2)):=Lib.hid fun W hW=>
        ⟨(World.cell?_of_block (a:=⟨wr.heap.size,0,none⟩) hW).trans (by rw [World.cell?_alloc_at _ _ _ _ rfl];rfl),(World.cell?_of_block (a:=⟨wr.heap.size,1,none⟩) hW).trans (by rw [World.cell?_alloc_at _ _ _ _ rfl];rfl)⟩
      have HW1:=Lib.hid (below_new wr (.cells #[.int .i64 sl[k].1,.int .i64 sl[k].2] 151))
      have HPB:Hid (wr.heap.size < (wr.alloc (.cells #[.int .i64 sl[k].1,.int .i64 sl[k].2] 151)).heap.size):=by show _ < _;simp
      have HPO:Hid (u3.ownBlock≠some wr.heap.size):=fun q=>by
        obtain⟨-,cs,z⟩:=own_cells HO.out.1 q
        exact absurd (Array.getElem?_eq_some_iff.1 z).1 (Nat.lt_irrefl _)
      generalize sl[k].1=a at *
      generalize sl[k].2=c at *
      generalize toB (dgT a)=X at *
      generalize toB (dgT c)=Y at *
      have n1:¬ 9223372036854775807 < X.size+1:=by omega
      have n2:¬ 9223372036854775807 < X.size+1+Y.size:=by omega
      clear h64 s1 s2 l1 l2
      go_upto_region 15 with fail
      generalize wr.alloc (.cells #[.int .i64 a,.int .i64 c] 151)=W1 at *
      generalize hpe:wr.heap.size=pb at *
      have HPE:=Lib.hid hpe
      clear hpe
      have hS0:W1.drew.heap[pb]?=W1.heap[pb]?:=rfl
      refine wp_region_held_drew (S:=fun w'=>w'.heap[pb]?=W1.heap[pb]?) (by kernel_rfl) hS0 (fun hHeld0=>?_)
      refine wpAnyH_take (i:=0) (oi:=⟨some 52,_,_,_,_,_⟩) (v:=?_) rfl (by kernel_rfl) (by kernel_rfl) (by kernel_rfl) (fun _ _ _ h=>h) (Or.inl ⟨by rfl,?_⟩) (by assumption) ?_
      rotate_left
      · intro w' hSw
        go_simp
        try with_reducible rfl
      try go_frame
      refine wpAnyH_take (i:=1) (oi:=⟨some 53,_,_,_,_,_⟩) (v:=?_) rfl (by kernel_rfl) (by kernel_rfl) (by kernel_rfl) (fun _ _ _ h=>h) (Or.inl ⟨by rfl,?_⟩) (by assumption) ?_
      rotate_left
      · intro w' hSw
        go_simp
        try with_reducible rfl
      try go_frame
      refine wpAnyH_take (i:=2) (oi:=⟨some 54,_,_,_,_,_⟩) (v:=?_) rfl (by kernel_rfl) (by kernel_rfl) (by kernel_rfl) (fun _ _ _ h=>h) (Or.inl ⟨by rfl,?_⟩) (by assumption) ?_
      rotate_left
      · intro w' hSw
        have c3:=(HC.out w' hSw).1
        go_simp
        try with_reducible rfl
      try go_frame
      refine wpAnyH_take (i:=5) (oi:=⟨some 57,_,_,_,_,_⟩) (v:=?_) rfl (by kernel_rfl) (by kernel_rfl) (by kernel_rfl) (fun _ _ _ h=>h) (Or.inl ⟨by rfl,?_⟩) (by assumption) ?_
      rotate_left
      · intro w' hSw
        go_simp
        try with_reducible rfl
      try go_frame
      refine wpAnyH_take (i:=6) (oi:=⟨some 58,_,_,_,_,_⟩) (v:=?_) rfl (by kernel_rfl) (by kernel_rfl) (by kernel_rfl) (fun _ _ _ h=>h) (Or.inl ⟨by rfl,?_⟩) (by assumption) ?_
      rotate_left
      · intro w' hSw
        have c4:=(HC.out w' hSw).2
        go_simp
        try with_reducible rfl
      try go_frame
      refine wpAnyH_ready (rs:=[3]) (by kernel_rfl) (by simp) ?_
      refine AllReadyH.cons (o:=⟨some 55,_,_,_,_,_⟩) rfl (fun K hK=>?_) AllReadyH.nil
      rw [if_pos (by rfl)]
      go_step
      refine (HD1 _).out.mono ?_
      rintro e w2 ⟨rfl,hb⟩
      have HB2:Hid (Below W1.heap.size W1 w2):=Lib.hid (bthen (bdrew (Below.refl _ W1)) hb)
      clear hb
      try go_frame
      refine hK.out _ _ (HB2.out.block pb HPB.out) (fun hHeld=>?_)
      clear hK K
      try go_frame
      refine wpAnyH_take (i:=4) (oi:=⟨some 56,_,_,_,_,_⟩) (v:=?_) rfl (by kernel_rfl) (by kernel_rfl) (by kernel_rfl) (fun _ _ _ h=>h) (Or.inl ⟨by rfl,?_⟩) (by assumption) ?_
      rotate_left
      · intro w' hSw
        go_simp
        try with_reducible rfl
      try go_frame
      refine wpAnyH_ready (rs:=[7]) (by kernel_rfl) (by simp) ?_
      refine AllReadyH.cons (o:=⟨some 59,_,_,_,_,_⟩) rfl (fun K hK=>?_) AllReadyH.nil
      rw [if_pos (by rfl)]
      go_step
      refine (HD2 _).out.mono ?_
      rintro e w3 ⟨rfl,hb⟩
      have HB3:Hid (Below W1.heap.size W1 w3):=Lib.hid (bthen HB2.out hb)
      clear hb
      try go_frame
      refine hK.out _ _ (HB3.out.block pb HPB.out) (fun hHeld=>?_)
      clear hK K
      try go_frame
      refine wpAnyH_take (i:=8) (oi:=⟨some 60,_,_,_,_,_⟩) (v:=?_) rfl (by kernel_rfl) (by kernel_rfl) (by kernel_rfl) (fun _ _ _ h=>h) (Or.inl ⟨by rfl,?_⟩) (by assumption) ?_
      rotate_left
      · intro w' hSw
        go_simp
        try with_reducible rfl
      try go_frame
      refine wpAnyH_ready (rs:=[9]) (by kernel_rfl) (by simp) ?_
      refine AllReadyH.cons (o:=⟨some 61,_,_,_,_,_⟩) rfl (fun K hK=>?_) AllReadyH.nil
      rw [if_pos (by rfl)]
      go_step
      try go_frame
      refine hK.out _ _ ((bthen HB3.out (below_new _ _)).block pb HPB.out) (fun hHeld=>?_)
      clear hK K
      try go_frame
      obtain⟨v',W',hr,ho,hg⟩:=pushSG (HO.out.on (by rw [HPE.out];exact HW1.out.trans (HB3.out.mono (Nat.le_of_lt HPB.out)))) (X++⟨#[61]⟩++Y) (by omega) 134
      have HR:=Lib.hid hr
      have HO2:=Lib.hid ho
      have HS4:Hid (W'.heap[pb]?=W1.heap[pb]?):=Lib.hid ((hg.block pb (Nat.lt_of_lt_of_le HPB.out HB3.out.size) (fun q=>HPO.out q.symm)).trans (HB3.out.block pb HPB.out))
      clear hr ho hg
      refine wpAnyH_ready (rs:=[10]) (by kernel_rfl) (by simp) ?_
      refine AllReadyH.cons (o:=⟨some 62,_,_,_,_,_⟩) rfl (fun K hK=>?_) AllReadyH.nil
      refine step_append_known rfl _ _ 134 rfl _ _ _ rfl rfl HR.out ?_
      try go_frame
      refine hK.out _ _ HS4.out (fun hHeld=>?_)
      clear hK K
      try go_frame
      refine wpAnyH_take (i:=11) (oi:=⟨some 3,_,_,_,_,_⟩) (v:=?_) rfl (by kernel_rfl) (by kernel_rfl) (by kernel_rfl) (fun _ _ _ h=>h) (Or.inl ⟨by rfl,?_⟩) (by assumption) ?_
      rotate_left
      · intro w' hSw
        go_simp
        try with_reducible rfl
      try go_frame
      refine wpAnyH_done (by kernel_rfl) ?_ _
      try go_frame
      have HO3:Hid (OwnR W0 9 1 v' (k+1) (((sl.take (k+1)).map pairT).map strL) W'):=by
        show OwnR _ _ _ _ _ _ _
        rw [HS.out]
        exact HO2.out
      go_wp2_with fail
      go_roundw
      case rel=>exact⟨k+1,by go_num,by omega,HO3⟩
      case measure=>simp [intOf];omega
    · obtain rfl:k=N:=by omega
      have HE:Hid (OwnR W0 9 1 u3 k ((sl.map pairT).map strL) wr):=by
        have:=HO.out
        rw [List.take_of_length_le (by rw [HL.out];omega)] at this
        exact this
      obtain⟨A,c,rfl,-,hfl⟩:=HE.out.flat
      have HFL:=Lib.hid hfl
      clear hfl
      have c5:=HC0.out wr HO.out.2
      go_wp2_with fail
      refine (HDY _).out.mono ?_
      rintro e w2 ⟨rfl,hb⟩
      have HB2:=Lib.hid hb
      clear hb
      go_wp2_with fail
      refine (HR1 _).out.mono ?_
      rintro e w3 ⟨rfl,hb⟩
      have HB3:=Lib.hid (bthen HB2.out hb)
      clear hb
      go_wp2_with fail
      refine (HR2 A c w3 ((HFL.out.below HB3.out fun b q=>q.2).less fun b q=>trivial)).out.mono ?_
      rintro e w4 ⟨rfl,hb⟩
      have HB4:=Lib.hid (bthen HBW.out (bthen HB3.out hb))
      clear hb
      go_wp2_with fail
      go_ret
      exact⟨by rw [HT.out];rfl,HB4.out⟩
theorem scrText_any {Q:Nat→Prop} {w:World} {C:List Value} {s:StpK} (h:StpM Q w C s) (hf:StpFit s):Calls Tryz.prog 28 #[.agg C.toArray] w fun e w'=>e=.returned (.string (toB (textK s)))∧Below w.heap.size w w':=by
  obtain⟨A1,c1,A2,c2,A3,c3,rfl,h1,h2,h3⟩:=h.it
  rcases (by omega:(s.k < 0∨4 < s.k)∨s.k=0∨(s.k=1∨s.k=3)∨s.k=2∨s.k=4) with q | q | q | q | q
  · exact scrText_none s A1 c1 A2 c2 A3 c3 q
  · exact scrText_bytes s A1 c1 A2 c2 A3 c3 hf q h1
  · exact scrText_num s A1 c1 A2 c2 A3 c3 hf q
  · exact scrText_send s A1 c1 A2 c2 A3 c3 hf q h2
  · exact scrText_ask s A1 c1 A2 c2 A3 c3 hf q h3
def rawK:Stp→StpK
  | .bytes b=>⟨0,b,0,0,[],0,[]⟩
  | .tick n=>⟨1,[],n,0,[],0,[]⟩
  | .send id v=>⟨2,[],0,id,v,0,[]⟩
  | .log n=>⟨3,[],n,0,[],0,[]⟩
  | .ask y l=>⟨4,[],0,0,[],y,l⟩
abbrev stL (k:Int) (A1:Option Addr) (m1 c1:Nat) (n id:Int) (A2:Option Addr) (m2 c2:Nat) (y:Int) (A3:Option Addr) (m3 c3:Nat):List Value:=
  [.int .i64 k,.slice A1 m1 c1,.int .i64 n,.int .i64 id,.slice A2 m2 c2,.int .i64 y,.slice A3 m3 c3]
abbrev stZ:List Value:=stL 0 none 0 0 0 0 none 0 0 0 none 0 0
theorem zero_Stp (w:World):(zeroValue 30).run Tryz.prog w=.ok (.agg stZ.toArray) w:=by kernel_rfl
theorem st_size {C:List Value} (h:C.length=7):(Tryz.prog.info? 30).map (·.size)=some C.toArray.size:=by
  rw [List.size_toArray,h]
  kernel_rfl
theorem st_load {w:World} {b:Nat} {C:List Value} (h:C.length=7) (hk:Blk w b C):(loadVar 30 ⟨b,0,none⟩).run Tryz.prog w=.ok (.agg C.toArray) w:=
  run_loadVar_mid (P:=Tryz.prog) _ b 0 30 C _ hk.rg Tryz.underlying30 rfl (by rw [h];kernel_rfl)
theorem st_ones (k:Int) (A1:Option Addr) (m1 c1:Nat) (n id:Int) (A2:Option Addr) (m2 c2:Nat) (y:Int) (A3:Option Addr) (m3 c3:Nat):(stL k A1 m1 c1 n id A2 m2 c2 y A3 m3 c3).toArray.all (·.oneCell')=true:=by simp [Value.oneCell']
theorem StpM.raw {Q:Nat→Prop} {w:World} {A1 A2 A3:Option Addr} {c1 c2 c3:Nat} {k n id y:Int} {b:List UInt8} {v:List Int} {l:List (Int×Int)} (h1:FlatQ Q w A1 (b.map byL)) (h2:FlatQ Q w A2 (v.map intL)) (h3:FlatQ Q w A3 (pairC l)) :
    StpM Q w (stL k A1 b.length c1 n id A2 v.length c2 y A3 l.length c3) ⟨k,b,n,id,v,y,l⟩:=⟨⟨A1,c1,A2,c2,A3,c3,rfl,h1,h2,h3⟩⟩
theorem StpM.num (Q:Nat→Prop) (w:World) (k n:Int):StpM Q w (stL k none 0 0 n 0 none 0 0 0 none 0 0) ⟨k,[],n,0,[],0,[]⟩:=StpM.raw (b:=[]) (v:=[]) (l:=[]) (FlatQ.nil _ _ _) (FlatQ.nil _ _ _) (FlatQ.nil _ _ _)
theorem StpM.len {Q:Nat→Prop} {w:World} {C:List Value} {s:StpK} (h:StpM Q w C s):C.length=7:=by obtain⟨A1,c1,A2,c2,A3,c3,rfl,-⟩:=h.it;rfl
theorem StpM.ones {Q:Nat→Prop} {w:World} {C:List Value} {s:StpK} (h:StpM Q w C s):C.toArray.all (·.oneCell')=true:=by obtain⟨A1,c1,A2,c2,A3,c3,rfl,-⟩:=h.it;exact st_ones _ _ _ _ _ _ _ _ _ _ _ _ _
theorem StpM.keep {Q R:Nat→Prop} {w w':World} {C:List Value} {s:StpK} (h:StpM Q w C s) (hk:∀ b,Q b→w'.heap[b]?=w.heap[b]?) (hr:∀ b,Q b→R b):StpM R w' C s:=by
  obtain⟨A1,c1,A2,c2,A3,c3,rfl,h1,h2,h3⟩:=h.it
  exact⟨⟨A1,c1,A2,c2,A3,c3,rfl,(h1.keep hk).less hr,(h2.keep hk).less hr,(h3.keep hk).less hr⟩⟩
def stepQ (w0:List UInt8) (n:Int) (more:List (List UInt8)):Option Stp:=
  if w0=wTick then (if more=[] then some (.tick n) else none)
  else if w0=wLog then (if more=[] then some (.log n) else none)
  else if w0=wSend then (numsW more).map (.send n)
  else if w0=wAsk then (pairsW more).map (.ask n)
  else none
def StepOut (o:Option Stp) (w:World) (e:Ending) (w':World):Prop:=
  ∃ t C b,e=.returned (.tuple #[.agg C.toArray,.bool b])∧StpM (fun k=>w.heap.size≤k∧k < w'.heap.size) w' C t∧(if b then ∃ s,o=some s∧t=rawK s else o=none)∧Below w.heap.size w w'
theorem txt_is (l m:List UInt8):((toB l).toList==m)=decide (l=m):=by
  rw [txt_eq,toList_B,Bool.eq_iff_iff]
  simp
set_option maxHeartbeats 1000000 in
theorem scrStep_tick {w:World} (n:Int) (A:Option Addr) (c:Nat) (more:List (List UInt8)):Calls Tryz.prog 48 #[.string (toB wTick),.int .i64 n,.slice A more.length c] w (StepOut (stepQ wTick n more) w):=by
  have HZ:=fun W=>Lib.hid (zero_Stp W)
  have HO:Hid (stepQ wTick n more=if more=[] then some (.tick n) else none):=rfl
  have f0:((toB wTick).toList==[116,105,99,107])=true:=by rw [txt_is];decide
  generalize toB wTick=X at *
  by_cases hm:more=[]
  · have HO:Hid (stepQ wTick n more=some (.tick n)):=by have:=HO.out;rw [if_pos hm] at this;exact this
    have hN:more.length=0:=by rw [hm];rfl
    rw [hN]
    clear hm hN
    go_enter Tryz.func48,Tryz.ntmps48
    go_wp2_with (first
      | (refine wpList_alloc_new rfl 30 rfl stZ.toArray (HZ _).out ?_;intro W1 hW;have HK1:=Lib.hid (Blk.newL (L:=stZ) hW rfl);have HB1:=Lib.hid hW.bel;have HS1:=Lib.hid hW.sz;clear hW)
      | (refine wpList_store_in rfl 30 _ _ rfl w.heap.size 0 (stL 1 none 0 0 n 0 none 0 0 0 none 0 0).toArray rfl rfl (HK1.out.there 0 7 (Nat.le_refl _)) (st_size rfl) (st_ones _ _ _ _ _ _ _ _ _ _ _ _ _) ?_;intro W9 hs;have HLD:=Lib.hid (st_load rfl (HK1.out.all hs rfl));have HB9:=Lib.hid (HB1.out.trans (hs.below (Nat.le_refl _)));have HF9:=Lib.hid hs.far;have HS9:=Lib.hid hs.sz;clear hs))
    exact bodyPost_ret (v:=.tuple #[.agg (stL 1 none 0 0 n 0 none 0 0 0 none 0 0).toArray,.bool true]) (by rw [results_cell_tmp rfl];simp [asAddr,Result.andThen,HLD.out]) rfl (by exact⟨⟨1,[],n,0,[],0,[]⟩,_,true,rfl,StpM.num _ _ _ _,⟨_,HO.out,rfl⟩,HB9.out⟩)
  · have HO:Hid (stepQ wTick n more=none):=by have:=HO.out;rw [if_neg hm] at this;exact this
    have hN:0 < more.length:=List.length_pos_iff.2 hm
    have f9:((more.length:Int)==0)=false:=by rw [beq_eq_false_iff_ne];omega
    clear hm hN
    go_enter Tryz.func48,Tryz.ntmps48
    go_wp2_with (first
      | (refine wpList_alloc_new rfl 30 rfl stZ.toArray (HZ _).out ?_;intro W1 hW;have HK1:=Lib.hid (Blk.newL (L:=stZ) hW rfl);have HB1:=Lib.hid hW.bel;have HS1:=Lib.hid hW.sz;clear hW)
      | (refine wpList_store_in rfl 30 _ _ rfl w.heap.size 0 (stL 1 none 0 0 n 0 none 0 0 0 none 0 0).toArray rfl rfl (HK1.out.there 0 7 (Nat.le_refl _)) (st_size rfl) (st_ones _ _ _ _ _ _ _ _ _ _ _ _ _) ?_;intro W9 hs;have HLD:=Lib.hid (st_load rfl (HK1.out.all hs rfl));have HB9:=Lib.hid (HB1.out.trans (hs.below (Nat.le_refl _)));have HF9:=Lib.hid hs.far;have HS9:=Lib.hid hs.sz;clear hs))
    exact bodyPost_ret (v:=.tuple #[.agg (stL 1 none 0 0 n 0 none 0 0 0 none 0 0).toArray,.bool false]) (by rw [results_cell_tmp rfl];simp [asAddr,Result.andThen,HLD.out]) rfl (by exact⟨⟨1,[],n,0,[],0,[]⟩,_,false,rfl,StpM.num _ _ _ _,HO.out,HB9.out⟩)
set_option maxHeartbeats 1000000 in
theorem scrStep_log {w:World} (n:Int) (A:Option Addr) (c:Nat) (more:List (List UInt8)):Calls Tryz.prog 48 #[.string (toB wLog),.int .i64 n,.slice A more.length c] w (StepOut (stepQ wLog n more) w):=by
  have HZ:=fun W=>Lib.hid (zero_Stp W)
  have HO:Hid (stepQ wLog n more=if more=[] then some (.log n) else none):=rfl
  have f0:((toB wLog).toList==[116,105,99,107])=false:=by rw [txt_is];decide
  have f1:((toB wLog).toList==[108,111,103])=true:=by rw [txt_is];decide
  generalize toB wLog=X at *
  by_cases hm:more=[]
  · have HO:Hid (stepQ wLog n more=some (.log n)):=by have:=HO.out;rw [if_pos hm] at this;exact this
    have hN:more.length=0:=by rw [hm];rfl
    rw [hN]
    clear hm hN
    go_enter Tryz.func48,Tryz.ntmps48
    go_wp2_with (first
      | (refine wpList_alloc_new rfl 30 rfl stZ.toArray (HZ _).out ?_;intro W1 hW;have HK1:=Lib.hid (Blk.newL (L:=stZ) hW rfl);have HB1:=Lib.hid hW.bel;have HS1:=Lib.hid hW.sz;clear hW)
      | (refine wpList_store_in rfl 30 _ _ rfl w.heap.size 0 (stL 3 none 0 0 n 0 none 0 0 0 none 0 0).toArray rfl rfl (HK1.out.there 0 7 (Nat.le_refl _)) (st_size rfl) (st_ones _ _ _ _ _ _ _ _ _ _ _ _ _) ?_;intro W9 hs;have HLD:=Lib.hid (st_load rfl (HK1.out.all hs rfl));have HB9:=Lib.hid (HB1.out.trans (hs.below (Nat.le_refl _)));have HF9:=Lib.hid hs.far;have HS9:=Lib.hid hs.sz;clear hs))
    exact bodyPost_ret (v:=.tuple #[.agg (stL 3 none 0 0 n 0 none 0 0 0 none 0 0).toArray,.bool true]) (by rw [results_cell_tmp rfl];simp [asAddr,Result.andThen,HLD.out]) rfl (by exact⟨⟨3,[],n,0,[],0,[]⟩,_,true,rfl,StpM.num _ _ _ _,⟨_,HO.out,rfl⟩,HB9.out⟩)
  · have HO:Hid (stepQ wLog n more=none):=by have:=HO.out;rw [if_neg hm] at this;exact this
    have hN:0 < more.length:=List.length_pos_iff.2 hm
    have f9:((more.length:Int)==0)=false:=by rw [beq_eq_false_iff_ne];omega
    clear hm hN
    go_enter Tryz.func48,Tryz.ntmps48
    go_wp2_with (first
      | (refine wpList_alloc_new rfl 30 rfl stZ.toArray (HZ _).out ?_;intro W1 hW;have HK1:=Lib.hid (Blk.newL (L:=stZ) hW rfl);have HB1:=Lib.hid hW.bel;have HS1:=Lib.hid hW.sz;clear hW)
      | (refine wpList_store_in rfl 30 _ _ rfl w.heap.size 0 (stL 3 none 0 0 n 0 none 0 0 0 none 0 0).toArray rfl rfl (HK1.out.there 0 7 (Nat.le_refl _)) (st_size rfl) (st_ones _ _ _ _ _ _ _ _ _ _ _ _ _) ?_;intro W9 hs;have HLD:=Lib.hid (st_load rfl (HK1.out.all hs rfl));have HB9:=Lib.hid (HB1.out.trans (hs.below (Nat.le_refl _)));have HF9:=Lib.hid hs.far;have HS9:=Lib.hid hs.sz;clear hs))
    exact bodyPost_ret (v:=.tuple #[.agg (stL 3 none 0 0 n 0 none 0 0 0 none 0 0).toArray,.bool false]) (by rw [results_cell_tmp rfl];simp [asAddr,Result.andThen,HLD.out]) rfl (by exact⟨⟨3,[],n,0,[],0,[]⟩,_,false,rfl,StpM.num _ _ _ _,HO.out,HB9.out⟩)
set_option maxHeartbeats 1000000 in
theorem scrStep_send {Q:Nat→Prop} {w:World} (n:Int) (A:Option Addr) (c:Nat) (more:List (List UInt8)) (h:FlatQ Q w A (more.map strL)) (hm:more.length≤200000000):Calls Tryz.prog 48 #[.string (toB wSend),.int .i64 n,.slice A more.length c] w (StepOut (stepQ wSend n more) w):=by
  have HZ:=fun W=>Lib.hid (zero_Stp W)
  have HO:Hid (stepQ wSend n more=(numsW more).map (.send n)):=rfl
  have f0:((toB wSend).toList==[116,105,99,107])=false:=by rw [txt_is];decide
  have f1:((toB wSend).toList==[108,111,103])=false:=by rw [txt_is];decide
  have f2:((toB wSend).toList==[115,101,110,100])=true:=by rw [txt_is];decide
  generalize toB wSend=X at *
  have HN:=fun (W:World) (hW:Below w.heap.size w W)=>Lib.hid (scrNumbers_any A c more (h.lt.below hW fun b q=>q.2) hm)
  clear h
  go_enter Tryz.func48,Tryz.ntmps48
  go_wp2_with (refine wpList_alloc_new rfl 30 rfl stZ.toArray (HZ _).out ?_;intro W1 hW;have HK1:=Lib.hid (Blk.newL (L:=stZ) hW rfl);have HB1:=Lib.hid hW.bel;have HS1:=Lib.hid hW.sz;clear hW)
  refine (HN _ HB1.out).out.mono ?_
  rintro e w2 ⟨hor,hb⟩
  have HK2:=Lib.hid (HK1.out.on hb)
  have HB2:=Lib.hid (HB1.out.trans (hb.mono HB1.out.size))
  have HZ2:Hid (w.heap.size < w2.heap.size):=HK2.out.lt
  clear hb HN
  rcases hor with ⟨hn,rfl⟩ | ⟨ns,A2,c2,hn,rfl,hf,-⟩
  · have HO2:Hid (stepQ wSend n more=none):=by show _=_;rw [HO.out,hn];rfl
    clear hn
    go_wp2_with (refine wpList_store_in rfl 30 _ _ rfl w.heap.size 0 (stL 2 none 0 0 0 n none 0 0 0 none 0 0).toArray rfl rfl (HK2.out.there 0 7 (Nat.le_refl _)) (st_size rfl) (st_ones _ _ _ _ _ _ _ _ _ _ _ _ _) ?_;intro W9 hs;have HLD:=Lib.hid (st_load rfl (HK2.out.all hs rfl));have HB9:=Lib.hid (HB2.out.trans (hs.below (Nat.le_refl _)));have HF9:=Lib.hid hs.far;have HS9:=Lib.hid hs.sz;clear hs)
    exact bodyPost_ret (v:=.tuple #[.agg (stL 2 none 0 0 0 n none 0 0 0 none 0 0).toArray,.bool false]) (by rw [results_cell_tmp rfl];simp [asAddr,Result.andThen,HLD.out]) rfl (by exact⟨⟨2,[],0,n,[],0,[]⟩,_,false,rfl,StpM.raw (b:=[]) (v:=[]) (l:=[]) (FlatQ.nil _ _ _) (FlatQ.nil _ _ _) (FlatQ.nil _ _ _),HO2.out,HB9.out⟩)
  · have HO2:Hid (stepQ wSend n more=some (.send n ns)):=by show _=_;rw [HO.out,hn];rfl
    have HF:=Lib.hid hf
    clear hn hf
    go_wp2_with (refine wpList_store_in rfl 30 _ _ rfl w.heap.size 0 (stL 2 none 0 0 0 n A2 ns.length c2 0 none 0 0).toArray rfl rfl (HK2.out.there 0 7 (Nat.le_refl _)) (st_size rfl) (st_ones _ _ _ _ _ _ _ _ _ _ _ _ _) ?_;intro W9 hs;have HLD:=Lib.hid (st_load rfl (HK2.out.all hs rfl));have HB9:=Lib.hid (HB2.out.trans (hs.below (Nat.le_refl _)));have HF9:=Lib.hid hs.far;have HS9:=Lib.hid hs.sz;clear hs)
    exact bodyPost_ret (v:=.tuple #[.agg (stL 2 none 0 0 0 n A2 ns.length c2 0 none 0 0).toArray,.bool true]) (by rw [results_cell_tmp rfl];simp [asAddr,Result.andThen,HLD.out]) rfl (by exact⟨⟨2,[],0,n,ns,0,[]⟩,_,true,rfl,StpM.raw (b:=[]) (v:=ns) (l:=[]) (FlatQ.nil _ _ _) ((HF.out.keep fun b q=>HF9.out b (by have:=HB1.out.size;have:=HS1.out;omega)).less fun b q=>⟨by have:=HS1.out;omega,by have:=HS9.out;omega⟩) (FlatQ.nil _ _ _),⟨_,HO2.out,rfl⟩,HB9.out⟩)
set_option maxHeartbeats 1000000 in
theorem scrStep_ask {Q:Nat→Prop} {w:World} (n:Int) (A:Option Addr) (c:Nat) (more:List (List UInt8)) (h:FlatQ Q w A (more.map strL)) (hm:more.length≤200000000) (hs:∀ l∈more,l.length≤100000000):Calls Tryz.prog 48 #[.string (toB wAsk),.int .i64 n,.slice A more.length c] w (StepOut (stepQ wAsk n more) w):=by
  have HZ:=fun W=>Lib.hid (zero_Stp W)
  have HO:Hid (stepQ wAsk n more=(pairsW more).map (.ask n)):=rfl
  have f0:((toB wAsk).toList==[116,105,99,107])=false:=by rw [txt_is];decide
  have f1:((toB wAsk).toList==[108,111,103])=false:=by rw [txt_is];decide
  have f2:((toB wAsk).toList==[115,101,110,100])=false:=by rw [txt_is];decide
  have f3:((toB wAsk).toList==[97,115,107])=true:=by rw [txt_is];decide
  generalize toB wAsk=X at *
  have HN:=fun (W:World) (hW:Below w.heap.size w W)=>Lib.hid (scrPairs_any A c more (h.lt.below hW fun b q=>q.2) hm hs)
  clear h
  go_enter Tryz.func48,Tryz.ntmps48
  go_wp2_with (refine wpList_alloc_new rfl 30 rfl stZ.toArray (HZ _).out ?_;intro W1 hW;have HK1:=Lib.hid (Blk.newL (L:=stZ) hW rfl);have HB1:=Lib.hid hW.bel;have HS1:=Lib.hid hW.sz;clear hW)
  refine (HN _ HB1.out).out.mono ?_
  rintro e w2 ⟨hor,hb⟩
  have HK2:=Lib.hid (HK1.out.on hb)
  have HB2:=Lib.hid (HB1.out.trans (hb.mono HB1.out.size))
  have HZ2:Hid (w.heap.size < w2.heap.size):=HK2.out.lt
  clear hb HN
  rcases hor with ⟨hn,rfl⟩ | ⟨ns,A2,c2,hn,rfl,hf,-⟩
  · have HO2:Hid (stepQ wAsk n more=none):=by show _=_;rw [HO.out,hn];rfl
    clear hn
    go_wp2_with (refine wpList_store_in rfl 30 _ _ rfl w.heap.size 0 (stL 4 none 0 0 0 0 none 0 0 n none 0 0).toArray rfl rfl (HK2.out.there 0 7 (Nat.le_refl _)) (st_size rfl) (st_ones _ _ _ _ _ _ _ _ _ _ _ _ _) ?_;intro W9 hs;have HLD:=Lib.hid (st_load rfl (HK2.out.all hs rfl));have HB9:=Lib.hid (HB2.out.trans (hs.below (Nat.le_refl _)));have HF9:=Lib.hid hs.far;have HS9:=Lib.hid hs.sz;clear hs)
    exact bodyPost_ret (v:=.tuple #[.agg (stL 4 none 0 0 0 0 none 0 0 n none 0 0).toArray,.bool false]) (by rw [results_cell_tmp rfl];simp [asAddr,Result.andThen,HLD.out]) rfl (by exact⟨⟨4,[],0,0,[],n,[]⟩,_,false,rfl,StpM.raw (b:=[]) (v:=[]) (l:=[]) (FlatQ.nil _ _ _) (FlatQ.nil _ _ _) (FlatQ.nil _ _ _),HO2.out,HB9.out⟩)
  · have HO2:Hid (stepQ wAsk n more=some (.ask n ns)):=by show _=_;rw [HO.out,hn];rfl
    have HF:=Lib.hid hf
    clear hn hf
    go_wp2_with (refine wpList_store_in rfl 30 _ _ rfl w.heap.size 0 (stL 4 none 0 0 0 0 none 0 0 n A2 ns.length c2).toArray rfl rfl (HK2.out.there 0 7 (Nat.le_refl _)) (st_size rfl) (st_ones _ _ _ _ _ _ _ _ _ _ _ _ _) ?_;intro W9 hs;have HLD:=Lib.hid (st_load rfl (HK2.out.all hs rfl));have HB9:=Lib.hid (HB2.out.trans (hs.below (Nat.le_refl _)));have HF9:=Lib.hid hs.far;have HS9:=Lib.hid hs.sz;clear hs)
    exact bodyPost_ret (v:=.tuple #[.agg (stL 4 none 0 0 0 0 none 0 0 n A2 ns.length c2).toArray,.bool true]) (by rw [results_cell_tmp rfl];simp [asAddr,Result.andThen,HLD.out]) rfl (by exact⟨⟨4,[],0,0,[],n,ns⟩,_,true,rfl,StpM.raw (b:=[]) (v:=[]) (l:=ns) (FlatQ.nil _ _ _) (FlatQ.nil _ _ _) ((HF.out.keep fun b q=>HF9.out b (by have:=HB1.out.size;have:=HS1.out;omega)).less fun b q=>⟨by have:=HS1.out;omega,by have:=HS9.out;omega⟩),⟨_,HO2.out,rfl⟩,HB9.out⟩)
set_option maxHeartbeats 1000000 in
theorem scrStep_no {w:World} (w0:List UInt8) (n:Int) (A:Option Addr) (c:Nat) (more:List (List UInt8)) (h:w0≠wTick∧w0≠wLog∧w0≠wSend∧w0≠wAsk):Calls Tryz.prog 48 #[.string (toB w0),.int .i64 n,.slice A more.length c] w (StepOut (stepQ w0 n more) w):=by
  have HZ:=fun W=>Lib.hid (zero_Stp W)
  have HO:Hid (stepQ w0 n more=none):=by show _=_;unfold stepQ;rw [if_neg h.1,if_neg h.2.1,if_neg h.2.2.1,if_neg h.2.2.2]
  have f0:((toB w0).toList==[116,105,99,107])=false:=by rw [txt_is];exact decide_eq_false h.1
  have f1:((toB w0).toList==[108,111,103])=false:=by rw [txt_is];exact decide_eq_false h.2.1
  have f2:((toB w0).toList==[115,101,110,100])=false:=by rw [txt_is];exact decide_eq_false h.2.2.1
  have f3:((toB w0).toList==[97,115,107])=false:=by rw [txt_is];exact decide_eq_false h.2.2.2
  generalize toB w0=X at *
  clear h
  go_enter Tryz.func48,Tryz.ntmps48
  go_wp2_with (first
    | (refine wpList_alloc_new rfl 30 rfl stZ.toArray (HZ _).out ?_;intro W1 hW;have HK1:=Lib.hid (Blk.newL (L:=stZ) hW rfl);have HB1:=Lib.hid hW.bel;have HS1:=Lib.hid hW.sz;clear hW)
    | (refine wpList_store_in rfl 30 _ _ rfl w.heap.size 0 (stZ).toArray rfl rfl (HK1.out.there 0 7 (Nat.le_refl _)) (st_size rfl) (st_ones _ _ _ _ _ _ _ _ _ _ _ _ _) ?_;intro W9 hs;have HLD:=Lib.hid (st_load rfl (HK1.out.all hs rfl));have HB9:=Lib.hid (HB1.out.trans (hs.below (Nat.le_refl _)));have HF9:=Lib.hid hs.far;have HS9:=Lib.hid hs.sz;clear hs))
  exact bodyPost_ret (v:=.tuple #[.agg (stZ).toArray,.bool false]) (by rw [results_cell_tmp rfl];simp [asAddr,Result.andThen,HLD.out]) rfl (by exact⟨⟨0,[],0,0,[],0,[]⟩,_,false,rfl,StpM.num _ _ _ _,HO.out,HB9.out⟩)
theorem scrStep_any {Q:Nat→Prop} {w:World} (w0:List UInt8) (n:Int) (A:Option Addr) (c:Nat) (more:List (List UInt8)) (h:FlatQ Q w A (more.map strL)) (hm:more.length≤200000000) (hs:∀ l∈more,l.length≤100000000):Calls Tryz.prog 48 #[.string (toB w0),.int .i64 n,.slice A more.length c] w (StepOut (stepQ w0 n more) w):=by
  by_cases h1:w0=wTick
  · subst h1;exact scrStep_tick n A c more
  by_cases h2:w0=wLog
  · subst h2;exact scrStep_log n A c more
  by_cases h3:w0=wSend
  · subst h3;exact scrStep_send n A c more h hm
  by_cases h4:w0=wAsk
  · subst h4;exact scrStep_ask n A c more h hm hs
  exact scrStep_no w0 n A c more ⟨h1,h2,h3,h4⟩
theorem slice_two {Q:Nat→Prop} {w:World} {A:Option Addr} {ls:List (List UInt8)} (n c:Nat) (h:FlatQ Q w A (ls.map strL)) (hn:ls.length=n) (h2:2≤n) (hc:n≤c) :
    ∃ A2,(∀ W,(Instr.sliceAt 134 (.slice A n c) (some (.int .i64 2)) none none).run Tryz.prog W=.ok (.slice A2 (n - 2) (c - 2)) W)∧FlatQ Q w A2 ((ls.drop 2).map strL):=by
  have hu:Tryz.prog.underlying 134=some (.slice (Tryz.prog.elem 134)):=by kernel_rfl
  have hz:∀ W,(sizeOf (Tryz.prog.elem 134)).run Tryz.prog W=.ok 1 W:=fun W=>by kernel_rfl
  refine⟨if c=2 then A else A.map (·.add 2),fun W=>?_,?_⟩
  · rw [run_sliceAt_slice _ _ _ _ _ _ hu,run_slice_l _ _ _ _ _ hu _ _ (by omega) (by omega),hz]
    simp [Result.andThen,sliced]
  · intro j u hu
    have hj:j < (ls.drop 2).length:=by
      rcases Nat.lt_or_ge j (ls.drop 2).length with q | q
      · exact q
      · rw [List.getElem?_eq_none (by rw [List.length_map];exact q)] at hu;cases hu
    rw [List.length_drop] at hj
    rw [List.getElem?_map,List.getElem?_drop,← List.getElem?_map] at hu
    obtain⟨b,off,rfl,q1,q2⟩:=h (2+j) u hu
    rw [if_neg (by omega)]
    exact⟨b,off+2,by rw [Option.map_some,addr_addQ],q1,by rw [Nat.add_assoc];exact q2⟩
def LineOut (o:Option Stp) (w:World) (e:Ending) (w':World):Prop:=
  (o=none∧e=.returned (.tuple #[.agg stZ.toArray,.int .i64 3])∨∃ s C,o=some s∧e=.returned (.tuple #[.agg C.toArray,.int .i64 0])∧StpM (fun k=>w.heap.size≤k∧k < w'.heap.size) w' C (rawK s))∧Below w.heap.size w w'
theorem stepW_bytes (w1:List UInt8) (more:List (List UInt8)):stepW (wBytes :: w1 :: more)=match hexW w1 with
    | some b=>if more=[] then some (.bytes b) else none
    | none=>none:=by
  unfold stepW
  dsimp only
  rw [if_pos rfl]
  rfl
theorem stepW_num {w0:List UInt8} (h:w0≠wBytes) (w1:List UInt8) (more:List (List UInt8)):stepW (w0 :: w1 :: more)=match numW w1 with
    | some n=>stepQ w0 n more
    | none=>none:=by
  unfold stepW
  dsimp only
  rw [if_neg h]
  cases numW w1 <;> rfl
theorem split_part (c:UInt8):∀ (l p:List UInt8),p∈splitB c l→p.length≤l.length
  | [],p,h=>by simp [splitB] at h;subst h;exact Nat.le_refl _
  | x :: l,p,h=>by
    have ih:=split_part c l
    unfold splitB at h
    split at h
    · rcases List.mem_cons.1 h with rfl | q
      · simp
      · have:=ih p q;rw [List.length_cons];omega
    · split at h
      · rename_i q
        rw [List.mem_singleton.1 h]
        simp
      · rename_i q r hq
        rw [hq] at ih
        rcases List.mem_cons.1 h with rfl | z
        · have:=ih q (by simp);rw [List.length_cons,List.length_cons];omega
        · have:=ih p (by simp [z]);rw [List.length_cons];omega
section
variable {P : Program} {w : World} {a : Act} {o : Oper} {Q : Exit → Act → World → Prop}
theorem wp_alloc_newS {K:Act→World→Prop} (T:TypeId) (ho:o.op=.alloc T) (Z:Array Value) (hz:(zeroValue T).run P w=.ok (.agg Z) w) (h:∀ W,Grew w W Z→K (a.put o.dst (.pointer (some ⟨w.heap.size,0,none⟩))) W):o.wp P a w K Q:=by
  unfold Oper.wp execOp
  rw [ho]
  simp [Instr.alloc,hz,newVar,newRow,Value.cells]
  exact h _ (grew_alloc w Z T)
end
theorem st_put {w W:World} {d:Nat} {L C:List Value} (hk:Blk w d L) (hL:L.length=7) (hl:C.length=7) (hs:Stored w W d 0 C.toArray.toList):Blk W d C:=hk.all (by simpa using hs) (hl.trans hL.symm)
theorem st_there {w:World} {d:Nat} {L C:List Value} (hk:Blk w d L) (hL:L.length=7) (hl:C.length=7):w.there d 0 C.toArray.size:=by
  have e:C.toArray.size=7:=by simpa using hl
  rw [e]
  exact hk.there 0 7 (by omega)
theorem str_zero {Q:Nat→Prop} {w W:World} {A:Option Addr} {ls:List (List UInt8)} (h:FlatQ Q w A (ls.map strL)) (hb:Below w.heap.size w W) (w0 w1:List UInt8) (more:List (List UInt8)) (hl:ls=w0 :: w1 :: more):∃ b off,A=some ⟨b,off,none⟩∧W.cell? ⟨b,off,none⟩=some (.string (toB w0))∧W.cell? ⟨b,off+1,none⟩=some (.string (toB w1)):=by
  subst hl
  obtain⟨b,off,h1,h2⟩:=str_at h hb 0 (by simp)
  obtain⟨b',off',h3,h4⟩:=str_at h hb 1 (by simp)
  rw [h1] at h3
  injection h3 with h3
  injection h3 with q1 q2
  subst q1 q2
  exact⟨b,off,h1,h2,h4⟩
set_option maxRecDepth 8000 in
set_option maxHeartbeats 4000000 in
theorem scrLine_go (s:ByteArray) (w:World) (hs:s.size≤100000000) (w0 w1:List UInt8) (more:List (List UInt8)) (hws:splitB 32 s.data.toList=w0 :: w1 :: more):Calls Tryz.prog 26 #[.string s] w (LineOut (lineW s.data.toList) w):=by
  have HZ:=fun W=>Lib.hid (zero_Stp W)
  have HSP:=fun W=>Lib.hid (scrList_any s 32 W hs)
  have HLW:Hid (lineW s.data.toList=stepW (w0 :: w1 :: more)):=by show _=_;rw [← hws];rfl
  have hsl:s.data.toList.length≤100000000:=by simp;omega
  have HML:Hid (∀ l∈w0 :: w1 :: more,l.length≤100000000):=fun l hl=>by
    have:=split_part 32 s.data.toList l (by rw [hws];exact hl)
    omega
  have hwl:=split_len 32 s.data.toList
  rw [hws] at HSP hwl
  have HWL:Hid ((w0 :: w1 :: more).length≤100000001):=by show _≤_;omega
  clear hsl hwl hws
  go_enter Tryz.func26,Tryz.ntmps26
  go_wp2_with (refine wpList_alloc_new rfl 30 rfl stZ.toArray (HZ _).out ?_;intro W1 hW;have HK1:=Lib.hid (Blk.newL (L:=stZ) hW rfl);have HB1:=Lib.hid hW.bel;have HS1:=Lib.hid hW.sz;clear hW)
  refine (HSP _).out.mono ?_
  rintro e w2 ⟨A,c,rfl,hf,hb,hc⟩
  have HK2:=Lib.hid (HK1.out.on hb)
  have HB2:=Lib.hid (HB1.out.trans (hb.mono HB1.out.size))
  have HZ2:Hid (w.heap.size < w2.heap.size):=HK2.out.lt
  obtain⟨A2,hA2,hf2⟩:=slice_two _ c hf rfl (by simp) hc
  obtain⟨b,off,rfl,k0,k1⟩:=str_zero hf (Below.refl _ w2) w0 w1 more rfl
  have HF2:Hid (FlatQ (fun _=>True) w2 A2 (more.map strL)):=Lib.hid (hf2.less fun _ _=>trivial)
  have hn2:(2:Int)≤((w0 :: w1 :: more).length:Int):=by rw [List.length_cons,List.length_cons];omega
  have hnl:(w0 :: w1 :: more).length - 2=more.length:=by rw [List.length_cons,List.length_cons];omega
  have hn0:0 < (w0 :: w1 :: more).length:=by simp
  have hn1:1 < (w0 :: w1 :: more).length:=by simp
  rw [hnl] at hA2
  generalize hN:(w0 :: w1 :: more).length=N at *
  have HNL:=Lib.hid hnl
  clear hf hf2 hb hnl hN
  by_cases hb0:w0=wBytes
  · subst hb0
    have f0:((toB wBytes).toList==[98,121,116,101,115])=true:=by rw [txt_is];decide
    have HBY:=fun W=>Lib.hid (scrBytes_any (toB w1) W (by rw [size_B];exact HML.out w1 (by simp)))
    rw [toList_B] at HBY
    generalize toB wBytes=X0 at *
    generalize toB w1=X1 at *
    go_wp2_with fail
    refine (HBY _).out.mono ?_
    rintro e w3 ⟨hor,hb⟩
    have HK3:=Lib.hid (HK2.out.on hb)
    have HB3:=Lib.hid (HB2.out.trans (hb.mono HB2.out.size))
    clear hb
    rcases hor with ⟨hn,rfl⟩ | ⟨bs,B,cb,hn,rfl,hfb,-⟩
    · have HO:Hid (lineW s.data.toList=none):=by show _=_;rw [HLW.out,stepW_bytes,hn]
      clear hn
      go_wp2_with (refine wpList_store_in rfl 30 _ _ rfl w.heap.size 0 (stZ).toArray rfl rfl (HK3.out.there 0 7 (Nat.le_refl _)) (st_size rfl) (st_ones _ _ _ _ _ _ _ _ _ _ _ _ _) ?_;intro W9 hs;have HLD:=Lib.hid (st_load rfl (HK3.out.all hs rfl));have HB9:=Lib.hid (HB3.out.trans (hs.below (Nat.le_refl _)));have HF9:=Lib.hid hs.far;have HS9:=Lib.hid hs.sz;clear hs)
      exact bodyPost_ret (v:=.tuple #[.agg (stZ).toArray,.int .i64 3]) (by rw [results_cell_tmp rfl];simp [asAddr,Result.andThen,HLD.out]) rfl (⟨.inl ⟨HO.out,rfl⟩,HB9.out⟩)
    · by_cases hm:more=[]
      · have HO:Hid (lineW s.data.toList=some (.bytes bs)):=by show _=_;rw [HLW.out,stepW_bytes,hn];exact if_pos hm
        have hN2:N=2:=by have h:=HNL.out;rw [hm,List.length_nil] at h;omega
        subst hN2
        have HFB:=Lib.hid hfb
        clear hn hm hfb
        go_wp2_with (refine wpList_store_in rfl 30 _ _ rfl w.heap.size 0 (stL 0 B bs.length cb 0 0 none 0 0 0 none 0 0).toArray rfl rfl (HK3.out.there 0 7 (Nat.le_refl _)) (st_size rfl) (st_ones _ _ _ _ _ _ _ _ _ _ _ _ _) ?_;intro W9 hs;have HLD:=Lib.hid (st_load rfl (HK3.out.all hs rfl));have HB9:=Lib.hid (HB3.out.trans (hs.below (Nat.le_refl _)));have HF9:=Lib.hid hs.far;have HS9:=Lib.hid hs.sz;clear hs)
        exact bodyPost_ret (v:=.tuple #[.agg (stL 0 B bs.length cb 0 0 none 0 0 0 none 0 0).toArray,.int .i64 0]) (by rw [results_cell_tmp rfl];simp [asAddr,Result.andThen,HLD.out]) rfl (⟨.inr ⟨_,_,HO.out,rfl,StpM.raw (b:=bs) (v:=[]) (l:=[]) ((HFB.out.keep fun k q=>HF9.out k (by have:=HZ2.out;omega)).less fun k q=>⟨by have:=HZ2.out;omega,by have:=HS9.out;omega⟩) (FlatQ.nil _ _ _) (FlatQ.nil _ _ _)⟩,HB9.out⟩)
      · have HO:Hid (lineW s.data.toList=none):=by show _=_;rw [HLW.out,stepW_bytes,hn];exact if_neg hm
        have hml:0 < more.length:=List.length_pos_iff.2 hm
        have f9:((N:Int) != 2)=true:=by have h:=HNL.out;rw [bne_iff_ne];omega
        clear hn hm hfb hml
        go_wp2_with (refine wpList_store_in rfl 30 _ _ rfl w.heap.size 0 (stZ).toArray rfl rfl (HK3.out.there 0 7 (Nat.le_refl _)) (st_size rfl) (st_ones _ _ _ _ _ _ _ _ _ _ _ _ _) ?_;intro W9 hs;have HLD:=Lib.hid (st_load rfl (HK3.out.all hs rfl));have HB9:=Lib.hid (HB3.out.trans (hs.below (Nat.le_refl _)));have HF9:=Lib.hid hs.far;have HS9:=Lib.hid hs.sz;clear hs)
        exact bodyPost_ret (v:=.tuple #[.agg (stZ).toArray,.int .i64 3]) (by rw [results_cell_tmp rfl];simp [asAddr,Result.andThen,HLD.out]) rfl (⟨.inl ⟨HO.out,rfl⟩,HB9.out⟩)
  · have f0:((toB w0).toList==[98,121,116,101,115])=false:=by rw [txt_is];exact decide_eq_false hb0
    have HNB:=Lib.hid hb0
    have HNU:=fun W=>Lib.hid (scrNumber_any (toB w1) W)
    rw [toList_B] at HNU
    have HST0:=fun (n:Int) (W:World) (hW:Below w2.heap.size w2 W)=>Lib.hid (scrStep_any (w:=W) w0 n A2 (c - 2) more (HF2.out.lt.below hW fun b q=>q.2) (by have:=HWL.out;have:=HNL.out;omega) (fun l hl=>HML.out l (by simp [hl])))
    have hcs:w2.cell? ⟨b,off,none⟩=some (.string (toB w0)):=k0
    generalize toB w0=X0 at *
    generalize toB w1=X1 at *
    clear hb0
    go_wp2_with fail
    refine (HNU _).out.mono ?_
    rintro e w4 ⟨⟨n,is,rfl,hnm⟩,hb⟩
    have HK4:=Lib.hid (HK2.out.on hb)
    have HB4:=Lib.hid (HB2.out.trans (hb.mono HB2.out.size))
    have HC0:Hid (∀ w':World,Below w4.heap.size w4 w'→w'.cell? ⟨b,off,none⟩=some (.string X0)):=Lib.hid fun w' hw=>(hw.cell (p:=⟨b,off,none⟩) (Nat.lt_of_lt_of_le (World.block_lt_of_cell? w2 _ k0) hb.size)).trans ((hb.cell (p:=⟨b,off,none⟩) (World.block_lt_of_cell? w2 _ k0)).trans k0)
    have HNM:=Lib.hid hnm
    have HST:∀ W,Hid (Below w4.heap.size w4 W→Calls Tryz.prog 48 #[.string X0,.int .i64 n,.slice A2 more.length (c - 2)] W (StepOut (stepQ w0 n more) W)):=fun W=>Lib.hid fun hW=>(HST0 n W (hb.trans (hW.mono hb.size))).out
    clear hb hnm HST0 k0 k1 hcs
    go_upto_region 10 with fail
    have hS0:Below w4.heap.size w4 w4.drew:=bdrew (Below.refl _ w4)
    refine wp_region_held_drew (S:=fun w'=>Below w4.heap.size w4 w') (by kernel_rfl) hS0 (fun hHeld0=>?_)
    refine wpAnyH_take (i:=0) (oi:=⟨some 46,_,_,_,_,_⟩) (v:=?_) rfl (by kernel_rfl) (by kernel_rfl) (by kernel_rfl) (fun _ _ _ h=>h) (Or.inl ⟨by rfl,?_⟩) (by assumption) ?_
    rotate_left
    · intro w' hSw
      go_simp
      try with_reducible rfl
    try go_frame
    refine wpAnyH_take (i:=1) (oi:=⟨some 47,_,_,_,_,_⟩) (v:=?_) rfl (by kernel_rfl) (by kernel_rfl) (by kernel_rfl) (fun _ _ _ h=>h) (Or.inl ⟨by rfl,?_⟩) (by assumption) ?_
    rotate_left
    · intro w' hSw
      go_simp
      try with_reducible rfl
    try go_frame
    refine wpAnyH_take (i:=2) (oi:=⟨some 48,_,_,_,_,_⟩) (v:=?_) rfl (by kernel_rfl) (by kernel_rfl) (by kernel_rfl) (fun _ _ _ h=>h) (Or.inl ⟨by rfl,?_⟩) (by assumption) ?_
    rotate_left
    · intro w' hSw
      have k0:=HC0.out w' hSw
      go_simp
      try with_reducible rfl
    try go_frame
    refine wpAnyH_take (i:=3) (oi:=⟨some 49,_,_,_,_,_⟩) (v:=?_) rfl (by kernel_rfl) (by kernel_rfl) (by kernel_rfl) (fun _ _ _ h=>h) (Or.inl ⟨by rfl,?_⟩) (by assumption) ?_
    rotate_left
    · intro w' hSw
      go_simp
      try with_reducible rfl
    try go_frame
    refine wpAnyH_take (i:=4) (oi:=⟨some 50,_,_,_,_,_⟩) (v:=?_) rfl (by kernel_rfl) (by kernel_rfl) (by kernel_rfl) (fun _ _ _ h=>h) (Or.inl ⟨by rfl,?_⟩) (by assumption) ?_
    rotate_left
    · intro w' hSw
      go_simp
      try with_reducible rfl
    try go_frame
    refine wpAnyH_take (i:=5) (oi:=⟨some 51,_,_,_,_,_⟩) (v:=?_) rfl (by kernel_rfl) (by kernel_rfl) (by kernel_rfl) (fun _ _ _ h=>h) (Or.inl ⟨by rfl,?_⟩) (by assumption) ?_
    rotate_left
    · intro w' hSw
      go_simp
      try with_reducible rfl
    try go_frame
    refine wpAnyH_ready (rs:=[6,10]) (by kernel_rfl) (by simp) ?_
    refine AllReadyH.cons (o:=⟨some 52,_,_,_,_,_⟩) rfl (fun K hK=>?_) (AllReadyH.cons (o:=⟨some 9,_,_,_,_,_⟩) rfl (fun K hK=>?_) AllReadyH.nil)
    · rw [if_pos (by rfl)]
      go_step
      refine ((HST w4.drew).out (bdrew (Below.refl _ w4))).mono ?_
      rintro e w5 ⟨t,C,ok,rfl,hst,hor,hb⟩
      have HCL:=Lib.hid hst.len
      have HCO:=Lib.hid hst.ones
      have HST5:=Lib.hid hst
      have HOR:=Lib.hid hor
      clear hst hor
      try go_frame
      have HB5:Hid (Below w4.heap.size w4 w5):=Lib.hid (bthen (bdrew (Below.refl _ w4)) hb)
      clear hb
      refine hK.out _ _ HB5.out (fun hHeld=>?_)
      clear hK K
      try go_frame
      refine wpAnyH_take (i:=7) (oi:=⟨some 45,_,_,_,_,_⟩) (v:=?_) rfl (by kernel_rfl) (by kernel_rfl) (by kernel_rfl) (fun _ _ _ h=>h) (Or.inl ⟨by rfl,?_⟩) (by assumption) ?_
      rotate_left
      · intro w' hSw
        go_simp
        try with_reducible rfl
      try go_frame
      refine wpAnyH_take (i:=8) (oi:=⟨some 53,_,_,_,_,_⟩) (v:=?_) rfl (by kernel_rfl) (by kernel_rfl) (by kernel_rfl) (fun _ _ _ h=>h) (Or.inl ⟨by rfl,?_⟩) (by assumption) ?_
      rotate_left
      · intro w' hSw
        go_simp
        try with_reducible rfl
      try go_frame
      refine wpAnyH_take (i:=9) (oi:=⟨some 54,_,_,_,_,_⟩) (v:=?_) rfl (by kernel_rfl) (by kernel_rfl) (by kernel_rfl) (fun _ _ _ h=>h) (Or.inl ⟨by rfl,?_⟩) (by assumption) ?_
      rotate_left
      · intro w' hSw
        go_simp
        try with_reducible rfl
      try go_frame
      refine wpAnyH_ready (rs:=[10]) (by kernel_rfl) (by simp) ?_
      refine AllReadyH.cons (o:=⟨some 9,_,_,_,_,_⟩) rfl (fun K hK=>?_) AllReadyH.nil
      rw [if_pos (by rfl)]
      refine wp_alloc_newS 30 rfl stZ.toArray (HZ _).out ?_
      intro W6 hW
      try go_frame
      have HK6:=Lib.hid (Blk.newL (L:=stZ) hW rfl)
      have HB7:Hid (Below w4.heap.size w4 W6):=Lib.hid (bthen HB5.out hW.bel)
      have HDG:Hid (w4.heap.size≤w5.heap.size):=Lib.hid HB5.out.size
      have HST7:Hid (StpM (fun k=>w4.heap.size≤k∧k < W6.heap.size∧k≠w5.heap.size) W6 C t):=Lib.hid (HST5.out.keep (fun k q=>hW.bel.block k q.2) fun k q=>⟨q.1,by have:=hW.sz;omega,by omega⟩)
      clear hW
      refine hK.out _ _ HB7.out (fun hHeld=>?_)
      clear hK K
      try go_frame
      refine wpAnyH_ready (rs:=[11]) (by kernel_rfl) (by simp) ?_
      refine AllReadyH.cons (o:=⟨none,_,_,_,_,_⟩) rfl (fun K hK=>?_) AllReadyH.nil
      rw [if_pos (by rfl)]
      refine wp_store_in 30 _ _ rfl w5.heap.size 0 C.toArray rfl rfl (st_there HK6.out rfl HCL.out) (st_size HCL.out) HCO.out ?_
      intro W8 hs
      have HK8:=Lib.hid (st_put HK6.out rfl HCL.out hs)
      have HB8:Hid (Below w4.heap.size w4 W8):=Lib.hid (HB7.out.trans (hs.below HDG.out))
      have HST8:Hid (StpM (fun k=>w4.heap.size≤k∧k < W8.heap.size) W8 C t):=Lib.hid (HST7.out.keep (fun k q=>hs.far k q.2.2) fun k q=>⟨q.1,by have:=hs.sz;omega⟩)
      clear hs
      try go_frame
      refine hK.out _ _ HB8.out (fun hHeld=>?_)
      clear hK K
      try go_frame
      refine wpAnyH_take (i:=12) (oi:=⟨some 10,_,_,_,_,_⟩) (v:=?_) rfl (by kernel_rfl) (by kernel_rfl) (by kernel_rfl) (fun _ _ _ h=>h) (Or.inl ⟨by rfl,?_⟩) (by assumption) ?_
      rotate_left
      · intro w' hSw
        go_simp
        try with_reducible rfl
      try go_frame
      refine wpAnyH_done (by kernel_rfl) ?_ _
      try go_frame
      have HK9:Hid (Blk W8 w.heap.size stZ):=Lib.hid (HK4.out.on HB8.out)
      have HB48:Hid (Below w.heap.size w W8):=Lib.hid (HB4.out.trans (HB8.out.mono HB4.out.size))
      have HG4:Hid (w.heap.size < w4.heap.size):=Lib.hid HK4.out.lt
      cases is with
      | false=>
        have HO:Hid (lineW s.data.toList=none):=by show _=_;rw [HLW.out,stepW_num HNB.out,HNM.out];rfl
        go_wp2_with (refine wpList_store_in rfl 30 _ _ rfl w.heap.size 0 (stZ).toArray rfl rfl (HK9.out.there 0 7 (Nat.le_refl _)) (st_size rfl) (st_ones _ _ _ _ _ _ _ _ _ _ _ _ _) ?_;intro W9 hs;have HLD:=Lib.hid (st_load rfl (HK9.out.all hs rfl));have HB9:=Lib.hid (HB48.out.trans (hs.below (Nat.le_refl _)));have HF9:=Lib.hid hs.far;have HS9:=Lib.hid hs.sz;clear hs)
        exact bodyPost_ret (v:=.tuple #[.agg (stZ).toArray,.int .i64 3]) (by rw [results_cell_tmp rfl];simp [asAddr,Result.andThen,HLD.out]) rfl (⟨.inl ⟨HO.out,rfl⟩,HB9.out⟩)
      | true=>
        cases ok with
        | false=>
          have HO:Hid (lineW s.data.toList=none):=by show _=_;rw [HLW.out,stepW_num HNB.out,HNM.out];exact HOR.out
          go_wp2_with (refine wpList_store_in rfl 30 _ _ rfl w.heap.size 0 (stZ).toArray rfl rfl (HK9.out.there 0 7 (Nat.le_refl _)) (st_size rfl) (st_ones _ _ _ _ _ _ _ _ _ _ _ _ _) ?_;intro W9 hs;have HLD:=Lib.hid (st_load rfl (HK9.out.all hs rfl));have HB9:=Lib.hid (HB48.out.trans (hs.below (Nat.le_refl _)));have HF9:=Lib.hid hs.far;have HS9:=Lib.hid hs.sz;clear hs)
          exact bodyPost_ret (v:=.tuple #[.agg (stZ).toArray,.int .i64 3]) (by rw [results_cell_tmp rfl];simp [asAddr,Result.andThen,HLD.out]) rfl (⟨.inl ⟨HO.out,rfl⟩,HB9.out⟩)
        | true=>
          obtain⟨sx,hx1,hx2⟩:∃ sx,stepQ w0 n more=some sx∧t=rawK sx:=HOR.out
          have HO:Hid (lineW s.data.toList=some sx):=by show _=_;rw [HLW.out,stepW_num HNB.out,HNM.out];exact hx1
          subst hx2
          clear hx1
          go_wp2_with (first
            | (refine wpList_load_mid rfl 30 _ rfl w5.heap.size 0 rfl C _ HK8.out.rg Tryz.underlying30 rfl (by rw [HCL.out];kernel_rfl) ?_)
            | (refine wpList_store_in rfl 30 _ _ rfl w.heap.size 0 (C).toArray rfl rfl (st_there HK9.out rfl HCL.out) (st_size HCL.out) (HCO.out) ?_;intro W9 hs;have HLD:=Lib.hid (st_load HCL.out (st_put HK9.out rfl HCL.out hs));have HB9:=Lib.hid (HB48.out.trans (hs.below (Nat.le_refl _)));have HF9:=Lib.hid hs.far;have HS9:=Lib.hid hs.sz;clear hs))
          exact bodyPost_ret (v:=.tuple #[.agg (C).toArray,.int .i64 0]) (by rw [results_cell_tmp rfl];simp [asAddr,Result.andThen,HLD.out]) rfl (⟨.inr ⟨sx,C,HO.out,rfl,(HST8.out.keep (fun k q=>HF9.out k (by have:=HG4.out;omega)) fun k q=>⟨by have:=HG4.out;omega,by have:=HS9.out;omega⟩)⟩,HB9.out⟩)
    · rw [if_pos (by rfl)]
      refine wp_alloc_newS 30 rfl stZ.toArray (HZ _).out ?_
      intro W6 hW
      try go_frame
      have HB6:Hid (Below w4.heap.size w4 W6):=Lib.hid (bthen (bdrew (Below.refl _ w4)) hW.bel)
      have HK60:=Lib.hid (Blk.newL (L:=stZ) hW rfl)
      have HZ6:Hid (W6.heap.size=w4.heap.size+1):=Lib.hid hW.sz
      clear hW
      refine hK.out _ _ HB6.out (fun hHeld=>?_)
      clear hK K
      try go_frame
      refine wpAnyH_ready (rs:=[6]) (by kernel_rfl) (by simp) ?_
      refine AllReadyH.cons (o:=⟨some 52,_,_,_,_,_⟩) rfl (fun K hK=>?_) AllReadyH.nil
      rw [if_pos (by rfl)]
      go_step
      refine ((HST _).out HB6.out).mono ?_
      rintro e w5 ⟨t,C,ok,rfl,hst,hor,hb⟩
      have HCL:=Lib.hid hst.len
      have HCO:=Lib.hid hst.ones
      have HST5:=Lib.hid hst
      have HOR:=Lib.hid hor
      clear hst hor
      try go_frame
      have HK6:=Lib.hid (HK60.out.on hb)
      have HB7:Hid (Below w4.heap.size w4 w5):=Lib.hid (bthen HB6.out hb)
      have HDG:Hid (w4.heap.size≤w4.heap.size):=Lib.hid (Nat.le_refl _)
      have HST7:Hid (StpM (fun k=>w4.heap.size≤k∧k < w5.heap.size∧k≠w4.heap.size) w5 C t):=Lib.hid (HST5.out.keep (fun k q=>rfl) fun k q=>⟨by have:=HZ6.out;omega,q.2,by have:=HZ6.out;omega⟩)
      clear hb
      refine hK.out _ _ HB7.out (fun hHeld=>?_)
      clear hK K
      try go_frame
      refine wpAnyH_take (i:=7) (oi:=⟨some 45,_,_,_,_,_⟩) (v:=?_) rfl (by kernel_rfl) (by kernel_rfl) (by kernel_rfl) (fun _ _ _ h=>h) (Or.inl ⟨by rfl,?_⟩) (by assumption) ?_
      rotate_left
      · intro w' hSw
        go_simp
        try with_reducible rfl
      try go_frame
      refine wpAnyH_take (i:=8) (oi:=⟨some 53,_,_,_,_,_⟩) (v:=?_) rfl (by kernel_rfl) (by kernel_rfl) (by kernel_rfl) (fun _ _ _ h=>h) (Or.inl ⟨by rfl,?_⟩) (by assumption) ?_
      rotate_left
      · intro w' hSw
        go_simp
        try with_reducible rfl
      try go_frame
      refine wpAnyH_take (i:=9) (oi:=⟨some 54,_,_,_,_,_⟩) (v:=?_) rfl (by kernel_rfl) (by kernel_rfl) (by kernel_rfl) (fun _ _ _ h=>h) (Or.inl ⟨by rfl,?_⟩) (by assumption) ?_
      rotate_left
      · intro w' hSw
        go_simp
        try with_reducible rfl
      try go_frame
      refine wpAnyH_ready (rs:=[11]) (by kernel_rfl) (by simp) ?_
      refine AllReadyH.cons (o:=⟨none,_,_,_,_,_⟩) rfl (fun K hK=>?_) AllReadyH.nil
      rw [if_pos (by rfl)]
      refine wp_store_in 30 _ _ rfl w4.heap.size 0 C.toArray rfl rfl (st_there HK6.out rfl HCL.out) (st_size HCL.out) HCO.out ?_
      intro W8 hs
      have HK8:=Lib.hid (st_put HK6.out rfl HCL.out hs)
      have HB8:Hid (Below w4.heap.size w4 W8):=Lib.hid (HB7.out.trans (hs.below HDG.out))
      have HST8:Hid (StpM (fun k=>w4.heap.size≤k∧k < W8.heap.size) W8 C t):=Lib.hid (HST7.out.keep (fun k q=>hs.far k q.2.2) fun k q=>⟨q.1,by have:=hs.sz;omega⟩)
      clear hs
      try go_frame
      refine hK.out _ _ HB8.out (fun hHeld=>?_)
      clear hK K
      try go_frame
      refine wpAnyH_take (i:=12) (oi:=⟨some 10,_,_,_,_,_⟩) (v:=?_) rfl (by kernel_rfl) (by kernel_rfl) (by kernel_rfl) (fun _ _ _ h=>h) (Or.inl ⟨by rfl,?_⟩) (by assumption) ?_
      rotate_left
      · intro w' hSw
        go_simp
        try with_reducible rfl
      try go_frame
      refine wpAnyH_done (by kernel_rfl) ?_ _
      try go_frame
      have HK9:Hid (Blk W8 w.heap.size stZ):=Lib.hid (HK4.out.on HB8.out)
      have HB48:Hid (Below w.heap.size w W8):=Lib.hid (HB4.out.trans (HB8.out.mono HB4.out.size))
      have HG4:Hid (w.heap.size < w4.heap.size):=Lib.hid HK4.out.lt
      cases is with
      | false=>
        have HO:Hid (lineW s.data.toList=none):=by show _=_;rw [HLW.out,stepW_num HNB.out,HNM.out];rfl
        go_wp2_with (refine wpList_store_in rfl 30 _ _ rfl w.heap.size 0 (stZ).toArray rfl rfl (HK9.out.there 0 7 (Nat.le_refl _)) (st_size rfl) (st_ones _ _ _ _ _ _ _ _ _ _ _ _ _) ?_;intro W9 hs;have HLD:=Lib.hid (st_load rfl (HK9.out.all hs rfl));have HB9:=Lib.hid (HB48.out.trans (hs.below (Nat.le_refl _)));have HF9:=Lib.hid hs.far;have HS9:=Lib.hid hs.sz;clear hs)
        exact bodyPost_ret (v:=.tuple #[.agg (stZ).toArray,.int .i64 3]) (by rw [results_cell_tmp rfl];simp [asAddr,Result.andThen,HLD.out]) rfl (⟨.inl ⟨HO.out,rfl⟩,HB9.out⟩)
      | true=>
        cases ok with
        | false=>
          have HO:Hid (lineW s.data.toList=none):=by show _=_;rw [HLW.out,stepW_num HNB.out,HNM.out];exact HOR.out
          go_wp2_with (refine wpList_store_in rfl 30 _ _ rfl w.heap.size 0 (stZ).toArray rfl rfl (HK9.out.there 0 7 (Nat.le_refl _)) (st_size rfl) (st_ones _ _ _ _ _ _ _ _ _ _ _ _ _) ?_;intro W9 hs;have HLD:=Lib.hid (st_load rfl (HK9.out.all hs rfl));have HB9:=Lib.hid (HB48.out.trans (hs.below (Nat.le_refl _)));have HF9:=Lib.hid hs.far;have HS9:=Lib.hid hs.sz;clear hs)
          exact bodyPost_ret (v:=.tuple #[.agg (stZ).toArray,.int .i64 3]) (by rw [results_cell_tmp rfl];simp [asAddr,Result.andThen,HLD.out]) rfl (⟨.inl ⟨HO.out,rfl⟩,HB9.out⟩)
        | true=>
          obtain⟨sx,hx1,hx2⟩:∃ sx,stepQ w0 n more=some sx∧t=rawK sx:=HOR.out
          have HO:Hid (lineW s.data.toList=some sx):=by show _=_;rw [HLW.out,stepW_num HNB.out,HNM.out];exact hx1
          subst hx2
          clear hx1
          go_wp2_with (first
            | (refine wpList_load_mid rfl 30 _ rfl w4.heap.size 0 rfl C _ HK8.out.rg Tryz.underlying30 rfl (by rw [HCL.out];kernel_rfl) ?_)
            | (refine wpList_store_in rfl 30 _ _ rfl w.heap.size 0 (C).toArray rfl rfl (st_there HK9.out rfl HCL.out) (st_size HCL.out) (HCO.out) ?_;intro W9 hs;have HLD:=Lib.hid (st_load HCL.out (st_put HK9.out rfl HCL.out hs));have HB9:=Lib.hid (HB48.out.trans (hs.below (Nat.le_refl _)));have HF9:=Lib.hid hs.far;have HS9:=Lib.hid hs.sz;clear hs))
          exact bodyPost_ret (v:=.tuple #[.agg (C).toArray,.int .i64 0]) (by rw [results_cell_tmp rfl];simp [asAddr,Result.andThen,HLD.out]) rfl (⟨.inr ⟨sx,C,HO.out,rfl,(HST8.out.keep (fun k q=>HF9.out k (by have:=HG4.out;omega)) fun k q=>⟨by have:=HG4.out;omega,by have:=HS9.out;omega⟩)⟩,HB9.out⟩)
set_option maxHeartbeats 4000000 in
theorem scrLine_any (s:ByteArray) (w:World) (hs:s.size≤100000000):Calls Tryz.prog 26 #[.string s] w (LineOut (lineW s.data.toList) w):=by
  match hws:splitB 32 s.data.toList with
  | w0 :: w1 :: more=>exact scrLine_go s w hs w0 w1 more hws
  | []=>exact absurd hws (splitB_ne _ _)
  | [w0]=>
    have HZ:=fun W=>Lib.hid (zero_Stp W)
    have HSP:=fun W=>Lib.hid (scrList_any s 32 W hs)
    have HO:Hid (lineW s.data.toList=none):=by show _=_;unfold lineW;rw [hws];rfl
    rw [hws] at HSP
    have hl1:[w0].length=1:=rfl
    unfold StrsOut at HSP
    rw [hl1] at HSP
    clear hws hl1
    go_enter Tryz.func26,Tryz.ntmps26
    go_wp2_with (refine wpList_alloc_new rfl 30 rfl stZ.toArray (HZ _).out ?_;intro W1 hW;have HK1:=Lib.hid (Blk.newL (L:=stZ) hW rfl);have HB1:=Lib.hid hW.bel;have HS1:=Lib.hid hW.sz;clear hW)
    refine (HSP _).out.mono ?_
    rintro e w2 ⟨A,c,rfl,hf,hb,hc⟩
    have HK2:=Lib.hid (HK1.out.on hb)
    have HB2:=Lib.hid (HB1.out.trans (hb.mono HB1.out.size))
    clear hf hb hc
    go_wp2_with (refine wpList_store_in rfl 30 _ _ rfl w.heap.size 0 (stZ).toArray rfl rfl (HK2.out.there 0 7 (Nat.le_refl _)) (st_size rfl) (st_ones _ _ _ _ _ _ _ _ _ _ _ _ _) ?_;intro W9 hs;have HLD:=Lib.hid (st_load rfl (HK2.out.all hs rfl));have HB9:=Lib.hid (HB2.out.trans (hs.below (Nat.le_refl _)));have HF9:=Lib.hid hs.far;have HS9:=Lib.hid hs.sz;clear hs)
    exact bodyPost_ret (v:=.tuple #[.agg (stZ).toArray,.int .i64 3]) (by rw [results_cell_tmp rfl];simp [asAddr,Result.andThen,HLD.out]) rfl (⟨.inl ⟨HO.out,rfl⟩,HB9.out⟩)
end Go.Proofs.YtaiepcgfofpmjaaGreat
