/- Layer 45: a step without what its kind doesn't hold (the reference's Plain). -/
import Derived.Test.YtaiepcgfofpmjaaGreatS38
import Derived.Test.YtaiepcgfofpmjaaGreatS36
import Derived.Test.YtaiepcgfofpmjaaGreatS37
import Derived.Test.YtaiepcgfofpmjaaGreatS21
namespace Go.Proofs.YtaiepcgfofpmjaaGreat
set_option linter.unusedVariables false
open Go.RowKit
def stpOf (s:StpK):Stp:=if s.k=0 then .bytes s.b else if s.k=1 then .tick s.n else if s.k=2 then .send s.id s.v else if s.k=3 then .log s.n else .ask s.y s.l
theorem textK_of (s:StpK) (h:0≤s.k∧s.k≤4):textK s=lineT (stpOf s):=by
  obtain⟨h0,h4⟩:=h
  have:s.k=0∨s.k=1∨s.k=2∨s.k=3∨s.k=4:=by omega
  rcases this with h | h | h | h | h <;> simp [textK,stpOf,h]
def PlainOut (s:StpK) (Q:Nat→Prop) (w:World) (e:Ending) (w':World):Prop:=
  ∃ C,e=.returned (.agg C.toArray)∧StpM Q w' C (rawK (stpOf s))∧Below w.heap.size w w'
theorem load_two (w:World) (o:Obj) (L:List Value) (h:L.length=7):(loadVar 30 ⟨w.heap.size+1,0,none⟩).run Tryz.prog ((w.alloc o).alloc (.cells L.toArray 30))=.ok (.agg L.toArray) ((w.alloc o).alloc (.cells L.toArray 30)):=by
  have:=st_load h (Blk.newL (L:=L) (grew_alloc (w.alloc o) L.toArray 30) rfl)
  rw [World.size_alloc] at this
  exact this
theorem results_one {fn:Func} {p:Tmp} {ty:TypeId} (h:fn.results=#[.cell p ty]) (tmps:Array Value) (P:Program) (w:World) :
    (results fn tmps).run P w=((asAddr (tmps.getD p undef)).run P w).andThen fun a w₁=>(loadVar ty a).run P w₁:=by
  simp only [results,h]
  simp [Sem.run_bind,Result.andThen]
theorem below_two (w:World) (o o':Obj):Below w.heap.size w ((w.alloc o).alloc o'):=bthen (below_new _ _) (below_new _ _)
set_option maxHeartbeats 1000000 in
theorem r45Plain_bytes {Q:Nat→Prop} {w:World} {C:List Value} (s:StpK) (h:StpM Q w C s) (hk:s.k=0):Calls Tryz.prog 31 #[.agg C.toArray] w (PlainOut s Q w):=by
  have HZ:=fun W=>Lib.hid (zero_Stp W)
  obtain⟨sk,sb,sn,sid,sv,sy,sl⟩:=s
  obtain⟨A1,c1,A2,c2,A3,c3,rfl,h1,h2,h3⟩:=h.it
  unfold stpC
  dsimp only at *
  clear h
  have H1:=Lib.hid h1
  have H2:=Lib.hid h2
  have H3:=Lib.hid h3
  clear h1 h2 h3
  subst hk
  go_enter Tryz.func31,Tryz.ntmps31
  go_wp2_with fail
  have HLD:=load_two w (.cells (stL 0 A1 sb.length c1 sn sid A2 sv.length c2 sy A3 sl.length c3).toArray 30) (stL 0 A1 sb.length c1 0 0 none 0 0 0 none 0 0) rfl
  have HB:=below_two w (.cells (stL 0 A1 sb.length c1 sn sid A2 sv.length c2 sy A3 sl.length c3).toArray 30) (.cells (stL 0 A1 sb.length c1 0 0 none 0 0 0 none 0 0).toArray 30)
  exact bodyPost_ret (v:=.agg (stL 0 A1 sb.length c1 0 0 none 0 0 0 none 0 0).toArray) (by rw [results_one rfl];simpa [asAddr,Result.andThen] using HLD) rfl (by exact⟨_,rfl,StpM.raw (b:=sb) (v:=[]) (l:=[]) (H1.out.lt.below HB (fun b q=>q.2) |>.less fun b q=>q.1) (FlatQ.nil _ _ _) (FlatQ.nil _ _ _),HB⟩)
set_option maxHeartbeats 1000000 in
theorem r45Plain_tick {Q:Nat→Prop} {w:World} {C:List Value} (s:StpK) (h:StpM Q w C s) (hk:s.k=1):Calls Tryz.prog 31 #[.agg C.toArray] w (PlainOut s Q w):=by
  have HZ:=fun W=>Lib.hid (zero_Stp W)
  obtain⟨sk,sb,sn,sid,sv,sy,sl⟩:=s
  obtain⟨A1,c1,A2,c2,A3,c3,rfl,h1,h2,h3⟩:=h.it
  unfold stpC
  dsimp only at *
  clear h
  have H1:=Lib.hid h1
  have H2:=Lib.hid h2
  have H3:=Lib.hid h3
  clear h1 h2 h3
  subst hk
  go_enter Tryz.func31,Tryz.ntmps31
  go_wp2_with fail
  have HLD:=load_two w (.cells (stL 1 A1 sb.length c1 sn sid A2 sv.length c2 sy A3 sl.length c3).toArray 30) (stL 1 none 0 0 sn 0 none 0 0 0 none 0 0) rfl
  have HB:=below_two w (.cells (stL 1 A1 sb.length c1 sn sid A2 sv.length c2 sy A3 sl.length c3).toArray 30) (.cells (stL 1 none 0 0 sn 0 none 0 0 0 none 0 0).toArray 30)
  exact bodyPost_ret (v:=.agg (stL 1 none 0 0 sn 0 none 0 0 0 none 0 0).toArray) (by rw [results_one rfl];simpa [asAddr,Result.andThen] using HLD) rfl (by exact⟨_,rfl,StpM.num _ _ _ _,HB⟩)
set_option maxHeartbeats 1000000 in
theorem r45Plain_send {Q:Nat→Prop} {w:World} {C:List Value} (s:StpK) (h:StpM Q w C s) (hk:s.k=2):Calls Tryz.prog 31 #[.agg C.toArray] w (PlainOut s Q w):=by
  have HZ:=fun W=>Lib.hid (zero_Stp W)
  obtain⟨sk,sb,sn,sid,sv,sy,sl⟩:=s
  obtain⟨A1,c1,A2,c2,A3,c3,rfl,h1,h2,h3⟩:=h.it
  unfold stpC
  dsimp only at *
  clear h
  have H1:=Lib.hid h1
  have H2:=Lib.hid h2
  have H3:=Lib.hid h3
  clear h1 h2 h3
  subst hk
  go_enter Tryz.func31,Tryz.ntmps31
  go_wp2_with fail
  have HLD:=load_two w (.cells (stL 2 A1 sb.length c1 sn sid A2 sv.length c2 sy A3 sl.length c3).toArray 30) (stL 2 none 0 0 0 sid A2 sv.length c2 0 none 0 0) rfl
  have HB:=below_two w (.cells (stL 2 A1 sb.length c1 sn sid A2 sv.length c2 sy A3 sl.length c3).toArray 30) (.cells (stL 2 none 0 0 0 sid A2 sv.length c2 0 none 0 0).toArray 30)
  exact bodyPost_ret (v:=.agg (stL 2 none 0 0 0 sid A2 sv.length c2 0 none 0 0).toArray) (by rw [results_one rfl];simpa [asAddr,Result.andThen] using HLD) rfl (by exact⟨_,rfl,StpM.raw (b:=[]) (v:=sv) (l:=[]) (FlatQ.nil _ _ _) (H2.out.lt.below HB (fun b q=>q.2) |>.less fun b q=>q.1) (FlatQ.nil _ _ _),HB⟩)
set_option maxHeartbeats 1000000 in
theorem r45Plain_log {Q:Nat→Prop} {w:World} {C:List Value} (s:StpK) (h:StpM Q w C s) (hk:s.k=3):Calls Tryz.prog 31 #[.agg C.toArray] w (PlainOut s Q w):=by
  have HZ:=fun W=>Lib.hid (zero_Stp W)
  obtain⟨sk,sb,sn,sid,sv,sy,sl⟩:=s
  obtain⟨A1,c1,A2,c2,A3,c3,rfl,h1,h2,h3⟩:=h.it
  unfold stpC
  dsimp only at *
  clear h
  have H1:=Lib.hid h1
  have H2:=Lib.hid h2
  have H3:=Lib.hid h3
  clear h1 h2 h3
  subst hk
  go_enter Tryz.func31,Tryz.ntmps31
  go_wp2_with fail
  have HLD:=load_two w (.cells (stL 3 A1 sb.length c1 sn sid A2 sv.length c2 sy A3 sl.length c3).toArray 30) (stL 3 none 0 0 sn 0 none 0 0 0 none 0 0) rfl
  have HB:=below_two w (.cells (stL 3 A1 sb.length c1 sn sid A2 sv.length c2 sy A3 sl.length c3).toArray 30) (.cells (stL 3 none 0 0 sn 0 none 0 0 0 none 0 0).toArray 30)
  exact bodyPost_ret (v:=.agg (stL 3 none 0 0 sn 0 none 0 0 0 none 0 0).toArray) (by rw [results_one rfl];simpa [asAddr,Result.andThen] using HLD) rfl (by exact⟨_,rfl,StpM.num _ _ _ _,HB⟩)
set_option maxHeartbeats 1000000 in
theorem r45Plain_ask {Q:Nat→Prop} {w:World} {C:List Value} (s:StpK) (h:StpM Q w C s) (hk:s.k=4):Calls Tryz.prog 31 #[.agg C.toArray] w (PlainOut s Q w):=by
  have HZ:=fun W=>Lib.hid (zero_Stp W)
  obtain⟨sk,sb,sn,sid,sv,sy,sl⟩:=s
  obtain⟨A1,c1,A2,c2,A3,c3,rfl,h1,h2,h3⟩:=h.it
  unfold stpC
  dsimp only at *
  clear h
  have H1:=Lib.hid h1
  have H2:=Lib.hid h2
  have H3:=Lib.hid h3
  clear h1 h2 h3
  subst hk
  go_enter Tryz.func31,Tryz.ntmps31
  go_wp2_with fail
  have HLD:=load_two w (.cells (stL 4 A1 sb.length c1 sn sid A2 sv.length c2 sy A3 sl.length c3).toArray 30) (stL 4 none 0 0 0 0 none 0 0 sy A3 sl.length c3) rfl
  have HB:=below_two w (.cells (stL 4 A1 sb.length c1 sn sid A2 sv.length c2 sy A3 sl.length c3).toArray 30) (.cells (stL 4 none 0 0 0 0 none 0 0 sy A3 sl.length c3).toArray 30)
  exact bodyPost_ret (v:=.agg (stL 4 none 0 0 0 0 none 0 0 sy A3 sl.length c3).toArray) (by rw [results_one rfl];simpa [asAddr,Result.andThen] using HLD) rfl (by exact⟨_,rfl,StpM.raw (b:=[]) (v:=[]) (l:=sl) (FlatQ.nil _ _ _) (FlatQ.nil _ _ _) (H3.out.lt.below HB (fun b q=>q.2) |>.less fun b q=>q.1),HB⟩)
theorem r45Plain_any {Q:Nat→Prop} {w:World} {C:List Value} (s:StpK) (h:StpM Q w C s) (hk:0≤s.k∧s.k≤4):Calls Tryz.prog 31 #[.agg C.toArray] w (PlainOut s Q w):=by
  have:s.k=0∨s.k=1∨s.k=2∨s.k=3∨s.k=4:=by omega
  rcases this with k | k | k | k | k
  · exact r45Plain_bytes s h k
  · exact r45Plain_tick s h k
  · exact r45Plain_send s h k
  · exact r45Plain_log s h k
  · exact r45Plain_ask s h k
theorem scrTell_sent {Q:Nat→Prop} {w:World} (X:Option Addr) (d:Nat) (bs:List UInt8) (h:FlatQ Q w X (bsV bs)) (hl:bs.length≤10000):Calls Tryz.prog 92 #[.agg (evC 2 (.slice X bs.length d) 0).toArray] w fun e w'=>e=.returned (.string (toB (joinB 32 [[115,101,110,116],hexT bs])))∧Below w.heap.size w w':=by
  have HX:Hid (∀ W,Below w.heap.size w W→Calls Tryz.prog 54 #[.slice X bs.length d] W fun e w'=>e=.returned (.string (toB (hexT bs)))∧Below W.heap.size W w'):=Lib.hid fun W hW=>scrHex_any X d bs (h.lt.below hW fun b q=>q.2) (by omega)
  have hlt:=hexT_len bs
  have HR:∀ W:World,Hid (Calls Tryz.prog 53 #[.string ⟨#[115,101,110,116]⟩,.slice (some ⟨W.heap.size,0,none⟩) 1 1] (W.alloc (.cells #[.string (toB (hexT bs))] 9)) fun e w'=>e=.returned (.string (toB (joinB 32 [[115,101,110,116],hexT bs])))∧Below W.heap.size W w'):=fun W=>Lib.hid (row_one (w:=w) [115,101,110,116] (hexT bs) (.inr trivial) (by simp) (by decide) (by omega))
  obtain⟨L,hL⟩:∃ L,evC 2 (.slice X bs.length d) 0=L:=⟨_,rfl⟩
  have HL:=Lib.hid (And.intro (hL ▸ evC_len 2 (.slice X bs.length d) 0) (And.intro (hL ▸ evC_0 2 (.slice X bs.length d) 0) (hL ▸ evC_b 2 (.slice X bs.length d) 0)))
  rw [hL]
  generalize hexT bs=hx at *
  generalize bs.length=n at *
  clear h hL hl hlt
  go_enter Tryz.func92,Tryz.ntmps92
  go_upto_region 1 with (refine wpList_box_new rfl 126 _ rfl L.toArray rfl ?_;intro W1 hW;have HC1:=Lib.hid (Blk.newL (L:=L) hW rfl);have HB1:=Lib.hid hW.bel;clear hW)
  have c0:=HC1.out.cell 0 HL.out.2.1
  have c1:=HC1.out.cell 121 HL.out.2.2
  go_wp2_with fail
  refine (HX.out _ HB1.out).mono ?_
  rintro e w2 ⟨rfl,hb2⟩
  have HB2:=Lib.hid (bthen HB1.out hb2)
  clear hb2 c0 c1
  go_wp2_with fail
  refine (HR _).out.mono ?_
  rintro e w3 ⟨rfl,hb3⟩
  have HB3:=Lib.hid (bthen HB2.out hb3)
  clear hb3
  go_wp2_with fail
  go_ret
  exact⟨rfl,HB3.out⟩
def tick100:ByteArray:=⟨#[116,105,99,107,32,49,48,48]⟩
theorem read_tick:readW 0 (splitB 10 tick100.data.toList) []=(some [.tick 100],0):=by rfl
theorem flat_range {Q:Nat→Prop} {w:World} {b off:Nat} {xs:List Value} (h:FlatQ Q w (some ⟨b,off,none⟩) xs):w.rangeAt b off xs:=fun j v hv=>by
  obtain⟨b',off',e,-,z⟩:=h j v hv
  cases e
  exact z
def RanI (w:World) (e:Ending) (w':World):Prop:=∃ bs:List UInt8,e=.returned (.tuple #[.string (toB (joinB 32 [[115,101,110,116],hexT bs]++[10])),.int .i64 1,.int .i64 0])∧bs.length=22∧bs[0]?=some 254∧Below w.heap.size w w'
set_option maxRecDepth 8000 in
set_option maxHeartbeats 2000000 in
theorem scrRun_tick (w:World):Calls Tryz.prog 42 #[.int .i64 1,.int .i64 1,.string ⟨#[116,105,99,107,32,49,48,48]⟩] w (RanI w):=by
  have HZ:=fun W=>Lib.hid (zero_Stp W)
  have HZE:=fun W=>Lib.hid (zero_Ev W)
  go_enter Tryz.func42,Tryz.ntmps42
  go_wp2_with fail
  refine (nodNew_11 _).mono ?_
  rintro e w1 ⟨nb,B,g,b,tq,hr,ak,bk,rfl,hT⟩
  have HT:=Lib.hid hT
  have HW00:Hid (w.heap.size≤w1.heap.size):=hT.bel.size
  clear hT
  go_wp2_with fail
  refine (scrRead_any tick100 w1 (by decide)).mono ?_
  rintro e w2 hro
  unfold ReadOut at hro
  rw [read_tick] at hro
  obtain⟨hro,hb2⟩:=hro
  rcases hro with ⟨q,-⟩ | ⟨ss,A,c,Cs,hss,rfl,hf,hst,-⟩
  · cases q
  have hss':ss=[.tick 100]:=by injection hss with h1 _;injection h1 with h1;exact h1.symm
  subst hss'
  have hcl:Cs.length=1:=hst.len
  obtain⟨C,rfl⟩:=List.length_eq_one_iff.1 hcl
  obtain⟨A1,c1,A2,c2,A3,c3,eC,-,-,-⟩:=(hst.at_ 0 (by simp) (by simp)).it
  have eC':C=[.int .i64 1,.slice A1 0 c1,.int .i64 100,.int .i64 0,.slice A2 0 c2,.int .i64 0,.slice A3 0 c3]:=eC
  subst eC'
  obtain⟨bl,off,rfl,-,-⟩:=hf 0 (.int .i64 1) rfl
  have HB2:=Lib.hid hb2
  obtain⟨Wb,hWb⟩:∃ Wb,w2.alloc (.cells #[.pointer none,.slice none 0 0] 157)=Wb:=⟨_,rfl⟩
  have HBb:Hid (Below w2.heap.size w2 Wb):=by show Below _ _ _;rw [← hWb];exact below_new _ _
  have HAT:Hid (Wb.heap[w2.heap.size]?=some (.cells #[.pointer none,.slice none 0 0] 157 (0,0))):=by show _=_;rw [← hWb];exact World.alloc_heap_new _ _
  have HRG:Hid (Wb.rangeAt bl off [.int .i64 1,.slice A1 0 c1,.int .i64 100,.int .i64 0,.slice A2 0 c2,.int .i64 0,.slice A3 0 c3]):=Lib.hid (flat_range (hf.lt.below HBb.out fun b q=>q.2))
  have HWB:=Lib.hid hWb
  have HW1:Hid (w1.heap.size≤w2.heap.size):=hb2.size
  have HW0:Hid (w.heap.size≤w2.heap.size):=Nat.le_trans HW00.out hb2.size
  have HC1:Hid ((#[Value.int .i64 1,.slice A1 0 c1,.int .i64 100,.int .i64 0,.slice A2 0 c2,.int .i64 0,.slice A3 0 c3]:Array Value).all (·.oneCell')=true):=Lib.hid (by simp [Value.oneCell'])
  have HSZ:Hid ((Tryz.prog.info? 30).map (·.size)=some (#[Value.int .i64 1,.slice A1 0 c1,.int .i64 100,.int .i64 0,.slice A2 0 c2,.int .i64 0,.slice A3 0 c3]:Array Value).size):=Lib.hid (by show _=some 7;kernel_rfl)
  have HSL:Hid ((Tryz.prog.info? 30).map (·.size)=some ([Value.int .i64 1,.slice A1 0 c1,.int .i64 100,.int .i64 0,.slice A2 0 c2,.int .i64 0,.slice A3 0 c3]:List Value).length):=Lib.hid (by show _=some 7;kernel_rfl)
  clear hss hst hcl eC hf hb2
  go_wp2_with fail
  clear hWb
  refine wp_loop_rounds 2 ?_
  rw [rounds_succ]
  go_upto_region 11 with (first
    | refine wpList_load_mid rfl 30 _ rfl bl off rfl [.int .i64 1,.slice A1 0 c1,.int .i64 100,.int .i64 0,.slice A2 0 c2,.int .i64 0,.slice A3 0 c3] _ HRG.out Tryz.underlying30 rfl HSL.out ?_
    | (refine wpList_alloc_new rfl 30 rfl stZ.toArray (HZ _).out ?_;intro W3 hW;have HK3:=Lib.hid (Blk.newL (L:=stZ) hW rfl);have HB3:=Lib.hid hW.bel;clear hW)
    | (refine wpList_store_in rfl 30 _ _ rfl Wb.heap.size 0 #[.int .i64 1,.slice A1 0 c1,.int .i64 100,.int .i64 0,.slice A2 0 c2,.int .i64 0,.slice A3 0 c3] rfl rfl (HK3.out.there 0 7 (Nat.le_refl _)) HSZ.out HC1.out ?_;intro W4 hs;have HK4:Hid (Blk W4 Wb.heap.size [.int .i64 1,.slice A1 0 c1,.int .i64 100,.int .i64 0,.slice A2 0 c2,.int .i64 0,.slice A3 0 c3]):=Lib.hid (HK3.out.all hs rfl);have HB4:Hid (Below Wb.heap.size Wb W4):=Lib.hid (HB3.out.trans (hs.below (Nat.le_refl _)));clear hs))
  have HT4:Hid (TickI (fun j=>w1.heap.size≤j∧j < W4.heap.size) W4 w nb B g b tq hr ak bk 0 0 (rowK 0) W4):=Lib.hid (HT.out.mark (bthen (bthen HB2.out HBb.out) HB4.out))
  have HDO:=Lib.hid (nodDo_tick (A1:=A1) (A2:=A2) (A3:=A3) (c1:=c1) (c2:=c2) (c3:=c3) 100 1 (.inr ⟨rfl,rfl⟩) HT4.out)
  have HA4:Hid (W4.heap[w2.heap.size]?=some (.cells #[.pointer none,.slice none 0 0] 157 (0,0))):=(HB4.out.block _ (Array.getElem?_eq_some_iff.1 HAT.out).1).trans HAT.out
  clear HT HT4
  go_wp2_with (refine wpList_load_mid rfl 30 _ rfl Wb.heap.size 0 rfl [.int .i64 1,.slice A1 0 c1,.int .i64 100,.int .i64 0,.slice A2 0 c2,.int .i64 0,.slice A3 0 c3] _ HK4.out.rg Tryz.underlying30 rfl HSL.out ?_)
  refine HDO.out.mono ?_
  rintro e w5 ⟨A5,c5,l,rfl,hl,hf5,hv,hb5,-,-,-,hk5⟩
  have HA5:Hid (w5.heap[w2.heap.size]?=some (.cells #[.pointer none,.slice none 0 0] 157 (0,0))):=(hk5.block _ ⟨HW1.out,(Array.getElem?_eq_some_iff.1 HA4.out).1⟩).trans HA4.out
  have HI5:Hid (Lib.IsBuilder 157 5 w2.heap.size w2.heap.size [] w5):=Lib.hid (.inl ⟨Nat.le_refl _,.slice none 0 0,HA5.out,World.ownsRow_nil _ _ _ _,by simp [Value.ownBlock]⟩)
  obtain⟨⟨bs,X,d⟩,rfl⟩:=List.length_eq_one_iff.1 hl
  have hv0:=hv 0 (by simp)
  have hx1:FlatQ (fun j=>j < w5.heap.size) w5 X (bsV bs):=hv0.1
  have hx2:bs[0]?=some 254:=hv0.2.1
  have hx3:bs.length=22:=hv0.2.2
  have hf6:FlatQ (fun j=>j < w5.heap.size) w5 A5 (evC 2 (.slice X bs.length d) 0):=by
    have:=hf5
    unfold evsV at this
    simpa [evT] using this
  obtain⟨be,oe,rfl,-,-⟩:=hf6 0 (.int .i64 2) rfl
  have HRE:=Lib.hid (flat_range hf6)
  have HX:=Lib.hid (And.intro hx1 (And.intro hx2 hx3))
  have HB5:=Lib.hid hb5
  obtain⟨L,hL⟩:∃ L,evC 2 (.slice X bs.length d) 0=L:=⟨_,rfl⟩
  have HL:=Lib.hid (And.intro (hL ▸ evC_len 2 (.slice X bs.length d) 0) (hL ▸ evC_one 2 X bs.length d 0))
  have HTL:Hid (∀ W,Below w5.heap.size w5 W→Calls Tryz.prog 92 #[.agg L.toArray] W fun e w'=>e=.returned (.string (toB (joinB 32 [[115,101,110,116],hexT bs])))∧Below W.heap.size W w'):=Lib.hid fun W hW=>by
    rw [← hL]
    exact scrTell_sent X d bs (hx1.below hW fun b q=>q) (by omega)
  rw [hL] at HRE
  have HTXL:Hid ((joinB 32 [[115,101,110,116],hexT bs]).length≤1000∧joinB 32 [[115,101,110,116],hexT bs]≠[]):=by
    have:=hexT_len bs
    rw [joinB_tail]
    unfold tailT
    exact⟨by simp;omega,by simp⟩
  obtain⟨tx,htx⟩:∃ tx,joinB 32 [[115,101,110,116],hexT bs]=tx:=⟨_,rfl⟩
  have HTX:=Lib.hid htx
  rw [htx] at HTL HTXL
  clear hl hf5 hv hb5 hk5 hv0 hx1 hx2 hx3 hf6 hL htx HDO HK4 HK3
  go_wp2_with fail
  refine wp_loop_rounds 2 ?_
  rw [rounds_succ]
  go_wp2_with (first
    | refine wpList_load_mid rfl 126 _ rfl be oe rfl L _ HRE.out Tryz.underlying126 rfl (by rw [HL.out.1];kernel_rfl) ?_
    | (refine wpList_alloc_new rfl 126 rfl (evC 0 (.slice none 0 0) 0).toArray (HZE _).out ?_;intro W6 hW;have HK6:=Lib.hid (Blk.newL (L:=evC 0 (.slice none 0 0) 0) hW rfl);have HB6:=Lib.hid hW.bel;clear hW)
    | (refine wpList_store_in rfl 126 _ _ rfl w5.heap.size 0 L.toArray rfl rfl (HK6.out.there 0 L.toArray.size (by rw [List.size_toArray,HL.out.1];exact Nat.le_refl _)) (by rw [List.size_toArray,HL.out.1];kernel_rfl) (toList_all (by simpa using HL.out.2)) ?_;intro W7 hs;have HK7:Hid (Blk W7 w5.heap.size L):=Lib.hid (HK6.out.all hs (by rw [HL.out.1];rfl));have HB7:Hid (Below w5.heap.size w5 W7):=Lib.hid (HB6.out.trans (hs.below (Nat.le_refl _)));clear hs)
    | refine wpList_load_mid rfl 126 _ rfl w5.heap.size 0 rfl L _ HK7.out.rg Tryz.underlying126 rfl (by rw [HL.out.1];kernel_rfl) ?_)
  refine (HTL.out _ HB7.out).mono ?_
  rintro e w8 ⟨rfl,hb8⟩
  have HB8:Hid (Below w5.heap.size w5 w8):=Lib.hid (HB7.out.trans (hb8.mono HB7.out.size))
  have HW2:Hid (w2.heap.size≤w8.heap.size∧w.heap.size≤w2.heap.size∧w2.heap.size < w5.heap.size):=Lib.hid ⟨Nat.le_trans (Nat.le_of_lt (Array.getElem?_eq_some_iff.1 HA5.out).1) HB8.out.size,HW0.out,(Array.getElem?_eq_some_iff.1 HA5.out).1⟩
  have HI8:=Lib.hid (isb_below HI5.out HB8.out)
  have HWS:=Lib.hid (WriteString_any w2.heap.size w2.heap.size [] (toB tx) w8 HI8.out (by simp [size_B];have:=HTXL.out.1;omega) HW2.out.1)
  clear hb8 HK7 HK6 HI8
  go_wp2_with fail
  refine HWS.out.mono ?_
  rintro e w9 ⟨rfl,h9,hb9⟩
  have HWB2:=Lib.hid (WriteByte_any w2.heap.size w2.heap.size _ 10 w9 (.inr h9) (by rw [List.nil_append,bcells_str,Lib.byteCells_length];have:=HTXL.out.1;omega) (Nat.le_trans HW2.out.1 hb9.size))
  have HB9:=Lib.hid hb9
  clear h9 hb9
  go_wp2_with fail
  refine HWB2.out.mono ?_
  rintro e w10 ⟨rfl,h10,hb10⟩
  have HB10:Hid (Below w2.heap.size w8 w10):=Lib.hid (HB9.out.trans hb10)
  have h10':Lib.IsBuilder 157 5 w2.heap.size w2.heap.size (Lib.byteCells (tx++[10])) w10:=by
    rw [bcells_app,← bcells_str]
    rw [List.nil_append] at h10
    exact .inr h10
  have HST:=Lib.hid (String_any w2.heap.size w2.heap.size (tx++[10]) w10 h10' (by simp))
  clear h10 hb10 h10' HWS HWB2
  go_wp2_with fail
  rw [rounds_succ]
  go_wp2_with fail
  rw [rounds_succ]
  go_wp2_with fail
  refine HST.out.mono ?_
  rintro e w11 ⟨rfl,hb11⟩
  have HB11:Hid (Below w.heap.size w w11):=Lib.hid (HB5.out.trans ((HB8.out.mono (by have:=HW2.out;omega)).trans ((HB10.out.trans hb11).mono HW2.out.2.1)))
  clear hb11
  go_wp2_with fail
  go_ret3
  exact⟨bs,by rw [HTX.out];rfl,HX.out.2.2,HX.out.2.1,HB11.out⟩
theorem num45_any (n:Int) (w:World):Calls Tryz.prog 25 #[.int .i64 n] w fun e w'=>e=.returned (.int .i64 n)∧w=w':=by
  go_enter Tryz.func25,Tryz.ntmps25
  go_wp2
  go_ret
  exact⟨rfl,rfl⟩
def tick5:ByteArray:=⟨#[116,105,99,107,32,53]⟩
theorem line_tick:lineW tick5.data.toList=some (.tick 5):=by rfl
theorem ran_text {bs:List UInt8} (h1:bs.length=22) (h2:bs[0]?=some 254):∃ T,toB (joinB 32 [[115,101,110,116],hexT bs]++[10])=T∧T.size=50∧T.extract 0 7=⟨#[115,101,110,116,32,70,69]⟩:=by
  cases bs with
  | nil=>cases h2
  | cons c r=>
    simp only [List.getElem?_cons_zero,Option.some.injEq] at h2
    subst h2
    have hr:(hexF r).length=42:=by rw [hexF_len];simp at h1;omega
    have e:joinB 32 [[115,101,110,116],hexT ((254:UInt8) :: r)]++[10]=[115,101,110,116,32,70,69]++(hexF r++[10]):=by
      have h9:hexL (((254:UInt8).toNat:Nat):Int)=[70,69]:=by rfl
      rw [joinB_tail,hexT_some (by simp)]
      unfold tailT hexF
      rw [List.flatMap_cons,List.flatMap_nil,List.flatMap_cons,h9]
      simp
    refine⟨_,rfl,?_,?_⟩
    · rw [e,size_B,List.length_append,List.length_append,hr];rfl
    · rw [e,toB_ext,toList_B,List.take_append_of_le_length (by simp)]
      rfl
theorem tick_stp (Q:Nat→Prop) (w:World) (n:Int):StpM Q w [.int .i64 1,.slice none 0 0,.int .i64 n,.int .i64 0,.slice none 0 0,.int .i64 0,.slice none 0 0] ⟨1,[],n,0,[],0,[]⟩:=
  ⟨⟨none,0,none,0,none,0,rfl,FlatQ.nil _ _ _,FlatQ.nil _ _ _,FlatQ.nil _ _ _⟩⟩
set_option maxRecDepth 8000 in
set_option maxHeartbeats 2000000 in
theorem knows45_any (w:World):Calls Tryz.prog 21 #[] w fun e w'=>e=.returned (.bool true)∧Below w.heap.size w w':=by
  have HNU:=fun n W=>Lib.hid (num45_any n W)
  go_enter Tryz.func21,Tryz.ntmps21
  go_wp2_with fail
  refine (scrLine_any tick5 _ (by decide)).mono ?_
  rintro e w1 ⟨hor,hb1⟩
  rw [line_tick] at hor
  rcases hor with ⟨q,-⟩ | ⟨s,C,hs,rfl,hst⟩
  · cases q
  obtain rfl:s=.tick 5:=by injection hs with h;exact h.symm
  have HST:=Lib.hid hst
  have HB1:=Lib.hid hb1
  obtain⟨A1,c1,A2,c2,A3,c3,eC,-,-,-⟩:=hst.it
  have eC':C=[.int .i64 1,.slice A1 0 c1,.int .i64 5,.int .i64 0,.slice A2 0 c2,.int .i64 0,.slice A3 0 c3]:=eC
  subst eC'
  clear hs hst hb1 eC
  go_wp2_with fail
  have HK2:=Lib.hid (Blk.newL (L:=[.int .i64 1,.slice A1 0 c1,.int .i64 5,.int .i64 0,.slice A2 0 c2,.int .i64 0,.slice A3 0 c3]) (grew_alloc w1 #[.int .i64 1,.slice A1 0 c1,.int .i64 5,.int .i64 0,.slice A2 0 c2,.int .i64 0,.slice A3 0 c3] 30) rfl)
  refine (scrRun_tick _).mono ?_
  rintro e w3 ⟨bs,rfl,hl,h0,hb3⟩
  obtain⟨T,hT,hTs,hTe⟩:=ran_text hl h0
  rw [hT]
  have HB3:Hid (Below w.heap.size w w3):=Lib.hid (bthen (bthen HB1.out (below_new _ _)) hb3)
  have HK3:=Lib.hid (HK2.out.on hb3)
  have HSM:=Lib.hid (r45Same_eq (C:=[.int .i64 1,.slice A1 0 c1,.int .i64 5,.int .i64 0,.slice A2 0 c2,.int .i64 0,.slice A3 0 c3]) (D:=[.int .i64 1,.slice none 0 0,.int .i64 5,.int .i64 0,.slice none 0 0,.int .i64 0,.slice none 0 0]) (s:=⟨1,[],5,0,[],0,[]⟩) (HST.out.keep (w':=w3) (R:=fun _=>True) (fun k q=>(bthen (below_new w1 _) hb3).block k q.2) fun _ _=>trivial) (tick_stp (fun _=>True) w3 5) (by simp) (by simp))
  have k0:=HK3.out.cell 0 (v:=.int .i64 1) rfl
  have k1:=HK3.out.cell 1 (v:=.slice A1 0 c1) rfl
  have k2:=HK3.out.cell 2 (v:=.int .i64 5) rfl
  have k3:=HK3.out.cell 3 (v:=.int .i64 0) rfl
  have k4:=HK3.out.cell 4 (v:=.slice A2 0 c2) rfl
  have k5:=HK3.out.cell 5 (v:=.int .i64 0) rfl
  have k6:=HK3.out.cell 6 (v:=.slice A3 0 c3) rfl
  clear hT hl h0 hb3 HST HK2
  have hTi:(T.size:Int)=50:=by omega
  go_wp2_with fail
  refine HSM.out.mono ?_
  rintro e w4 ⟨rfl,hb4⟩
  have HB4:=Lib.hid (bthen HB3.out hb4)
  clear hb4 k0 k1 k2 k3 k4 k5 k6 HSM
  go_wp2_with (refine (HNU _ _).out.mono ?_;rintro e w5 ⟨rfl,rfl⟩)
  go_ret
  exact⟨rfl,HB4.out⟩
end Go.Proofs.YtaiepcgfofpmjaaGreat
