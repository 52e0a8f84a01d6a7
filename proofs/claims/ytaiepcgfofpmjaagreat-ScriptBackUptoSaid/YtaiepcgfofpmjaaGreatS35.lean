/- Layers 38, 40: Proto; a decoder in memory; New, there, Rest, skip. -/
import Derived.Test.YtaiepcgfofpmjaaGreatS23
import Derived.Deep.LoopGhost
import Derived.WalkMore
import Derived.ScopeJumps
import Derived.RegionTactic
import Derived.Test.YtaiepcgfofpmjaaGreatS06
import Derived.ChangeKeysEq
import Derived.Test.YtaiepcgfofpmjaaGreatS34
namespace Go.Proofs.YtaiepcgfofpmjaaGreat
set_option linter.unusedVariables false
open Go.RowKit
def decL (b:Nat) (C:List Int):List Value:=.pointer (some ⟨b,0,none⟩) :: C.map (Value.int .i64)
structure DecI (W:World) (g b:Nat) (C:List Int) (l:List UInt8):Prop where
  blk:Blk W g (decL b C)
  len:C.length=13
  win:WinI W b l
  ne:b≠g
theorem DecI.on {W W':World} {g b:Nat} {C:List Int} {l:List UInt8} (h:DecI W g b C l) (hb:Below W.heap.size W W'):DecI W' g b C l:=⟨h.blk.on hb,h.len,h.win.on hb,h.ne⟩
theorem DecI.c0 {W:World} {g b:Nat} {C:List Int} {l:List UInt8} (h:DecI W g b C l):W.cell? ⟨g,0,none⟩=some (.pointer (some ⟨b,0,none⟩)):=h.blk.cell 0 rfl
theorem DecI.ck {W:World} {g b:Nat} {C:List Int} {l:List UInt8} (h:DecI W g b C l) (k:Nat) (hk:k < C.length):W.cell? ⟨g,k+1,none⟩=some (.int .i64 C[k]):=h.blk.cell (k+1) (by
  unfold decL
  rw [List.getElem?_cons_succ,List.getElem?_map,List.getElem?_eq_getElem hk];rfl)
theorem build_dec (b:Nat) (w:World):(Instr.build 176 #[(0,.pointer (some ⟨b,0,none⟩))]).run Tryz.prog w=.ok (.agg (decL b [0,0,0,0,0,0,0,0,0,0,0,0,0]).toArray) w:=by kernel_rfl
theorem rsyNew_any (w:World):Calls Tryz.prog 65 #[] w fun e w'=>e=.returned (.pointer (some ⟨w.heap.size+1,0,none⟩))∧DecI w' (w.heap.size+1) w.heap.size [0,0,0,0,0,0,0,0,0,0,0,0,0] []∧Below w.heap.size w w'∧w'.heap.size=w.heap.size+2:=by
  have HB:=fun W=>Lib.hid (build_dec w.heap.size W)
  go_enter Tryz.func65,Tryz.ntmps65
  go_wp2_with fail
  refine (winNew_any _).mono ?_
  rintro e w1 ⟨rfl,hw,hb,hs⟩
  have HW:=Lib.hid hw
  have HB1:=Lib.hid hb
  have HS:=Lib.hid hs
  clear hw hb hs
  go_wp2_with (first
    | refine wpList_build1 (u:=.pointer (some ⟨w.heap.size,0,none⟩)) rfl 176 0 _ rfl rfl (HB _).out ?_
    | (refine wpList_box_new rfl _ _ rfl (decL w.heap.size [0,0,0,0,0,0,0,0,0,0,0,0,0]).toArray rfl ?_;intro W1 hW1;have HK1:=Lib.hid (Blk.newL (L:=decL w.heap.size [0,0,0,0,0,0,0,0,0,0,0,0,0]) hW1 List.toList_toArray);have HG:=Lib.hid hW1;clear hW1))
  go_ret
  have e:=HS.out
  refine⟨by rw [← e];rfl,⟨by rw [← e];exact HK1.out,rfl,HW.out.on HG.out.bel,by omega⟩,bthen HB1.out HG.out.bel,by rw [HG.out.sz,e]⟩
theorem rsyThere_any {W:World} {g b:Nat} {C:List Int} {l:List UInt8} (h:DecI W g b C l):Calls Tryz.prog 79 #[.pointer (some ⟨g,0,none⟩)] W fun e w'=>e=.returned (.bool true)∧W=w':=by
  have c0:=h.c0
  clear h
  go_enter Tryz.func79,Tryz.ntmps79
  go_wp2
  go_ret
  exact⟨rfl,rfl⟩
theorem DecI.cd {W:World} {g b:Nat} {C:List Int} {l:List UInt8} (h:DecI W g b C l) (k:Nat) (hk:k < 13):W.cell? ⟨g,k+1,none⟩=some (.int .i64 (C.getD k 0)):=by
  have hl:=h.len
  rw [h.ck k (by omega),List.getD_eq_getElem?_getD,List.getElem?_eq_getElem (by omega)]
  rfl
def cntA (C:List Int):Array Value:=(C.map (Value.int .i64)).toArray
def z13:List Int:=[0,0,0,0,0,0,0,0,0,0,0,0,0]
def z4A:Array Value:=#[.int .i64 0,.int .i64 0,.int .i64 0,.int .i64 0]
theorem zero_Cnt (w:World):(zeroValue 59).run Tryz.prog w=.ok (.agg (cntA z13)) w:=by kernel_rfl
theorem zero_A4 (w:World):(zeroValue 57).run Tryz.prog w=.ok (.agg z4A) w:=by kernel_rfl
theorem build_Cnt0 (w:World):(Instr.build 59 #[]).run Tryz.prog w=.ok (.agg (cntA z13)) w:=by kernel_rfl
theorem cnt_size {C:List Int} (h:C.length=13):(Tryz.prog.info? 59).map (·.size)=some (cntA C).size:=by
  unfold cntA
  rw [List.size_toArray,List.length_map,h]
  kernel_rfl
theorem cnt_ones (C:List Int):(cntA C).all (·.oneCell')=true:=toList_all fun v hv=>by
  obtain⟨n,-,rfl⟩:=List.mem_map.1 hv
  rfl
theorem DecI.rgC {W:World} {g b:Nat} {C:List Int} {l:List UInt8} (h:DecI W g b C l):W.rangeAt g 1 (C.map (Value.int .i64)):=by
  have:=h.blk.rg
  unfold decL at this
  exact (World.rangeAt_cons.1 this).2
theorem DecI.kept2 {W W':World} {g b k o:Nat} {cs:List Value} {C:List Int} {l:List UInt8} (h:DecI W g b C l) (hs:Stored W W' k o cs) (h1:g≠k) (h2:b≠k):DecI W' g b C l:=
  ⟨h.blk.far hs h1,h.len,h.win.kept (hs.far b h2) (Nat.le_of_eq hs.sz.symm),h.ne⟩
theorem yieldsIf_binop {P:Program} {ops:Array Oper} {S:World→Prop} {o:Oper} {a:Act} (hw:Region.wanted o (yielded ops a.tmps)=true) (bo:BinOp) (xT:TypeId) (x y:Operand) (yT:TypeId) (ho:o.op=.binOp bo xT x y yT) {u v r:Value} (hx:a.eval x=u) (hy:a.eval y=v) (hg:∀ w,(eqGuard bo xT x y u v).run P w=.ok () w) (hr:∀ w,(binOp bo xT u v).run P w=.ok r w):YieldsIf P ops S o r a:=
  .inl ⟨hw,fun w _=>by
    unfold execOp
    rw [ho]
    simp only [hx,hy,Sem.run_bind,hg,hr,Result.andThen_ok,Sem.run_pure]⟩
theorem eql_z4 (w:World):(binOp .eql 57 (.agg z4A) (.agg z4A)).run Tryz.prog w=.ok (.bool true) w:=by kernel_rfl
theorem eqg_z4 (x y:Operand) (w:World):(eqGuard .eql 57 x y (.agg z4A) (.agg z4A)).run Tryz.prog w=.ok () w:=by kernel_rfl
theorem DecI.rgB {W:World} {g b:Nat} {l:List UInt8} (h:DecI W g b z13 l):W.rangeAt g 10 z4A.toList:=by
  have:=h.rgC
  exact ((World.rangeAt_append (l:=(List.replicate 9 (0:Int)).map (Value.int .i64)) (m:=z4A.toList)).1 this).2
set_option maxRecDepth 8000 in
set_option maxHeartbeats 400000 in
theorem rsyCounts_zero {W:World} {g b:Nat} {l:List UInt8} (h:DecI W g b z13 l) :
    Calls Tryz.prog 41 #[.pointer (some ⟨g,0,none⟩)] W fun e w'=>e=.returned (.agg (cntA z13))∧DecI w' g b z13 l∧Below W.heap.size W w':=by
  have HZ:=fun W=>Lib.hid (zero_Cnt W)
  have HZA:=fun W=>Lib.hid (zero_A4 W)
  have HBC:=fun W=>Lib.hid (build_Cnt0 W)
  have H:=Lib.hid h
  clear h
  go_enter Tryz.func41,Tryz.ntmps41
  go_upto_region 2 with (first
    | (refine wpList_alloc_new rfl 59 rfl (cntA z13) (HZ _).out ?_;intro W1 hW;have HC1:=Lib.hid (Blk.newL (L:=z13.map (Value.int .i64)) hW rfl);have H1:=Lib.hid (H.out.on hW.bel);have HB1:=Lib.hid hW.bel;have HS1:=Lib.hid hW.sz;clear hW)
    | (refine wpList_alloc_new rfl 57 rfl z4A (HZA _).out ?_;intro W2 hW;have HC2:=Lib.hid (HC1.out.on hW.bel);have HN2:=Lib.hid (Blk.newL (L:=z4A.toList) hW rfl);have H2:=Lib.hid (H1.out.on hW.bel);have HB2:=Lib.hid (bthen HB1.out hW.bel);clear hW))
  try (apply wp_seq_k;intro K_ HK_)
  have hS0:Below W2.heap.size W2 W2.drew:=(Below.refl _ _).drew
  refine wp_region_held_drew (S:=fun w'=>Below W2.heap.size W2 w') (by kernel_rfl) hS0 (fun hHeld0=>?_)
  refine wpAnyH_take (i:=0) (oi:=⟨some 4,_,_,_,_,_⟩) (v:=?_) rfl (by kernel_rfl) (by kernel_rfl) (by kernel_rfl) (fun _ _ _ h=>h) (Or.inl ⟨by rfl,?_⟩) (by assumption) ?_
  rotate_left
  · intro w' hSw
    go_simp
    try with_reducible rfl
  try go_frame
  refine wpAnyH_ready (rs:=[1]) (by kernel_rfl) (by simp) ?_
  refine AllReadyH.cons (o:=⟨some 5,_,_,_,_,_⟩) rfl (fun K hK=>?_) AllReadyH.nil
  rw [if_pos (by rfl)]
  go_step
  refine (rsyThere_any (H2.out.on hHeld0)).mono ?_
  rintro e W' ⟨rfl,rfl⟩
  try go_frame
  refine hK.out _ _ (hHeld0) (fun hHeld=>?_)
  clear hK K
  try go_frame
  refine wpAnyH_take (i:=2) (oi:=⟨some 6,_,_,_,_,_⟩) (v:=?_) rfl (by kernel_rfl) (by kernel_rfl) (by kernel_rfl) (fun _ _ _ h=>h) (Or.inl ⟨by rfl,?_⟩) (by assumption) ?_
  rotate_left
  · intro w' hSw
    go_simp
    try with_reducible rfl
  try go_frame
  refine wpAnyH_take (i:=3) (oi:=⟨some 7,_,_,_,_,_⟩) (v:=?_) rfl (by kernel_rfl) (by kernel_rfl) (by kernel_rfl) (fun _ _ _ h=>h) (Or.inl ⟨by rfl,?_⟩) (by assumption) ?_
  rotate_left
  · intro w' hSw
    go_simp
    try with_reducible rfl
  try go_frame
  refine wpAnyH_take (i:=4) (oi:=⟨some 8,_,_,_,_,_⟩) (v:=?_) rfl (by kernel_rfl) (by kernel_rfl) (by kernel_rfl) (fun _ _ _ h=>h) (Or.inl ⟨by rfl,?_⟩) (by assumption) ?_
  rotate_left
  · intro w' hSw
    go_simp
    try with_reducible rfl
  try go_frame
  refine wpAnyH_take (i:=5) (oi:=⟨some 9,_,_,_,_,_⟩) (v:=?_) rfl (by kernel_rfl) (by kernel_rfl) (by kernel_rfl) (fun _ _ _ h=>h) (Or.inl ⟨by rfl,?_⟩) (by assumption) ?_
  rotate_left
  · intro w' hSw
    go_simp
    try with_reducible rfl
  try go_frame
  refine wpAnyH_take (i:=6) (oi:=⟨some 10,_,_,_,_,_⟩) (v:=?_) rfl (by kernel_rfl) (by kernel_rfl) (by kernel_rfl) (fun _ _ _ h=>h) (Or.inl ⟨by rfl,?_⟩) (by assumption) ?_
  rotate_left
  · intro w' hSw
    go_simp
    try with_reducible rfl
  try go_frame
  refine wpAnyH_take (i:=7) (oi:=⟨some 11,_,_,_,_,_⟩) (v:=?_) rfl (by kernel_rfl) (by kernel_rfl) (by kernel_rfl) (fun _ _ _ h=>h) (Or.inl ⟨by rfl,?_⟩) (by assumption) ?_
  rotate_left
  · intro w' hSw
    go_simp
    try with_reducible rfl
  try go_frame
  refine wpAnyH_take (i:=8) (oi:=⟨some 12,_,_,_,_,_⟩) (v:=?_) rfl (by kernel_rfl) (by kernel_rfl) (by kernel_rfl) (fun _ _ _ h=>h) (Or.inl ⟨by rfl,?_⟩) (by assumption) ?_
  rotate_left
  · intro w' hSw
    have c1:w'.cell? ⟨g,1,none⟩=some (.int .i64 0):=(H2.out.on hSw).cd 0 (by decide)
    go_simp
    try with_reducible rfl
  try go_frame
  refine wpAnyH_take (i:=9) (oi:=⟨some 13,_,_,_,_,_⟩) (v:=?_) rfl (by kernel_rfl) (by kernel_rfl) (by kernel_rfl) (fun _ _ _ h=>h) (Or.inl ⟨by rfl,?_⟩) (by assumption) ?_
  rotate_left
  · intro w' hSw
    go_simp
    try with_reducible rfl
  try go_frame
  refine wpAnyH_take (i:=10) (oi:=⟨some 14,_,_,_,_,_⟩) (v:=?_) rfl (by kernel_rfl) (by kernel_rfl) (by kernel_rfl) (fun _ _ _ h=>h) (Or.inl ⟨by rfl,?_⟩) (by assumption) ?_
  rotate_left
  · intro w' hSw
    go_simp
    try with_reducible rfl
  try go_frame
  refine wpAnyH_take (i:=11) (oi:=⟨some 15,_,_,_,_,_⟩) (v:=?_) rfl (by kernel_rfl) (by kernel_rfl) (by kernel_rfl) (fun _ _ _ h=>h) (Or.inl ⟨by rfl,?_⟩) (by assumption) ?_
  rotate_left
  · intro w' hSw
    go_simp
    try with_reducible rfl
  try go_frame
  refine wpAnyH_take (i:=12) (oi:=⟨some 16,_,_,_,_,_⟩) (v:=?_) rfl (by kernel_rfl) (by kernel_rfl) (by kernel_rfl) (fun _ _ _ h=>h) (Or.inl ⟨by rfl,?_⟩) (by assumption) ?_
  rotate_left
  · intro w' hSw
    go_simp
    try with_reducible rfl
  try go_frame
  refine wpAnyH_take (i:=13) (oi:=⟨some 17,_,_,_,_,_⟩) (v:=?_) rfl (by kernel_rfl) (by kernel_rfl) (by kernel_rfl) (fun _ _ _ h=>h) (Or.inl ⟨by rfl,?_⟩) (by assumption) ?_
  rotate_left
  · intro w' hSw
    go_simp
    try with_reducible rfl
  try go_frame
  refine wpAnyH_take (i:=14) (oi:=⟨some 18,_,_,_,_,_⟩) (v:=?_) rfl (by kernel_rfl) (by kernel_rfl) (by kernel_rfl) (fun _ _ _ h=>h) (Or.inl ⟨by rfl,?_⟩) (by assumption) ?_
  rotate_left
  · intro w' hSw
    go_simp
    try with_reducible rfl
  try go_frame
  refine wpAnyH_take (i:=15) (oi:=⟨some 19,_,_,_,_,_⟩) (v:=.agg z4A) rfl (by kernel_rfl) (by kernel_rfl) (by kernel_rfl) (fun _ _ _ h=>h) (yieldsIf_load_mid (by rfl) 57 _ rfl g 10 rfl z4A.toList _ (fun w' hSw=>(H2.out.on hSw).rgB) Tryz.underlying57 rfl (by kernel_rfl)) (by assumption) ?_
  try go_frame
  refine wpAnyH_take (i:=16) (oi:=⟨some 20,_,_,_,_,_⟩) (v:=.agg z4A) rfl (by kernel_rfl) (by kernel_rfl) (by kernel_rfl) (fun _ _ _ h=>h) (yieldsIf_load_mid (by rfl) 57 _ rfl W1.heap.size 0 rfl z4A.toList _ (fun w' hSw=>(HN2.out.on hSw).rg) Tryz.underlying57 rfl (by kernel_rfl)) (by assumption) ?_
  try go_frame
  refine wpAnyH_take (i:=17) (oi:=⟨some 21,_,_,_,_,_⟩) (v:=.bool true) rfl (by kernel_rfl) (by kernel_rfl) (by kernel_rfl) (fun _ _ _ h=>h) (yieldsIf_binop (by rfl) .eql 57 (.tmp 19) (.tmp 20) 57 rfl (u:=.agg z4A) (v:=.agg z4A) (by kernel_rfl) (by kernel_rfl) (fun W=>eqg_z4 _ _ W) (fun W=>eql_z4 W)) (by assumption) ?_
  try go_frame
  refine wpAnyH_take (i:=18) (oi:=⟨some 22,_,_,_,_,_⟩) (v:=?_) rfl (by kernel_rfl) (by kernel_rfl) (by kernel_rfl) (fun _ _ _ h=>h) (Or.inl ⟨by rfl,?_⟩) (by assumption) ?_
  rotate_left
  · intro w' hSw
    go_simp
    try with_reducible rfl
  try go_frame
  refine wpAnyH_take (i:=19) (oi:=⟨some 23,_,_,_,_,_⟩) (v:=?_) rfl (by kernel_rfl) (by kernel_rfl) (by kernel_rfl) (fun _ _ _ h=>h) (Or.inl ⟨by rfl,?_⟩) (by assumption) ?_
  rotate_left
  · intro w' hSw
    go_simp
    try with_reducible rfl
  try go_frame
  refine wpAnyH_done (by kernel_rfl) ?_ _
  try go_frame
  have HC3:Hid (Blk _ W.heap.size (z13.map (Value.int .i64))):=Lib.hid (HC2.out.on hHeld0)
  have H3:=Lib.hid (H2.out.on hHeld0)
  have HB3:=Lib.hid (bthen HB2.out hHeld0)
  clear HC2 H2 HB2 HC1 H1 HB1 HN2
  go_wp2_with (first
    | refine wpList_build0 rfl 59 rfl (HBC _).out ?_
    | (refine wpList_store_in rfl 59 _ _ rfl W.heap.size 0 (cntA z13) rfl rfl (HC3.out.there 0 13 (by decide)) (cnt_size rfl) (cnt_ones _) ?_;intro W4 hs;have HC4:=Lib.hid (HC3.out.all hs rfl);have H4:=Lib.hid (H3.out.kept2 hs (by have:=H.out.blk.lt;omega) (by have:=H.out.win.lt;omega));have HB4:=Lib.hid (HB3.out.trans (hs.below (Nat.le_refl _)));clear hs))
  try go_frame
  have HLD:=Lib.hid (run_loadVar_mid (P:=Tryz.prog) W4 W.heap.size 0 59 (cntA z13).toList _ HC4.out.rg Tryz.underlying59 rfl (by rw [Array.length_toList];exact cnt_size rfl))
  refine bodyPost_ret (v:=.agg (cntA z13)) (by rw [results_cF rfl];simp [asAddr,Result.andThen,HLD.out]) rfl ⟨rfl,H4.out,HB4.out⟩
def stZ9:Array Value:=#[.int .i32 0,.int .i32 0,.int .i32 0,.int .i32 0,.int .i32 0,.int .i32 0,.int .i32 0,.int .i64 0,.int .i64 0]
theorem zero_Filter (w:World):(zeroValue 52).run Tryz.prog w=.ok (.agg (stZ9)) w:=by kernel_rfl
end Go.Proofs.YtaiepcgfofpmjaaGreat
