/- Layer 4: a clone of bytes; readers in memory: New, fine, fail, next, U, I, Left, Fail. -/
import Derived.Test.YtaiepcgfofpmjaaGreatS05
import Derived.Test.YtaiepcgfofpmjaaGreatProg
import Derived.Deep.RegionHeld3
import Derived.Lib.SliceRun
import Derived.Deep.LoopGhost
import Derived.IntWalk
import Derived.Deep.MidRow
namespace Go.Proofs.YtaiepcgfofpmjaaGreat
set_option linter.unusedVariables false
open Go.RowKit
set_option maxRecDepth 8000 in
set_option maxHeartbeats 2000000 in
theorem CloneB_none (c:Nat) (w:World):Calls Tryz.prog 243 #[.slice none 0 c] w fun e w'=>e=.returned (.slice none 0 0)∧Below w.heap.size w w':=by
  go_enter Tryz.func243,Tryz.ntmps243
  go_wp2_with fail
  rw [Lib.run_eql_slice_nil _ _ _ _ _ _ _ _ Tryz.underlying22]
  go_wp2_with fail
  go_ret
  exact⟨rfl,Below.refl _ _⟩
set_option maxRecDepth 100000 in
theorem byte_infoR:∃ i,Tryz.prog.info? 5=some i∧i.zero=some (.int .u8 0)∧i.size=1∧i.bytes=1:=⟨_,rfl,rfl,rfl,rfl⟩
set_option maxRecDepth 8000 in
set_option maxHeartbeats 2000000 in
theorem CloneB_any {Q:Nat→Prop} (A:Option Addr) (l:List UInt8) (c:Nat) (w:World) (hs:FlatQ Q w A (bsV l)) (hn:l.length≤1000000) :
    Calls Tryz.prog 243 #[.slice A l.length c] w fun e w'=>∃ B d,e=.returned (.slice B l.length d)∧FlatQ (fun b=>w.heap.size≤b∧b < w'.heap.size) w' B (bsV l)∧l.length≤d∧Below w.heap.size w w':=by
  cases A with
  | none=>
    have h0:l=[]:=by
      cases l with
      | nil=>rfl
      | cons x l=>obtain⟨b,off,h,-⟩:=hs 0 _ rfl;cases h
    subst h0
    refine (CloneB_none c w).mono ?_
    rintro e w' ⟨rfl,h⟩
    exact⟨none,0,rfl,FlatQ.nil _ _ _,Nat.le_refl _,h⟩
  | some a=>
    obtain⟨i0,hi,hz0,hz1,hz2⟩:=byte_infoR
    obtain⟨n,hln⟩:∃ n,l.length=n:=⟨_,rfl⟩
    have hown:(w.alloc (.cells #[] 5)).ownsRow w.heap.size 5 1 (.slice (some ⟨w.heap.size,0,none⟩) 0 0) 0 []:=World.ownsRow_made w #[] 0 (Nat.le_refl _) (by decide) rfl
    obtain⟨v',w2,hrun,h8,h9,-⟩:=run_append_mine (P:=Tryz.prog) (w.alloc (.cells #[] 5)) 22 22 5 i0 _ 1 1 Tryz.underlying22 hi hz0 hz1 hz2 rfl (by decide) w.heap.size _ 0 [] hown (some a) n c (bsV l) (by rw [bsV_len,hln,Nat.mul_one]) (hs.lt.below (below_new w _) (fun b h=>h.2)) (bsV_one l) (by unfold maxLen;omega) (by omega) (by simp)
    rw [Nat.zero_add,List.nil_append] at h8
    have HE:Hid (∃ B d,v'=.slice B n d∧FlatQ (fun b=>w.heap.size≤b∧b < w2.heap.size) w2 B (bsV l)∧n≤d∧Below w.heap.size w w2):=by
      obtain⟨B,d,h1,hd,h2,-⟩:=flatq_own h8
      refine⟨B,d,h1,h2,hd,(below_new w _).trans ⟨h9.os,h9.tape,h9.output,h9.size,fun b hb=>h9.block b (by simp;omega) (fun e=>by simp [Value.ownBlock] at e;omega)⟩⟩
    have HR:=Lib.hid hrun
    rw [hln] at hn ⊢
    clear hs hln hown hrun h8 h9
    have EQ:∀ W:World,(binOp .eql 22 (.slice (some a) n c) (.slice none 0 0)).run Tryz.prog W=.ok (.bool false) W:=fun W=>Lib.run_eql_slice_nil W 22 5 (some a) n c 0 0 Tryz.underlying22
    go_enter Tryz.func243,Tryz.ntmps243
    go_wp2_with (at_builtin;refine wpList_append_known rfl _ _ 22 rfl _ _ _ rfl rfl HR.out ?_)
    go_ret
    obtain⟨B,d,h1,h2,h3,h4⟩:=HE.out
    exact⟨B,d,by rw [h1];rfl,h2,h3,h4⟩
theorem shpFits_any (n:Int) (w:World):Calls Tryz.prog 296 #[.int .i64 n] w fun e w'=>e=.returned (.bool (decide (1≤n) && decide (n≤8)))∧w=w':=by
  by_cases h1:1≤n
  · by_cases h2:n≤8
    · go_enter Tryz.func296,Tryz.ntmps296
      go_wp2
      go_ret
      exact⟨by simp [h1,h2],rfl⟩
    · have h2':8 < n:=by omega
      go_enter Tryz.func296,Tryz.ntmps296
      go_wp2
      go_ret
      exact⟨by simp;omega,rfl⟩
  · have h1':n < 1:=by omega
    go_enter Tryz.func296,Tryz.ntmps296
    go_wp2
    go_ret
    exact⟨by simp;omega,rfl⟩
def fldV (f:Fld):Value:=.agg #[.int .i64 f.sz,.bool f.sg,.int .i64 f.lo,.int .i64 f.hi]
theorem results_cF {fn:Func} {p:Tmp} {ty:TypeId} (h:fn.results=#[.cell p ty]) (tmps:Array Value) (P:Program) (w:World) :
    (results fn tmps).run P w=((asAddr (tmps.getD p undef)).run P w).andThen fun a w₁=>(loadVar ty a).run P w₁:=by
  simp only [results,h]
  simp [Sem.run_bind,Result.andThen]
theorem fld_load {W:World} {b:Nat} {f:Fld} (h:Blk W b (fldL f)):(loadVar 401 ⟨b,0,none⟩).run Tryz.prog W=.ok (fldV f) W:=
  run_loadVar_mid (P:=Tryz.prog) W b 0 401 (fldL f) _ h.rg Tryz.underlying401 rfl (by kernel_rfl)
theorem fld_blk2 (w:World) (C:Array Value) (C':Array Value) (t t':TypeId):Blk ((w.alloc (.cells C t)).alloc (.cells C' t')) w.heap.size C.toList∧Below w.heap.size w ((w.alloc (.cells C t)).alloc (.cells C' t')):=
  ⟨(Blk.newL (grew_alloc w C t) rfl).on (below_new _ _),bthen (below_new _ _) (below_new _ _)⟩
def FldOut (f:Fld) (w:World) (e:Ending) (w':World):Prop:=e=.returned (fldV f)∧Below w.heap.size w w'
theorem shpAny_1f (w:World):Calls Tryz.prog 250 #[.int .i64 1,.bool false] w (FldOut ⟨1,false,0,255⟩ w):=by
  have HF:=fun W=>Lib.hid (shpFits_any 1 W)
  go_enter Tryz.func250,Tryz.ntmps250
  go_wp2_with (refine (HF _).out.mono ?_;rintro e w' ⟨rfl,rfl⟩)
  have H2:=fld_blk2 w #[.int .i64 1,.bool false,.int .i64 0,.int .i64 255] #[.int .i64 1,.bool false,.int .i64 0,.int .i64 255] 401 401
  have HLD:=Lib.hid (fld_load (f:=⟨1,false,0,255⟩) H2.1)
  refine bodyPost_ret (v:=fldV ⟨1,false,0,255⟩) (by rw [results_cF rfl];simp [asAddr,Result.andThen,HLD.out]) rfl ⟨rfl,H2.2⟩
theorem shpAny_1t (w:World):Calls Tryz.prog 250 #[.int .i64 1,.bool true] w (FldOut ⟨1,true,(-128),127⟩ w):=by
  have HF:=fun W=>Lib.hid (shpFits_any 1 W)
  have hx:bits BinOp.xor IntKind.i64 (-1) 127=-128:=by decide
  go_enter Tryz.func250,Tryz.ntmps250
  go_wp2_with (refine (HF _).out.mono ?_;rintro e w' ⟨rfl,rfl⟩)
  have H2:=fld_blk2 w #[.int .i64 1,.bool true,.int .i64 (-128),.int .i64 127] #[.int .i64 1,.bool true,.int .i64 (-128),.int .i64 127] 401 401
  have HLD:=Lib.hid (fld_load (f:=⟨1,true,(-128),127⟩) H2.1)
  refine bodyPost_ret (v:=fldV ⟨1,true,(-128),127⟩) (by rw [results_cF rfl];simp [asAddr,Result.andThen,HLD.out]) rfl ⟨rfl,H2.2⟩
theorem shpAny_2f (w:World):Calls Tryz.prog 250 #[.int .i64 2,.bool false] w (FldOut ⟨2,false,0,65535⟩ w):=by
  have HF:=fun W=>Lib.hid (shpFits_any 2 W)
  go_enter Tryz.func250,Tryz.ntmps250
  go_wp2_with (refine (HF _).out.mono ?_;rintro e w' ⟨rfl,rfl⟩)
  have H2:=fld_blk2 w #[.int .i64 2,.bool false,.int .i64 0,.int .i64 65535] #[.int .i64 2,.bool false,.int .i64 0,.int .i64 65535] 401 401
  have HLD:=Lib.hid (fld_load (f:=⟨2,false,0,65535⟩) H2.1)
  refine bodyPost_ret (v:=fldV ⟨2,false,0,65535⟩) (by rw [results_cF rfl];simp [asAddr,Result.andThen,HLD.out]) rfl ⟨rfl,H2.2⟩
theorem shpAny_2t (w:World):Calls Tryz.prog 250 #[.int .i64 2,.bool true] w (FldOut ⟨2,true,(-32768),32767⟩ w):=by
  have HF:=fun W=>Lib.hid (shpFits_any 2 W)
  have hx:bits BinOp.xor IntKind.i64 (-1) 32767=-32768:=by decide
  go_enter Tryz.func250,Tryz.ntmps250
  go_wp2_with (refine (HF _).out.mono ?_;rintro e w' ⟨rfl,rfl⟩)
  have H2:=fld_blk2 w #[.int .i64 2,.bool true,.int .i64 (-32768),.int .i64 32767] #[.int .i64 2,.bool true,.int .i64 (-32768),.int .i64 32767] 401 401
  have HLD:=Lib.hid (fld_load (f:=⟨2,true,(-32768),32767⟩) H2.1)
  refine bodyPost_ret (v:=fldV ⟨2,true,(-32768),32767⟩) (by rw [results_cF rfl];simp [asAddr,Result.andThen,HLD.out]) rfl ⟨rfl,H2.2⟩
theorem shpAny_3f (w:World):Calls Tryz.prog 250 #[.int .i64 3,.bool false] w (FldOut ⟨3,false,0,16777215⟩ w):=by
  have HF:=fun W=>Lib.hid (shpFits_any 3 W)
  go_enter Tryz.func250,Tryz.ntmps250
  go_wp2_with (refine (HF _).out.mono ?_;rintro e w' ⟨rfl,rfl⟩)
  have H2:=fld_blk2 w #[.int .i64 3,.bool false,.int .i64 0,.int .i64 16777215] #[.int .i64 3,.bool false,.int .i64 0,.int .i64 16777215] 401 401
  have HLD:=Lib.hid (fld_load (f:=⟨3,false,0,16777215⟩) H2.1)
  refine bodyPost_ret (v:=fldV ⟨3,false,0,16777215⟩) (by rw [results_cF rfl];simp [asAddr,Result.andThen,HLD.out]) rfl ⟨rfl,H2.2⟩
theorem shpAny_3t (w:World):Calls Tryz.prog 250 #[.int .i64 3,.bool true] w (FldOut ⟨3,true,(-8388608),8388607⟩ w):=by
  have HF:=fun W=>Lib.hid (shpFits_any 3 W)
  have hx:bits BinOp.xor IntKind.i64 (-1) 8388607=-8388608:=by decide
  go_enter Tryz.func250,Tryz.ntmps250
  go_wp2_with (refine (HF _).out.mono ?_;rintro e w' ⟨rfl,rfl⟩)
  have H2:=fld_blk2 w #[.int .i64 3,.bool true,.int .i64 (-8388608),.int .i64 8388607] #[.int .i64 3,.bool true,.int .i64 (-8388608),.int .i64 8388607] 401 401
  have HLD:=Lib.hid (fld_load (f:=⟨3,true,(-8388608),8388607⟩) H2.1)
  refine bodyPost_ret (v:=fldV ⟨3,true,(-8388608),8388607⟩) (by rw [results_cF rfl];simp [asAddr,Result.andThen,HLD.out]) rfl ⟨rfl,H2.2⟩
theorem shpAny_4f (w:World):Calls Tryz.prog 250 #[.int .i64 4,.bool false] w (FldOut ⟨4,false,0,4294967295⟩ w):=by
  have HF:=fun W=>Lib.hid (shpFits_any 4 W)
  go_enter Tryz.func250,Tryz.ntmps250
  go_wp2_with (refine (HF _).out.mono ?_;rintro e w' ⟨rfl,rfl⟩)
  have H2:=fld_blk2 w #[.int .i64 4,.bool false,.int .i64 0,.int .i64 4294967295] #[.int .i64 4,.bool false,.int .i64 0,.int .i64 4294967295] 401 401
  have HLD:=Lib.hid (fld_load (f:=⟨4,false,0,4294967295⟩) H2.1)
  refine bodyPost_ret (v:=fldV ⟨4,false,0,4294967295⟩) (by rw [results_cF rfl];simp [asAddr,Result.andThen,HLD.out]) rfl ⟨rfl,H2.2⟩
theorem shpAny_4t (w:World):Calls Tryz.prog 250 #[.int .i64 4,.bool true] w (FldOut ⟨4,true,(-2147483648),2147483647⟩ w):=by
  have HF:=fun W=>Lib.hid (shpFits_any 4 W)
  have hx:bits BinOp.xor IntKind.i64 (-1) 2147483647=-2147483648:=by decide
  go_enter Tryz.func250,Tryz.ntmps250
  go_wp2_with (refine (HF _).out.mono ?_;rintro e w' ⟨rfl,rfl⟩)
  have H2:=fld_blk2 w #[.int .i64 4,.bool true,.int .i64 (-2147483648),.int .i64 2147483647] #[.int .i64 4,.bool true,.int .i64 (-2147483648),.int .i64 2147483647] 401 401
  have HLD:=Lib.hid (fld_load (f:=⟨4,true,(-2147483648),2147483647⟩) H2.1)
  refine bodyPost_ret (v:=fldV ⟨4,true,(-2147483648),2147483647⟩) (by rw [results_cF rfl];simp [asAddr,Result.andThen,HLD.out]) rfl ⟨rfl,H2.2⟩
theorem shpAny_5f (w:World):Calls Tryz.prog 250 #[.int .i64 5,.bool false] w (FldOut ⟨5,false,0,1099511627775⟩ w):=by
  have HF:=fun W=>Lib.hid (shpFits_any 5 W)
  go_enter Tryz.func250,Tryz.ntmps250
  go_wp2_with (refine (HF _).out.mono ?_;rintro e w' ⟨rfl,rfl⟩)
  have H2:=fld_blk2 w #[.int .i64 5,.bool false,.int .i64 0,.int .i64 1099511627775] #[.int .i64 5,.bool false,.int .i64 0,.int .i64 1099511627775] 401 401
  have HLD:=Lib.hid (fld_load (f:=⟨5,false,0,1099511627775⟩) H2.1)
  refine bodyPost_ret (v:=fldV ⟨5,false,0,1099511627775⟩) (by rw [results_cF rfl];simp [asAddr,Result.andThen,HLD.out]) rfl ⟨rfl,H2.2⟩
theorem shpAny_5t (w:World):Calls Tryz.prog 250 #[.int .i64 5,.bool true] w (FldOut ⟨5,true,(-549755813888),549755813887⟩ w):=by
  have HF:=fun W=>Lib.hid (shpFits_any 5 W)
  have hx:bits BinOp.xor IntKind.i64 (-1) 549755813887=-549755813888:=by decide
  go_enter Tryz.func250,Tryz.ntmps250
  go_wp2_with (refine (HF _).out.mono ?_;rintro e w' ⟨rfl,rfl⟩)
  have H2:=fld_blk2 w #[.int .i64 5,.bool true,.int .i64 (-549755813888),.int .i64 549755813887] #[.int .i64 5,.bool true,.int .i64 (-549755813888),.int .i64 549755813887] 401 401
  have HLD:=Lib.hid (fld_load (f:=⟨5,true,(-549755813888),549755813887⟩) H2.1)
  refine bodyPost_ret (v:=fldV ⟨5,true,(-549755813888),549755813887⟩) (by rw [results_cF rfl];simp [asAddr,Result.andThen,HLD.out]) rfl ⟨rfl,H2.2⟩
theorem shpAny_6f (w:World):Calls Tryz.prog 250 #[.int .i64 6,.bool false] w (FldOut ⟨6,false,0,281474976710655⟩ w):=by
  have HF:=fun W=>Lib.hid (shpFits_any 6 W)
  go_enter Tryz.func250,Tryz.ntmps250
  go_wp2_with (refine (HF _).out.mono ?_;rintro e w' ⟨rfl,rfl⟩)
  have H2:=fld_blk2 w #[.int .i64 6,.bool false,.int .i64 0,.int .i64 281474976710655] #[.int .i64 6,.bool false,.int .i64 0,.int .i64 281474976710655] 401 401
  have HLD:=Lib.hid (fld_load (f:=⟨6,false,0,281474976710655⟩) H2.1)
  refine bodyPost_ret (v:=fldV ⟨6,false,0,281474976710655⟩) (by rw [results_cF rfl];simp [asAddr,Result.andThen,HLD.out]) rfl ⟨rfl,H2.2⟩
theorem shpAny_6t (w:World):Calls Tryz.prog 250 #[.int .i64 6,.bool true] w (FldOut ⟨6,true,(-140737488355328),140737488355327⟩ w):=by
  have HF:=fun W=>Lib.hid (shpFits_any 6 W)
  have hx:bits BinOp.xor IntKind.i64 (-1) 140737488355327=-140737488355328:=by decide
  go_enter Tryz.func250,Tryz.ntmps250
  go_wp2_with (refine (HF _).out.mono ?_;rintro e w' ⟨rfl,rfl⟩)
  have H2:=fld_blk2 w #[.int .i64 6,.bool true,.int .i64 (-140737488355328),.int .i64 140737488355327] #[.int .i64 6,.bool true,.int .i64 (-140737488355328),.int .i64 140737488355327] 401 401
  have HLD:=Lib.hid (fld_load (f:=⟨6,true,(-140737488355328),140737488355327⟩) H2.1)
  refine bodyPost_ret (v:=fldV ⟨6,true,(-140737488355328),140737488355327⟩) (by rw [results_cF rfl];simp [asAddr,Result.andThen,HLD.out]) rfl ⟨rfl,H2.2⟩
theorem shpAny_7f (w:World):Calls Tryz.prog 250 #[.int .i64 7,.bool false] w (FldOut ⟨7,false,0,72057594037927935⟩ w):=by
  have HF:=fun W=>Lib.hid (shpFits_any 7 W)
  go_enter Tryz.func250,Tryz.ntmps250
  go_wp2_with (refine (HF _).out.mono ?_;rintro e w' ⟨rfl,rfl⟩)
  have H2:=fld_blk2 w #[.int .i64 7,.bool false,.int .i64 0,.int .i64 72057594037927935] #[.int .i64 7,.bool false,.int .i64 0,.int .i64 72057594037927935] 401 401
  have HLD:=Lib.hid (fld_load (f:=⟨7,false,0,72057594037927935⟩) H2.1)
  refine bodyPost_ret (v:=fldV ⟨7,false,0,72057594037927935⟩) (by rw [results_cF rfl];simp [asAddr,Result.andThen,HLD.out]) rfl ⟨rfl,H2.2⟩
theorem shpAny_7t (w:World):Calls Tryz.prog 250 #[.int .i64 7,.bool true] w (FldOut ⟨7,true,(-36028797018963968),36028797018963967⟩ w):=by
  have HF:=fun W=>Lib.hid (shpFits_any 7 W)
  have hx:bits BinOp.xor IntKind.i64 (-1) 36028797018963967=-36028797018963968:=by decide
  go_enter Tryz.func250,Tryz.ntmps250
  go_wp2_with (refine (HF _).out.mono ?_;rintro e w' ⟨rfl,rfl⟩)
  have H2:=fld_blk2 w #[.int .i64 7,.bool true,.int .i64 (-36028797018963968),.int .i64 36028797018963967] #[.int .i64 7,.bool true,.int .i64 (-36028797018963968),.int .i64 36028797018963967] 401 401
  have HLD:=Lib.hid (fld_load (f:=⟨7,true,(-36028797018963968),36028797018963967⟩) H2.1)
  refine bodyPost_ret (v:=fldV ⟨7,true,(-36028797018963968),36028797018963967⟩) (by rw [results_cF rfl];simp [asAddr,Result.andThen,HLD.out]) rfl ⟨rfl,H2.2⟩
theorem shpAny_8f (w:World):Calls Tryz.prog 250 #[.int .i64 8,.bool false] w (FldOut ⟨8,false,0,9223372036854775807⟩ w):=by
  have HF:=fun W=>Lib.hid (shpFits_any 8 W)
  go_enter Tryz.func250,Tryz.ntmps250
  go_wp2_with (refine (HF _).out.mono ?_;rintro e w' ⟨rfl,rfl⟩)
  have H2:=fld_blk2 w #[.int .i64 8,.bool false,.int .i64 0,.int .i64 9223372036854775807] #[.int .i64 8,.bool false,.int .i64 0,.int .i64 9223372036854775807] 401 401
  have HLD:=Lib.hid (fld_load (f:=⟨8,false,0,9223372036854775807⟩) H2.1)
  refine bodyPost_ret (v:=fldV ⟨8,false,0,9223372036854775807⟩) (by rw [results_cF rfl];simp [asAddr,Result.andThen,HLD.out]) rfl ⟨rfl,H2.2⟩
theorem shpAny_8t (w:World):Calls Tryz.prog 250 #[.int .i64 8,.bool true] w (FldOut ⟨8,true,(-9223372036854775808),9223372036854775807⟩ w):=by
  have HF:=fun W=>Lib.hid (shpFits_any 8 W)
  have hx:bits BinOp.xor IntKind.i64 (-1) 9223372036854775807=-9223372036854775808:=by decide
  go_enter Tryz.func250,Tryz.ntmps250
  go_wp2_with (refine (HF _).out.mono ?_;rintro e w' ⟨rfl,rfl⟩)
  have H2:=fld_blk2 w #[.int .i64 8,.bool true,.int .i64 (-9223372036854775808),.int .i64 9223372036854775807] #[.int .i64 8,.bool true,.int .i64 (-9223372036854775808),.int .i64 9223372036854775807] 401 401
  have HLD:=Lib.hid (fld_load (f:=⟨8,true,(-9223372036854775808),9223372036854775807⟩) H2.1)
  refine bodyPost_ret (v:=fldV ⟨8,true,(-9223372036854775808),9223372036854775807⟩) (by rw [results_cF rfl];simp [asAddr,Result.andThen,HLD.out]) rfl ⟨rfl,H2.2⟩
theorem shpAny_any (n:Nat) (s:Bool) (w:World) (h1:1≤n) (h8:n≤8):Calls Tryz.prog 250 #[.int .i64 n,.bool s] w (FldOut (anyF n s) w):=by
  have:n=1∨n=2∨n=3∨n=4∨n=5∨n=6∨n=7∨n=8:=by omega
  rcases this with rfl | rfl | rfl | rfl | rfl | rfl | rfl | rfl <;> cases s
  · exact shpAny_1f w
  · exact shpAny_1t w
  · exact shpAny_2f w
  · exact shpAny_2t w
  · exact shpAny_3f w
  · exact shpAny_3t w
  · exact shpAny_4f w
  · exact shpAny_4t w
  · exact shpAny_5f w
  · exact shpAny_5t w
  · exact shpAny_6f w
  · exact shpAny_6t w
  · exact shpAny_7f w
  · exact shpAny_7t w
  · exact shpAny_8f w
  · exact shpAny_8t w
theorem shpIn_any (f:Fld) (n:Int) (w:World):Calls Tryz.prog 248 #[fldV f,.int .i64 n] w fun e w'=>e=.returned (.bool (decide (f.lo≤n∧n≤f.hi)))∧Below w.heap.size w w':=by
  obtain⟨z,s,lo,hi⟩:=f
  unfold fldV
  dsimp only
  by_cases h1:lo≤n
  · by_cases h2:n≤hi
    · go_enter Tryz.func248,Tryz.ntmps248
      go_wp2
      go_ret
      exact⟨by simp [h1,h2],below_new _ _⟩
    · have h2':hi < n:=by omega
      go_enter Tryz.func248,Tryz.ntmps248
      go_wp2
      go_ret
      exact⟨by simp [h2],below_new _ _⟩
  · have h1':n < lo:=by omega
    go_enter Tryz.func248,Tryz.ntmps248
    go_wp2
    go_ret
    exact⟨by simp;omega,below_new _ _⟩
theorem shpRight_yes (f:Fld) (h:rightF f=true) (w:World):Calls Tryz.prog 292 #[fldV f] w fun e w'=>e=.returned (.bool true)∧Below w.heap.size w w':=by
  have h':1≤f.sz∧f.sz≤8∧f.lo≤f.hi∧(minF f.sz f.sg≤f.lo∧f.lo≤maxF f.sz f.sg)∧minF f.sz f.sg≤f.hi∧f.hi≤maxF f.sz f.sg:=by simp [rightF] at h;omega
  have HA:=fun W=>Lib.hid (shpAny_any f.sz f.sg W h'.1 h'.2.1)
  have HF:∀ W,Hid (Calls Tryz.prog 296 #[.int .i64 f.sz] W fun e w'=>e=.returned (.bool true)∧W=w'):=fun W=>Lib.hid (by
    have:=shpFits_any (f.sz:Int) W
    rwa [show (decide (1≤(f.sz:Int)) && decide ((f.sz:Int)≤8))=true from by simp;omega] at this)
  have HL:∀ W,Hid (Calls Tryz.prog 248 #[fldV (anyF f.sz f.sg),.int .i64 f.lo] W fun e w'=>e=.returned (.bool true)∧Below W.heap.size W w'):=fun W=>Lib.hid (by
    have:=shpIn_any (anyF f.sz f.sg) f.lo W
    rwa [decide_eq_true (show (anyF f.sz f.sg).lo≤f.lo∧f.lo≤(anyF f.sz f.sg).hi from h'.2.2.2.1)] at this)
  have HH:∀ W,Hid (Calls Tryz.prog 248 #[fldV (anyF f.sz f.sg),.int .i64 f.hi] W fun e w'=>e=.returned (.bool true)∧Below W.heap.size W w'):=fun W=>Lib.hid (by
    have:=shpIn_any (anyF f.sz f.sg) f.hi W
    rwa [decide_eq_true (show (anyF f.sz f.sg).lo≤f.hi∧f.hi≤(anyF f.sz f.sg).hi from h'.2.2.2.2)] at this)
  have h3:=h'.2.2.1
  unfold FldOut at HA
  generalize anyF f.sz f.sg=g at *
  obtain⟨z,s,lo,hi⟩:=f
  obtain⟨z',s',lo',hi'⟩:=g
  unfold fldV at *
  dsimp only at *
  clear h h'
  go_enter Tryz.func292,Tryz.ntmps292
  go_wp2_with fail
  refine (HA _).out.mono ?_
  rintro e w1 ⟨rfl,hb⟩
  have HK:Hid (Blk w1 w.heap.size (fldL ⟨z,s,lo,hi⟩)):=Lib.hid ((Blk.newL (grew_alloc w _ _) rfl).on hb)
  have HB:Hid (Below w.heap.size w w1):=Lib.hid (bthen (below_new _ _) hb)
  have a0:=HK.out.cell 0 (v:=.int .i64 z) rfl
  have a2:=HK.out.cell 2 (v:=.int .i64 lo) rfl
  have a3:=HK.out.cell 3 (v:=.int .i64 hi) rfl
  have hlt:=HK.out.lt
  clear hb
  go_wp2_with fail
  refine ((HF _).out).mono ?_
  rintro e w2 ⟨rfl,rfl⟩
  go_wp2_with fail
  refine ((HL _).out).mono ?_
  rintro e w2 ⟨rfl,hb⟩
  have HK2:Hid (Blk w2 w.heap.size (fldL ⟨z,s,lo,hi⟩)):=Lib.hid ((HK.out.on (below_new _ _)).on hb)
  have HG2:Hid (Blk w2 w1.heap.size (fldL ⟨z',s',lo',hi'⟩)):=Lib.hid ((Blk.newL (grew_alloc w1 _ _) rfl).on hb)
  have HB2:Hid (Below w.heap.size w w2):=Lib.hid (bthen (bthen HB.out (below_new _ _)) hb)
  have a3':=HK2.out.cell 3 (v:=.int .i64 hi) rfl
  have g0:=HG2.out.cell 0 (v:=.int .i64 z') rfl
  have g1:=HG2.out.cell 1 (v:=.bool s') rfl
  have g2:=HG2.out.cell 2 (v:=.int .i64 lo') rfl
  have g3:=HG2.out.cell 3 (v:=.int .i64 hi') rfl
  clear hb a0 a2 a3
  go_wp2_with fail
  refine ((HH _).out).mono ?_
  rintro e w3 ⟨rfl,hb⟩
  have HB3:=Lib.hid (bthen HB2.out hb)
  clear hb
  go_wp2_with fail
  go_ret
  exact⟨rfl,HB3.out⟩
def FldsI (w:World) (A:Option Addr) (l:List Fld):Prop:=FlatQ (fun b=>b < w.heap.size) w A (fldsV l)
theorem FldsI.on {w w':World} {A:Option Addr} {l:List Fld} (h:FldsI w A l) (hb:Below w.heap.size w w'):FldsI w' A l:=(FlatQ.below h hb fun _ q=>q).less fun b q=>Nat.lt_of_lt_of_le q hb.size
theorem FldsI.cells {w:World} {A:Option Addr} {l:List Fld} (h:FldsI w A l) (k:Nat) (hk:k < l.length):∃ b off,A=some ⟨b,off,none⟩∧b < w.heap.size∧w.cell? ⟨b,off+k * 4,none⟩=some (.int .i64 (l[k].sz:Int))∧w.cell? ⟨b,off+k * 4+1,none⟩=some (.bool l[k].sg)∧w.cell? ⟨b,off+k * 4+2,none⟩=some (.int .i64 l[k].lo)∧w.cell? ⟨b,off+k * 4+3,none⟩=some (.int .i64 l[k].hi):=by
  have e:=fun j hj=>flat4_get fldL 4 (fun _=>rfl) l k hk j hj
  obtain⟨b,off,hA,hb,h0⟩:=h _ _ (e 0 (by omega))
  refine⟨b,off,hA,hb,h0,?_,?_,?_⟩
  · obtain⟨b',off',hA',-,h1⟩:=h _ _ (e 1 (by omega))
    rw [hA] at hA';injection hA' with hA';injection hA' with q1 q2;subst q1 q2
    exact h1
  · obtain⟨b',off',hA',-,h1⟩:=h _ _ (e 2 (by omega))
    rw [hA] at hA';injection hA' with hA';injection hA' with q1 q2;subst q1 q2
    exact h1
  · obtain⟨b',off',hA',-,h1⟩:=h _ _ (e 3 (by omega))
    rw [hA] at hA';injection hA' with hA';injection hA' with q1 q2;subst q1 q2
    exact h1
theorem shpRights_yes (A:Option Addr) (c:Nat) (l:List Fld) (w:World) (h:FldsI w A l) (hr:l.all rightF=true) (hn:l.length≤1000000) :
    Calls Tryz.prog 247 #[.slice A l.length c] w fun e w'=>e=.returned (.bool true)∧Below w.heap.size w w':=by
  have HI:=Lib.hid h
  have HR:=Lib.hid hr
  generalize hL:l.length=n at *
  have HL:=Lib.hid hL
  clear h hr hL
  go_enter Tryz.func247,Tryz.ntmps247
  go_wp2_with fail
  go_loopg [7] n (fun g s7 wr=>∃ k:Nat,k≤n∧n - k≤g∧s7=.int .i64 k∧Hid (Below w.heap.size w wr))
  case atStart=>exact⟨0,Nat.zero_le _,by omega,rfl,Below.refl _ _⟩
  case round=>
    obtain⟨k,hk,hg,rfl,HB⟩:=hrel
    by_cases hlt:k < n
    · have hkl:k < l.length:=by rw [HL.out];exact hlt
      have HY:=fun W=>Lib.hid (shpRight_yes l[k] (List.all_eq_true.1 HR.out _ (List.getElem_mem hkl)) W)
      obtain⟨b,off,rfl,-,x0,x1,x2,x3⟩:=(HI.out.on HB.out).cells k hkl
      generalize l[k]=f at *
      obtain⟨z,s,lo,hi⟩:=f
      unfold fldV at HY
      dsimp only at *
      have i1:(k:Int) < n:=by omega
      have i2:(0:Int)≤(k:Int):=Int.natCast_nonneg _
      go_wp2_with fail
      refine ((HY _).out).mono ?_
      rintro e w2 ⟨rfl,hb⟩
      have HB2:Hid (Below w.heap.size w w2):=Lib.hid (bthen (bthen HB.out (below_new _ _)) hb)
      clear hb x0 x1 x2 x3
      go_wp2_with fail
      go_roundg (n - (k+1))
      case measure=>omega
      case rel=>exact⟨k+1,by omega,by omega,by go_num,HB2⟩
    · obtain rfl:k=n:=by omega
      go_wp2_with fail
      go_ret
      exact⟨rfl,HB.out⟩
theorem widF_take (l:List Fld) (k:Nat) (h:k < l.length):widF (l.take (k+1))=widF (l.take k)+l[k].sz:=by
  rw [List.take_succ_eq_append_getElem h]
  unfold widF
  rw [List.map_append,List.sum_append]
  simp only [List.map_cons,List.map_nil,List.sum_cons,List.sum_nil,Nat.add_zero]
theorem widF_le (l:List Fld) (hr:l.all rightF=true):widF l≤8 * l.length:=by
  induction l with
  | nil=>simp [widF]
  | cons f l ih=>
    rw [List.all_cons,Bool.and_eq_true] at hr
    have h1:=ih hr.2
    have h2:f.sz≤8:=by have:=hr.1;simp [rightF] at this;omega
    simp only [widF,List.map_cons,List.sum_cons,List.length_cons] at *
    omega
def crcBit (c:Nat):Nat:=(c / 2) ^^^ (if c % 2=1 then 33800 else 0)
def crcN:Nat→Nat→Nat
  | 0,c=>c
  | k+1,c=>crcBit (crcN k c)
def crcStep (c b:Nat):Nat:=crcN 8 (c ^^^ b)
def four16:List Nat:=[0,4225,8450,12675,16900,21125,25350,29575,33800,38025,42250,46475,50700,54925,59150,63375]
def crcFour (c:Nat):Nat:=(c / 16) ^^^ four16.getD (c % 16) 0
def crcByte (c:Nat) (x:UInt8):Nat:=crcFour (crcFour (c ^^^ x.toNat))
def crcMore (c:Nat) (l:List UInt8):Nat:=l.foldl crcByte c
theorem xor_lt16 {a b:Nat} (ha:a < 65536) (hb:b < 65536):a ^^^ b < 65536:=Nat.xor_lt_two_pow (n:=16) ha hb
theorem crcBit_lt {c:Nat} (h:c < 65536):crcBit c < 65536:=by
  unfold crcBit
  refine xor_lt16 (by omega) ?_
  split <;> omega
theorem crcN_lt {c:Nat} (h:c < 65536):∀ k,crcN k c < 65536
  | 0=>h
  | k+1=>crcBit_lt (crcN_lt h k)
theorem four16_lt (i:Nat):four16.getD i 0 < 65536:=by
  rcases Nat.lt_or_ge i 16 with h | h
  · have:∀ j:Fin 16,four16.getD j 0 < 65536:=by decide
    exact this ⟨i,h⟩
  · rw [List.getD_eq_getElem?_getD,List.getElem?_eq_none (by simpa [four16] using h)];decide
theorem crcFour_lt {c:Nat} (h:c < 65536):crcFour c < 65536:=xor_lt16 (by omega) (four16_lt _)
theorem crcByte_lt {c:Nat} (h:c < 65536) (x:UInt8):crcByte c x < 65536:=crcFour_lt (crcFour_lt (xor_lt16 h (by have:=x.toNat_lt;omega)))
theorem crcMore_lt:∀ (l:List UInt8) {c:Nat},c < 65536→crcMore c l < 65536
  | [],c,h=>h
  | x :: l,c,h=>crcMore_lt l (crcByte_lt h x)
theorem crcStep_lt {c b:Nat} (hc:c < 65536) (hb:b < 65536):crcStep c b < 65536:=crcN_lt (xor_lt16 hc hb) 8
theorem crcMore_snoc (c:Nat) (l:List UInt8) (x:UInt8):crcMore c (l++[x])=crcByte (crcMore c l) x:=by simp [crcMore]
set_option maxHeartbeats 400000 in
theorem crcStep_any (c b:Nat) (w:World) (hc:c < 65536) (hb:b < 256):Calls Tryz.prog 237 #[.int .u16 c,.int .u8 b] w fun e w'=>e=.returned (.int .u16 (crcStep c b:Int))∧w=w':=by
  have f1:bits BinOp.xor IntKind.u16 (c:Int) (b:Int)=((c ^^^ b:Nat):Int):=u16_xor_nat c b hc (by omega)
  have hx:=xor_lt16 hc (show b < 65536 by omega)
  have f2:IntKind.u16.wrap (b:Int)=(b:Int):=IntWalk.u16_in _ (by omega)
  unfold crcStep
  generalize c ^^^ b=d at *
  go_enter Tryz.func237,Tryz.ntmps237
  go_wp2_with fail
  go_loopg [0,9] 8 (fun g s0 s9 wr=>∃ k:Nat,k≤8∧8 - k≤g∧s9=.int .i64 k∧s0=.int .u16 (crcN k d:Int)∧wr=w)
  case atStart=>exact⟨0,Nat.zero_le _,by omega,rfl,rfl,rfl⟩
  case round=>
    obtain⟨k,hk,hg,rfl,rfl,rfl⟩:=hrel
    by_cases hlt:k < 8
    · have hl:=crcN_lt hx k
      have HE:=Lib.hid (show crcN (k+1) d=crcBit (crcN k d) from rfl)
      generalize crcN k d=e at *
      have i1:(k:Int) < 8:=by omega
      obtain⟨h,hh⟩:∃ h,e / 2=h:=⟨_,rfl⟩
      have f3:(e:Int) / 2=(h:Int):=by omega
      by_cases ho:e % 2=1
      · have f4:bits BinOp.and IntKind.u16 (e:Int) 1=1:=by
          have:=u16_and_nat e 1 (by omega) (by decide)
          rw [show ((1:Nat):Int)=1 from rfl,nat_mask1] at this
          rw [this];omega
        have f5:bits BinOp.and IntKind.u16 (IntKind.u16.wrap (-1)) 33800=33800:=by decide
        have f6:bits BinOp.xor IntKind.u16 (h:Int) 33800=(crcBit e:Int):=by
          have:=u16_xor_nat h 33800 (by omega) (by decide)
          rw [show ((33800:Nat):Int)=33800 from rfl] at this
          rw [this];unfold crcBit;rw [if_pos ho,hh]
        clear hh ho
        generalize crcBit e=e' at *
        go_wp2_with fail
        go_roundg (8 - (k+1))
        case measure=>omega
        case rel=>exact⟨k+1,by omega,by omega,by go_num,by rw [HE.out],rfl⟩
      · have f4:bits BinOp.and IntKind.u16 (e:Int) 1=0:=by
          have:=u16_and_nat e 1 (by omega) (by decide)
          rw [show ((1:Nat):Int)=1 from rfl,nat_mask1] at this
          rw [this];omega
        have f5:bits BinOp.and IntKind.u16 0 33800=0:=by decide
        have f6:bits BinOp.xor IntKind.u16 (h:Int) 0=(crcBit e:Int):=by
          have:=u16_xor_nat h 0 (by omega) (by decide)
          rw [show ((0:Nat):Int)=0 from rfl] at this
          rw [this];unfold crcBit;rw [if_neg ho,hh]
        clear hh ho
        generalize crcBit e=e' at *
        go_wp2_with fail
        go_roundg (8 - (k+1))
        case measure=>omega
        case rel=>exact⟨k+1,by omega,by omega,by go_num,by rw [HE.out],rfl⟩
    · obtain rfl:k=8:=by omega
      obtain⟨e,he⟩:∃ e,crcN 8 d=e:=⟨_,rfl⟩
      have HE:=Lib.hid he
      rw [he]
      clear he
      go_wp2_with fail
      go_ret
      exact⟨by rw [HE.out];rfl,rfl⟩
set_option maxHeartbeats 400000 in
theorem crcFour_any (c:Nat) (w:World) (hc:c < 65536):Calls Tryz.prog 327 #[.int .u16 c] w fun e w'=>e=.returned (.int .u16 (crcFour c:Int))∧Below w.heap.size w w':=by
  obtain⟨h,hh⟩:∃ h,c / 16=h:=⟨_,rfl⟩
  have f3:(c:Int) / 16=(h:Int):=by omega
  obtain⟨i,hi⟩:∃ i,c % 16=i:=⟨_,rfl⟩
  have f4:bits BinOp.and IntKind.u16 (c:Int) 15=(i:Int):=by
    have:=u16_and_nat c 15 hc (by decide)
    rw [show ((15:Nat):Int)=15 from rfl,nat_mask4] at this
    rw [this,hi]
  have f5:bits BinOp.xor IntKind.u16 (h:Int) ((four16.getD i 0:Nat):Int)=(crcFour c:Int):=by
    rw [u16_xor_nat h _ (by omega) (four16_lt _)];unfold crcFour;rw [hh,hi]
  have HK:Hid (Blk (w.alloc (.cells (four16.map fun n:Nat=>Value.int .u16 (n:Int)).toArray 538)) w.heap.size (four16.map fun n:Nat=>Value.int .u16 (n:Int))):=Lib.hid (Blk.newL (grew_alloc w _ _) rfl)
  have c0:(w.alloc (.cells (four16.map fun n:Nat=>Value.int .u16 (n:Int)).toArray 538)).cell? ⟨w.heap.size,i,none⟩=some (.int .u16 ((four16.getD i 0:Nat):Int)):=HK.out.cell i (by
    rw [List.getElem?_map,List.getElem?_eq_getElem (show i < four16.length by simp [four16];omega),List.getD_eq_getElem?_getD,List.getElem?_eq_getElem (show i < four16.length by simp [four16];omega)];rfl)
  have g1:(i:Int) < 16:=by omega
  have g2:(0:Int)≤(i:Int):=Int.natCast_nonneg _
  generalize crcFour c=r at *
  generalize four16.getD i 0=y at *
  change (w.alloc (.cells #[.int .u16 0,.int .u16 4225,.int .u16 8450,.int .u16 12675,.int .u16 16900,.int .u16 21125,.int .u16 25350,.int .u16 29575,.int .u16 33800,.int .u16 38025,.int .u16 42250,.int .u16 46475,.int .u16 50700,.int .u16 54925,.int .u16 59150,.int .u16 63375] 538)).cell? ⟨w.heap.size,i,none⟩=some (.int .u16 (y:Int)) at c0
  clear HK hh hi
  go_enter Tryz.func327,Tryz.ntmps327
  go_upto_region 2 with fail
  have HB:Hid (Below w.heap.size w (w.alloc (.cells #[.int .u16 0,.int .u16 4225,.int .u16 8450,.int .u16 12675,.int .u16 16900,.int .u16 21125,.int .u16 25350,.int .u16 29575,.int .u16 33800,.int .u16 38025,.int .u16 42250,.int .u16 46475,.int .u16 50700,.int .u16 54925,.int .u16 59150,.int .u16 63375] 538))):=Lib.hid (below_new _ _)
  generalize w.alloc (.cells #[.int .u16 0,.int .u16 4225,.int .u16 8450,.int .u16 12675,.int .u16 16900,.int .u16 21125,.int .u16 25350,.int .u16 29575,.int .u16 33800,.int .u16 38025,.int .u16 42250,.int .u16 46475,.int .u16 50700,.int .u16 54925,.int .u16 59150,.int .u16 63375] 538)=W1 at *
  go_wp2_with fail
  go_ret
  exact⟨rfl,HB.out⟩
set_option maxHeartbeats 400000 in
theorem crcMore_any {Q:Nat→Prop} {w:World} (s:Nat) (A:Option Addr) (l:List UInt8) (c:Nat) (h:FlatQ Q w A (bsV l)) (hs:s < 65536) (hm:l.length≤1000000) :
    Calls Tryz.prog 282 #[.int .u16 s,.slice A l.length c] w fun e w'=>e=.returned (.int .u16 (crcMore s l:Int))∧Below w.heap.size w w':=by
  replace h:=h.lt
  have HI:=Lib.hid h
  have HE:Hid (crcMore s (l.take l.length)=crcMore s l):=Lib.hid (by rw [List.take_length])
  generalize hL:l.length=n at *
  have HL:=Lib.hid hL
  have HS:=Lib.hid hs
  clear hL h hs
  go_enter Tryz.func282,Tryz.ntmps282
  go_wp2_with fail
  go_loopg [0,9] n (fun g s0 s9 wr=>∃ k:Nat,k≤n∧n - k≤g∧s9=.int .i64 k∧s0=.int .u16 (crcMore s (l.take k):Int)∧Hid (Below w.heap.size w wr))
  case atStart=>exact⟨0,Nat.zero_le _,by omega,rfl,rfl,Below.refl _ _⟩
  case round=>
    obtain⟨k,hk,hg,rfl,rfl,HB⟩:=hrel
    by_cases hlt:k < n
    · have hkl:k < l.length:=by rw [HL.out];exact hlt
      obtain⟨b',o',rfl,hq,hc⟩:=HI.out k (bV (l[k]'hkl)) (bsV_get hkl)
      have HSN:Hid (crcMore s (l.take (k+1))=crcByte (crcMore s (l.take k)) l[k]):=Lib.hid (by rw [List.take_succ_eq_append_getElem hkl,crcMore_snoc])
      have hml:=crcMore_lt (l.take k) HS.out
      generalize crcMore s (l.take k)=m at *
      have hc':wr.cell? ⟨b',o'+k,none⟩=some (bV l[k]):=(HB.out.cell (p:=⟨b',o'+k,none⟩) hq.2).trans hc
      unfold bV at hc'
      clear hc
      generalize l[k]=x at *
      have hx:=x.toNat_lt
      have f1:bits BinOp.xor IntKind.u16 (m:Int) (x.toNat:Int)=((m ^^^ x.toNat:Nat):Int):=u16_xor_nat m _ hml (by omega)
      have f2:IntKind.u16.wrap (x.toNat:Int)=(x.toNat:Int):=IntWalk.u16_in _ (by omega)
      have hd:=xor_lt16 hml (show x.toNat < 65536 by omega)
      have HF:=fun e W (q:e < 65536)=>Lib.hid (crcFour_any e W q)
      have HY:=Lib.hid (show crcByte m x=crcFour (crcFour (m ^^^ x.toNat)) from rfl)
      generalize m ^^^ x.toNat=d at *
      have i1:(k:Int) < n:=by omega
      have i2:(0:Int)≤(k:Int):=Int.natCast_nonneg _
      go_wp2_with fail
      refine ((HF _ _ hd).out).mono ?_
      rintro e w1 ⟨rfl,hb⟩
      have HB1:=Lib.hid (bthen HB.out hb)
      clear hb hc'
      go_wp2_with fail
      refine ((HF _ _ (crcFour_lt hd)).out).mono ?_
      rintro e w2 ⟨rfl,hb⟩
      have HB2:Hid (Below w.heap.size w w2):=Lib.hid (bthen HB1.out hb)
      clear hb
      have e1:crcMore s (l.take (k+1))=crcFour (crcFour d):=HSN.out.trans HY.out
      have HE1:=Lib.hid e1
      clear e1
      generalize crcFour (crcFour d)=r at *
      go_wp2_with fail
      go_roundg (n - (k+1))
      case measure=>omega
      case rel=>exact⟨k+1,by omega,by omega,by go_num,by rw [HE1.out],HB2⟩
    · obtain rfl:k=n:=by omega
      have HE2:=HE.out
      generalize crcMore s (l.take k)=m at *
      go_wp2_with fail
      go_ret
      exact⟨by rw [← HE2];rfl,HB.out⟩
set_option maxHeartbeats 400000 in
theorem crcOf_one {Q:Nat→Prop} {w:World} (g:Nat) (A:Option Addr) (l:List UInt8) (c:Nat) (hg:w.cell? ⟨g,0,none⟩=some (.slice A l.length c)) (h:FlatQ Q w A (bsV l)) (hm:l.length≤1000000) :
    Calls Tryz.prog 238 #[.slice (some ⟨g,0,none⟩) 1 1] w fun e w'=>e=.returned (.int .u16 (crcMore 65535 l:Int))∧Below w.heap.size w w':=by
  have HM:=Lib.hid (crcMore_any (w:=w) 65535 A l c h (by decide) hm)
  generalize crcMore 65535 l=r at *
  generalize l.length=n at *
  clear h
  go_enter Tryz.func238,Tryz.ntmps238
  go_wp2_with fail
  go_loopg [3,8] 1 (fun t s3 s8 wr=>(s8=.int .i64 0∧s3=.int .u16 65535∧wr=w∧1≤t)∨(s8=.int .i64 1∧s3=.int .u16 (r:Int)∧Hid (Below w.heap.size w wr)))
  case atStart=>exact .inl ⟨rfl,rfl,rfl,by omega⟩
  case round=>
    rcases hrel with ⟨rfl,rfl,rfl,ht⟩ | ⟨rfl,rfl,HB⟩
    · go_wp2_with fail
      refine (HM.out).mono ?_
      rintro e w1 ⟨rfl,hb⟩
      have HB1:=Lib.hid hb
      clear hb
      go_wp2_with fail
      go_roundg 0
      case measure=>omega
      case rel=>exact .inr ⟨rfl,rfl,HB1⟩
    · go_wp2_with fail
      go_ret
      exact⟨rfl,HB.out⟩
end Go.Proofs.YtaiepcgfofpmjaaGreat
