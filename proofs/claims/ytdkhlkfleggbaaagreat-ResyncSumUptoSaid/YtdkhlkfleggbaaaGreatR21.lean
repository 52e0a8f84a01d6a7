/- Clone of numbers. -/
import Derived.Test.YtdkhlkfleggbaaaGreatR00
import Derived.Deep.RegionHeld3
import Derived.Lib.SliceRun
namespace Go.Proofs.YtdkhlkfleggbaaaGreat
set_option maxHeartbeats 2000000
set_option maxRecDepth 8000
open Lib (hid)
open Tryz
set_option linter.unusedVariables false
open Go.RowKit
theorem al6 (c:Nat) (w:World):Calls Tryz.prog 107 #[.slice none 0 c] w fun e w'=>e=.returned (.slice none 0 0)∧Below w.1.size w w':=by
 go_enter func107,ntmps107;go_wp2_with fail;rw[Lib.run_eql_slice_nil _ _ _ _ _ _ _ _ underlying49];go_wp2_with fail;go_ret;exact⟨rfl,Below.refl _ _⟩
set_option maxRecDepth 100000 in
theorem a32:∃i,Tryz.prog.info? 2=some i∧i.zero=some (.int .i64 0)∧i.size=1∧i.bytes=8:=⟨_,rfl,rfl,rfl,rfl⟩
theorem a18 {Q:Nat→Prop} (A:Option Addr) (L:List Int) (c:Nat) (w:World) (hA:A=none→L.length=0∧c=0) (hs:qf Q w A (L.map (Value.int .i64))) (hn:L.length≤1000000) :
 Calls Tryz.prog 107 #[.slice A L.length c] w fun e w'=>∃B d,e=.returned (.slice B L.length d)∧qf (fun b=>w.1.size≤b∧b<w'.1.size) w' B (L.map (Value.int .i64))∧Below w.1.size w w':=by
 cases A with
 | none=>
  obtain⟨h0,rfl⟩:=hA rfl;obtain rfl:=List.eq_nil_of_length_eq_zero h0;refine(al6 0 w).mono ?_;rintro e w' ⟨rfl,h⟩;exact⟨none,0,rfl,qf.nil _ _ _,h⟩
 | some a=>
  obtain⟨i0,hi,hz0,hz1,hz2⟩:=a32;obtain⟨n,hln⟩:∃n,L.length=n:=⟨_,rfl⟩;have HLN:=hid hln;have hown:(w.alloc (.cells #[] 2)).ownsRow w.1.size 2 1 (.slice (some ⟨w.1.size,0,none⟩) 0 0) 0 []:=World.ownsRow_made w #[] 0 (Nat.le_refl _) dc rfl;obtain⟨v',w2,hrun,h8,h9,-⟩:=ka (P:=Tryz.prog) (w.alloc (.cells #[] 2)) 49 49 2 i0 _ 1 8 underlying49 hi hz0 hz1 hz2 rfl dc w.1.size _ 0 [] hown (some a) n c (L.map (Value.int .i64)) (by simp[hln]) (hs.lt.below (qa w _) (fun b h=>h.2)) (fun u hu=>by obtain⟨z,-,rfl⟩:=List.mem_map.1 hu;rfl) (by unfold maxLen;omega) om sm;rw[Nat.zero_add,List.nil_append]at h8
  have HE:Hid (∃B d,v'=.slice B n d∧qf (fun b=>w.1.size≤b∧b<w2.1.size) w2 B (L.map (Value.int .i64))∧Below w.1.size w w2):=by
   obtain⟨B,d,h1,-,h2,-⟩:=xv h8;refine⟨B,d,h1,h2,(qa w _).trans ⟨h9.os,h9.tape,h9.output,h9.size,fun b hb=>h9.block b (by simp;omega) (fun e=>by simp[Value.ownBlock]at e;omega)⟩⟩
  have HR:=hid hrun;rw[hln]at hn ⊢;clear hs hA hln hown hrun h8 h9;have EQ:∀W:World,(binOp .eql 49 (.slice (some a) n c) (.slice none 0 0)).run Tryz.prog W=.ok (.bool false) W:=fun W=>Lib.run_eql_slice_nil W 49 2 (some a) n c 0 0 underlying49
  go_enter func107,ntmps107;go_wp2_with (at_builtin;refine q6 rfl _ _ 49 rfl _ _ _ rfl rfl HR.out ?_);go_ret;obtain⟨B,d,h1,h2,h3⟩:=HE.out;exact⟨B,d,by rw[h1];rfl,h2,h3⟩
theorem a17 {Q:Nat→Prop} (A:Option Addr) (L:List Int) (c:Nat) (w:World) (hs:qf Q w A (L.map (Value.int .i64))) (hn:L.length≤1000000) :
 Calls Tryz.prog 107 #[.slice A L.length c] w fun e w'=>∃B d,e=.returned (.slice B L.length d)∧qf (fun b=>w.1.size≤b∧b<w'.1.size) w' B (L.map (Value.int .i64))∧Below w.1.size w w':=by
 cases A with
 | none=>
  have h0:L=[]:=by
   cases L with
   | nil=>rfl
   | cons x l=>obtain⟨b,off,h,-⟩:=hs 0 _ rfl;cases h
  subst h0;refine(al6 c w).mono ?_;rintro e w' ⟨rfl,h⟩;exact⟨none,0,rfl,qf.nil _ _ _,h⟩
 | some a=>exact a18 (some a) L c w (fun h=>by cases h) hs hn
end Go.Proofs.YtdkhlkfleggbaaaGreat
