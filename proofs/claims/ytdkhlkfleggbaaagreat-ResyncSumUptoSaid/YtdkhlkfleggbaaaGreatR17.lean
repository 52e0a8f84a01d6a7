/- Contracts of the reference's Texts and Same of layer 22. -/
import Derived.Test.YtdkhlkfleggbaaaGreatR16
import Derived.Deep.CutBlock
namespace Go.Proofs.YtdkhlkfleggbaaaGreat
set_option maxHeartbeats 1000000
open Lib (hid)
open Tryz
set_option linter.unusedVariables false
open Go.RowKit
theorem a5u {a b:ByteArray} (h:a.toList=b.toList):a=b:=by
 rw[ByteArray.toList_eq,ByteArray.toList_eq]at h;obtain⟨⟨l⟩⟩:=a;obtain⟨⟨m⟩⟩:=b;simp at h;rw[h]
theorem aep (a b:ByteArray):(a.toList==b.toList)=decide (a=b):=by
 by_cases h:a=b
 ·subst h;simp
 ·rw[decide_eq_false h,beq_eq_false_iff_ne];exact fun k=>h (a5u k)
abbrev a58 (b0:Bool) (n0:Int) (b1:Bool) (n1:Int) (b2:Bool) (n2:Int) (b3:Bool) (n3:Int):Array Value:=#[.bool b0,.int .i64 n0,.bool b1,.int .i64 n1,.bool b2,.int .i64 n2,.bool b3,.int .i64 n3]
abbrev bly (b0:Bool) (n0:Int) (b1:Bool) (n1:Int) (b2:Bool) (n2:Int) (b3:Bool) (n3:Int):Value:=.agg (a58 b0 n0 b1 n1 b2 n2 b3 n3)
abbrev clC (W M F L H:Int) (c:ByteArray):Array Value:=#[.int .i64 W,.int .i64 M,.int .i64 F,.int .i64 L,.int .i64 H,.string c]
abbrev clV (W M F L H:Int) (c:ByteArray):Value:=.agg (clC W M F L H c)
abbrev aue:Array Value:=#[.int .i64 1,.int .i64 3,.int .i64 2,.int .i64 0,.int .i64 36000,.string ⟨#[84]⟩,.int .i64 1,.int .i64 3,.int .i64 2,.int .i64 0,.int .i64 36000,.string ⟨#[77]⟩,.int .i64 1,.int .i64 4,.int .i64 2,.int .i64 0,.int .i64 999999,.string ⟨#[78]⟩,.int .i64 1,.int .i64 4,.int .i64 2,.int .i64 0,.int .i64 999999,.string ⟨#[75]⟩]
abbrev clO (W M F L H:Int) (c:ByteArray):Obj:=.cells (clC W M F L H c) 310
theorem ac5 (a:ByteArray):a.toList.isEmpty=decide (a=ByteArray.empty):=by
 rw[← aep];have:ByteArray.empty.toList=[]:=by rw[ByteArray.toList_eq];rfl
 rw[this];cases a.toList<;>rfl
def bbq (w:World) (r:Ending) (w':World):Prop:=∃h,r=.returned (.slice (some ⟨h,0,none⟩) 4 4) ∧(∀o,w'.cell? ⟨h,o,none⟩=aue[o]?)∧w.1.size≤h∧h<w'.1.size∧Below w.1.size w w'
theorem aqy (w:World):Calls Tryz.prog 172 #[] w (bbq w):=by
 go_enter func172,ntmps172;go_wp2;go_ret;refine⟨w.1.size+1+1,rfl,fun o=>?_,by omega,by simp,qb (qb (qa _ _) (qa _ _)) (qa _ _)⟩;rw[World.cell?_alloc_at _ _ _ _ sm]
abbrev bkn (M:Nat):Array Value:=#[.pointer (some ⟨M,0,none⟩),.pointer (some ⟨M,2,none⟩),.pointer (some ⟨M,4,none⟩),.pointer (some ⟨M,6,none⟩)]
theorem aqz (M:Nat) (w:World):Calls Tryz.prog 173 #[.pointer (some ⟨M,0,none⟩)] w fun e w'=>e=.returned (.slice (some ⟨w.1.size,0,none⟩) 4 4) ∧(∀o,w'.cell? ⟨w.1.size,o,none⟩=(bkn M)[o]?)∧w.1.size<w'.1.size∧Below w.1.size w w':=by
 go_enter func173,ntmps173;go_wp2_with fail
 go_region_with (fail)
 all_goals
  go_wp2_with fail;go_ret;refine⟨rfl,fun o=>?_,?_,abx (qa _ _)⟩
  ·show (w.alloc _).cell? _=_;rw[World.cell?_alloc_at _ _ _ _ rfl]
  ·show _<(w.alloc _).1.size;simp
end Go.Proofs.YtdkhlkfleggbaaaGreat
