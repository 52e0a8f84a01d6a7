/- Contracts of the reference's Texts and Same of layer 22. -/
import Derived.Test.YtoabkoniegmkaaaGreatG00
import Derived.Test.YtoabkoniegmkaaaGreatProg
import Derived.BigQuiet
import Derived.Deep.QuietTactic
import Derived.Test.YtoabkoniegmkaaaGreatG10
import Derived.Deep.RegionWith
namespace Go.Proofs.YtoabkoniegmkaaaGreat
set_option linter.unusedVariables false
open Go.RowKit
theorem toList_inj {a b:ByteArray} (h:a.toList=b.toList):a=b:=by
  rw [ByteArray.toList_eq,ByteArray.toList_eq] at h
  obtain⟨⟨l⟩⟩:=a
  obtain⟨⟨m⟩⟩:=b
  simp at h
  rw [h]
theorem beq_text (a b:ByteArray):(a.toList==b.toList)=decide (a=b):=by
  by_cases h:a=b
  · subst h;simp
  · rw [decide_eq_false h,beq_eq_false_iff_ne]
    exact fun k=>h (toList_inj k)
abbrev vtgC (b0:Bool) (n0:Int) (b1:Bool) (n1:Int) (b2:Bool) (n2:Int) (b3:Bool) (n3:Int):Array Value:=#[.bool b0,.int .i64 n0,.bool b1,.int .i64 n1,.bool b2,.int .i64 n2,.bool b3,.int .i64 n3]
abbrev vtgV (b0:Bool) (n0:Int) (b1:Bool) (n1:Int) (b2:Bool) (n2:Int) (b3:Bool) (n3:Int):Value:=.agg (vtgC b0 n0 b1 n1 b2 n2 b3 n3)
abbrev clC (W M F L H:Int) (c:ByteArray):Array Value:=#[.int .i64 W,.int .i64 M,.int .i64 F,.int .i64 L,.int .i64 H,.string c]
abbrev clV (W M F L H:Int) (c:ByteArray):Value:=.agg (clC W M F L H c)
abbrev clCells:Array Value:=#[.int .i64 1,.int .i64 3,.int .i64 2,.int .i64 0,.int .i64 36000,.string ⟨#[84]⟩,.int .i64 1,.int .i64 3,.int .i64 2,.int .i64 0,.int .i64 36000,.string ⟨#[77]⟩,.int .i64 1,.int .i64 4,.int .i64 2,.int .i64 0,.int .i64 999999,.string ⟨#[78]⟩,.int .i64 1,.int .i64 4,.int .i64 2,.int .i64 0,.int .i64 999999,.string ⟨#[75]⟩]
abbrev clO (W M F L H:Int) (c:ByteArray):Obj:=.cells (clC W M F L H c) 174
theorem isEmpty_text (a:ByteArray):a.toList.isEmpty=decide (a=ByteArray.empty):=by
  rw [← beq_text]
  have:ByteArray.empty.toList=[]:=by rw [ByteArray.toList_eq];rfl
  rw [this]
  cases a.toList <;> rfl
theorem r28Course_any (w:World):Calls Tryz.prog 63 #[] w fun e w'=>e=.returned (colV 1 3 2 0 36000)∧Below w.heap.size w w':=by
  go_enter Tryz.func63,Tryz.ntmps63
  go_wp2
  refine bodyPost_ret (v:=colV 1 3 2 0 36000) (by simp [results,Tryz.results63,go_sem]) rfl ⟨rfl,below_new _ _⟩
theorem r28Speed_any (w:World):Calls Tryz.prog 64 #[] w fun e w'=>e=.returned (colV 1 4 2 0 999999)∧Below w.heap.size w w':=by
  go_enter Tryz.func64,Tryz.ntmps64
  go_wp2
  refine bodyPost_ret (v:=colV 1 4 2 0 999999) (by simp [results,Tryz.results64,go_sem]) rfl ⟨rfl,below_new _ _⟩
def ColsPost (w:World) (r:Ending) (w':World):Prop:=∃ h,r=.returned (.slice (some ⟨h,0,none⟩) 4 4)∧(∀ o,w'.cell? ⟨h,o,none⟩=clCells[o]?)∧w.heap.size≤h∧h < w'.heap.size∧Below w.heap.size w w'
set_option maxHeartbeats 1000000 in
theorem vtgcolumns_any (w:World):Calls Tryz.prog 132 #[] w (ColsPost w):=by
  go_enter Tryz.func132,Tryz.ntmps132
  go_wp2
  go_ret
  refine⟨w.heap.size+1+1,rfl,fun o=>?_,by omega,by simp,bthen (bthen (below_new _ _) (below_new _ _)) (below_new _ _)⟩
  rw [World.cell?_alloc_at _ _ _ _ (by simp)]
abbrev ptrC (M:Nat):Array Value:=#[.pointer (some ⟨M,0,none⟩),.pointer (some ⟨M,2,none⟩),.pointer (some ⟨M,4,none⟩),.pointer (some ⟨M,6,none⟩)]
set_option maxHeartbeats 1000000 in
theorem vtgnumbers_any (M:Nat) (w:World):Calls Tryz.prog 133 #[.pointer (some ⟨M,0,none⟩)] w fun e w'=>e=.returned (.slice (some ⟨w.heap.size,0,none⟩) 4 4)∧(∀ o,w'.cell? ⟨w.heap.size,o,none⟩=(ptrC M)[o]?)∧w.heap.size < w'.heap.size∧Below w.heap.size w w':=by
  go_enter Tryz.func133,Tryz.ntmps133
  go_wp2_with fail
  go_region_with (fail)
  all_goals
    go_wp2_with fail
    go_ret
    refine⟨rfl,fun o=>?_,?_,bdrew (below_new _ _)⟩
    · show (w.alloc _).cell? _=_
      rw [World.cell?_alloc_at _ _ _ _ rfl]
    · show _ < (w.alloc _).heap.size
      simp
theorem vtgbehind_any (W M F L H:Int) (c:ByteArray) (b:Bool) (n:Int) (w:World):Calls Tryz.prog 279 #[clV W M F L H c,numV b n] w fun e w'=>e=.returned (.string (unitT b c))∧Below w.heap.size w w':=by
  cases b with
  | true=>
    go_enter Tryz.func279,Tryz.ntmps279
    go_wp2
    go_ret
    exact⟨rfl,bthen (below_new _ _) (below_new _ _)⟩
  | false=>
    go_enter Tryz.func279,Tryz.ntmps279
    go_wp2
    go_ret
    exact⟨rfl,bthen (below_new _ _) (below_new _ _)⟩
theorem r25TakeUnit_any {g:Nat} {s t:Rd} {b:Bool} {n:Int} {c:ByteArray} {w:World} (ht:Hid (rdUnit c b s=t)) (hp:RowRI g s w) :
    Calls Tryz.prog 55 #[.pointer (some ⟨g,0,none⟩),numV b n,.string c] w (RowRStep g (.tuple #[]) t w):=by
  have ht:=ht.out
  obtain⟨a,s1,h1⟩:∃ a s1,rdText s=(a,s1):=⟨_,_,rfl⟩
  have H1:=Lib.hid h1
  have HQ:∀ o,Hid (Calls Tryz.prog 59 #[.pointer (some ⟨g,0,none⟩)] (w.alloc o) (RowRStep g (.string a) s1 (w.alloc o))):=fun o=>rowTText H1 (hp.keep (below_new w o))
  have HF:∀ w',RowRI g s1 w'→Hid (Calls Tryz.prog 60 #[.pointer (some ⟨g,0,none⟩),.int .i64 3] w' (RowRStep g (.tuple #[]) (rdFail 3 s1) w')):=fun w' h=>rowFirst rfl h
  have hg:=hp.lt
  unfold rdUnit at ht
  rw [h1] at ht
  simp only at ht
  have HB:∀ o,Hid (Frm g nilV w (w.alloc o)):=fun o=>Frm.of_below (below_new w o)
  have hnb:∀ o,(w.alloc (.cells o 30)).cell? ⟨w.heap.size,0,none⟩=o[0]?:=fun o=>World.cell?_alloc_at _ _ _ _ rfl
  clear hp H1 h1
  have fin:∀ w1:World,Frm g nilV (w.alloc (.cells #[.bool b,.int .i64 n] 30)) w1→w1.cell? ⟨w.heap.size,0,none⟩=some (.bool b):=fun w1 hf=>(frm_cells hf (by simp) (by omega) 0).trans (hnb _)
  by_cases hac:a=c
  · have k1:(a.toList==c.toList)=true:=by rw [beq_text,decide_eq_true hac]
    have E:Hid (t=s1):=by rw [← ht];exact if_neg (fun q=>q.1 hac)
    clear hac ht
    go_enter Tryz.func55,Tryz.ntmps55
    go_wp2_with fail
    refine ((HQ _).out).mono ?_
    rintro e w1 ⟨rfl,h1,h2⟩
    have f0:=fin w1 h2
    have HH1:=Lib.hid h1
    have HH2:=Lib.hid ((HB _).out.step h2)
    clear h1 h2 fin
    go_wp2_with fail
    go_end0
    exact⟨rfl,by rw [E.out];exact HH1.out,HH2.out⟩
  · have k1:(a.toList==c.toList)=false:=by rw [beq_text,decide_eq_false hac]
    by_cases hb:b=true∨a≠ByteArray.empty
    · have E:Hid (t=rdFail 3 s1):=by rw [← ht];exact if_pos ⟨hac,hb⟩
      have hb':b=true∨(b=false∧a.toList.isEmpty=false):=by
        cases b with
        | true=>exact .inl rfl
        | false=>exact .inr ⟨rfl,by rw [isEmpty_text,decide_eq_false (by simpa using hb)]⟩
      clear hac ht hb
      rcases hb' with rfl | ⟨rfl,k2⟩
      all_goals
        go_enter Tryz.func55,Tryz.ntmps55
        go_wp2_with fail
        refine ((HQ _).out).mono ?_
        rintro e w1 ⟨rfl,h1,h2⟩
        have f0:=fin w1 h2
        have HH1:=Lib.hid h1
        have HH2:=Lib.hid ((HB _).out.step h2)
        clear h1 h2 fin
        go_wp2_with fail
        refine ((HF _ HH1.out).out).mono ?_
        rintro e w2 ⟨rfl,h3,h4⟩
        go_wp2_with fail
        go_end0
        exact⟨rfl,by rw [E.out];exact h3,HH2.out.step h4⟩
    · have E:Hid (t=s1):=by rw [← ht];exact if_neg (fun q=>hb q.2)
      have hb1:b=false:=by cases b with | true=>exact absurd (.inl rfl) hb | false=>rfl
      have k2:a.toList.isEmpty=true:=by rw [isEmpty_text,decide_eq_true (Classical.byContradiction fun q=>hb (.inr q))]
      subst hb1
      clear hac ht hb
      go_enter Tryz.func55,Tryz.ntmps55
      go_wp2_with fail
      refine ((HQ _).out).mono ?_
      rintro e w1 ⟨rfl,h1,h2⟩
      have f0:=fin w1 h2
      have HH1:=Lib.hid h1
      have HH2:=Lib.hid ((HB _).out.step h2)
      clear h1 h2 fin
      go_wp2_with fail
      go_end0
      exact⟨rfl,by rw [E.out];exact HH1.out,HH2.out⟩
end Go.Proofs.YtoabkoniegmkaaaGreat
