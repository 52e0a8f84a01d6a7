/- Layer 44: the two messages that a young node sends. -/
import Derived.Test.YtaiepcgfofpmjaaGreatS33
import Derived.Test.YtaiepcgfofpmjaaGreatS03
namespace Go.Proofs.YtaiepcgfofpmjaaGreat
set_option linter.unusedVariables false
open Go.RowKit
theorem f200_ne:(findF ((200:Nat):Int)).1≠⟨#[]⟩:=by decide
theorem f0_ne:(findF ((0:Nat):Int)).1≠⟨#[]⟩:=by decide
theorem f200_cnt:cntP (findF ((200:Nat):Int)).2=5:=by decide
theorem f0_cnt:cntP (findF ((0:Nat):Int)).2=6:=by decide
theorem f200_wid:widF (fldsS (findF ((200:Nat):Int)).2)=14:=by decide
theorem f0_wid:widF (fldsS (findF ((0:Nat):Int)).2)=9:=by decide
theorem f200_sl:sltsS (findF ((200:Nat):Int)).2=[⟨4,false,0⟩,⟨4,false,1⟩,⟨2,true,2⟩,⟨2,true,3⟩,⟨2,true,4⟩]:=by rfl
theorem f0_sl:sltsS (findF ((0:Nat):Int)).2=[⟨4,false,3⟩,⟨1,false,0⟩,⟨1,false,1⟩,⟨1,false,2⟩,⟨1,false,4⟩,⟨1,false,5⟩]:=by rfl
theorem f200_fit (t u:Int) (ht:0≤t∧t≤4294967295) (hu:0≤u∧u≤4294967295):∀ (k:Nat) f v,(fldsS (findF ((200:Nat):Int)).2)[k]?=some f→(putL (findF ((200:Nat):Int)).2 [t,u,0,0,0])[k]?=some v→FitsS f v:=by
  intro k f v hf hv
  unfold fldsS at hf
  unfold putL at hv
  rw [f200_sl] at hf hv
  rcases k with _ | _ | _ | _ | _ | k <;> simp at hf hv <;> subst hf <;> subst hv
  · exact .inr (.inl ⟨rfl,ht⟩)
  · exact .inr (.inl ⟨rfl,hu⟩)
  · exact .inr (.inr ⟨rfl,by decide⟩)
  · exact .inr (.inr ⟨rfl,by decide⟩)
  · exact .inr (.inr ⟨rfl,by decide⟩)
theorem f0_fit:∀ (k:Nat) f v,(fldsS (findF ((0:Nat):Int)).2)[k]?=some f→(putL (findF ((0:Nat):Int)).2 [6,8,0,0,4,3])[k]?=some v→FitsS f v:=by
  intro k f v hf hv
  unfold fldsS at hf
  unfold putL at hv
  rw [f0_sl] at hf hv
  rcases k with _ | _ | _ | _ | _ | _ | k <;> simp at hf hv <;> subst hf <;> subst hv
  · exact .inr (.inl ⟨rfl,by decide⟩)
  · exact .inl ⟨rfl,by decide⟩
  · exact .inl ⟨rfl,by decide⟩
  · exact .inl ⟨rfl,by decide⟩
  · exact .inl ⟨rfl,by decide⟩
  · exact .inl ⟨rfl,by decide⟩
theorem ackNew_any (w:World):Calls Tryz.prog 69 #[] w fun e w'=>∃ g,e=.returned (.pointer (some ⟨g,0,none⟩))∧Below w.heap.size w w'∧w.heap.size≤g∧g < w'.heap.size:=by
  go_enter Tryz.func69,Tryz.ntmps69
  go_wp2_with fail
  go_ret
  exact⟨_,rfl,below_new _ _,Nat.le_refl _,by simp⟩
theorem gsvNew_any (w:World):Calls Tryz.prog 70 #[] w fun e w'=>∃ g,e=.returned (.pointer (some ⟨g,0,none⟩))∧Below w.heap.size w w'∧w.heap.size≤g∧g < w'.heap.size:=by
  go_enter Tryz.func70,Tryz.ntmps70
  go_wp2_with fail
  go_ret
  exact⟨_,rfl,below_new _ _,Nat.le_refl _,by simp⟩
theorem quatOne_any (w:World):Calls Tryz.prog 106 #[] w fun e w'=>e=.returned (.agg #[.int .i32 1073741824,.int .i32 0,.int .i32 0,.int .i32 0])∧Below w.heap.size w w':=by
  go_enter Tryz.func106,Tryz.ntmps106
  go_wp2_with fail
  have hk:=Blk.newL (L:=[.int .i32 1073741824,.int .i32 0,.int .i32 0,.int .i32 0]) (grew_alloc w #[.int .i32 1073741824,.int .i32 0,.int .i32 0,.int .i32 0] 48) rfl
  have hld:=run_loadVar_mid (P:=Tryz.prog) _ w.heap.size 0 48 _ _ hk.rg Tryz.underlying48 rfl (by kernel_rfl)
  exact bodyPost_ret (v:=.agg #[.int .i32 1073741824,.int .i32 0,.int .i32 0,.int .i32 0]) (by rw [results_cF rfl];simpa [asAddr,Result.andThen] using hld) rfl ⟨rfl,below_new _ _⟩
theorem fuseStart_any (w:World):Calls Tryz.prog 66 #[] w fun e w'=>e=.returned (.agg #[.int .i32 1073741824,.int .i32 0,.int .i32 0,.int .i32 0,.int .i32 0,.int .i32 0,.int .i32 0,.int .i64 0,.int .i64 0])∧Below w.heap.size w w':=by
  have HQ:=fun W=>Lib.hid (quatOne_any W)
  go_enter Tryz.func66,Tryz.ntmps66
  go_wp2_with fail
  refine (HQ _).out.mono ?_
  rintro e w2 ⟨rfl,hb⟩
  have HK:=Lib.hid ((Blk.newL (L:=[.int .i32 0,.int .i32 0,.int .i32 0,.int .i32 0,.int .i32 0,.int .i32 0,.int .i32 0,.int .i64 0,.int .i64 0]) (grew_alloc w #[.int .i32 0,.int .i32 0,.int .i32 0,.int .i32 0,.int .i32 0,.int .i32 0,.int .i32 0,.int .i64 0,.int .i64 0] 52) rfl).on hb)
  have HB:Hid (Below w.heap.size w w2):=bthen (below_new _ _) hb
  clear hb
  go_wp2_with (refine wpList_store_in rfl 52 _ _ rfl w.heap.size 0 #[.int .i32 1073741824,.int .i32 0,.int .i32 0,.int .i32 0,.int .i32 0,.int .i32 0,.int .i32 0,.int .i64 0,.int .i64 0] rfl rfl (HK.out.there 0 9 (Nat.le_refl _)) (by kernel_rfl) (by kernel_rfl) ?_;intro W9 hs;have HLD:=Lib.hid (run_loadVar_mid (P:=Tryz.prog) _ w.heap.size 0 52 _ _ (HK.out.all hs rfl).rg Tryz.underlying52 rfl (by kernel_rfl));have HB9:=Lib.hid (HB.out.trans (hs.below (Nat.le_refl _)));clear hs)
  exact bodyPost_ret (v:=.agg #[.int .i32 1073741824,.int .i32 0,.int .i32 0,.int .i32 0,.int .i32 0,.int .i32 0,.int .i32 0,.int .i64 0,.int .i64 0]) (by rw [results_cF rfl];simpa [asAddr,Result.andThen] using HLD.out) rfl ⟨rfl,HB9.out⟩
theorem gapsNew_any (w:World):Calls Tryz.prog 68 #[] w fun e w'=>∃ g,e=.returned (.pointer (some ⟨g,0,none⟩))∧Below w.heap.size w w':=by
  have hmm:=@run_makeMap Tryz.prog
  go_enter Tryz.func68,Tryz.ntmps68
  go_wp2
  go_ret
  exact⟨_,rfl,bthen (below_new _ _) (below_new _ _)⟩
theorem nodThere_yes {w:World} {nb:Nat} {a:Addr} (h:w.cell? ⟨nb,5,none⟩=some (.pointer (some a))):Calls Tryz.prog 34 #[.pointer (some ⟨nb,0,none⟩)] w fun e w'=>e=.returned (.bool true)∧w=w':=by
  go_enter Tryz.func34,Tryz.ntmps34
  go_wp2
  go_ret
  exact⟨rfl,rfl⟩
theorem nodWay_1 (w:World):Calls Tryz.prog 36 #[.int .i64 1] w fun e w'=>e=.returned (.func (.func 74) #[] #[])∧w=w':=by
  go_enter Tryz.func36,Tryz.ntmps36
  go_wp2
  go_ret
  exact⟨rfl,rfl⟩
end Go.Proofs.YtaiepcgfofpmjaaGreat
