/- The laws VtgTakes and VtgBack, walked. -/
import Derived.Test.YtoabkoniegmkaaaGreatJ21
import Derived.Test.YtoabkoniegmkaaaGreatJ25
import Derived.Test.YtoabkoniegmkaaaGreatJ26
import Derived.Test.YtoabkoniegmkaaaGreatJ27
import Derived.Test.YtoabkoniegmkaaaGreatJ24
import Derived.Test.YtoabkoniegmkaaaGreatJ35
import Derived.Test.YtoabkoniegmkaaaGreatJ38
namespace Go.Proofs.YtoabkoniegmkaaaGreat
set_option linter.unusedVariables false
open Go.RowKit
theorem vtg_bad {R:List ByteArray} (h:R.length≠8∧R.length≠9):takeVtg R=(zeros4,3):=by unfold takeVtg;rw [if_pos h]
theorem vtgTake_any (A:Option Addr) (R:List ByteArray) (c:Nat) (w:World) (hA:A=none→c=0) (hs:Strs w w.heap.size A R) (hn:R.length≤1000000) (hz:∀ t∈R,t.size≤1000000) :
    Calls Tryz.prog 46 #[.slice A R.length c] w (VtgPost (takeVtg R) w):=by
  by_cases h:R.length≠8∧R.length≠9
  · rw [vtg_bad h]
    exact vtgTake_bad A R.length c w (by rw [bne_iff_ne];omega) (by rw [bne_iff_ne];omega)
  · refine vtgTake_ok A R.length c R w rfl hA hs hn hz ?_ h
    rcases (by omega:R.length=8∨R.length=9) with q | q
    · exact .inl (by rw [q];rfl)
    · exact .inr ⟨by rw [q];rfl,by rw [q];rfl⟩
theorem strs_some {w:World} {B:Nat} {A:Option Addr} {fs:List ByteArray} (hs:Strs w B A fs) (hf:fs≠[]):∀ c:Nat,A=none→c=0:=fun c h=>by
  cases fs with
  | nil=>exact absurd rfl hf
  | cons x l=>
    obtain⟨b,off,h1,-⟩:=hs 0 (by simp)
    rw [h] at h1
    cases h1
theorem ggaTake_all (A:Option Addr) (R:List ByteArray) (c:Nat) (w:World) (hs:Strs w w.heap.size A R) (hz:∀ t∈R,t.size≤1000000):Calls Tryz.prog 43 #[.slice A R.length c] w (GgaPost (takeGga R) w):=by
  by_cases h:R=[]
  · subst h;rw [show takeGga []=(zeroF,3) from if_pos (by decide)];exact ggaTake_bad A 0 c w rfl
  · exact ggaTake_any A R c w (strs_some hs h c) hs hz
theorem rmcTake_all (A:Option Addr) (R:List ByteArray) (c:Nat) (w:World) (hs:Strs w w.heap.size A R) (hz:∀ t∈R,t.size≤1000000):Calls Tryz.prog 44 #[.slice A R.length c] w (RmcPost (takeRmc R) w):=by
  by_cases h:R=[]
  · subst h;rw [show takeRmc []=(zeroM,3) from if_pos (by decide)];exact rmcTake_bad A 0 c w rfl rfl
  · exact rmcTake_any A R c w (strs_some hs h c) hs hz
theorem gsaTake_all (A:Option Addr) (R:List ByteArray) (c:Nat) (w:World) (hs:Strs w w.heap.size A R) (hz:∀ t∈R,t.size≤1000000):Calls Tryz.prog 45 #[.slice A R.length c] w (GsaPost (takeGsa R) w):=by
  by_cases h:R=[]
  · subst h;rw [show takeGsa []=(zeroS,3) from if_pos (by decide)];exact gsaTake_bad A 0 c w rfl
  · exact gsaTake_any A R c w (strs_some hs h c) hs hz
theorem vtgTake_all (A:Option Addr) (R:List ByteArray) (c:Nat) (w:World) (hs:Strs w w.heap.size A R) (hn:R.length≤1000000) (hz:∀ t∈R,t.size≤1000000):Calls Tryz.prog 46 #[.slice A R.length c] w (VtgPost (takeVtg R) w):=by
  by_cases h:R=[]
  · subst h;rw [show takeVtg []=(zeros4,3) from if_pos (by decide)];exact vtgTake_bad A 0 c w rfl rfl
  · exact vtgTake_any A R c w (strs_some hs h c) hs hn hz
theorem gsvTake_all (A:Option Addr) (R:List ByteArray) (c:Nat) (w:World) (hs:Strs w w.heap.size A R) (hn:R.length≤1000000) (hz:∀ t∈R,t.size≤1000000):Calls Tryz.prog 47 #[.slice A R.length c] w (GsvPost (takeGsv R) w):=by
  by_cases h:R=[]
  · subst h;rw [show takeGsv []=(zeroG,3) from if_pos (.inl (by decide))];exact gsvTake_bad A 0 c w (.inl (by decide)) (by omega)
  · exact gsvTake_any A R c w (strs_some hs h c) hs hn hz
def l4v (N:List (Bool×Int)):V4:=(N.getD 0 (false,0),N.getD 1 (false,0),N.getD 2 (false,0),N.getD 3 (false,0))
theorem vtgLV_l4v {N:List (Bool×Int)} (h:N.length=4):vtgLV N=.agg (viewC (l4v N)).toArray:=by
  match N,h with
  | [a,b,c,d],_=>rfl
def rd30 (y:ByteArray) (fs:List ByteArray):NmD×Int:=
  if y=⟨#[71,71,65]⟩ then (⟨1,ByteArray.empty,(takeGga fs).1,zeroM,zeroS,zV4,zeroG⟩,(takeGga fs).2) else if y=⟨#[82,77,67]⟩ then (⟨2,ByteArray.empty,zeroF,(takeRmc fs).1,zeroS,zV4,zeroG⟩,(takeRmc fs).2) else if y=⟨#[71,83,65]⟩ then (⟨3,ByteArray.empty,zeroF,zeroM,(takeGsa fs).1,zV4,zeroG⟩,(takeGsa fs).2) else if y=⟨#[86,84,71]⟩ then (⟨4,ByteArray.empty,zeroF,zeroM,zeroS,l4v (takeVtg fs).1,zeroG⟩,(takeVtg fs).2) else if y=⟨#[71,83,86]⟩ then (⟨5,ByteArray.empty,zeroF,zeroM,zeroS,zV4,(takeGsv fs).1⟩,(takeGsv fs).2) else (zD30,6)
def take30 (t y:ByteArray) (fs:List ByteArray):NmD×Int:=if (rd30 y fs).2=0 then (only30 t (rd30 y fs).1,0) else (zD30,(rd30 y fs).2)
theorem zero_Gga (w:World):(zeroValue 32).run Tryz.prog w=.ok (.agg zGga.toArray) w:=by kernel_rfl
theorem zero_Rmc (w:World):(zeroValue 36).run Tryz.prog w=.ok (.agg zRmc.toArray) w:=by kernel_rfl
theorem zero_Gsa (w:World):(zeroValue 39).run Tryz.prog w=.ok (.agg zGsa.toArray) w:=by kernel_rfl
theorem zero_Vtg (w:World):(zeroValue 41).run Tryz.prog w=.ok (.agg zVtg.toArray) w:=by kernel_rfl
theorem zero_Gsv (w:World):(zeroValue 44).run Tryz.prog w=.ok (.agg zGsv.toArray) w:=by kernel_rfl
def RdOut (k:Nat) (S:World→List Value→Prop) (E:Int) (w:World) (e:Ending) (w':World):Prop:=∃ G:List Value,e=.returned (.tuple #[.agg G.toArray,.int .i64 E])∧G.length=k∧Ones G∧S w' G∧Below w.heap.size w w'
def RdPart (T:TypeId) (S:World→List Value→Prop) (E:Int) (w:World) (e:Ending) (w':World):Prop:=∃ G:List Value,e=.returned (.tuple #[.iface T (.agg G.toArray),.int .i64 E])∧S w' G∧Below w.heap.size w w'
set_option maxRecDepth 8000 in
set_option maxHeartbeats 2000000 in
theorem nmread_1 {t:ByteArray} {A:Option Addr} {n c:Nat} {S:World→List Value→Prop} {E:Int} {w:World} (hS:Hid (∀ w w' G,S w G→Below w.heap.size w w'→S w' G)) (HP:∀ W,Below w.heap.size w W→Hid (Calls Tryz.prog 43 #[.slice A n c] W (RdOut 22 S E W))):Calls Tryz.prog 23 #[.agg #[.string t,.string ⟨#[71,71,65]⟩,.slice A n c]] w (RdPart 95 S E w):=by
  have HB0:=Lib.hid (below_new w (.cells #[.string t,.string ⟨#[71,71,65]⟩,.slice A n c] 24))
  go_enter Tryz.func23,Tryz.ntmps23
  go_wp2_with fail
  refine (HP _ HB0.out).out.mono ?_
  rintro e W2 ⟨G,rfl,hl,ho,hs,hb⟩
  have HL:=Lib.hid hl
  have HO:=Lib.hid ho
  have HBE:=Lib.hid (bthen HB0.out hb)
  have HSS:=Lib.hid hs
  have HLT:Hid (w.heap.size≤W2.heap.size):=HBE.out.size
  have HZ:Hid ((Tryz.prog.info? 32).map (·.size)=some G.length):=by rw [HL.out];exact onGga_size
  clear hl ho hs hb HP HB0
  go_wp2_with (first
    | (refine wpList_alloc_new rfl 32 rfl zGga.toArray (zero_Gga _) ?_;intro W4 hW4;have HK:=Lib.hid (Blk.newL (L:=zGga) hW4 rfl);have HBE4:=Lib.hid (bthen HBE.out hW4.bel);have HS4:=Lib.hid (hS.out _ _ _ HSS.out hW4.bel);have HB4:=Lib.hid hW4.bel;clear hW4 HBE)
    | (refine wpList_store_in rfl 32 _ _ rfl W2.heap.size 0 G.toArray rfl rfl (HK.out.thereA HL.out) (by rw [List.size_toArray];exact HZ.out) (Ones.arr HO.out) ?_;intro W5 hW5;have HK5:Hid (Blk W5 W2.heap.size G):=HK.out.all hW5 HL.out;have HBE5:=Lib.hid (HBE4.out.trans (hW5.below (by have:=HBE4.out.size;exact HLT.out)));have HS5:=Lib.hid (hS.out _ _ _ HSS.out (HB4.out.trans (hW5.below (Nat.le_refl _))));clear hW5 HK HBE4 HS4 HB4)
    | refine wpList_load_mid rfl 32 _ rfl W2.heap.size 0 rfl G _ HK5.out.rg Tryz.underlying32 rfl HZ.out ?_
    | refine wpList_build1 (u:=.agg G.toArray) rfl 95 0 _ rfl rfl (build_onGga G HL.out _) ?_)
  go_ret2
  exact⟨G,rfl,HS5.out,HBE5.out⟩
set_option maxRecDepth 8000 in
set_option maxHeartbeats 2000000 in
theorem nmread_2 {t:ByteArray} {A:Option Addr} {n c:Nat} {S:World→List Value→Prop} {E:Int} {w:World} (hS:Hid (∀ w w' G,S w G→Below w.heap.size w w'→S w' G)) (HP:∀ W,Below w.heap.size w W→Hid (Calls Tryz.prog 44 #[.slice A n c] W (RdOut 20 S E W))):Calls Tryz.prog 23 #[.agg #[.string t,.string ⟨#[82,77,67]⟩,.slice A n c]] w (RdPart 97 S E w):=by
  have HB0:=Lib.hid (below_new w (.cells #[.string t,.string ⟨#[82,77,67]⟩,.slice A n c] 24))
  go_enter Tryz.func23,Tryz.ntmps23
  go_wp2_with fail
  refine (HP _ HB0.out).out.mono ?_
  rintro e W2 ⟨G,rfl,hl,ho,hs,hb⟩
  have HL:=Lib.hid hl
  have HO:=Lib.hid ho
  have HBE:=Lib.hid (bthen HB0.out hb)
  have HSS:=Lib.hid hs
  have HLT:Hid (w.heap.size≤W2.heap.size):=HBE.out.size
  have HZ:Hid ((Tryz.prog.info? 36).map (·.size)=some G.length):=by rw [HL.out];exact onRmc_size
  clear hl ho hs hb HP HB0
  go_wp2_with (first
    | (refine wpList_alloc_new rfl 36 rfl zRmc.toArray (zero_Rmc _) ?_;intro W4 hW4;have HK:=Lib.hid (Blk.newL (L:=zRmc) hW4 rfl);have HBE4:=Lib.hid (bthen HBE.out hW4.bel);have HS4:=Lib.hid (hS.out _ _ _ HSS.out hW4.bel);have HB4:=Lib.hid hW4.bel;clear hW4 HBE)
    | (refine wpList_store_in rfl 36 _ _ rfl W2.heap.size 0 G.toArray rfl rfl (HK.out.thereA HL.out) (by rw [List.size_toArray];exact HZ.out) (Ones.arr HO.out) ?_;intro W5 hW5;have HK5:Hid (Blk W5 W2.heap.size G):=HK.out.all hW5 HL.out;have HBE5:=Lib.hid (HBE4.out.trans (hW5.below (by have:=HBE4.out.size;exact HLT.out)));have HS5:=Lib.hid (hS.out _ _ _ HSS.out (HB4.out.trans (hW5.below (Nat.le_refl _))));clear hW5 HK HBE4 HS4 HB4)
    | refine wpList_load_mid rfl 36 _ rfl W2.heap.size 0 rfl G _ HK5.out.rg Tryz.underlying36 rfl HZ.out ?_
    | refine wpList_build1 (u:=.agg G.toArray) rfl 97 0 _ rfl rfl (build_onRmc G HL.out _) ?_)
  go_ret2
  exact⟨G,rfl,HS5.out,HBE5.out⟩
set_option maxRecDepth 8000 in
set_option maxHeartbeats 2000000 in
theorem nmread_3 {t:ByteArray} {A:Option Addr} {n c:Nat} {S:World→List Value→Prop} {E:Int} {w:World} (hS:Hid (∀ w w' G,S w G→Below w.heap.size w w'→S w' G)) (HP:∀ W,Below w.heap.size w W→Hid (Calls Tryz.prog 45 #[.slice A n c] W (RdOut 9 S E W))):Calls Tryz.prog 23 #[.agg #[.string t,.string ⟨#[71,83,65]⟩,.slice A n c]] w (RdPart 99 S E w):=by
  have HB0:=Lib.hid (below_new w (.cells #[.string t,.string ⟨#[71,83,65]⟩,.slice A n c] 24))
  go_enter Tryz.func23,Tryz.ntmps23
  go_wp2_with fail
  refine (HP _ HB0.out).out.mono ?_
  rintro e W2 ⟨G,rfl,hl,ho,hs,hb⟩
  have HL:=Lib.hid hl
  have HO:=Lib.hid ho
  have HBE:=Lib.hid (bthen HB0.out hb)
  have HSS:=Lib.hid hs
  have HLT:Hid (w.heap.size≤W2.heap.size):=HBE.out.size
  have HZ:Hid ((Tryz.prog.info? 39).map (·.size)=some G.length):=by rw [HL.out];exact onGsa_size
  clear hl ho hs hb HP HB0
  go_wp2_with (first
    | (refine wpList_alloc_new rfl 39 rfl zGsa.toArray (zero_Gsa _) ?_;intro W4 hW4;have HK:=Lib.hid (Blk.newL (L:=zGsa) hW4 rfl);have HBE4:=Lib.hid (bthen HBE.out hW4.bel);have HS4:=Lib.hid (hS.out _ _ _ HSS.out hW4.bel);have HB4:=Lib.hid hW4.bel;clear hW4 HBE)
    | (refine wpList_store_in rfl 39 _ _ rfl W2.heap.size 0 G.toArray rfl rfl (HK.out.thereA HL.out) (by rw [List.size_toArray];exact HZ.out) (Ones.arr HO.out) ?_;intro W5 hW5;have HK5:Hid (Blk W5 W2.heap.size G):=HK.out.all hW5 HL.out;have HBE5:=Lib.hid (HBE4.out.trans (hW5.below (by have:=HBE4.out.size;exact HLT.out)));have HS5:=Lib.hid (hS.out _ _ _ HSS.out (HB4.out.trans (hW5.below (Nat.le_refl _))));clear hW5 HK HBE4 HS4 HB4)
    | refine wpList_load_mid rfl 39 _ rfl W2.heap.size 0 rfl G _ HK5.out.rg Tryz.underlying39 rfl HZ.out ?_
    | refine wpList_build1 (u:=.agg G.toArray) rfl 99 0 _ rfl rfl (build_onGsa G HL.out _) ?_)
  go_ret2
  exact⟨G,rfl,HS5.out,HBE5.out⟩
set_option maxRecDepth 8000 in
set_option maxHeartbeats 2000000 in
theorem nmread_4 {t:ByteArray} {A:Option Addr} {n c:Nat} {S:World→List Value→Prop} {E:Int} {w:World} (hS:Hid (∀ w w' G,S w G→Below w.heap.size w w'→S w' G)) (HP:∀ W,Below w.heap.size w W→Hid (Calls Tryz.prog 46 #[.slice A n c] W (RdOut 8 S E W))):Calls Tryz.prog 23 #[.agg #[.string t,.string ⟨#[86,84,71]⟩,.slice A n c]] w (RdPart 101 S E w):=by
  have HB0:=Lib.hid (below_new w (.cells #[.string t,.string ⟨#[86,84,71]⟩,.slice A n c] 24))
  go_enter Tryz.func23,Tryz.ntmps23
  go_wp2_with fail
  refine (HP _ HB0.out).out.mono ?_
  rintro e W2 ⟨G,rfl,hl,ho,hs,hb⟩
  have HL:=Lib.hid hl
  have HO:=Lib.hid ho
  have HBE:=Lib.hid (bthen HB0.out hb)
  have HSS:=Lib.hid hs
  have HLT:Hid (w.heap.size≤W2.heap.size):=HBE.out.size
  have HZ:Hid ((Tryz.prog.info? 41).map (·.size)=some G.length):=by rw [HL.out];exact onVtg_size
  clear hl ho hs hb HP HB0
  go_wp2_with (first
    | (refine wpList_alloc_new rfl 41 rfl zVtg.toArray (zero_Vtg _) ?_;intro W4 hW4;have HK:=Lib.hid (Blk.newL (L:=zVtg) hW4 rfl);have HBE4:=Lib.hid (bthen HBE.out hW4.bel);have HS4:=Lib.hid (hS.out _ _ _ HSS.out hW4.bel);have HB4:=Lib.hid hW4.bel;clear hW4 HBE)
    | (refine wpList_store_in rfl 41 _ _ rfl W2.heap.size 0 G.toArray rfl rfl (HK.out.thereA HL.out) (by rw [List.size_toArray];exact HZ.out) (Ones.arr HO.out) ?_;intro W5 hW5;have HK5:Hid (Blk W5 W2.heap.size G):=HK.out.all hW5 HL.out;have HBE5:=Lib.hid (HBE4.out.trans (hW5.below (by have:=HBE4.out.size;exact HLT.out)));have HS5:=Lib.hid (hS.out _ _ _ HSS.out (HB4.out.trans (hW5.below (Nat.le_refl _))));clear hW5 HK HBE4 HS4 HB4)
    | refine wpList_load_mid rfl 41 _ rfl W2.heap.size 0 rfl G _ HK5.out.rg Tryz.underlying41 rfl HZ.out ?_
    | refine wpList_build1 (u:=.agg G.toArray) rfl 101 0 _ rfl rfl (build_onVtg G HL.out _) ?_)
  go_ret2
  exact⟨G,rfl,HS5.out,HBE5.out⟩
set_option maxRecDepth 8000 in
set_option maxHeartbeats 2000000 in
theorem nmread_5 {t:ByteArray} {A:Option Addr} {n c:Nat} {S:World→List Value→Prop} {E:Int} {w:World} (hS:Hid (∀ w w' G,S w G→Below w.heap.size w w'→S w' G)) (HP:∀ W,Below w.heap.size w W→Hid (Calls Tryz.prog 47 #[.slice A n c] W (RdOut 4 S E W))):Calls Tryz.prog 23 #[.agg #[.string t,.string ⟨#[71,83,86]⟩,.slice A n c]] w (RdPart 103 S E w):=by
  have HB0:=Lib.hid (below_new w (.cells #[.string t,.string ⟨#[71,83,86]⟩,.slice A n c] 24))
  go_enter Tryz.func23,Tryz.ntmps23
  go_wp2_with fail
  refine (HP _ HB0.out).out.mono ?_
  rintro e W2 ⟨G,rfl,hl,ho,hs,hb⟩
  have HL:=Lib.hid hl
  have HO:=Lib.hid ho
  have HBE:=Lib.hid (bthen HB0.out hb)
  have HSS:=Lib.hid hs
  have HLT:Hid (w.heap.size≤W2.heap.size):=HBE.out.size
  have HZ:Hid ((Tryz.prog.info? 44).map (·.size)=some G.length):=by rw [HL.out];exact onGsv_size
  clear hl ho hs hb HP HB0
  go_wp2_with (first
    | (refine wpList_alloc_new rfl 44 rfl zGsv.toArray (zero_Gsv _) ?_;intro W4 hW4;have HK:=Lib.hid (Blk.newL (L:=zGsv) hW4 rfl);have HBE4:=Lib.hid (bthen HBE.out hW4.bel);have HS4:=Lib.hid (hS.out _ _ _ HSS.out hW4.bel);have HB4:=Lib.hid hW4.bel;clear hW4 HBE)
    | (refine wpList_store_in rfl 44 _ _ rfl W2.heap.size 0 G.toArray rfl rfl (HK.out.thereA HL.out) (by rw [List.size_toArray];exact HZ.out) (Ones.arr HO.out) ?_;intro W5 hW5;have HK5:Hid (Blk W5 W2.heap.size G):=HK.out.all hW5 HL.out;have HBE5:=Lib.hid (HBE4.out.trans (hW5.below (by have:=HBE4.out.size;exact HLT.out)));have HS5:=Lib.hid (hS.out _ _ _ HSS.out (HB4.out.trans (hW5.below (Nat.le_refl _))));clear hW5 HK HBE4 HS4 HB4)
    | refine wpList_load_mid rfl 44 _ rfl W2.heap.size 0 rfl G _ HK5.out.rg Tryz.underlying44 rfl HZ.out ?_
    | refine wpList_build1 (u:=.agg G.toArray) rfl 103 0 _ rfl rfl (build_onGsv G HL.out _) ?_)
  go_ret2
  exact⟨G,rfl,HS5.out,HBE5.out⟩
set_option maxRecDepth 8000 in
theorem nmread_no {t y:ByteArray} {A:Option Addr} {n c:Nat} {w:World} (h1:(y.toList==[71,71,65])=false) (h2:(y.toList==[82,77,67])=false) (h3:(y.toList==[71,83,65])=false) (h4:(y.toList==[86,84,71])=false) (h5:(y.toList==[71,83,86])=false):Calls Tryz.prog 23 #[.agg #[.string t,.string y,.slice A n c]] w fun e w'=>e=.returned (.tuple #[.nilIface,.int .i64 6])∧Below w.heap.size w w':=by
  have HB0:=Lib.hid (below_new w (.cells #[.string t,.string y,.slice A n c] 24))
  go_enter Tryz.func23,Tryz.ntmps23
  go_wp2_with fail
  go_ret2
  exact⟨rfl,HB0.out⟩
theorem text_three (t:ByteArray) (a b c:UInt8):(t.toList==[a,b,c])=decide (t=⟨#[a,b,c]⟩):=by
  have l:(⟨#[a,b,c]⟩:ByteArray).toList=[a,b,c]:=by rw [ByteArray.toList_eq]
  rw [← beq_text,l]
theorem text_not {t:ByteArray} {a b c:UInt8} (h:t≠⟨#[a,b,c]⟩):(t.toList==[a,b,c])=false:=by rw [text_three];exact decide_eq_false h
def SI (l:List Int) (f:Value→List Value) (w:World) (G:List Value):Prop:=∃ x,G=f x∧SlI 0 w x l
def SV (l:List V4) (f:Value→List Value) (w:World) (G:List Value):Prop:=∃ x,G=f x∧SlV 0 w x l
theorem SI.on {l:List Int} {f:Value→List Value} {w w':World} {G:List Value} (h:SI l f w G) (hb:Below w.heap.size w w'):SI l f w' G:=by
  obtain⟨x,h1,h2⟩:=h;exact⟨x,h1,h2.on hb⟩
theorem SV.on {l:List V4} {f:Value→List Value} {w w':World} {G:List Value} (h:SV l f w G) (hb:Below w.heap.size w w'):SV l f w' G:=by
  obtain⟨x,h1,h2⟩:=h;exact⟨x,h1,h2.on hb⟩
theorem ggaPost_out {fs:List ByteArray} {w:World} {e:Ending} {w':World} (h:GgaPost (takeGga fs) w e w'):RdOut 22 (fun _ G=>G=gL (takeGga fs).1) (takeGga fs).2 w e w':=
  ⟨_,h.1,rfl,gL_ones _,rfl,h.2⟩
theorem rmcPost_out {fs:List ByteArray} {w:World} {e:Ending} {w':World} (h:RmcPost (takeRmc fs) w e w'):RdOut 20 (fun _ G=>G=rL (takeRmc fs).1) (takeRmc fs).2 w e w':=
  ⟨_,h.1,rfl,rL_ones _,rfl,h.2⟩
theorem gsaPost_out {fs:List ByteArray} {w:World} {e:Ending} {w':World} (h:GsaPost (takeGsa fs) w e w'):RdOut 9 (SI (takeGsa fs).1.ids (sL (takeGsa fs).1)) (takeGsa fs).2 w e w':=by
  obtain⟨A,n,c,h1,rfl,h3,h4⟩:=h
  exact⟨_,h1,rfl,sL_ones _ (y:=.slice A (takeGsa fs).1.ids.length c) rfl,⟨_,rfl,A,c,rfl,bk_ints h3⟩,h4⟩
theorem vtgPost_out {fs:List ByteArray} {w:World} {e:Ending} {w':World} (h:VtgPost (takeVtg fs) w e w'):RdOut 8 (fun _ G=>G=viewC (l4v (takeVtg fs).1)) (takeVtg fs).2 w e w':=
  ⟨_,by rw [h.1,vtgLV_l4v (takeVtg_len fs)],rfl,vL_ones _,rfl,h.2⟩
theorem gsvPost_out {fs:List ByteArray} {w:World} {e:Ending} {w':World} (h:GsvPost (takeGsv fs) w e w'):RdOut 4 (SV (takeGsv fs).1.L (uL (takeGsv fs).1)) (takeGsv fs).2 w e w':=by
  obtain⟨A,c,h1,h3,h4⟩:=h
  exact⟨_,h1,rfl,uL_ones _ (y:=.slice A (takeGsv fs).1.L.length c) rfl,⟨_,rfl,A,c,rfl,bk_vws h3⟩,h4⟩
theorem rd30_1 (fs:List ByteArray):rd30 ⟨#[71,71,65]⟩ fs=(⟨1,ByteArray.empty,(takeGga fs).1,zeroM,zeroS,zV4,zeroG⟩,(takeGga fs).2):=by
  unfold rd30
  rw [if_pos rfl]
theorem rd30_2 (fs:List ByteArray):rd30 ⟨#[82,77,67]⟩ fs=(⟨2,ByteArray.empty,zeroF,(takeRmc fs).1,zeroS,zV4,zeroG⟩,(takeRmc fs).2):=by
  unfold rd30
  rw [if_neg (by decide)]
  rw [if_pos rfl]
theorem rd30_3 (fs:List ByteArray):rd30 ⟨#[71,83,65]⟩ fs=(⟨3,ByteArray.empty,zeroF,zeroM,(takeGsa fs).1,zV4,zeroG⟩,(takeGsa fs).2):=by
  unfold rd30
  rw [if_neg (by decide)]
  rw [if_neg (by decide)]
  rw [if_pos rfl]
theorem rd30_4 (fs:List ByteArray):rd30 ⟨#[86,84,71]⟩ fs=(⟨4,ByteArray.empty,zeroF,zeroM,zeroS,l4v (takeVtg fs).1,zeroG⟩,(takeVtg fs).2):=by
  unfold rd30
  rw [if_neg (by decide)]
  rw [if_neg (by decide)]
  rw [if_neg (by decide)]
  rw [if_pos rfl]
theorem rd30_5 (fs:List ByteArray):rd30 ⟨#[71,83,86]⟩ fs=(⟨5,ByteArray.empty,zeroF,zeroM,zeroS,zV4,(takeGsv fs).1⟩,(takeGsv fs).2):=by
  unfold rd30
  rw [if_neg (by decide)]
  rw [if_neg (by decide)]
  rw [if_neg (by decide)]
  rw [if_neg (by decide)]
  rw [if_pos rfl]
theorem rd30_no {y:ByteArray} (fs:List ByteArray) (h1:y≠⟨#[71,71,65]⟩) (h2:y≠⟨#[82,77,67]⟩) (h3:y≠⟨#[71,83,65]⟩) (h4:y≠⟨#[86,84,71]⟩) (h5:y≠⟨#[71,83,86]⟩):rd30 y fs=(zD30,6):=by
  unfold rd30
  rw [if_neg h1,if_neg h2,if_neg h3,if_neg h4,if_neg h5]
def ReadOut (x:NmD×Int) (w:World) (e:Ending) (w':World):Prop:=∃ v,e=.returned (.tuple #[v,.int .i64 x.2])∧PartV 0 w' v x.1∧Below w.heap.size w w'
theorem nmRead_any {t y:ByteArray} {fs:List ByteArray} {A:Option Addr} {c:Nat} {w:World} (hs:Strs w w.heap.size A fs) (hn:fs.length≤1000000) (hz:∀ f∈fs,f.size≤1000000) :
    Calls Tryz.prog 23 #[.agg #[.string t,.string y,.slice A fs.length c]] w (ReadOut (rd30 y fs) w):=by
  have hst:∀ W,Below w.heap.size w W→Strs W W.heap.size A fs:=fun W hb=>(hs.below hb (Nat.le_refl _)).more hb.size
  by_cases h1:y=⟨#[71,71,65]⟩
  · subst h1
    rw [rd30_1]
    refine (nmread_1 (S:=(fun _ G=>G=gL (takeGga fs).1)) (E:=(takeGga fs).2) (fun _ _ _ h _=>h) (fun W hb=>(ggaTake_all A fs c W (hst W hb) hz).mono fun _ _ h=>ggaPost_out h)).mono ?_
    rintro e w' ⟨G,rfl,hs,hb⟩
    exact⟨_,rfl,.inl ⟨rfl,by rw [hs]⟩,hb⟩
  by_cases h2:y=⟨#[82,77,67]⟩
  · subst h2
    rw [rd30_2]
    refine (nmread_2 (S:=(fun _ G=>G=rL (takeRmc fs).1)) (E:=(takeRmc fs).2) (fun _ _ _ h _=>h) (fun W hb=>(rmcTake_all A fs c W (hst W hb) hz).mono fun _ _ h=>rmcPost_out h)).mono ?_
    rintro e w' ⟨G,rfl,hs,hb⟩
    exact⟨_,rfl,.inr (.inl ⟨rfl,by rw [hs]⟩),hb⟩
  by_cases h3:y=⟨#[71,83,65]⟩
  · subst h3
    rw [rd30_3]
    refine (nmread_3 (S:=(SI (takeGsa fs).1.ids (sL (takeGsa fs).1))) (E:=(takeGsa fs).2) (fun _ _ _ h hb=>h.on hb) (fun W hb=>(gsaTake_all A fs c W (hst W hb) hz).mono fun _ _ h=>gsaPost_out h)).mono ?_
    rintro e w' ⟨G,rfl,hs,hb⟩
    obtain⟨x,rfl,hx⟩:=hs
    exact⟨_,rfl,.inr (.inr (.inl ⟨rfl,x,rfl,hx⟩)),hb⟩
  by_cases h4:y=⟨#[86,84,71]⟩
  · subst h4
    rw [rd30_4]
    refine (nmread_4 (S:=(fun _ G=>G=viewC (l4v (takeVtg fs).1))) (E:=(takeVtg fs).2) (fun _ _ _ h _=>h) (fun W hb=>(vtgTake_all A fs c W (hst W hb) hn hz).mono fun _ _ h=>vtgPost_out h)).mono ?_
    rintro e w' ⟨G,rfl,hs,hb⟩
    exact⟨_,rfl,.inr (.inr (.inr (.inl ⟨rfl,by rw [hs]⟩))),hb⟩
  by_cases h5:y=⟨#[71,83,86]⟩
  · subst h5
    rw [rd30_5]
    refine (nmread_5 (S:=(SV (takeGsv fs).1.L (uL (takeGsv fs).1))) (E:=(takeGsv fs).2) (fun _ _ _ h hb=>h.on hb) (fun W hb=>(gsvTake_all A fs c W (hst W hb) hn hz).mono fun _ _ h=>gsvPost_out h)).mono ?_
    rintro e w' ⟨G,rfl,hs,hb⟩
    obtain⟨x,rfl,hx⟩:=hs
    exact⟨_,rfl,.inr (.inr (.inr (.inr (.inl ⟨rfl,x,rfl,hx⟩)))),hb⟩
  rw [rd30_no fs h1 h2 h3 h4 h5]
  refine (nmread_no (text_not h1) (text_not h2) (text_not h3) (text_not h4) (text_not h5)).mono ?_
  rintro e w' ⟨rfl,hb⟩
  exact⟨_,rfl,.inr (.inr (.inr (.inr (.inr ⟨by decide,rfl⟩)))),hb⟩
theorem rd30_ids (y:ByteArray) (fs:List ByteArray):(rd30 y fs).1.s.ids.length≤1000000∧(rd30 y fs).1.u.L.length≤1000000:=by
  have h1:=takeGsa_len fs
  have h2:=takeGsv_len fs
  have e1:zeroS.ids.length≤1000000:=by decide
  have e2:zeroG.L.length≤1000000:=by decide
  unfold rd30
  split
  · exact⟨e1,e2⟩
  split
  · exact⟨e1,e2⟩
  split
  · exact⟨Nat.le_trans h1 (by omega),e2⟩
  split
  · exact⟨e1,e2⟩
  split
  · exact⟨e1,Nat.le_trans h2 (by omega)⟩
  · exact⟨e1,e2⟩
def NmOut (x:NmD×Int) (w:World) (e:Ending) (w':World):Prop:=∃ C,e=.returned (.tuple #[.agg C,.int .i64 x.2])∧NmV w.heap.size w' C x.1∧Below w.heap.size w w'
theorem nm_sizeC {lo:Nat} {w:World} {C:Array Value} {m:NmD} (h:NmV lo w C m):(Tryz.prog.info? 46).map (·.size)=some C.size:=by rw [h.len];exact nm_size
theorem nm_thereC {w w':World} {b:Nat} {k:Int} {t:ByteArray} {G R S V U:List Value} {lo:Nat} {C:Array Value} {m:NmD} (h:Blk w b (nmL k t G R S V U)) (hl:Lens G R S V U) (hC:NmV lo w' C m):w.there b 0 C.size:=by rw [hC.len];exact h.nm65 hl
theorem nm_lenC {lo:Nat} {w:World} {C:Array Value} {m:NmD} (h:NmV lo w C m):C.toList.length=(nmL 0 ByteArray.empty zGga zRmc zGsa zVtg zGsv).length:=by rw [Array.length_toList,h.len,nmL_len zLens]
set_option maxRecDepth 8000 in
set_option maxHeartbeats 4000000 in
theorem nmTake_any {t y:ByteArray} {fs:List ByteArray} {A:Option Addr} {c:Nat} {w:World} (hs:Strs w w.heap.size A fs) (hn:fs.length≤1000000) (hz:∀ f∈fs,f.size≤1000000) :
    Calls Tryz.prog 9 #[.agg #[.string t,.string y,.slice A fs.length c]] w (NmOut (take30 t y fs) w):=by
  obtain⟨⟨m,E⟩,hmE⟩:∃ x,rd30 y fs=x:=⟨_,rfl⟩
  obtain⟨n,hfn⟩:∃ n,fs.length=n:=⟨_,rfl⟩
  have HID:Hid (m.s.ids.length≤1000000∧m.u.L.length≤1000000):=by have:=rd30_ids y fs;rw [hmE] at this;exact this
  have HR:∀ W,Below w.heap.size w W→Hid (Calls Tryz.prog 23 #[.agg #[.string t,.string y,.slice A n c]] W (ReadOut (m,E) W)):=fun W hb=>by
    have:=nmRead_any (t:=t) (y:=y) (c:=c) ((hs.below hb (Nat.le_refl _)).more hb.size) hn hz
    rw [hmE,hfn] at this
    exact this
  have HT:Hid (take30 t y fs=if E=0 then (only30 t m,0) else (zD30,E)):=by unfold take30;rw [hmE];exact rfl
  rw [hfn]
  clear hs hn hz hmE hfn
  go_enter Tryz.func9,Tryz.ntmps9
  go_wp2_with (first
    | (refine wpList_box_new rfl _ _ rfl #[.string t,.string y,.slice A n c] rfl ?_;intro W0 hW0;have HS0:=Lib.hid (Blk.newL (L:=[.string t,.string y,.slice A n c]) hW0 rfl);have HBE0:=Lib.hid hW0.bel;have HZ0:=Lib.hid hW0.sz;clear hW0)
    | (refine wpList_alloc_new rfl 46 rfl zNm (zero_Nm _) ?_;intro W1 hW1;have HR1:=Lib.hid (Blk.newL (L:=nmL 0 ByteArray.empty zGga zRmc zGsa zVtg zGsv) hW1 rfl);have HBE1:=Lib.hid (bthen HBE0.out hW1.bel);have HS1:=Lib.hid (HS0.out.grew hW1);have HZ1:=Lib.hid hW1.sz;clear hW1 HBE0 HS0)
    | refine wpList_load_mid rfl 24 _ rfl w.heap.size 0 rfl [.string t,.string y,.slice A n c] _ HS1.out.rg Tryz.underlying24 rfl sen_size ?_)
  refine (HR _ HBE1.out).out.mono ?_
  rintro e W2 ⟨v,rfl,hp,hb⟩
  have HP:=Lib.hid hp
  have HR2:=Lib.hid (HR1.out.on hb)
  have HS2:=Lib.hid (HS1.out.on hb)
  have HBE2:=Lib.hid (bthen HBE1.out hb)
  have HZ2:Hid (W0.heap.size < W2.heap.size):=HR2.out.lt
  have HBE2l:Hid (w.heap.size≤W2.heap.size):=HBE2.out.size
  have c0:=HS2.out.cell 0 rfl
  clear hp hb HR1 HS1 HBE1 HR
  dsimp only
  by_cases h0:E=0
  · subst h0
    have HX:Hid (take30 t y fs=(only30 t m,0)):=HT.out.trans (if_pos rfl)
    clear HT
    go_wp2_with fail
    refine (nmWith_any (t:=t) HP.out HID.out.1 HID.out.2).mono ?_
    rintro e W4 ⟨D,rfl,hd,hb⟩
    have HD:=Lib.hid hd
    have HR4:=Lib.hid (HR2.out.on hb)
    have HBE4:=Lib.hid (bthen HBE2.out hb)
    clear hd hb HR2 HS2 HBE2 HP c0
    go_wp2_with (first
      | (refine wpList_alloc_new rfl 46 rfl zNm (zero_Nm _) ?_;intro W5 hW5;have HA:=Lib.hid (Blk.newL (L:=nmL 0 ByteArray.empty zGga zRmc zGsa zVtg zGsv) hW5 rfl);have HR5:=Lib.hid (HR4.out.grew hW5);have HBE5:=Lib.hid (bthen HBE4.out hW5.bel);have HD5:=Lib.hid (HD.out.on hW5.bel);have HL5:=Lib.hid hW5.bel;have HW4:Hid (W0.heap.size < W4.heap.size):=HR4.out.lt;clear hW5 HR4)
      | (refine wpList_store_in rfl 46 _ _ rfl W4.heap.size 0 D rfl rfl (nm_thereC HA.out zLens HD.out) (nm_sizeC HD.out) HD.out.ones ?_;intro W6 hW6;have HM6:Hid (Blk W6 W4.heap.size D.toList):=HA.out.all hW6 (nm_lenC HD.out);have HR6:=Lib.hid (HR5.out.far hW6 (by have:=HW4.out;omega));have HL6:=Lib.hid (HL5.out.trans (hW6.below (Nat.le_refl _)));have HBE6:=Lib.hid (HBE5.out.trans (hW6.below (by have:=HBE4.out.size;omega)));clear hW6 HR5 HBE5 HA)
      | refine wpList_load_mid rfl 46 _ rfl W4.heap.size 0 rfl D.toList _ HM6.out.rg Tryz.underlying46 rfl (by rw [Array.length_toList];exact nm_sizeC HD.out) ?_
      | (refine wpList_store_in rfl 46 _ _ rfl W0.heap.size 0 D rfl rfl (nm_thereC HR6.out zLens HD.out) (nm_sizeC HD.out) HD.out.ones ?_;intro W7 hW7;have HM7:Hid (Blk W7 W0.heap.size D.toList):=HR6.out.all hW7 (nm_lenC HD.out);have HBE7:=Lib.hid (HBE6.out.trans (hW7.below (by have:=HZ0.out;omega)));have HD7:=Lib.hid ((HD.out.on HL6.out).far hW7 HZ2.out);clear hW7 HR6 HBE6))
    have HLD:=Lib.hid (run_loadVar_mid (P:=Tryz.prog) _ W0.heap.size 0 46 _ _ HM7.out.rg Tryz.underlying46 rfl (by rw [Array.length_toList];exact nm_sizeC HD.out))
    refine bodyPost_ret (v:=.tuple #[.agg D,.int .i64 0]) (by rw [results_cell_tmp rfl];simp [asAddr,Result.andThen,HLD.out]) rfl ?_
    rw [HX.out]
    exact⟨D,rfl,HD7.out.less (by have:=HBE2l.out;omega),HBE7.out⟩
  · have HX:Hid (take30 t y fs=(zD30,E)):=HT.out.trans (if_neg h0)
    have hne:(E != 0)=true:=by rw [bne_iff_ne];exact h0
    clear HT
    go_wp2_with (first
      | refine wpList_build0 rfl 46 rfl (build_Nm0 _) ?_
      | (refine wpList_store_in rfl 46 _ _ rfl W0.heap.size 0 zNm rfl rfl (nm_thereC HR2.out zLens (NmV.zero 0 w)) (nm_sizeC (NmV.zero 0 w)) (NmV.zero 0 w).ones ?_;intro W7 hW7;have HM7:Hid (Blk W7 W0.heap.size zNm.toList):=HR2.out.all hW7 (nm_lenC (NmV.zero 0 w));have HBE7:=Lib.hid (HBE2.out.trans (hW7.below (by have:=HZ0.out;omega)));clear hW7 HR2 HBE2))
    have HLD:=Lib.hid (run_loadVar_mid (P:=Tryz.prog) _ W0.heap.size 0 46 _ _ HM7.out.rg Tryz.underlying46 rfl (by rw [Array.length_toList];exact nm_sizeC (NmV.zero 0 w)))
    refine bodyPost_ret (v:=.tuple #[.agg zNm,.int .i64 E]) (by rw [results_cell_tmp rfl];simp [asAddr,Result.andThen,HLD.out]) rfl ?_
    rw [HX.out]
    exact⟨zNm,rfl,NmV.zero _ _,HBE7.out⟩
end Go.Proofs.YtoabkoniegmkaaaGreat
