/- Layer 28: Put. -/
import Derived.Test.YtoabkoniegmkaaaGreatJ08
import Derived.Deep.DeepCutAuto
import Derived.Deep.CutBlock
namespace Go.Proofs.YtoabkoniegmkaaaGreat
set_option linter.unusedVariables false
open Go.RowKit
theorem Kept.undrew {S:Nat→Prop} {g:Nat} {w w':World} (h:Kept S g w.drew w'):Kept S g w w':=⟨h.os,h.tape,h.output,h.size,h.block⟩
theorem wrNum_len {W M F L H:Int} {n:Bool×Int} {s:Rd}:(wrNum W M F L H n s).2.length=s.2.length+1:=by unfold wrNum;simp
theorem wrText_len {a:ByteArray} {E:Int} {s:Rd}:(wrText a E s).2.length=s.2.length+1:=by unfold wrText;simp
theorem wrCol_len {k:Cl} {n:Bool×Int} {s:Rd}:(wrCol k n s).2.length=s.2.length+2:=by unfold wrCol;rw [wrText_len,wrNum_len]
structure ColAt (S:Nat→Prop) (g P M o:Nat) (b:Bool) (n:Int) (w:World):Prop where
  p:w.cell? ⟨P,0,none⟩=some (.pointer (some ⟨g,0,none⟩))
  sp:S P
  pg:P≠g
  sm:S M
  mg:M≠g
  m0:w.cell? ⟨M,o,none⟩=some (.bool b)
  m1:w.cell? ⟨M,o+1,none⟩=some (.int .i64 n)
theorem ColAt.keep {S:Nat→Prop} {g P M o:Nat} {b:Bool} {n:Int} {w w':World} (h:ColAt S g P M o b n w) (hk:Kept S g w w'):ColAt S g P M o b n w':=
  ⟨(hk.cell h.sp h.pg).trans h.p,h.sp,h.pg,h.sm,h.mg,(hk.cell h.sm h.mg).trans h.m0,(hk.cell h.sm h.mg).trans h.m1⟩
set_option maxRecDepth 8000 in
set_option maxHeartbeats 4000000 in
theorem vtgPut1_any {S:Nat→Prop} {g P M o:Nat} {s t:Rd} {b:Bool} {n W M' F L H:Int} {c:ByteArray} {w:World} (ht:Hid (wrCol ⟨W,M',F,L,H,c⟩ (b,n) s=t)) (hp:PenI S g s w) (hg:g < w.heap.size) (hl:s.2.length+4≤1000000) (ha:ColAt S g P M o b n w) :
    Calls Tryz.prog 278 #[clV W M' F L H c,.pointer (some ⟨M,o,none⟩),.pointer (some ⟨P,0,none⟩)] w (PenStep S g t w):=by
  obtain⟨s1,hs1⟩:∃ s1,wrNum W M' F L H (b,n) s=s1:=⟨_,rfl⟩
  have HS1:=Lib.hid hs1
  have HT1:Hid (wrText (unitT b c) 0 s1=t):=by show _=_;rw [← hs1];exact ht.out
  have hl1:s1.2.length+2≤1000000:=by rw [← hs1,wrNum_len];omega
  have hb0:=below_new w (clO W M' F L H c)
  have hp0:=hp.also hb0
  have hk0:Hid (Kept S g w (w.alloc (clO W M' F L H c))):=Kept.of_below hb0 hp.bd
  have HN:Hid (Calls Tryz.prog 228 #[.pointer (some ⟨g,0,none⟩),numV b n,colV W M' F L H] (w.alloc (clO W M' F L H c)).drew (PenStep (Also S w (w.alloc (clO W M' F L H c))) g s1 (w.alloc (clO W M' F L H c)).drew)):=penNum HS1 (hp0.keep (bdrew (Below.refl _ _))) (by omega)
  have HT:∀ S' w',PenI S' g s1 w'→Hid (Calls Tryz.prog 230 #[.pointer (some ⟨g,0,none⟩),.string (unitT b c),.int .i64 0] w' (PenStep S' g t w')):=fun S' w' h=>penText HT1 h hl1
  have ha0:ColAt (Also S w (w.alloc (clO W M' F L H c))) g P M o b n (w.alloc (clO W M' F L H c)):=by
    have k:=ha.keep hk0.out
    exact⟨k.p,.inl k.sp,k.pg,.inl k.sm,k.mg,k.m0,k.m1⟩
  have hcol:∀ j,(w.alloc (clO W M' F L H c)).cell? ⟨w.heap.size,j,none⟩=(clC W M' F L H c)[j]?:=fun j=>World.cell?_alloc_at _ _ _ _ rfl
  have hSB:Hid (Also S w (w.alloc (clO W M' F L H c)) w.heap.size):=.inr ⟨Nat.le_refl _,by simp⟩
  have hBg:Hid (w.heap.size≠g):=by show _≠_;omega
  have HLESS:Hid (∀ k,S k→Also S w (w.alloc (clO W M' F L H c)) k):=fun k hk=>.inl hk
  obtain⟨a1,a2,a3,a4,a5,a6,a7⟩:=id ha0
  have c0:=hcol 0
  have c1:=hcol 1
  have c2:=hcol 2
  have c3:=hcol 3
  have c4:=hcol 4
  have c5:=hcol 5
  clear ht hp hs1 HS1 HT1 hl hb0 hp0 ha
  go_enter Tryz.func278,Tryz.ntmps278
  go_upto_region 1 with fail
  generalize hW0:w.alloc (clO W M' F L H c)=W0 at *
  generalize Also S w W0=S' at *
  have HA:=Lib.hid ha0
  have HC:=Lib.hid hcol
  clear hW0 ha0 hcol
  go_cut [] (fun wx=>Hid (PenI S' g s1 wx∧Kept S' g W0 wx))
  case first=>
    go_region_with (go_at_call 228;refine HN.out.mono ?_;rintro r w1 ⟨rfl,hp1,hk1⟩)
    all_goals go_wp2_with fail
    all_goals go_meet
    all_goals exact Lib.hid ⟨hp1,hk1.undrew⟩
  case rest=>
    obtain⟨hp1,hk1⟩:=hcut.out
    have HA1:=Lib.hid (HA.out.keep hk1)
    have hcx:=fun j:Nat=>(hk1.cell (o:=j) hSB.out hBg.out).trans (HC.out j)
    clear c0 c1 c2 c3 c4 c5 a1 a2 a3 a4 a5 a6 a7
    have c0:=hcx 0
    have c1:=hcx 1
    have c2:=hcx 2
    have c3:=hcx 3
    have c4:=hcx 4
    have c5:=hcx 5
    obtain⟨a1,a2,a3,a4,a5,a6,a7⟩:=id HA1.out
    have HP1:=Lib.hid hp1
    have HK1:=Lib.hid hk1
    clear hcx hp1 hk1 HN HC HA
    go_wp2_with fail
    go_region_with (first | (go_at_call 279;refine (vtgbehind_any _ _ _ _ _ _ _ _ _).mono ?_;rintro r w2 ⟨rfl,hb2⟩;have hk2:=Lib.hid (Kept.undrew (Kept.of_below (S:=S') (g:=g) hb2 HP1.out.bd));have p2:=(HA1.out.keep hk2.out).p;have R2:=Lib.hid (HP1.out.keep (w':=w2) (Below.trans (bdrew (Below.refl _ _)) hb2))) | (go_at_call 230;refine (HT S' _ R2.out).out.mono ?_;rintro r w3 ⟨rfl,hp3,hk3⟩))
    all_goals go_wp2_with fail
    all_goals go_end0
    all_goals exact⟨rfl,hp3.less HLESS.out,hk0.out.trans (((HK1.out.trans hk2.out).trans hk3).less HLESS.out)⟩
theorem gsvseen_any (w:World):Calls Tryz.prog 138 #[] w fun e w'=>e=.returned (colV 1 2 0 0 99)∧Below w.heap.size w w':=by
  go_enter Tryz.func138,Tryz.ntmps138
  go_wp2
  refine bodyPost_ret (v:=colV 1 2 0 0 99) (by simp [results,Tryz.results138,go_sem]) rfl ⟨rfl,below_new _ _⟩
theorem gsvid_any (w:World):Calls Tryz.prog 139 #[] w fun e w'=>e=.returned (colV 1 3 0 1 255)∧Below w.heap.size w w':=by
  go_enter Tryz.func139,Tryz.ntmps139
  go_wp2
  refine bodyPost_ret (v:=colV 1 3 0 1 255) (by simp [results,Tryz.results139,go_sem]) rfl ⟨rfl,below_new _ _⟩
theorem gsvelev_any (w:World):Calls Tryz.prog 140 #[] w fun e w'=>e=.returned (colV 1 2 0 0 90)∧Below w.heap.size w w':=by
  go_enter Tryz.func140,Tryz.ntmps140
  go_wp2
  refine bodyPost_ret (v:=colV 1 2 0 0 90) (by simp [results,Tryz.results140,go_sem]) rfl ⟨rfl,below_new _ _⟩
theorem gsvazim_any (w:World):Calls Tryz.prog 141 #[] w fun e w'=>e=.returned (colV 1 3 0 0 359)∧Below w.heap.size w w':=by
  go_enter Tryz.func141,Tryz.ntmps141
  go_wp2
  refine bodyPost_ret (v:=colV 1 3 0 0 359) (by simp [results,Tryz.results141,go_sem]) rfl ⟨rfl,below_new _ _⟩
theorem gsvlevel_any (w:World):Calls Tryz.prog 142 #[] w fun e w'=>e=.returned (colV 1 2 0 0 99)∧Below w.heap.size w w':=by
  go_enter Tryz.func142,Tryz.ntmps142
  go_wp2
  refine bodyPost_ret (v:=colV 1 2 0 0 99) (by simp [results,Tryz.results142,go_sem]) rfl ⟨rfl,below_new _ _⟩
abbrev colsG:Array Value:=#[.int .i64 1,.int .i64 2,.int .i64 0,.int .i64 0,.int .i64 99,.int .i64 1,.int .i64 3,.int .i64 0,.int .i64 1,.int .i64 255,.int .i64 1,.int .i64 2,.int .i64 0,.int .i64 0,.int .i64 90,.int .i64 1,.int .i64 3,.int .i64 0,.int .i64 0,.int .i64 359,.int .i64 1,.int .i64 2,.int .i64 0,.int .i64 0,.int .i64 99]
theorem r29Cols_any (w:World):Calls Tryz.prog 65 #[] w fun e w'=>e=.returned (.slice (some ⟨w.heap.size,0,none⟩) 5 5)∧(∀ o,w'.cell? ⟨w.heap.size,o,none⟩=colsG[o]?)∧w'.heap.size=w.heap.size+1∧Below w.heap.size w w':=by
  go_enter Tryz.func65,Tryz.ntmps65
  go_wp2
  go_ret
  exact⟨rfl,fun o=>World.cell?_alloc_at _ _ _ _ rfl,by simp,below_new _ _⟩
theorem rowFail {S:Nat→Prop} {g:Nat} {s t:Rd} {w:World} {E:Int} (ht:Hid (rdFail E s=t)) (hp:RowI S g s w) :
    Calls Tryz.prog 60 #[.pointer (some ⟨g,0,none⟩),.int .i64 E] w (RowStep S g t w):=by
  have ht:=ht.out
  subst ht
  obtain⟨v,h1,h3,h4⟩:=hp
  refine (First_any g s.1 E w h1.2.1 (h1.2.2.1 2)).mono ?_
  rintro r w' ⟨rfl,rfl⟩
  have hf:=frm_notedR w g s.1 E v
  exact⟨rfl,⟨v,h1.noted,fun k hk=>Nat.lt_of_lt_of_le (h3 k hk) hf.size,h4⟩,Kept.frm hf h4 h3⟩
def digS (lo hi n:Int):ByteArray:=if n < lo∨hi < n then ByteArray.empty else digT n
def digE (lo hi n:Int):Int:=if n < lo∨hi < n then 5 else 0
theorem wrDig_text (lo hi n:Int) (s:Rd):wrDig lo hi n s=wrText (digS lo hi n) (digE lo hi n) s:=by
  unfold wrDig digS digE
  by_cases h:n < lo∨hi < n
  · rw [if_pos h,if_pos h,if_pos h]
  · rw [if_neg h,if_neg h,if_neg h]
set_option maxRecDepth 8000 in
set_option maxHeartbeats 1000000 in
theorem gsvdigit_any (n top:Int) (w:World):Calls Tryz.prog 282 #[.int .i64 n,.int .i64 top] w fun e w'=>e=.returned (.tuple #[.string (digS 1 (min top 9) n),.int .i64 (digE 1 (min top 9) n)])∧Below w.heap.size w w':=by
  by_cases h1:n < 1
  · have e1:digS 1 (min top 9) n=ByteArray.empty:=if_pos (.inl h1)
    have e2:digE 1 (min top 9) n=5:=if_pos (.inl h1)
    rw [e1,e2]
    clear e1 e2
    go_enter Tryz.func282,Tryz.ntmps282
    go_wp2
    go_ret2
    exact⟨rfl,Below.refl _ _⟩
  by_cases h2:min top 9 < n
  · have e1:digS 1 (min top 9) n=ByteArray.empty:=if_pos (.inr h2)
    have e2:digE 1 (min top 9) n=5:=if_pos (.inr h2)
    rw [e1,e2]
    clear e1 e2
    have i1:1≤n:=by omega
    by_cases h3:top≤9
    · have i2:top < n:=by omega
      clear h1 h2
      go_enter Tryz.func282,Tryz.ntmps282
      go_wp2
      all_goals go_ret2
      all_goals exact⟨rfl,Below.refl _ _⟩
    · have i2:9 < n:=by omega
      have i3:9 < top:=by omega
      clear h1 h2 h3
      go_enter Tryz.func282,Tryz.ntmps282
      go_wp2
      all_goals go_ret2
      all_goals exact⟨rfl,Below.refl _ _⟩
  · have e1:digS 1 (min top 9) n=digT n:=if_neg (by omega)
    have e2:digE 1 (min top 9) n=0:=if_neg (by omega)
    rw [e1,e2]
    clear e1 e2
    have i1:1≤n:=by omega
    have i2:n≤top:=by omega
    have i3:n≤9:=by omega
    have kc:=run_conv1 (P:=Tryz.prog) 141 9 5 Tryz.underlying141 Tryz.underlying5 Tryz.underlying9
    clear h1 h2
    by_cases h3:top≤9
    · go_enter Tryz.func282,Tryz.ntmps282
      go_wp2
      all_goals go_ret2
      all_goals exact⟨rfl,below_new _ _⟩
    · have i4:9 < top:=by omega
      clear h3
      go_enter Tryz.func282,Tryz.ntmps282
      go_wp2
      all_goals go_ret2
      all_goals exact⟨rfl,below_new _ _⟩
theorem digL_one {n:Int} (h0:0≤n) (h9:n≤9):toB (digL n.toNat 1)=digT n:=by
  rcases (by omega:n=0∨n=1∨n=2∨n=3∨n=4∨n=5∨n=6∨n=7∨n=8∨n=9) with rfl | rfl | rfl | rfl | rfl | rfl | rfl | rfl | rfl | rfl <;> decide +kernel
set_option maxHeartbeats 1000000 in
theorem r25PutDigit_any {S:Nat→Prop} {g:Nat} {s t:Rd} {lo hi n:Int} {w:World} (ht:Hid (wrDigR lo hi n s=t)) (hlo:0≤lo) (hhi:hi≤9) (hp:RowI S g s w) (hl:s.2.length+2≤1000000) :
    Calls Tryz.prog 87 #[.pointer (some ⟨g,0,none⟩),.int .i64 n,.int .i64 lo,.int .i64 hi] w (RowStep S g t w):=by
  by_cases hq:n < lo∨hi < n
  · have ht2:Hid (rdFail 5 s=t):=(show rdFail 5 s=wrDigR lo hi n s from (if_pos hq).symm).trans ht.out
    have HF:=Lib.hid (rowFail ht2 hp)
    clear ht ht2 hp
    by_cases h1:n < lo
    · clear hq
      go_enter Tryz.func87,Tryz.ntmps87
      go_wp2_with fail
      refine (HF.out).mono ?_
      rintro e w1 ⟨rfl,h1,h2⟩
      go_wp2_with fail
      go_end0
      exact⟨rfl,h1,h2⟩
    · have i1:lo≤n:=by omega
      have i2:hi < n:=by omega
      clear hq h1
      go_enter Tryz.func87,Tryz.ntmps87
      go_wp2_with fail
      refine (HF.out).mono ?_
      rintro e w1 ⟨rfl,h1,h2⟩
      go_wp2_with fail
      go_end0
      exact⟨rfl,h1,h2⟩
  · have ht2:Hid (wrText (digT n) 0 s=t):=(show wrText (digT n) 0 s=wrDigR lo hi n s from (if_neg hq).symm).trans ht.out
    have i1:lo≤n:=by omega
    have i2:n≤hi:=by omega
    have HD:∀ W,Hid (Calls Tryz.prog 164 #[.int .i64 n,.int .i64 1] W fun e w'=>e=.returned (.string (digT n))∧Below W.heap.size W w'):=fun W=>by
      have:=r23Digits_any n.toNat 1 W (by omega) (by omega)
      rw [digL_one (by omega) (by omega),show ((n.toNat:Nat):Int)=n from by omega] at this
      exact this
    have HT:∀ W,Below w.heap.size w W→Hid (Calls Tryz.prog 91 #[.pointer (some ⟨g,0,none⟩),.string (digT n),.int .i64 0] W (RowStep S g t W)):=fun W hb=>rowText ht2 (hp.keep hb) hl
    have HB:∀ W,Below w.heap.size w W→Hid (Kept S g w W):=fun W hb=>Kept.of_below hb hp.bd
    clear ht ht2 hp hq
    go_enter Tryz.func87,Tryz.ntmps87
    go_wp2_with fail
    refine ((HD _).out).mono ?_
    rintro e w1 ⟨rfl,hb1⟩
    go_wp2_with fail
    refine ((HT _ hb1).out).mono ?_
    rintro e w2 ⟨rfl,h1,h2⟩
    go_wp2_with fail
    go_end0
    exact⟨rfl,h1,(HB _ hb1).out.trans h2⟩
end Go.Proofs.YtoabkoniegmkaaaGreat
