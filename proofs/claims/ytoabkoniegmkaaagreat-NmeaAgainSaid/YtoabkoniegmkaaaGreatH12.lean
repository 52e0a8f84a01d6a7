/- Layer 28: Put. -/
import Derived.Test.YtoabkoniegmkaaaGreatH11
import Derived.Deep.DeepCutAuto
import Derived.Deep.CutBlock
namespace Go.Proofs.YtoabkoniegmkaaaGreat
set_option linter.unusedVariables false
open Go.RowKit
theorem Kept.undrew {S:Nat→Prop} {g:Nat} {w w':World} (h:Kept S g w.drew w'):Kept S g w w':=⟨h.os,h.tape,h.output,h.size,h.block⟩
theorem wrNum_len {W M F L H:Int} {n:Bool×Int} {s:Rd}:(wrNum W M F L H n s).2.length=s.2.length+1:=by unfold wrNum;simp
theorem wrText_len {a:ByteArray} {E:Int} {s:Rd}:(wrText a E s).2.length=s.2.length+1:=by unfold wrText;simp
theorem wrCol_len {k:Cl} {n:Bool×Int} {s:Rd}:(wrCol k n s).2.length=s.2.length+2:=by unfold wrCol;rw [wrText_len,wrNum_len]
structure ColAt (S:Nat→Prop) (g P M o:Nat) (b:Bool) (n:Int) (w:World):Prop where
  p:w.cell? ⟨P,0,none⟩=some (.pointer (some ⟨g,0,none⟩))
  sp:S P
  pg:P≠g
  sm:S M
  mg:M≠g
  m0:w.cell? ⟨M,o,none⟩=some (.bool b)
  m1:w.cell? ⟨M,o+1,none⟩=some (.int .i64 n)
theorem ColAt.keep {S:Nat→Prop} {g P M o:Nat} {b:Bool} {n:Int} {w w':World} (h:ColAt S g P M o b n w) (hk:Kept S g w w'):ColAt S g P M o b n w':=
  ⟨(hk.cell h.sp h.pg).trans h.p,h.sp,h.pg,h.sm,h.mg,(hk.cell h.sm h.mg).trans h.m0,(hk.cell h.sm h.mg).trans h.m1⟩
set_option maxRecDepth 8000 in
set_option maxHeartbeats 4000000 in
theorem vtgPut1_any {S:Nat→Prop} {g P M o:Nat} {s t:Rd} {b:Bool} {n W M' F L H:Int} {c:ByteArray} {w:World} (ht:Hid (wrCol ⟨W,M',F,L,H,c⟩ (b,n) s=t)) (hp:PenI S g s w) (hg:g < w.heap.size) (hl:s.2.length+4≤1000000) (ha:ColAt S g P M o b n w) :
    Calls Tryz.prog 278 #[clV W M' F L H c,.pointer (some ⟨M,o,none⟩),.pointer (some ⟨P,0,none⟩)] w (PenStep S g t w):=by
  obtain⟨s1,hs1⟩:∃ s1,wrNum W M' F L H (b,n) s=s1:=⟨_,rfl⟩
  have HS1:=Lib.hid hs1
  have HT1:Hid (wrText (unitT b c) 0 s1=t):=by show _=_;rw [← hs1];exact ht.out
  have hl1:s1.2.length+2≤1000000:=by rw [← hs1,wrNum_len];omega
  have hb0:=below_new w (clO W M' F L H c)
  have hp0:=hp.also hb0
  have hk0:Hid (Kept S g w (w.alloc (clO W M' F L H c))):=Kept.of_below hb0 hp.bd
  have HN:Hid (Calls Tryz.prog 228 #[.pointer (some ⟨g,0,none⟩),numV b n,colV W M' F L H] (w.alloc (clO W M' F L H c)).drew (PenStep (Also S w (w.alloc (clO W M' F L H c))) g s1 (w.alloc (clO W M' F L H c)).drew)):=penNum HS1 (hp0.keep (bdrew (Below.refl _ _))) (by omega)
  have HT:∀ S' w',PenI S' g s1 w'→Hid (Calls Tryz.prog 230 #[.pointer (some ⟨g,0,none⟩),.string (unitT b c),.int .i64 0] w' (PenStep S' g t w')):=fun S' w' h=>penText HT1 h hl1
  have ha0:ColAt (Also S w (w.alloc (clO W M' F L H c))) g P M o b n (w.alloc (clO W M' F L H c)):=by
    have k:=ha.keep hk0.out
    exact⟨k.p,.inl k.sp,k.pg,.inl k.sm,k.mg,k.m0,k.m1⟩
  have hcol:∀ j,(w.alloc (clO W M' F L H c)).cell? ⟨w.heap.size,j,none⟩=(clC W M' F L H c)[j]?:=fun j=>World.cell?_alloc_at _ _ _ _ rfl
  have hSB:Hid (Also S w (w.alloc (clO W M' F L H c)) w.heap.size):=.inr ⟨Nat.le_refl _,by simp⟩
  have hBg:Hid (w.heap.size≠g):=by show _≠_;omega
  have HLESS:Hid (∀ k,S k→Also S w (w.alloc (clO W M' F L H c)) k):=fun k hk=>.inl hk
  obtain⟨a1,a2,a3,a4,a5,a6,a7⟩:=id ha0
  have c0:=hcol 0
  have c1:=hcol 1
  have c2:=hcol 2
  have c3:=hcol 3
  have c4:=hcol 4
  have c5:=hcol 5
  clear ht hp hs1 HS1 HT1 hl hb0 hp0 ha
  go_enter Tryz.func278,Tryz.ntmps278
  go_upto_region 1 with fail
  generalize hW0:w.alloc (clO W M' F L H c)=W0 at *
  generalize Also S w W0=S' at *
  have HA:=Lib.hid ha0
  have HC:=Lib.hid hcol
  clear hW0 ha0 hcol
  go_cut [] (fun wx=>Hid (PenI S' g s1 wx∧Kept S' g W0 wx))
  case first=>
    go_region_with (go_at_call 228;refine HN.out.mono ?_;rintro r w1 ⟨rfl,hp1,hk1⟩)
    all_goals go_wp2_with fail
    all_goals go_meet
    all_goals exact Lib.hid ⟨hp1,hk1.undrew⟩
  case rest=>
    obtain⟨hp1,hk1⟩:=hcut.out
    have HA1:=Lib.hid (HA.out.keep hk1)
    have hcx:=fun j:Nat=>(hk1.cell (o:=j) hSB.out hBg.out).trans (HC.out j)
    clear c0 c1 c2 c3 c4 c5 a1 a2 a3 a4 a5 a6 a7
    have c0:=hcx 0
    have c1:=hcx 1
    have c2:=hcx 2
    have c3:=hcx 3
    have c4:=hcx 4
    have c5:=hcx 5
    obtain⟨a1,a2,a3,a4,a5,a6,a7⟩:=id HA1.out
    have HP1:=Lib.hid hp1
    have HK1:=Lib.hid hk1
    clear hcx hp1 hk1 HN HC HA
    go_wp2_with fail
    go_region_with (first | (go_at_call 279;refine (vtgbehind_any _ _ _ _ _ _ _ _ _).mono ?_;rintro r w2 ⟨rfl,hb2⟩;have hk2:=Lib.hid (Kept.undrew (Kept.of_below (S:=S') (g:=g) hb2 HP1.out.bd));have p2:=(HA1.out.keep hk2.out).p;have R2:=Lib.hid (HP1.out.keep (w':=w2) (Below.trans (bdrew (Below.refl _ _)) hb2))) | (go_at_call 230;refine (HT S' _ R2.out).out.mono ?_;rintro r w3 ⟨rfl,hp3,hk3⟩))
    all_goals go_wp2_with fail
    all_goals go_end0
    all_goals exact⟨rfl,hp3.less HLESS.out,hk0.out.trans (((HK1.out.trans hk2.out).trans hk3).less HLESS.out)⟩
end Go.Proofs.YtoabkoniegmkaaaGreat
