/- Layer 31: the forms (asked). Printed by gensch3.py. -/
import Derived.Test.YtaiepcgfofpmjaaGreatS25
import Derived.Test.YtaiepcgfofpmjaaGreatS26
import Derived.Test.YtaiepcgfofpmjaaGreatS27
import Derived.Test.YtaiepcgfofpmjaaGreatS28
import Derived.BigQuiet
import Derived.Deep.QuietTactic
namespace Go.Proofs.YtaiepcgfofpmjaaGreat
set_option linter.unusedVariables false
open Go.RowKit
set_option maxRecDepth 8000
set_option maxHeartbeats 1000000
theorem schAsked_35 (w:World):Calls Tryz.prog 277 #[.int .i64 35] w (FrmNew form35 w):=by
  go_enter Tryz.func277,Tryz.ntmps277
  go_upto_region 1 with fail
  have P0:=Lib.hid (Pk.start w)
  generalize w.alloc (.cells #[.string ⟨#[]⟩,.slice none 0 0] 371)=w0 at *
  go_wp2_with fail
  refine (pk_u32 n35_0 P0 rfl rfl (by decide)).mono ?_
  rintro e w1 ⟨A0,c0,rfl,P1⟩
  go_wp2_with fail
  refine (pk_u8 n35_1 P1 rfl rfl (by decide)).mono ?_
  rintro e w2 ⟨A1,c1,rfl,P2⟩
  go_wp2_with fail
  refine (pk_u16 n35_2 P2 rfl rfl (by decide)).mono ?_
  rintro e w3 ⟨A2,c2,rfl,P3⟩
  go_wp2_with fail
  refine (pk_u8 n35_3 P3 rfl rfl (by decide)).mono ?_
  rintro e w4 ⟨A3,c3,rfl,P4⟩
  go_wp2_with fail
  refine (pk_of form35 P4 rfl rfl (by kernel_rfl) (by kernel_rfl) rfl).mono ?_
  rintro e wf ⟨AF,cf,rfl,PF⟩
  obtain⟨r0,r1,z0,z1⟩:=PF.out.cells
  go_wp2_with fail
  exact bodyPost_ret (by rw [results_cF rfl];simp [asAddr,Result.andThen];exact PF.out.res _ _) rfl (PF.out.post _ _ rfl rfl)
theorem schAsked_36 (w:World):Calls Tryz.prog 277 #[.int .i64 36] w (FrmNew form36 w):=by
  go_enter Tryz.func277,Tryz.ntmps277
  go_upto_region 1 with fail
  have P0:=Lib.hid (Pk.start w)
  generalize w.alloc (.cells #[.string ⟨#[]⟩,.slice none 0 0] 371)=w0 at *
  go_wp2_with fail
  refine (pk_u32 n36_0 P0 rfl rfl (by decide)).mono ?_
  rintro e w1 ⟨A0,c0,rfl,P1⟩
  go_wp2_with fail
  refine (pk_u8 n36_1 P1 rfl rfl (by decide)).mono ?_
  rintro e w2 ⟨A1,c1,rfl,P2⟩
  go_wp2_with fail
  refine (pk_u16 n36_2 P2 rfl rfl (by decide)).mono ?_
  rintro e w3 ⟨A2,c2,rfl,P3⟩
  go_wp2_with fail
  refine (pk_of form36 P3 rfl rfl (by kernel_rfl) (by kernel_rfl) rfl).mono ?_
  rintro e wf ⟨AF,cf,rfl,PF⟩
  obtain⟨r0,r1,z0,z1⟩:=PF.out.cells
  go_wp2_with fail
  exact bodyPost_ret (by rw [results_cF rfl];simp [asAddr,Result.andThen];exact PF.out.res _ _) rfl (PF.out.post _ _ rfl rfl)
theorem schAsked_42 (w:World):Calls Tryz.prog 277 #[.int .i64 42] w (FrmNew form42 w):=by
  go_enter Tryz.func277,Tryz.ntmps277
  go_upto_region 1 with fail
  have P0:=Lib.hid (Pk.start w)
  generalize w.alloc (.cells #[.string ⟨#[]⟩,.slice none 0 0] 371)=w0 at *
  go_wp2_with fail
  refine (pk_u16 n42_0 P0 rfl rfl (by decide)).mono ?_
  rintro e w1 ⟨A0,c0,rfl,P1⟩
  go_wp2_with fail
  refine (pk_of form42 P1 rfl rfl (by kernel_rfl) (by kernel_rfl) rfl).mono ?_
  rintro e wf ⟨AF,cf,rfl,PF⟩
  obtain⟨r0,r1,z0,z1⟩:=PF.out.cells
  go_wp2_with fail
  exact bodyPost_ret (by rw [results_cF rfl];simp [asAddr,Result.andThen];exact PF.out.res _ _) rfl (PF.out.post _ _ rfl rfl)
theorem schAsked_44 (w:World):Calls Tryz.prog 277 #[.int .i64 44] w (FrmNew form44 w):=by
  go_enter Tryz.func277,Tryz.ntmps277
  go_upto_region 1 with fail
  have P0:=Lib.hid (Pk.start w)
  generalize w.alloc (.cells #[.string ⟨#[]⟩,.slice none 0 0] 371)=w0 at *
  go_wp2_with fail
  refine (pk_u8 n44_0 P0 rfl rfl (by decide)).mono ?_
  rintro e w1 ⟨A0,c0,rfl,P1⟩
  go_wp2_with fail
  refine (pk_u16 n44_1 P1 rfl rfl (by decide)).mono ?_
  rintro e w2 ⟨A1,c1,rfl,P2⟩
  go_wp2_with fail
  refine (pk_of form44 P2 rfl rfl (by kernel_rfl) (by kernel_rfl) rfl).mono ?_
  rintro e wf ⟨AF,cf,rfl,PF⟩
  obtain⟨r0,r1,z0,z1⟩:=PF.out.cells
  go_wp2_with fail
  exact bodyPost_ret (by rw [results_cF rfl];simp [asAddr,Result.andThen];exact PF.out.res _ _) rfl (PF.out.post _ _ rfl rfl)
theorem schAsked_47 (w:World):Calls Tryz.prog 277 #[.int .i64 47] w (FrmNew form47 w):=by
  go_enter Tryz.func277,Tryz.ntmps277
  go_upto_region 1 with fail
  have P0:=Lib.hid (Pk.start w)
  generalize w.alloc (.cells #[.string ⟨#[]⟩,.slice none 0 0] 371)=w0 at *
  go_wp2_with fail
  refine (pk_u8 n47_0 P0 rfl rfl (by decide)).mono ?_
  rintro e w1 ⟨A0,c0,rfl,P1⟩
  go_wp2_with fail
  refine (pk_of form47 P1 rfl rfl (by kernel_rfl) (by kernel_rfl) rfl).mono ?_
  rintro e wf ⟨AF,cf,rfl,PF⟩
  obtain⟨r0,r1,z0,z1⟩:=PF.out.cells
  go_wp2_with fail
  exact bodyPost_ret (by rw [results_cF rfl];simp [asAddr,Result.andThen];exact PF.out.res _ _) rfl (PF.out.post _ _ rfl rfl)
theorem schAsked_66 (w:World):Calls Tryz.prog 277 #[.int .i64 66] w (FrmNew form66 w):=by
  go_enter Tryz.func277,Tryz.ntmps277
  go_upto_region 1 with fail
  have P0:=Lib.hid (Pk.start w)
  generalize w.alloc (.cells #[.string ⟨#[]⟩,.slice none 0 0] 371)=w0 at *
  go_wp2_with fail
  refine (pk_u8 n66_0 P0 rfl rfl (by decide)).mono ?_
  rintro e w1 ⟨A0,c0,rfl,P1⟩
  go_wp2_with fail
  refine (pk_u16 n66_1 P1 rfl rfl (by decide)).mono ?_
  rintro e w2 ⟨A1,c1,rfl,P2⟩
  go_wp2_with fail
  refine (pk_u8 n66_2 P2 rfl rfl (by decide)).mono ?_
  rintro e w3 ⟨A2,c2,rfl,P3⟩
  go_wp2_with fail
  refine (pk_of form66 P3 rfl rfl (by kernel_rfl) (by kernel_rfl) rfl).mono ?_
  rintro e wf ⟨AF,cf,rfl,PF⟩
  obtain⟨r0,r1,z0,z1⟩:=PF.out.cells
  go_wp2_with fail
  exact bodyPost_ret (by rw [results_cF rfl];simp [asAddr,Result.andThen];exact PF.out.res _ _) rfl (PF.out.post _ _ rfl rfl)
theorem schAsked_77 (w:World):Calls Tryz.prog 277 #[.int .i64 77] w (FrmNew form77 w):=by
  go_enter Tryz.func277,Tryz.ntmps277
  go_upto_region 1 with fail
  have P0:=Lib.hid (Pk.start w)
  generalize w.alloc (.cells #[.string ⟨#[]⟩,.slice none 0 0] 371)=w0 at *
  go_wp2_with fail
  refine (pk_u16 n77_0 P0 rfl rfl (by decide)).mono ?_
  rintro e w1 ⟨A0,c0,rfl,P1⟩
  go_wp2_with fail
  refine (pk_u8 n77_1 P1 rfl rfl (by decide)).mono ?_
  rintro e w2 ⟨A1,c1,rfl,P2⟩
  go_wp2_with fail
  refine (pk_of form77 P2 rfl rfl (by kernel_rfl) (by kernel_rfl) rfl).mono ?_
  rintro e wf ⟨AF,cf,rfl,PF⟩
  obtain⟨r0,r1,z0,z1⟩:=PF.out.cells
  go_wp2_with fail
  exact bodyPost_ret (by rw [results_cF rfl];simp [asAddr,Result.andThen];exact PF.out.res _ _) rfl (PF.out.post _ _ rfl rfl)
theorem schAsked_none (i:Int) (w:World) (h35:¬ i=35) (h36:¬ i=36) (h42:¬ i=42) (h44:¬ i=44) (h47:¬ i=47) (h66:¬ i=66) (h77:¬ i=77):Calls Tryz.prog 277 #[.int .i64 i] w (FrmNew noF w):=by
  go_enter Tryz.func277,Tryz.ntmps277
  go_wp2_with fail
  exact bodyPost_ret (by rw [results_cF rfl];simp [asAddr,Result.andThen];exact form_none.1) rfl form_none.2
theorem schAsked_any (i:Int) (w:World):Calls Tryz.prog 277 #[.int .i64 i] w (FrmNew (askedF i) w):=by
  by_cases h35:i=35
  · subst h35;exact schAsked_35 w
  by_cases h36:i=36
  · subst h36;exact schAsked_36 w
  by_cases h42:i=42
  · subst h42;exact schAsked_42 w
  by_cases h44:i=44
  · subst h44;exact schAsked_44 w
  by_cases h47:i=47
  · subst h47;exact schAsked_47 w
  by_cases h66:i=66
  · subst h66;exact schAsked_66 w
  by_cases h77:i=77
  · subst h77;exact schAsked_77 w
  rw [show askedF i=noF from by unfold askedF;rw [if_neg h35];rw [if_neg h36];rw [if_neg h42];rw [if_neg h44];rw [if_neg h47];rw [if_neg h66];rw [if_neg h77]]
  exact schAsked_none i w h35 h36 h42 h44 h47 h66 h77
def firstF:List TFm→TFm
  | []=>noF
  | f :: r=>if f.1≠ByteArray.empty then f else firstF r
theorem findF_first (i:Int):findF i=firstF [stateF i,sensedF i,askedF i,ownF i]:=rfl
theorem text_some {s:ByteArray} (h:¬ s=⟨#[]⟩):s.toList.isEmpty=false:=by
  rw [ByteArray.toList_eq,List.isEmpty_eq_false_iff]
  intro q
  exact h (ByteArray.ext (Array.toList_inj.1 q))
theorem new_up {B B':Nat} {w w':World} {A:Option Addr} {xs:List Value} (h:FlatQ (fun b=>B≤b∧b < w.heap.size) w A xs) (hb:Below w.heap.size w w') (hB:B'≤B):FlatQ (fun b=>B'≤b∧b < w'.heap.size) w' A xs:=
  (h.below hb fun _ q=>q.2).less fun _ q=>⟨Nat.le_trans hB q.1,Nat.lt_of_lt_of_le q.2 hb.size⟩
def FrmsI (B:Nat) (w:World) (g:Nat) (fs:List TFm):Prop:=g < w.heap.size∧∀ k f,fs[k]?=some f→∃ A c,w.cell? ⟨g,2 * k,none⟩=some (.string f.1)∧w.cell? ⟨g,2 * k+1,none⟩=some (.slice A f.2.length c)∧FlatQ (fun b=>B≤b∧b < w.heap.size) w A (prtsV f.2)
theorem FrmsI.on {B:Nat} {w w':World} {g:Nat} {fs:List TFm} (h:FrmsI B w g fs) (hb:Below w.heap.size w w'):FrmsI B w' g fs:=by
  refine⟨Nat.lt_of_lt_of_le h.1 hb.size,fun k f hk=>?_⟩
  obtain⟨A,c,h1,h2,h3⟩:=h.2 k f hk
  exact⟨A,c,(hb.cell (p:=⟨g,2 * k,none⟩) h.1).trans h1,(hb.cell (p:=⟨g,2 * k+1,none⟩) h.1).trans h2,new_up h3 hb (Nat.le_refl _)⟩
set_option maxRecDepth 8000 in
set_option maxHeartbeats 1000000 in
theorem schFind_any (i:Int) (w:World):Calls Tryz.prog 234 #[.int .i64 i] w (FrmNew (findF i) w):=by
  rw [findF_first]
  have H1:=fun W=>Lib.hid (schState_any i W)
  have H2:=fun W=>Lib.hid (schSensed_any i W)
  have H3:=fun W=>Lib.hid (schAsked_any i W)
  have H4:=fun W=>Lib.hid (schOwn_any i W)
  generalize stateF i=f0 at *
  generalize sensedF i=f1 at *
  generalize askedF i=f2 at *
  generalize ownF i=f3 at *
  obtain⟨⟨rn,rl⟩,hres⟩:∃ res,firstF [f0,f1,f2,f3]=res:=⟨_,rfl⟩
  have HRES:=Lib.hid hres
  rw [hres]
  clear hres
  unfold FrmNew at *
  dsimp only
  go_enter Tryz.func234,Tryz.ntmps234
  go_upto_region 1 with fail
  have HR0:=Lib.hid (Blk.newL (grew_alloc w #[.string ⟨#[]⟩,.slice none 0 0] 371) rfl)
  have HB0:Hid (Below w.heap.size w (w.alloc (.cells #[.string ⟨#[]⟩,.slice none 0 0] 371))):=Lib.hid (below_new _ _)
  generalize w.alloc (.cells #[.string ⟨#[]⟩,.slice none 0 0] 371)=w0 at *
  go_wp2_with fail
  refine (H1 w0).out.mono ?_
  rintro e w1 ⟨A0,c0,rfl,hf,hb⟩
  have HF0:=Lib.hid hf
  have HR1:=Lib.hid (HR0.out.on hb)
  have HB1:=Lib.hid (bthen HB0.out hb)
  have HS1:=Lib.hid HR0.out.lt
  clear hf hb HR0 HB0
  go_wp2_with fail
  refine (H2 w1).out.mono ?_
  rintro e w2 ⟨A1,c1,rfl,hf,hb⟩
  have HF0':=Lib.hid (new_up HF0.out hb (Nat.le_refl _))
  have HF1:=Lib.hid hf
  have HR2:=Lib.hid (HR1.out.on hb)
  have HB2:=Lib.hid (bthen HB1.out hb)
  have HS2:=Lib.hid HR1.out.lt
  clear hf hb HR1 HB1 HF0
  go_wp2_with fail
  refine (H3 w2).out.mono ?_
  rintro e w3 ⟨A2,c2,rfl,hf,hb⟩
  have HF0:=Lib.hid (new_up HF0'.out hb (Nat.le_refl _))
  have HF1':=Lib.hid (new_up HF1.out hb (Nat.le_refl _))
  have HF2:=Lib.hid hf
  have HR3:=Lib.hid (HR2.out.on hb)
  have HB3:=Lib.hid (bthen HB2.out hb)
  have HS3:=Lib.hid HR2.out.lt
  clear hf hb HR2 HB2 HF0' HF1
  go_wp2_with fail
  refine (H4 w3).out.mono ?_
  rintro e w4 ⟨A3,c3,rfl,hf,hb⟩
  have HF0':=Lib.hid (new_up HF0.out hb (Nat.le_refl _))
  have HF1:=Lib.hid (new_up HF1'.out hb (Nat.le_refl _))
  have HF2':=Lib.hid (new_up HF2.out hb (Nat.le_refl _))
  have HF3:=Lib.hid hf
  have HR4:=Lib.hid (HR3.out.on hb)
  have HB4:=Lib.hid (bthen HB3.out hb)
  have HS4:=Lib.hid HR3.out.lt
  clear hf hb HR3 HB3 HF0 HF1' HF2
  have HX:Hid (FrmsI (w.heap.size+1) (w4.alloc (.cells #[.string f0.1,.slice A0 f0.2.length c0,.string f1.1,.slice A1 f1.2.length c1,.string f2.1,.slice A2 f2.2.length c2,.string f3.1,.slice A3 f3.2.length c3] 371)) w4.heap.size [f0,f1,f2,f3]):=Lib.hid (by
    have hk:=Blk.newL (grew_alloc w4 #[.string f0.1,.slice A0 f0.2.length c0,.string f1.1,.slice A1 f1.2.length c1,.string f2.1,.slice A2 f2.2.length c2,.string f3.1,.slice A3 f3.2.length c3] 371) rfl
    have hb:=below_new w4 (.cells #[.string f0.1,.slice A0 f0.2.length c0,.string f1.1,.slice A1 f1.2.length c1,.string f2.1,.slice A2 f2.2.length c2,.string f3.1,.slice A3 f3.2.length c3] 371)
    refine⟨hk.lt,fun k f hf=>?_⟩
    have:k < 4:=by
      have:=(List.getElem?_eq_some_iff.1 hf).1
      exact this
    have:k=0∨k=1∨k=2∨k=3:=by omega
    rcases this with rfl | rfl | rfl | rfl
    · injection hf with hf;subst hf
      exact⟨_,_,hk.cell 0 rfl,hk.cell 1 rfl,new_up HF0'.out hb HS1.out⟩
    · injection hf with hf;subst hf
      exact⟨_,_,hk.cell 2 rfl,hk.cell 3 rfl,new_up HF1.out hb HS2.out⟩
    · injection hf with hf;subst hf
      exact⟨_,_,hk.cell 4 rfl,hk.cell 5 rfl,new_up HF2'.out hb HS3.out⟩
    · injection hf with hf;subst hf
      exact⟨_,_,hk.cell 6 rfl,hk.cell 7 rfl,new_up HF3.out hb HS4.out⟩)
  have HR5:=Lib.hid (HR4.out.on (below_new w4 (.cells #[.string f0.1,.slice A0 f0.2.length c0,.string f1.1,.slice A1 f1.2.length c1,.string f2.1,.slice A2 f2.2.length c2,.string f3.1,.slice A3 f3.2.length c3] 371)))
  have HB5:=Lib.hid (bthen HB4.out (below_new w4 (.cells #[.string f0.1,.slice A0 f0.2.length c0,.string f1.1,.slice A1 f1.2.length c1,.string f2.1,.slice A2 f2.2.length c2,.string f3.1,.slice A3 f3.2.length c3] 371)))
  clear HF0' HF1 HF2' HF3 HS1 HS2 HS3 HS4 HR4 HB4 H1 H2 H3 H4
  go_wp2_with fail
  generalize hfs:[f0,f1,f2,f3]=fs at *
  have hl4:fs.length=4:=by subst hfs;rfl
  have HL4:=Lib.hid hl4
  clear hfs hl4
  generalize w4.alloc (.cells #[.string f0.1,.slice A0 f0.2.length c0,.string f1.1,.slice A1 f1.2.length c1,.string f2.1,.slice A2 f2.2.length c2,.string f3.1,.slice A3 f3.2.length c3] 371)=w5 at *
  generalize w4.heap.size=g at *
  go_loopg [15] 4 (fun t s15 wr=>∃ k:Nat,k≤4∧4 - k≤t∧s15=.int .i64 k∧Hid (firstF (fs.drop k)=firstF fs)∧Hid (FrmsI (w.heap.size+1) wr g fs)∧Hid (Blk wr w.heap.size [.string ⟨#[]⟩,.slice none 0 0])∧Hid (Below w.heap.size w wr))
  case atStart=>exact⟨0,by omega,by omega,rfl,rfl,HX.out,HR5.out,HB5.out⟩
  case round=>
    obtain⟨k,hk,ht,rfl,HFF,HX2,HR,HB⟩:=hrel
    clear HX HR5 HB5
    by_cases hlt:k < 4
    · have hkl:k < fs.length:=by rw [HL4.out];exact hlt
      obtain⟨A,c,hc0,hc1,hfl⟩:=HX2.out.2 k _ (List.getElem?_eq_getElem hkl)
      have HDR:Hid (fs.drop k=fs[k] :: fs.drop (k+1)):=Lib.hid (List.drop_eq_getElem_cons hkl)
      generalize fs[k]=f at *
      obtain⟨n,l⟩:=f
      dsimp only at hc0 hc1 hfl
      have HFL:=Lib.hid hfl
      clear hfl
      rw [Nat.mul_comm] at hc0 hc1
      have i1:(k:Int) < 4:=by omega
      have i2:(0:Int)≤(k:Int):=Int.natCast_nonneg _
      have HR1:=Lib.hid (HR.out.on (below_new wr (.cells #[.string n,.slice A l.length c] 371)))
      have HB1:=Lib.hid (bthen HB.out (below_new wr (.cells #[.string n,.slice A l.length c] 371)))
      have HX1:=Lib.hid (HX2.out.on (below_new wr (.cells #[.string n,.slice A l.length c] 371)))
      have HFL1:=Lib.hid (new_up HFL.out (below_new wr (.cells #[.string n,.slice A l.length c] 371)) (Nat.le_refl _))
      have HN1:=Lib.hid (Blk.newL (grew_alloc wr #[.string n,.slice A l.length c] 371) rfl)
      have HRL:=Lib.hid HR.out.lt
      go_upto_region 4 with fail
      clear HR HB HX2 HFL hc0 hc1
      generalize wr.alloc (.cells #[.string n,.slice A l.length c] 371)=wn at *
      have n0:=HN1.out.cell 0 (v:=.string n) rfl
      have n1:=HN1.out.cell 1 (v:=.slice A l.length c) rfl
      have r0:=HR1.out.cell 0 (v:=.string ⟨#[]⟩) rfl
      have r1:=HR1.out.cell 1 (v:=.slice none 0 0) rfl
      have z0:=HR1.out.fz 0
      have z1:=HR1.out.fz 1
      generalize wr.heap.size=q at *
      by_cases hn:n=⟨#[]⟩
      · have HF2:Hid (firstF (fs.drop (k+1))=firstF fs):=Lib.hid (by rw [← HFF.out,HDR.out];conv=>rhs;unfold firstF;(rw [if_neg (by rw [hn];exact fun h=>h rfl)]))
        subst hn
        go_wp2_with fail
        go_roundg (4 - (k+1))
        case measure=>omega
        case rel=>exact⟨k+1,by omega,by omega,by go_num,HF2,HX1,HR1,HB1⟩
      · have hf2:(rn,rl)=(n,l):=by rw [← HRES.out,← HFF.out,HDR.out];unfold firstF;(rw [if_pos (by exact hn)])
        injection hf2 with e1 e2
        subst e1 e2
        have hn2:=text_some hn
        go_wp2_with fail
        obtain⟨q1,q2,q3,q4⟩:=tfm_put HR1.out (.string rn) (.slice A rl.length c) HB1.out (Nat.le_refl _)
        refine bodyPost_ret (v:=.agg #[.string rn,.slice A rl.length c]) (by rw [results_cF rfl];simp [asAddr,Result.andThen];exact q1) rfl ⟨A,⟨c,rfl⟩,?_,q2⟩
        refine (HFL1.out.keep fun j hj=>q3 j (by omega)).less fun j hj=>⟨by omega,by rw [q4];exact hj.2⟩
    · obtain rfl:k=4:=by omega
      have hf2:(rn,rl)=noF:=by rw [← HRES.out,← HFF.out,← HL4.out,List.drop_length];rfl
      injection hf2 with e1 e2
      subst e1 e2
      have r0:=HR.out.cell 0 (v:=.string ⟨#[]⟩) rfl
      have r1:=HR.out.cell 1 (v:=.slice none 0 0) rfl
      have z0:=HR.out.fz 0
      have z1:=HR.out.fz 1
      go_wp2_with fail
      obtain⟨q1,q2,q3,q4⟩:=tfm_put HR.out (.string ⟨#[]⟩) (.slice none 0 0) HB.out (Nat.le_refl _)
      refine bodyPost_ret (v:=.agg #[.string ⟨#[]⟩,.slice none 0 0]) (by rw [results_cF rfl];simp [asAddr,Result.andThen];exact q1) rfl ⟨none,0,rfl,FlatQ.nil _ _ _,q2⟩
set_option maxRecDepth 8000 in
theorem schNumb_any (p:Prt) (w:World):Calls Tryz.prog 279 #[.agg #[.string p.nm,.int .i64 p.sz,.bool p.sg,.int .i64 p.mn]] w fun e w'=>e=.returned (.int .i64 (numbP p:Int))∧Below w.heap.size w w':=by
  obtain⟨nm,sz,sg,mn⟩:=p
  unfold numbP
  dsimp only
  have e:max (mn:Int) 1=((if mn=0 then 1 else mn:Nat):Int):=by split <;> omega
  generalize (if mn=0 then 1 else mn:Nat)=r at *
  go_enter Tryz.func279,Tryz.ntmps279
  go_wp2_with fail
  go_ret
  exact⟨by rw [← e];rfl,below_new _ _⟩
theorem prts_cells {Q:Nat→Prop} {w:World} {A:Option Addr} {l:List Prt} (h:FlatQ Q w A (prtsV l)) (k:Nat) (hk:k < l.length):∃ b off,A=some ⟨b,off,none⟩∧Q b∧w.cell? ⟨b,off+k * 4,none⟩=some (.string l[k].nm)∧w.cell? ⟨b,off+k * 4+1,none⟩=some (.int .i64 (l[k].sz:Int))∧w.cell? ⟨b,off+k * 4+2,none⟩=some (.bool l[k].sg)∧w.cell? ⟨b,off+k * 4+3,none⟩=some (.int .i64 (l[k].mn:Int)):=by
  have e:=fun j hj=>flat4_get prtL 4 (fun _=>rfl) l k hk j hj
  obtain⟨b,off,hA,hb,h0⟩:=h _ _ (e 0 (by omega))
  refine⟨b,off,hA,hb,h0,?_,?_,?_⟩
  · obtain⟨b',off',hA',-,h1⟩:=h _ _ (e 1 (by omega))
    rw [hA] at hA';injection hA' with hA';injection hA' with q1 q2;subst q1 q2
    exact h1
  · obtain⟨b',off',hA',-,h1⟩:=h _ _ (e 2 (by omega))
    rw [hA] at hA';injection hA' with hA';injection hA' with q1 q2;subst q1 q2
    exact h1
  · obtain⟨b',off',hA',-,h1⟩:=h _ _ (e 3 (by omega))
    rw [hA] at hA';injection hA' with hA';injection hA' with q1 q2;subst q1 q2
    exact h1
end Go.Proofs.YtaiepcgfofpmjaaGreat
