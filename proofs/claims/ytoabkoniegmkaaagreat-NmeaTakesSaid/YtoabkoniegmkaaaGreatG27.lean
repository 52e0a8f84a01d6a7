/- Layer 26: Put. Printed by genrmcp.py. -/
import Derived.Test.YtoabkoniegmkaaaGreatG26
import Derived.Deep.LoopGhost
import Derived.Test.YtoabkoniegmkaaaGreatG23
import Derived.Test.YtoabkoniegmkaaaGreatG14
namespace Go.Proofs.YtoabkoniegmkaaaGreat
set_option linter.unusedVariables false
open Go.RowKit
theorem text_one (t:ByteArray) (c:UInt8):(t.toList==[c])=decide (t=⟨#[c]⟩):=by
  have l:(⟨#[c]⟩:ByteArray).toList=[c]:=by rw [ByteArray.toList_eq]
  rw [← beq_text,l]
theorem takeN_in {l:List UInt8} {W M F L H:Int} (h:(takeN l W M F L H).1=true):fitsB true (takeN l W M F L H).2.1 L H=true:=by
  unfold takeN at h ⊢
  by_cases h1:rightB W M F L H=false
  · rw [if_pos h1] at h;cases h
  · rw [if_neg h1] at h ⊢
    by_cases h2:l=[]
    · rw [if_pos h2] at h;cases h
    · rw [if_neg h2] at h ⊢
      cases hp:parseN (bodyL l) 1 M.toNat F.toNat with
      | none=>rw [hp] at h;cases h
      | some n=>
        rw [hp] at h
        simp only at h ⊢
        generalize (if negL l=true then -(n:Int) else (n:Int))=x at *
        by_cases hq:fitsB true x L H=true
        · rw [if_pos hq];exact hq
        · rw [if_neg hq] at h;exact absurd h (by simp)
theorem rdNum_in {W M F L H:Int} {s t:Rd} {b:Bool} {n:Int} (h:rdNum W M F L H s=((b,n),t)) (h0:L≤0∧0≤H):L≤n∧n≤H:=by
  cases b with
  | false=>rw [rdNum_is h];exact h0
  | true=>
    have h1:(rdNum W M F L H s).1=(true,n):=by rw [h]
    have h2:(takeN (s.2.headD ByteArray.empty).data.toList W M F L H).1=true:=congrArg Prod.fst h1
    have h3:(takeN (s.2.headD ByteArray.empty).data.toList W M F L H).2.1=n:=congrArg Prod.snd h1
    have:=takeN_in h2
    rw [h3] at this
    exact fitsB_true this
set_option maxRecDepth 8000 in
theorem rmcstatus_any {g:Nat} {s t:Rd} {b:Bool} {w:World} (ht:Hid (rdSt s=(b,t))) (hp:EyeI g s w):Calls Tryz.prog 114 #[.pointer (some ⟨g,0,none⟩)] w (EyeStep g (.bool b) t w):=by
  obtain⟨a,s1,ha⟩:∃ a s1,Hid (rdText s=(a,s1)):=⟨_,_,rfl⟩
  have ht:=ht.out
  unfold rdSt at ht
  rw [ha.out] at ht
  injection ht with e1 e2
  simp only at e1 e2
  have HP:=Lib.hid hp
  clear hp
  by_cases hA:a=⟨#[65]⟩
  · rw [decide_eq_true hA] at e1
    rw [if_neg (fun h=>h.1 hA)] at e2
    subst e1 e2
    have b2:(a.toList==[65])=true:=by rw [text_one];exact decide_eq_true hA
    clear hA
    go_enter Tryz.func114,Tryz.ntmps114
    go_wp2_with fail
    refine (eyeText ha HP.out).mono ?_
    rintro r w1 ⟨rfl,hx,hf⟩
    have HX:=Lib.hid hx
    have HF:=Lib.hid hf
    clear hx hf HP
    go_wp2_with fail
    go_ret
    exact⟨rfl,HX.out,HF.out⟩
  · rw [decide_eq_false hA] at e1
    have b2:(a.toList==[65])=false:=by rw [text_one];exact decide_eq_false hA
    by_cases hV:a=⟨#[86]⟩
    · rw [if_neg (fun h=>h.2 hV)] at e2
      subst e1 e2
      have b3:(a.toList==[86])=true:=by rw [text_one];exact decide_eq_true hV
      clear hA hV
      go_enter Tryz.func114,Tryz.ntmps114
      go_wp2_with fail
      refine (eyeText ha HP.out).mono ?_
      rintro r w1 ⟨rfl,hx,hf⟩
      have HX:=Lib.hid hx
      have HF:=Lib.hid hf
      clear hx hf HP
      go_wp2_with fail
      go_ret
      exact⟨rfl,HX.out,HF.out⟩
    · rw [if_pos ⟨hA,hV⟩] at e2
      subst e1 e2
      have b3:(a.toList==[86])=false:=by rw [text_one];exact decide_eq_false hV
      clear hA hV
      go_enter Tryz.func114,Tryz.ntmps114
      go_wp2_with fail
      refine (eyeText ha HP.out).mono ?_
      rintro r w1 ⟨rfl,hx,hf⟩
      have HX:=Lib.hid hx
      have HF:=Lib.hid hf
      clear hx hf HP
      go_wp2_with fail
      refine (eyeFail rfl HX.out).mono ?_
      rintro r w2 ⟨rfl,hx2,hf2⟩
      have HX2:=Lib.hid hx2
      have HF2:=Lib.hid (HF.out.step hf2)
      clear hx2 hf2
      go_wp2_with fail
      go_ret
      exact⟨rfl,HX2.out,HF2.out⟩
set_option maxRecDepth 8000 in
theorem rmcmode_any {g:Nat} {s t:Rd} {w:World} (ht:Hid (rdMode s=t)) (hp:EyeI g s w):Calls Tryz.prog 126 #[.pointer (some ⟨g,0,none⟩)] w (EyeStep g (.tuple #[]) t w):=by
  have ht:=ht.out
  unfold rdMode at ht
  by_cases h0:s.2=[]
  · rw [if_pos h0] at ht
    subst ht
    have HL:=Lib.hid (eyeLeft hp)
    rw [h0] at HL
    have HP:=Lib.hid hp
    clear hp h0
    go_enter Tryz.func126,Tryz.ntmps126
    go_wp2_with fail
    refine HL.out.mono ?_
    rintro r w1 ⟨rfl,rfl⟩
    go_wp2_with fail
    go_end0
    exact⟨rfl,HP.out,Frm.of_below (Below.refl _ _)⟩
  · rw [if_neg h0] at ht
    obtain⟨a,s1,ha⟩:∃ a s1,Hid (rdText s=(a,s1)):=⟨_,_,rfl⟩
    rw [ha.out] at ht
    simp only at ht
    have HL:=Lib.hid (eyeLeft hp)
    have hlen:0 < s.2.length:=List.length_pos_iff.2 h0
    obtain⟨n,hn⟩:∃ n,s.2.length=n:=⟨_,rfl⟩
    rw [hn] at HL hlen
    have b0:((n:Int)==0)=false:=by rw [beq_eq_false_iff_ne];omega
    have HP:=Lib.hid hp
    clear hp h0 hn hlen
    rcases mode_ways a with ⟨h,h',rfl⟩ | ⟨h',hne,⟨h2,hc⟩ | ⟨hz,h1,⟨h2,hc⟩ | ⟨h2,hc⟩ | ⟨h2,h3,hc⟩⟩⟩
    · rw [if_neg (fun q=>q.1 rfl)] at ht
      subst ht
      clear h h'
      go_enter Tryz.func126,Tryz.ntmps126
      go_wp2_with fail
      refine HL.out.mono ?_
      rintro r w1 ⟨rfl,rfl⟩
      go_wp2_with fail
      refine (eyeText ha HP.out).mono ?_
      rintro r w1 ⟨rfl,hx,hf⟩
      have HX:=Lib.hid hx
      have HF:=Lib.hid hf
      clear hx hf HP
      go_wp2_with fail
      go_end0
      exact⟨rfl,HX.out,HF.out⟩
    · rw [if_pos ⟨hne,hc⟩] at ht
      subst ht
      have i1:(1:Int) < (a.size:Int):=by omega
      clear h' hne hc h2
      go_enter Tryz.func126,Tryz.ntmps126
      go_wp2_with fail
      refine HL.out.mono ?_
      rintro r w1 ⟨rfl,rfl⟩
      go_wp2_with fail
      refine (eyeText ha HP.out).mono ?_
      rintro r w1 ⟨rfl,hx,hf⟩
      have HX:=Lib.hid hx
      have HF:=Lib.hid hf
      clear hx hf HP
      go_wp2_with fail
      refine (eyeFail rfl HX.out).mono ?_
      rintro r w2 ⟨rfl,hx2,hf2⟩
      have HX2:=Lib.hid hx2
      have HF2:=Lib.hid (HF.out.step hf2)
      clear hx2 hf2
      go_wp2_with fail
      go_end0
      exact⟨rfl,HX2.out,HF2.out⟩
    · rw [if_pos ⟨hne,hc⟩] at ht
      subst ht
      have i1:(a.size:Int)≤1:=by omega
      have i2:((a[0].toNat:Nat):Int) < 65:=by omega
      clear hne hc h2 h1
      go_enter Tryz.func126,Tryz.ntmps126
      go_wp2_with fail
      refine HL.out.mono ?_
      rintro r w1 ⟨rfl,rfl⟩
      go_wp2_with fail
      refine (eyeText ha HP.out).mono ?_
      rintro r w1 ⟨rfl,hx,hf⟩
      have HX:=Lib.hid hx
      have HF:=Lib.hid hf
      clear hx hf HP
      go_wp2_with fail
      refine (eyeFail rfl HX.out).mono ?_
      rintro r w2 ⟨rfl,hx2,hf2⟩
      have HX2:=Lib.hid hx2
      have HF2:=Lib.hid (HF.out.step hf2)
      clear hx2 hf2
      go_wp2_with fail
      go_end0
      exact⟨rfl,HX2.out,HF2.out⟩
    · rw [if_pos ⟨hne,hc⟩] at ht
      subst ht
      have i1:(a.size:Int)≤1:=by omega
      have i2:(65:Int)≤((a[0].toNat:Nat):Int):=by omega
      have i3:(90:Int) < ((a[0].toNat:Nat):Int):=by omega
      clear hne hc h2 h1
      go_enter Tryz.func126,Tryz.ntmps126
      go_wp2_with fail
      refine HL.out.mono ?_
      rintro r w1 ⟨rfl,rfl⟩
      go_wp2_with fail
      refine (eyeText ha HP.out).mono ?_
      rintro r w1 ⟨rfl,hx,hf⟩
      have HX:=Lib.hid hx
      have HF:=Lib.hid hf
      clear hx hf HP
      go_wp2_with fail
      refine (eyeFail rfl HX.out).mono ?_
      rintro r w2 ⟨rfl,hx2,hf2⟩
      have HX2:=Lib.hid hx2
      have HF2:=Lib.hid (HF.out.step hf2)
      clear hx2 hf2
      go_wp2_with fail
      go_end0
      exact⟨rfl,HX2.out,HF2.out⟩
    · rw [if_neg (fun q=>by rw [hc] at q;exact absurd q.2 (by simp))] at ht
      subst ht
      have i1:(a.size:Int)≤1:=by omega
      have i2:(65:Int)≤((a[0].toNat:Nat):Int):=by omega
      have i3:((a[0].toNat:Nat):Int)≤90:=by omega
      clear hne hc h2 h3 h1
      go_enter Tryz.func126,Tryz.ntmps126
      go_wp2_with fail
      refine HL.out.mono ?_
      rintro r w1 ⟨rfl,rfl⟩
      go_wp2_with fail
      refine (eyeText ha HP.out).mono ?_
      rintro r w1 ⟨rfl,hx,hf⟩
      have HX:=Lib.hid hx
      have HF:=Lib.hid hf
      clear hx hf HP
      go_wp2_with fail
      go_end0
      exact⟨rfl,HX.out,HF.out⟩
set_option maxRecDepth 8000 in
set_option maxHeartbeats 2000000 in
theorem rmcsigned_trueE {g:Nat} {s s1 s2 t:Rd} {n:Int} {d:ByteArray} {w:World} (h1:Hid (rdNum 1 3 1 0 1800 s=((true,n),s1))) (hd:Hid (rdText s1=(d,s2))) (ht:Hid (s2=t)) (b1:(d.toList==[69])=true) (b2:(d.toList==[87])=false) (b3:d.toList.isEmpty=false) (hw:Hid (IntKind.i64.wrap (-n)=-n)) (hp:EyeI g s w) :
    Calls Tryz.prog 124 #[.pointer (some ⟨g,0,none⟩)] w (EyeStep g (numV true n) t w):=by
  have hb0:=below_new w (numO false 0)
  have HX0:=Lib.hid (hp.keep hb0)
  have HF0:Hid (Frm g nilV w (w.alloc (numO false 0))):=Frm.of_below hb0
  have HZ0:Hid (w.heap.size < (w.alloc (numO false 0)).heap.size∧g < w.heap.size):=⟨by simp,hp.lt⟩
  have HR0:Hid (∀ o,(w.alloc (numO false 0)).cell? ⟨w.heap.size,o,none⟩=(#[Value.bool false,.int .i64 0]:Array Value)[o]?):=fun o=>World.cell?_alloc_at _ _ _ _ rfl
  have HRF:Hid (∀ o,(w.alloc (numO false 0)).frozen? ⟨w.heap.size,o,none⟩=false):=fun o=>by rw [frozen?_alloc_cells];exact frozen_past _ _ _ (Nat.le_refl _)
  clear hb0 hp
  go_enter Tryz.func124,Tryz.ntmps124
  go_wp2_with fail
  generalize hW0:w.alloc (numO false 0)=W0 at *
  clear hW0
  refine (rmcvariation_any _).mono ?_
  rintro r w1 ⟨rfl,hb1⟩
  have HX1:=Lib.hid (HX0.out.keep hb1)
  have HF1:Hid (Frm g nilV W0 w1):=Frm.of_below hb1
  clear hb1
  go_wp2_with fail
  refine (eyeNum h1 HX1.out).mono ?_
  rintro r w2 ⟨rfl,hx2,hf2⟩
  have hbn:=below_new w2 (numO true n)
  have HX2:=Lib.hid (hx2.keep hbn)
  have HF2:Hid (Frm g nilV W0 (w2.alloc (numO true n))):=(HF1.out.step hf2).step (Frm.of_below hbn)
  have HZ2:Hid (W0.heap.size≤w2.heap.size∧w2.heap.size < (w2.alloc (numO true n)).heap.size):=⟨(HF1.out.step hf2).size,by simp⟩
  have HN2:Hid (∀ o,(w2.alloc (numO true n)).cell? ⟨w2.heap.size,o,none⟩=(#[Value.bool true,.int .i64 n]:Array Value)[o]?):=fun o=>World.cell?_alloc_at _ _ _ _ rfl
  have HNF:Hid (∀ o,(w2.alloc (numO true n)).frozen? ⟨w2.heap.size,o,none⟩=false):=fun o=>by rw [frozen?_alloc_cells];exact frozen_past _ _ _ (Nat.le_refl _)
  clear hbn hx2 hf2 HX1 HF1 HX0
  go_upto_region 2 with fail
  generalize hV:w2.alloc (numO true n)=V at *
  generalize w2.heap.size=N at *
  clear hV
  go_wp2_with fail
  refine (eyeText hd HX2.out).mono ?_
  rintro r w3 ⟨rfl,hx3,hf3⟩
  have HX3:=Lib.hid hx3
  have HF3:=Lib.hid (HF2.out.step hf3)
  have n3:∀ o,w3.cell? ⟨N,o,none⟩=(#[Value.bool true,.int .i64 n]:Array Value)[o]?:=fun o=>(frm_cells hf3 HZ2.out.2 (by have:=HZ0.out;have:=HZ2.out;omega) o).trans (HN2.out o)
  have f3:∀ o,w3.frozen? ⟨N,o,none⟩=false:=fun o=>(frm_frozen hf3 HZ2.out.2 (by have:=HZ0.out;have:=HZ2.out;omega) o).trans (HNF.out o)
  have HN3:=Lib.hid n3
  have HNF3:=Lib.hid f3
  have n0:=n3 0
  have n1:=n3 1
  have z1:=f3 1
  have HZ3:Hid (N < w3.heap.size):=Nat.lt_of_lt_of_le HZ2.out.2 hf3.size
  clear hx3 hf3 n3 f3 HX2 HF2
  have ht:=ht.out
  subst ht
  have r0:=(frm_cells HF3.out HZ0.out.1 (by have:=HZ0.out;omega) 0).trans (HR0.out 0)
  have r1:=(frm_cells HF3.out HZ0.out.1 (by have:=HZ0.out;omega) 1).trans (HR0.out 1)
  have q0:=(frm_frozen HF3.out HZ0.out.1 (by have:=HZ0.out;omega) 0).trans (HRF.out 0)
  have q1:=(frm_frozen HF3.out HZ0.out.1 (by have:=HZ0.out;omega) 1).trans (HRF.out 1)
  have HP:=Lib.hid (two_cells w3 w.heap.size (.bool true) (.int .i64 n) _ _ r0 r1)
  go_wp2_with fail
  obtain⟨p0,p1⟩:=HP.out
  have hG:g < w.heap.size:=HZ0.out.2
  refine bodyPost_ret (v:=numV true n) (by simp [results,Tryz.results124,go_sem,p0,p1]) rfl ⟨rfl,(HX3.out.far hG).far hG,?_⟩
  exact ((HF0.out.step HF3.out).put (Nat.le_refl _)).put (Nat.le_refl _)
set_option maxRecDepth 8000 in
set_option maxHeartbeats 2000000 in
theorem rmcsigned_trueW {g:Nat} {s s1 s2 t:Rd} {n:Int} {d:ByteArray} {w:World} (h1:Hid (rdNum 1 3 1 0 1800 s=((true,n),s1))) (hd:Hid (rdText s1=(d,s2))) (ht:Hid (s2=t)) (b1:(d.toList==[69])=false) (b2:(d.toList==[87])=true) (b3:d.toList.isEmpty=false) (hw:Hid (IntKind.i64.wrap (-n)=-n)) (hp:EyeI g s w) :
    Calls Tryz.prog 124 #[.pointer (some ⟨g,0,none⟩)] w (EyeStep g (numV true (-n)) t w):=by
  have hb0:=below_new w (numO false 0)
  have HX0:=Lib.hid (hp.keep hb0)
  have HF0:Hid (Frm g nilV w (w.alloc (numO false 0))):=Frm.of_below hb0
  have HZ0:Hid (w.heap.size < (w.alloc (numO false 0)).heap.size∧g < w.heap.size):=⟨by simp,hp.lt⟩
  have HR0:Hid (∀ o,(w.alloc (numO false 0)).cell? ⟨w.heap.size,o,none⟩=(#[Value.bool false,.int .i64 0]:Array Value)[o]?):=fun o=>World.cell?_alloc_at _ _ _ _ rfl
  have HRF:Hid (∀ o,(w.alloc (numO false 0)).frozen? ⟨w.heap.size,o,none⟩=false):=fun o=>by rw [frozen?_alloc_cells];exact frozen_past _ _ _ (Nat.le_refl _)
  clear hb0 hp
  go_enter Tryz.func124,Tryz.ntmps124
  go_wp2_with fail
  generalize hW0:w.alloc (numO false 0)=W0 at *
  clear hW0
  refine (rmcvariation_any _).mono ?_
  rintro r w1 ⟨rfl,hb1⟩
  have HX1:=Lib.hid (HX0.out.keep hb1)
  have HF1:Hid (Frm g nilV W0 w1):=Frm.of_below hb1
  clear hb1
  go_wp2_with fail
  refine (eyeNum h1 HX1.out).mono ?_
  rintro r w2 ⟨rfl,hx2,hf2⟩
  have hbn:=below_new w2 (numO true n)
  have HX2:=Lib.hid (hx2.keep hbn)
  have HF2:Hid (Frm g nilV W0 (w2.alloc (numO true n))):=(HF1.out.step hf2).step (Frm.of_below hbn)
  have HZ2:Hid (W0.heap.size≤w2.heap.size∧w2.heap.size < (w2.alloc (numO true n)).heap.size):=⟨(HF1.out.step hf2).size,by simp⟩
  have HN2:Hid (∀ o,(w2.alloc (numO true n)).cell? ⟨w2.heap.size,o,none⟩=(#[Value.bool true,.int .i64 n]:Array Value)[o]?):=fun o=>World.cell?_alloc_at _ _ _ _ rfl
  have HNF:Hid (∀ o,(w2.alloc (numO true n)).frozen? ⟨w2.heap.size,o,none⟩=false):=fun o=>by rw [frozen?_alloc_cells];exact frozen_past _ _ _ (Nat.le_refl _)
  clear hbn hx2 hf2 HX1 HF1 HX0
  go_upto_region 2 with fail
  generalize hV:w2.alloc (numO true n)=V at *
  generalize w2.heap.size=N at *
  clear hV
  go_wp2_with fail
  refine (eyeText hd HX2.out).mono ?_
  rintro r w3 ⟨rfl,hx3,hf3⟩
  have HX3:=Lib.hid hx3
  have HF3:=Lib.hid (HF2.out.step hf3)
  have n3:∀ o,w3.cell? ⟨N,o,none⟩=(#[Value.bool true,.int .i64 n]:Array Value)[o]?:=fun o=>(frm_cells hf3 HZ2.out.2 (by have:=HZ0.out;have:=HZ2.out;omega) o).trans (HN2.out o)
  have f3:∀ o,w3.frozen? ⟨N,o,none⟩=false:=fun o=>(frm_frozen hf3 HZ2.out.2 (by have:=HZ0.out;have:=HZ2.out;omega) o).trans (HNF.out o)
  have HN3:=Lib.hid n3
  have HNF3:=Lib.hid f3
  have n0:=n3 0
  have n1:=n3 1
  have z1:=f3 1
  have HZ3:Hid (N < w3.heap.size):=Nat.lt_of_lt_of_le HZ2.out.2 hf3.size
  clear hx3 hf3 n3 f3 HX2 HF2
  have ht:=ht.out
  subst ht
  have r0:=(frm_cells HF3.out HZ0.out.1 (by have:=HZ0.out;omega) 0).trans (HR0.out 0)
  have r1:=(frm_cells HF3.out HZ0.out.1 (by have:=HZ0.out;omega) 1).trans (HR0.out 1)
  have q0:=(frm_frozen HF3.out HZ0.out.1 (by have:=HZ0.out;omega) 0).trans (HRF.out 0)
  have q1:=(frm_frozen HF3.out HZ0.out.1 (by have:=HZ0.out;omega) 1).trans (HRF.out 1)
  have hne:N≠w.heap.size:=by have:=HZ0.out;have:=HZ2.out;omega
  have hne':w.heap.size≠N:=fun q=>hne q.symm
  have y0:(w3.setCell ⟨N,1,none⟩ (.int .i64 (-n))).cell? ⟨w.heap.size,0,none⟩=some (.bool false):=(World.cell?_setCell_other _ _ _ _ (fun q=>by injection q with q;exact hne q)).trans r0
  have y1:(w3.setCell ⟨N,1,none⟩ (.int .i64 (-n))).cell? ⟨w.heap.size,1,none⟩=some (.int .i64 0):=(World.cell?_setCell_other _ _ _ _ (fun q=>by injection q with q;exact hne q)).trans r1
  have HP:=Lib.hid (two_cells (w3.setCell ⟨N,1,none⟩ (.int .i64 (-n))) w.heap.size (.bool true) (.int .i64 (-n)) _ _ y0 y1)
  have hw:=hw.out
  go_wp2_with fail
  obtain⟨p0,p1⟩:=HP.out
  have hG:g < w.heap.size:=HZ0.out.2
  have hN:g < N:=by have:=HZ0.out;have:=HZ2.out;omega
  have hwN:w.heap.size≤N:=by have:=HZ0.out;have:=HZ2.out;omega
  refine bodyPost_ret (v:=numV true (-n)) (by simp [results,Tryz.results124,go_sem,p0,p1]) rfl ⟨rfl,((HX3.out.far hN).far hG).far hG,?_⟩
  exact (((HF0.out.step HF3.out).put hwN).put (Nat.le_refl _)).put (Nat.le_refl _)
set_option maxRecDepth 8000 in
set_option maxHeartbeats 2000000 in
theorem rmcsigned_trueZ {g:Nat} {s s1 s2 t:Rd} {n:Int} {d:ByteArray} {w:World} (h1:Hid (rdNum 1 3 1 0 1800 s=((true,n),s1))) (hd:Hid (rdText s1=(d,s2))) (ht:Hid (rdFail 3 s2=t)) (b1:(d.toList==[69])=false) (b2:(d.toList==[87])=false) (b3:d.toList.isEmpty=true) (hw:Hid (IntKind.i64.wrap (-n)=-n)) (hp:EyeI g s w) :
    Calls Tryz.prog 124 #[.pointer (some ⟨g,0,none⟩)] w (EyeStep g (numV true n) t w):=by
  have hb0:=below_new w (numO false 0)
  have HX0:=Lib.hid (hp.keep hb0)
  have HF0:Hid (Frm g nilV w (w.alloc (numO false 0))):=Frm.of_below hb0
  have HZ0:Hid (w.heap.size < (w.alloc (numO false 0)).heap.size∧g < w.heap.size):=⟨by simp,hp.lt⟩
  have HR0:Hid (∀ o,(w.alloc (numO false 0)).cell? ⟨w.heap.size,o,none⟩=(#[Value.bool false,.int .i64 0]:Array Value)[o]?):=fun o=>World.cell?_alloc_at _ _ _ _ rfl
  have HRF:Hid (∀ o,(w.alloc (numO false 0)).frozen? ⟨w.heap.size,o,none⟩=false):=fun o=>by rw [frozen?_alloc_cells];exact frozen_past _ _ _ (Nat.le_refl _)
  clear hb0 hp
  go_enter Tryz.func124,Tryz.ntmps124
  go_wp2_with fail
  generalize hW0:w.alloc (numO false 0)=W0 at *
  clear hW0
  refine (rmcvariation_any _).mono ?_
  rintro r w1 ⟨rfl,hb1⟩
  have HX1:=Lib.hid (HX0.out.keep hb1)
  have HF1:Hid (Frm g nilV W0 w1):=Frm.of_below hb1
  clear hb1
  go_wp2_with fail
  refine (eyeNum h1 HX1.out).mono ?_
  rintro r w2 ⟨rfl,hx2,hf2⟩
  have hbn:=below_new w2 (numO true n)
  have HX2:=Lib.hid (hx2.keep hbn)
  have HF2:Hid (Frm g nilV W0 (w2.alloc (numO true n))):=(HF1.out.step hf2).step (Frm.of_below hbn)
  have HZ2:Hid (W0.heap.size≤w2.heap.size∧w2.heap.size < (w2.alloc (numO true n)).heap.size):=⟨(HF1.out.step hf2).size,by simp⟩
  have HN2:Hid (∀ o,(w2.alloc (numO true n)).cell? ⟨w2.heap.size,o,none⟩=(#[Value.bool true,.int .i64 n]:Array Value)[o]?):=fun o=>World.cell?_alloc_at _ _ _ _ rfl
  have HNF:Hid (∀ o,(w2.alloc (numO true n)).frozen? ⟨w2.heap.size,o,none⟩=false):=fun o=>by rw [frozen?_alloc_cells];exact frozen_past _ _ _ (Nat.le_refl _)
  clear hbn hx2 hf2 HX1 HF1 HX0
  go_upto_region 2 with fail
  generalize hV:w2.alloc (numO true n)=V at *
  generalize w2.heap.size=N at *
  clear hV
  go_wp2_with fail
  refine (eyeText hd HX2.out).mono ?_
  rintro r w3 ⟨rfl,hx3,hf3⟩
  have HX3:=Lib.hid hx3
  have HF3:=Lib.hid (HF2.out.step hf3)
  have n3:∀ o,w3.cell? ⟨N,o,none⟩=(#[Value.bool true,.int .i64 n]:Array Value)[o]?:=fun o=>(frm_cells hf3 HZ2.out.2 (by have:=HZ0.out;have:=HZ2.out;omega) o).trans (HN2.out o)
  have f3:∀ o,w3.frozen? ⟨N,o,none⟩=false:=fun o=>(frm_frozen hf3 HZ2.out.2 (by have:=HZ0.out;have:=HZ2.out;omega) o).trans (HNF.out o)
  have HN3:=Lib.hid n3
  have HNF3:=Lib.hid f3
  have n0:=n3 0
  have n1:=n3 1
  have z1:=f3 1
  have HZ3:Hid (N < w3.heap.size):=Nat.lt_of_lt_of_le HZ2.out.2 hf3.size
  clear hx3 hf3 n3 f3 HX2 HF2
  go_wp2_with fail
  refine (eyeFail ht HX3.out).mono ?_
  rintro r w4 ⟨rfl,hx4,hf4⟩
  have HX4:=Lib.hid hx4
  have HF4:=Lib.hid (HF3.out.step hf4)
  have m0:=(frm_cells hf4 HZ3.out (by have:=HZ0.out;have:=HZ2.out;omega) 0).trans (HN3.out 0)
  have m1:=(frm_cells hf4 HZ3.out (by have:=HZ0.out;have:=HZ2.out;omega) 1).trans (HN3.out 1)
  have r0:=(frm_cells HF4.out HZ0.out.1 (by have:=HZ0.out;omega) 0).trans (HR0.out 0)
  have r1:=(frm_cells HF4.out HZ0.out.1 (by have:=HZ0.out;omega) 1).trans (HR0.out 1)
  have q0:=(frm_frozen HF4.out HZ0.out.1 (by have:=HZ0.out;omega) 0).trans (HRF.out 0)
  have q1:=(frm_frozen HF4.out HZ0.out.1 (by have:=HZ0.out;omega) 1).trans (HRF.out 1)
  clear hx4 hf4 n0 n1 z1
  have HP:=Lib.hid (two_cells w4 w.heap.size (.bool true) (.int .i64 n) _ _ r0 r1)
  go_wp2_with fail
  obtain⟨p0,p1⟩:=HP.out
  have hG:g < w.heap.size:=HZ0.out.2
  refine bodyPost_ret (v:=numV true n) (by simp [results,Tryz.results124,go_sem,p0,p1]) rfl ⟨rfl,(HX4.out.far hG).far hG,?_⟩
  exact ((HF0.out.step HF4.out).put (Nat.le_refl _)).put (Nat.le_refl _)
set_option maxRecDepth 8000 in
set_option maxHeartbeats 2000000 in
theorem rmcsigned_trueO {g:Nat} {s s1 s2 t:Rd} {n:Int} {d:ByteArray} {w:World} (h1:Hid (rdNum 1 3 1 0 1800 s=((true,n),s1))) (hd:Hid (rdText s1=(d,s2))) (ht:Hid (rdFail 3 s2=t)) (b1:(d.toList==[69])=false) (b2:(d.toList==[87])=false) (b3:d.toList.isEmpty=false) (hw:Hid (IntKind.i64.wrap (-n)=-n)) (hp:EyeI g s w) :
    Calls Tryz.prog 124 #[.pointer (some ⟨g,0,none⟩)] w (EyeStep g (numV true n) t w):=by
  have hb0:=below_new w (numO false 0)
  have HX0:=Lib.hid (hp.keep hb0)
  have HF0:Hid (Frm g nilV w (w.alloc (numO false 0))):=Frm.of_below hb0
  have HZ0:Hid (w.heap.size < (w.alloc (numO false 0)).heap.size∧g < w.heap.size):=⟨by simp,hp.lt⟩
  have HR0:Hid (∀ o,(w.alloc (numO false 0)).cell? ⟨w.heap.size,o,none⟩=(#[Value.bool false,.int .i64 0]:Array Value)[o]?):=fun o=>World.cell?_alloc_at _ _ _ _ rfl
  have HRF:Hid (∀ o,(w.alloc (numO false 0)).frozen? ⟨w.heap.size,o,none⟩=false):=fun o=>by rw [frozen?_alloc_cells];exact frozen_past _ _ _ (Nat.le_refl _)
  clear hb0 hp
  go_enter Tryz.func124,Tryz.ntmps124
  go_wp2_with fail
  generalize hW0:w.alloc (numO false 0)=W0 at *
  clear hW0
  refine (rmcvariation_any _).mono ?_
  rintro r w1 ⟨rfl,hb1⟩
  have HX1:=Lib.hid (HX0.out.keep hb1)
  have HF1:Hid (Frm g nilV W0 w1):=Frm.of_below hb1
  clear hb1
  go_wp2_with fail
  refine (eyeNum h1 HX1.out).mono ?_
  rintro r w2 ⟨rfl,hx2,hf2⟩
  have hbn:=below_new w2 (numO true n)
  have HX2:=Lib.hid (hx2.keep hbn)
  have HF2:Hid (Frm g nilV W0 (w2.alloc (numO true n))):=(HF1.out.step hf2).step (Frm.of_below hbn)
  have HZ2:Hid (W0.heap.size≤w2.heap.size∧w2.heap.size < (w2.alloc (numO true n)).heap.size):=⟨(HF1.out.step hf2).size,by simp⟩
  have HN2:Hid (∀ o,(w2.alloc (numO true n)).cell? ⟨w2.heap.size,o,none⟩=(#[Value.bool true,.int .i64 n]:Array Value)[o]?):=fun o=>World.cell?_alloc_at _ _ _ _ rfl
  have HNF:Hid (∀ o,(w2.alloc (numO true n)).frozen? ⟨w2.heap.size,o,none⟩=false):=fun o=>by rw [frozen?_alloc_cells];exact frozen_past _ _ _ (Nat.le_refl _)
  clear hbn hx2 hf2 HX1 HF1 HX0
  go_upto_region 2 with fail
  generalize hV:w2.alloc (numO true n)=V at *
  generalize w2.heap.size=N at *
  clear hV
  go_wp2_with fail
  refine (eyeText hd HX2.out).mono ?_
  rintro r w3 ⟨rfl,hx3,hf3⟩
  have HX3:=Lib.hid hx3
  have HF3:=Lib.hid (HF2.out.step hf3)
  have n3:∀ o,w3.cell? ⟨N,o,none⟩=(#[Value.bool true,.int .i64 n]:Array Value)[o]?:=fun o=>(frm_cells hf3 HZ2.out.2 (by have:=HZ0.out;have:=HZ2.out;omega) o).trans (HN2.out o)
  have f3:∀ o,w3.frozen? ⟨N,o,none⟩=false:=fun o=>(frm_frozen hf3 HZ2.out.2 (by have:=HZ0.out;have:=HZ2.out;omega) o).trans (HNF.out o)
  have HN3:=Lib.hid n3
  have HNF3:=Lib.hid f3
  have n0:=n3 0
  have n1:=n3 1
  have z1:=f3 1
  have HZ3:Hid (N < w3.heap.size):=Nat.lt_of_lt_of_le HZ2.out.2 hf3.size
  clear hx3 hf3 n3 f3 HX2 HF2
  go_wp2_with fail
  refine (eyeFail ht HX3.out).mono ?_
  rintro r w4 ⟨rfl,hx4,hf4⟩
  have HX4:=Lib.hid hx4
  have HF4:=Lib.hid (HF3.out.step hf4)
  have m0:=(frm_cells hf4 HZ3.out (by have:=HZ0.out;have:=HZ2.out;omega) 0).trans (HN3.out 0)
  have m1:=(frm_cells hf4 HZ3.out (by have:=HZ0.out;have:=HZ2.out;omega) 1).trans (HN3.out 1)
  have r0:=(frm_cells HF4.out HZ0.out.1 (by have:=HZ0.out;omega) 0).trans (HR0.out 0)
  have r1:=(frm_cells HF4.out HZ0.out.1 (by have:=HZ0.out;omega) 1).trans (HR0.out 1)
  have q0:=(frm_frozen HF4.out HZ0.out.1 (by have:=HZ0.out;omega) 0).trans (HRF.out 0)
  have q1:=(frm_frozen HF4.out HZ0.out.1 (by have:=HZ0.out;omega) 1).trans (HRF.out 1)
  clear hx4 hf4 n0 n1 z1
  have HP:=Lib.hid (two_cells w4 w.heap.size (.bool true) (.int .i64 n) _ _ r0 r1)
  go_wp2_with fail
  obtain⟨p0,p1⟩:=HP.out
  have hG:g < w.heap.size:=HZ0.out.2
  refine bodyPost_ret (v:=numV true n) (by simp [results,Tryz.results124,go_sem,p0,p1]) rfl ⟨rfl,(HX4.out.far hG).far hG,?_⟩
  exact ((HF0.out.step HF4.out).put (Nat.le_refl _)).put (Nat.le_refl _)
set_option maxRecDepth 8000 in
set_option maxHeartbeats 2000000 in
theorem rmcsigned_falseE {g:Nat} {s s1 s2 t:Rd} {n:Int} {d:ByteArray} {w:World} (h1:Hid (rdNum 1 3 1 0 1800 s=((false,n),s1))) (hd:Hid (rdText s1=(d,s2))) (ht:Hid (rdFail 3 s2=t)) (b1:(d.toList==[69])=true) (b2:(d.toList==[87])=false) (b3:d.toList.isEmpty=false) (hw:Hid (IntKind.i64.wrap (-n)=-n)) (hp:EyeI g s w) :
    Calls Tryz.prog 124 #[.pointer (some ⟨g,0,none⟩)] w (EyeStep g (numV false n) t w):=by
  have hb0:=below_new w (numO false 0)
  have HX0:=Lib.hid (hp.keep hb0)
  have HF0:Hid (Frm g nilV w (w.alloc (numO false 0))):=Frm.of_below hb0
  have HZ0:Hid (w.heap.size < (w.alloc (numO false 0)).heap.size∧g < w.heap.size):=⟨by simp,hp.lt⟩
  have HR0:Hid (∀ o,(w.alloc (numO false 0)).cell? ⟨w.heap.size,o,none⟩=(#[Value.bool false,.int .i64 0]:Array Value)[o]?):=fun o=>World.cell?_alloc_at _ _ _ _ rfl
  have HRF:Hid (∀ o,(w.alloc (numO false 0)).frozen? ⟨w.heap.size,o,none⟩=false):=fun o=>by rw [frozen?_alloc_cells];exact frozen_past _ _ _ (Nat.le_refl _)
  clear hb0 hp
  go_enter Tryz.func124,Tryz.ntmps124
  go_wp2_with fail
  generalize hW0:w.alloc (numO false 0)=W0 at *
  clear hW0
  refine (rmcvariation_any _).mono ?_
  rintro r w1 ⟨rfl,hb1⟩
  have HX1:=Lib.hid (HX0.out.keep hb1)
  have HF1:Hid (Frm g nilV W0 w1):=Frm.of_below hb1
  clear hb1
  go_wp2_with fail
  refine (eyeNum h1 HX1.out).mono ?_
  rintro r w2 ⟨rfl,hx2,hf2⟩
  have hbn:=below_new w2 (numO false n)
  have HX2:=Lib.hid (hx2.keep hbn)
  have HF2:Hid (Frm g nilV W0 (w2.alloc (numO false n))):=(HF1.out.step hf2).step (Frm.of_below hbn)
  have HZ2:Hid (W0.heap.size≤w2.heap.size∧w2.heap.size < (w2.alloc (numO false n)).heap.size):=⟨(HF1.out.step hf2).size,by simp⟩
  have HN2:Hid (∀ o,(w2.alloc (numO false n)).cell? ⟨w2.heap.size,o,none⟩=(#[Value.bool false,.int .i64 n]:Array Value)[o]?):=fun o=>World.cell?_alloc_at _ _ _ _ rfl
  have HNF:Hid (∀ o,(w2.alloc (numO false n)).frozen? ⟨w2.heap.size,o,none⟩=false):=fun o=>by rw [frozen?_alloc_cells];exact frozen_past _ _ _ (Nat.le_refl _)
  clear hbn hx2 hf2 HX1 HF1 HX0
  go_upto_region 2 with fail
  generalize hV:w2.alloc (numO false n)=V at *
  generalize w2.heap.size=N at *
  clear hV
  go_wp2_with fail
  refine (eyeText hd HX2.out).mono ?_
  rintro r w3 ⟨rfl,hx3,hf3⟩
  have HX3:=Lib.hid hx3
  have HF3:=Lib.hid (HF2.out.step hf3)
  have n3:∀ o,w3.cell? ⟨N,o,none⟩=(#[Value.bool false,.int .i64 n]:Array Value)[o]?:=fun o=>(frm_cells hf3 HZ2.out.2 (by have:=HZ0.out;have:=HZ2.out;omega) o).trans (HN2.out o)
  have f3:∀ o,w3.frozen? ⟨N,o,none⟩=false:=fun o=>(frm_frozen hf3 HZ2.out.2 (by have:=HZ0.out;have:=HZ2.out;omega) o).trans (HNF.out o)
  have HN3:=Lib.hid n3
  have HNF3:=Lib.hid f3
  have n0:=n3 0
  have n1:=n3 1
  have z1:=f3 1
  have HZ3:Hid (N < w3.heap.size):=Nat.lt_of_lt_of_le HZ2.out.2 hf3.size
  clear hx3 hf3 n3 f3 HX2 HF2
  go_wp2_with fail
  refine (eyeFail ht HX3.out).mono ?_
  rintro r w4 ⟨rfl,hx4,hf4⟩
  have HX4:=Lib.hid hx4
  have HF4:=Lib.hid (HF3.out.step hf4)
  have m0:=(frm_cells hf4 HZ3.out (by have:=HZ0.out;have:=HZ2.out;omega) 0).trans (HN3.out 0)
  have m1:=(frm_cells hf4 HZ3.out (by have:=HZ0.out;have:=HZ2.out;omega) 1).trans (HN3.out 1)
  have r0:=(frm_cells HF4.out HZ0.out.1 (by have:=HZ0.out;omega) 0).trans (HR0.out 0)
  have r1:=(frm_cells HF4.out HZ0.out.1 (by have:=HZ0.out;omega) 1).trans (HR0.out 1)
  have q0:=(frm_frozen HF4.out HZ0.out.1 (by have:=HZ0.out;omega) 0).trans (HRF.out 0)
  have q1:=(frm_frozen HF4.out HZ0.out.1 (by have:=HZ0.out;omega) 1).trans (HRF.out 1)
  clear hx4 hf4 n0 n1 z1
  have HP:=Lib.hid (two_cells w4 w.heap.size (.bool false) (.int .i64 n) _ _ r0 r1)
  go_wp2_with fail
  obtain⟨p0,p1⟩:=HP.out
  have hG:g < w.heap.size:=HZ0.out.2
  refine bodyPost_ret (v:=numV false n) (by simp [results,Tryz.results124,go_sem,p0,p1]) rfl ⟨rfl,(HX4.out.far hG).far hG,?_⟩
  exact ((HF0.out.step HF4.out).put (Nat.le_refl _)).put (Nat.le_refl _)
set_option maxRecDepth 8000 in
set_option maxHeartbeats 2000000 in
theorem rmcsigned_falseW {g:Nat} {s s1 s2 t:Rd} {n:Int} {d:ByteArray} {w:World} (h1:Hid (rdNum 1 3 1 0 1800 s=((false,n),s1))) (hd:Hid (rdText s1=(d,s2))) (ht:Hid (rdFail 3 s2=t)) (b1:(d.toList==[69])=false) (b2:(d.toList==[87])=true) (b3:d.toList.isEmpty=false) (hw:Hid (IntKind.i64.wrap (-n)=-n)) (hp:EyeI g s w) :
    Calls Tryz.prog 124 #[.pointer (some ⟨g,0,none⟩)] w (EyeStep g (numV false n) t w):=by
  have hb0:=below_new w (numO false 0)
  have HX0:=Lib.hid (hp.keep hb0)
  have HF0:Hid (Frm g nilV w (w.alloc (numO false 0))):=Frm.of_below hb0
  have HZ0:Hid (w.heap.size < (w.alloc (numO false 0)).heap.size∧g < w.heap.size):=⟨by simp,hp.lt⟩
  have HR0:Hid (∀ o,(w.alloc (numO false 0)).cell? ⟨w.heap.size,o,none⟩=(#[Value.bool false,.int .i64 0]:Array Value)[o]?):=fun o=>World.cell?_alloc_at _ _ _ _ rfl
  have HRF:Hid (∀ o,(w.alloc (numO false 0)).frozen? ⟨w.heap.size,o,none⟩=false):=fun o=>by rw [frozen?_alloc_cells];exact frozen_past _ _ _ (Nat.le_refl _)
  clear hb0 hp
  go_enter Tryz.func124,Tryz.ntmps124
  go_wp2_with fail
  generalize hW0:w.alloc (numO false 0)=W0 at *
  clear hW0
  refine (rmcvariation_any _).mono ?_
  rintro r w1 ⟨rfl,hb1⟩
  have HX1:=Lib.hid (HX0.out.keep hb1)
  have HF1:Hid (Frm g nilV W0 w1):=Frm.of_below hb1
  clear hb1
  go_wp2_with fail
  refine (eyeNum h1 HX1.out).mono ?_
  rintro r w2 ⟨rfl,hx2,hf2⟩
  have hbn:=below_new w2 (numO false n)
  have HX2:=Lib.hid (hx2.keep hbn)
  have HF2:Hid (Frm g nilV W0 (w2.alloc (numO false n))):=(HF1.out.step hf2).step (Frm.of_below hbn)
  have HZ2:Hid (W0.heap.size≤w2.heap.size∧w2.heap.size < (w2.alloc (numO false n)).heap.size):=⟨(HF1.out.step hf2).size,by simp⟩
  have HN2:Hid (∀ o,(w2.alloc (numO false n)).cell? ⟨w2.heap.size,o,none⟩=(#[Value.bool false,.int .i64 n]:Array Value)[o]?):=fun o=>World.cell?_alloc_at _ _ _ _ rfl
  have HNF:Hid (∀ o,(w2.alloc (numO false n)).frozen? ⟨w2.heap.size,o,none⟩=false):=fun o=>by rw [frozen?_alloc_cells];exact frozen_past _ _ _ (Nat.le_refl _)
  clear hbn hx2 hf2 HX1 HF1 HX0
  go_upto_region 2 with fail
  generalize hV:w2.alloc (numO false n)=V at *
  generalize w2.heap.size=N at *
  clear hV
  go_wp2_with fail
  refine (eyeText hd HX2.out).mono ?_
  rintro r w3 ⟨rfl,hx3,hf3⟩
  have HX3:=Lib.hid hx3
  have HF3:=Lib.hid (HF2.out.step hf3)
  have n3:∀ o,w3.cell? ⟨N,o,none⟩=(#[Value.bool false,.int .i64 n]:Array Value)[o]?:=fun o=>(frm_cells hf3 HZ2.out.2 (by have:=HZ0.out;have:=HZ2.out;omega) o).trans (HN2.out o)
  have f3:∀ o,w3.frozen? ⟨N,o,none⟩=false:=fun o=>(frm_frozen hf3 HZ2.out.2 (by have:=HZ0.out;have:=HZ2.out;omega) o).trans (HNF.out o)
  have HN3:=Lib.hid n3
  have HNF3:=Lib.hid f3
  have n0:=n3 0
  have n1:=n3 1
  have z1:=f3 1
  have HZ3:Hid (N < w3.heap.size):=Nat.lt_of_lt_of_le HZ2.out.2 hf3.size
  clear hx3 hf3 n3 f3 HX2 HF2
  go_wp2_with fail
  refine (eyeFail ht HX3.out).mono ?_
  rintro r w4 ⟨rfl,hx4,hf4⟩
  have HX4:=Lib.hid hx4
  have HF4:=Lib.hid (HF3.out.step hf4)
  have m0:=(frm_cells hf4 HZ3.out (by have:=HZ0.out;have:=HZ2.out;omega) 0).trans (HN3.out 0)
  have m1:=(frm_cells hf4 HZ3.out (by have:=HZ0.out;have:=HZ2.out;omega) 1).trans (HN3.out 1)
  have r0:=(frm_cells HF4.out HZ0.out.1 (by have:=HZ0.out;omega) 0).trans (HR0.out 0)
  have r1:=(frm_cells HF4.out HZ0.out.1 (by have:=HZ0.out;omega) 1).trans (HR0.out 1)
  have q0:=(frm_frozen HF4.out HZ0.out.1 (by have:=HZ0.out;omega) 0).trans (HRF.out 0)
  have q1:=(frm_frozen HF4.out HZ0.out.1 (by have:=HZ0.out;omega) 1).trans (HRF.out 1)
  clear hx4 hf4 n0 n1 z1
  have HP:=Lib.hid (two_cells w4 w.heap.size (.bool false) (.int .i64 n) _ _ r0 r1)
  go_wp2_with fail
  obtain⟨p0,p1⟩:=HP.out
  have hG:g < w.heap.size:=HZ0.out.2
  refine bodyPost_ret (v:=numV false n) (by simp [results,Tryz.results124,go_sem,p0,p1]) rfl ⟨rfl,(HX4.out.far hG).far hG,?_⟩
  exact ((HF0.out.step HF4.out).put (Nat.le_refl _)).put (Nat.le_refl _)
set_option maxRecDepth 8000 in
set_option maxHeartbeats 2000000 in
theorem rmcsigned_falseZ {g:Nat} {s s1 s2 t:Rd} {n:Int} {d:ByteArray} {w:World} (h1:Hid (rdNum 1 3 1 0 1800 s=((false,n),s1))) (hd:Hid (rdText s1=(d,s2))) (ht:Hid (s2=t)) (b1:(d.toList==[69])=false) (b2:(d.toList==[87])=false) (b3:d.toList.isEmpty=true) (hw:Hid (IntKind.i64.wrap (-n)=-n)) (hp:EyeI g s w) :
    Calls Tryz.prog 124 #[.pointer (some ⟨g,0,none⟩)] w (EyeStep g (numV false n) t w):=by
  have hb0:=below_new w (numO false 0)
  have HX0:=Lib.hid (hp.keep hb0)
  have HF0:Hid (Frm g nilV w (w.alloc (numO false 0))):=Frm.of_below hb0
  have HZ0:Hid (w.heap.size < (w.alloc (numO false 0)).heap.size∧g < w.heap.size):=⟨by simp,hp.lt⟩
  have HR0:Hid (∀ o,(w.alloc (numO false 0)).cell? ⟨w.heap.size,o,none⟩=(#[Value.bool false,.int .i64 0]:Array Value)[o]?):=fun o=>World.cell?_alloc_at _ _ _ _ rfl
  have HRF:Hid (∀ o,(w.alloc (numO false 0)).frozen? ⟨w.heap.size,o,none⟩=false):=fun o=>by rw [frozen?_alloc_cells];exact frozen_past _ _ _ (Nat.le_refl _)
  clear hb0 hp
  go_enter Tryz.func124,Tryz.ntmps124
  go_wp2_with fail
  generalize hW0:w.alloc (numO false 0)=W0 at *
  clear hW0
  refine (rmcvariation_any _).mono ?_
  rintro r w1 ⟨rfl,hb1⟩
  have HX1:=Lib.hid (HX0.out.keep hb1)
  have HF1:Hid (Frm g nilV W0 w1):=Frm.of_below hb1
  clear hb1
  go_wp2_with fail
  refine (eyeNum h1 HX1.out).mono ?_
  rintro r w2 ⟨rfl,hx2,hf2⟩
  have hbn:=below_new w2 (numO false n)
  have HX2:=Lib.hid (hx2.keep hbn)
  have HF2:Hid (Frm g nilV W0 (w2.alloc (numO false n))):=(HF1.out.step hf2).step (Frm.of_below hbn)
  have HZ2:Hid (W0.heap.size≤w2.heap.size∧w2.heap.size < (w2.alloc (numO false n)).heap.size):=⟨(HF1.out.step hf2).size,by simp⟩
  have HN2:Hid (∀ o,(w2.alloc (numO false n)).cell? ⟨w2.heap.size,o,none⟩=(#[Value.bool false,.int .i64 n]:Array Value)[o]?):=fun o=>World.cell?_alloc_at _ _ _ _ rfl
  have HNF:Hid (∀ o,(w2.alloc (numO false n)).frozen? ⟨w2.heap.size,o,none⟩=false):=fun o=>by rw [frozen?_alloc_cells];exact frozen_past _ _ _ (Nat.le_refl _)
  clear hbn hx2 hf2 HX1 HF1 HX0
  go_upto_region 2 with fail
  generalize hV:w2.alloc (numO false n)=V at *
  generalize w2.heap.size=N at *
  clear hV
  go_wp2_with fail
  refine (eyeText hd HX2.out).mono ?_
  rintro r w3 ⟨rfl,hx3,hf3⟩
  have HX3:=Lib.hid hx3
  have HF3:=Lib.hid (HF2.out.step hf3)
  have n3:∀ o,w3.cell? ⟨N,o,none⟩=(#[Value.bool false,.int .i64 n]:Array Value)[o]?:=fun o=>(frm_cells hf3 HZ2.out.2 (by have:=HZ0.out;have:=HZ2.out;omega) o).trans (HN2.out o)
  have f3:∀ o,w3.frozen? ⟨N,o,none⟩=false:=fun o=>(frm_frozen hf3 HZ2.out.2 (by have:=HZ0.out;have:=HZ2.out;omega) o).trans (HNF.out o)
  have HN3:=Lib.hid n3
  have HNF3:=Lib.hid f3
  have n0:=n3 0
  have n1:=n3 1
  have z1:=f3 1
  have HZ3:Hid (N < w3.heap.size):=Nat.lt_of_lt_of_le HZ2.out.2 hf3.size
  clear hx3 hf3 n3 f3 HX2 HF2
  have ht:=ht.out
  subst ht
  have r0:=(frm_cells HF3.out HZ0.out.1 (by have:=HZ0.out;omega) 0).trans (HR0.out 0)
  have r1:=(frm_cells HF3.out HZ0.out.1 (by have:=HZ0.out;omega) 1).trans (HR0.out 1)
  have q0:=(frm_frozen HF3.out HZ0.out.1 (by have:=HZ0.out;omega) 0).trans (HRF.out 0)
  have q1:=(frm_frozen HF3.out HZ0.out.1 (by have:=HZ0.out;omega) 1).trans (HRF.out 1)
  have HP:=Lib.hid (two_cells w3 w.heap.size (.bool false) (.int .i64 n) _ _ r0 r1)
  go_wp2_with fail
  obtain⟨p0,p1⟩:=HP.out
  have hG:g < w.heap.size:=HZ0.out.2
  refine bodyPost_ret (v:=numV false n) (by simp [results,Tryz.results124,go_sem,p0,p1]) rfl ⟨rfl,(HX3.out.far hG).far hG,?_⟩
  exact ((HF0.out.step HF3.out).put (Nat.le_refl _)).put (Nat.le_refl _)
set_option maxRecDepth 8000 in
set_option maxHeartbeats 2000000 in
theorem rmcsigned_falseO {g:Nat} {s s1 s2 t:Rd} {n:Int} {d:ByteArray} {w:World} (h1:Hid (rdNum 1 3 1 0 1800 s=((false,n),s1))) (hd:Hid (rdText s1=(d,s2))) (ht:Hid (rdFail 3 s2=t)) (b1:(d.toList==[69])=false) (b2:(d.toList==[87])=false) (b3:d.toList.isEmpty=false) (hw:Hid (IntKind.i64.wrap (-n)=-n)) (hp:EyeI g s w) :
    Calls Tryz.prog 124 #[.pointer (some ⟨g,0,none⟩)] w (EyeStep g (numV false n) t w):=by
  have hb0:=below_new w (numO false 0)
  have HX0:=Lib.hid (hp.keep hb0)
  have HF0:Hid (Frm g nilV w (w.alloc (numO false 0))):=Frm.of_below hb0
  have HZ0:Hid (w.heap.size < (w.alloc (numO false 0)).heap.size∧g < w.heap.size):=⟨by simp,hp.lt⟩
  have HR0:Hid (∀ o,(w.alloc (numO false 0)).cell? ⟨w.heap.size,o,none⟩=(#[Value.bool false,.int .i64 0]:Array Value)[o]?):=fun o=>World.cell?_alloc_at _ _ _ _ rfl
  have HRF:Hid (∀ o,(w.alloc (numO false 0)).frozen? ⟨w.heap.size,o,none⟩=false):=fun o=>by rw [frozen?_alloc_cells];exact frozen_past _ _ _ (Nat.le_refl _)
  clear hb0 hp
  go_enter Tryz.func124,Tryz.ntmps124
  go_wp2_with fail
  generalize hW0:w.alloc (numO false 0)=W0 at *
  clear hW0
  refine (rmcvariation_any _).mono ?_
  rintro r w1 ⟨rfl,hb1⟩
  have HX1:=Lib.hid (HX0.out.keep hb1)
  have HF1:Hid (Frm g nilV W0 w1):=Frm.of_below hb1
  clear hb1
  go_wp2_with fail
  refine (eyeNum h1 HX1.out).mono ?_
  rintro r w2 ⟨rfl,hx2,hf2⟩
  have hbn:=below_new w2 (numO false n)
  have HX2:=Lib.hid (hx2.keep hbn)
  have HF2:Hid (Frm g nilV W0 (w2.alloc (numO false n))):=(HF1.out.step hf2).step (Frm.of_below hbn)
  have HZ2:Hid (W0.heap.size≤w2.heap.size∧w2.heap.size < (w2.alloc (numO false n)).heap.size):=⟨(HF1.out.step hf2).size,by simp⟩
  have HN2:Hid (∀ o,(w2.alloc (numO false n)).cell? ⟨w2.heap.size,o,none⟩=(#[Value.bool false,.int .i64 n]:Array Value)[o]?):=fun o=>World.cell?_alloc_at _ _ _ _ rfl
  have HNF:Hid (∀ o,(w2.alloc (numO false n)).frozen? ⟨w2.heap.size,o,none⟩=false):=fun o=>by rw [frozen?_alloc_cells];exact frozen_past _ _ _ (Nat.le_refl _)
  clear hbn hx2 hf2 HX1 HF1 HX0
  go_upto_region 2 with fail
  generalize hV:w2.alloc (numO false n)=V at *
  generalize w2.heap.size=N at *
  clear hV
  go_wp2_with fail
  refine (eyeText hd HX2.out).mono ?_
  rintro r w3 ⟨rfl,hx3,hf3⟩
  have HX3:=Lib.hid hx3
  have HF3:=Lib.hid (HF2.out.step hf3)
  have n3:∀ o,w3.cell? ⟨N,o,none⟩=(#[Value.bool false,.int .i64 n]:Array Value)[o]?:=fun o=>(frm_cells hf3 HZ2.out.2 (by have:=HZ0.out;have:=HZ2.out;omega) o).trans (HN2.out o)
  have f3:∀ o,w3.frozen? ⟨N,o,none⟩=false:=fun o=>(frm_frozen hf3 HZ2.out.2 (by have:=HZ0.out;have:=HZ2.out;omega) o).trans (HNF.out o)
  have HN3:=Lib.hid n3
  have HNF3:=Lib.hid f3
  have n0:=n3 0
  have n1:=n3 1
  have z1:=f3 1
  have HZ3:Hid (N < w3.heap.size):=Nat.lt_of_lt_of_le HZ2.out.2 hf3.size
  clear hx3 hf3 n3 f3 HX2 HF2
  go_wp2_with fail
  refine (eyeFail ht HX3.out).mono ?_
  rintro r w4 ⟨rfl,hx4,hf4⟩
  have HX4:=Lib.hid hx4
  have HF4:=Lib.hid (HF3.out.step hf4)
  have m0:=(frm_cells hf4 HZ3.out (by have:=HZ0.out;have:=HZ2.out;omega) 0).trans (HN3.out 0)
  have m1:=(frm_cells hf4 HZ3.out (by have:=HZ0.out;have:=HZ2.out;omega) 1).trans (HN3.out 1)
  have r0:=(frm_cells HF4.out HZ0.out.1 (by have:=HZ0.out;omega) 0).trans (HR0.out 0)
  have r1:=(frm_cells HF4.out HZ0.out.1 (by have:=HZ0.out;omega) 1).trans (HR0.out 1)
  have q0:=(frm_frozen HF4.out HZ0.out.1 (by have:=HZ0.out;omega) 0).trans (HRF.out 0)
  have q1:=(frm_frozen HF4.out HZ0.out.1 (by have:=HZ0.out;omega) 1).trans (HRF.out 1)
  clear hx4 hf4 n0 n1 z1
  have HP:=Lib.hid (two_cells w4 w.heap.size (.bool false) (.int .i64 n) _ _ r0 r1)
  go_wp2_with fail
  obtain⟨p0,p1⟩:=HP.out
  have hG:g < w.heap.size:=HZ0.out.2
  refine bodyPost_ret (v:=numV false n) (by simp [results,Tryz.results124,go_sem,p0,p1]) rfl ⟨rfl,(HX4.out.far hG).far hG,?_⟩
  exact ((HF0.out.step HF4.out).put (Nat.le_refl _)).put (Nat.le_refl _)
abbrev colsM:Array Value:=#[.int .i64 1,.int .i64 4,.int .i64 2,.int .i64 0,.int .i64 999999,.int .i64 1,.int .i64 3,.int .i64 2,.int .i64 0,.int .i64 36000,.int .i64 1,.int .i64 3,.int .i64 1,.int .i64 0,.int .i64 1800]
theorem r26Cols_any (w:World):Calls Tryz.prog 56 #[] w fun e w'=>e=.returned (.slice (some ⟨w.heap.size,0,none⟩) 3 3)∧(∀ o,w'.cell? ⟨w.heap.size,o,none⟩=colsM[o]?)∧w'.heap.size=w.heap.size+1∧Below w.heap.size w w':=by
  go_enter Tryz.func56,Tryz.ntmps56
  go_wp2
  go_ret
  exact⟨rfl,fun o=>World.cell?_alloc_at _ _ _ _ rfl,by simp,below_new _ _⟩
set_option maxRecDepth 8000 in
theorem r26One_any {g:Nat} {s t:Rd} {b:Bool} {w:World} (ht:Hid (rdSt s=(b,t))) (hp:RowRI g s w):Calls Tryz.prog 57 #[.pointer (some ⟨g,0,none⟩),.string ⟨#[65]⟩,.string ⟨#[86]⟩] w (RowRStep g (.bool b) t w):=by
  obtain⟨a,s1,ha⟩:∃ a s1,Hid (rdText s=(a,s1)):=⟨_,_,rfl⟩
  have ht:=ht.out
  unfold rdSt at ht
  rw [ha.out] at ht
  injection ht with e1 e2
  simp only at e1 e2
  have HP:=Lib.hid hp
  clear hp
  have q65:(⟨#[65]⟩:ByteArray).toList=[65]:=by rw [ByteArray.toList_eq]
  have q86:(⟨#[86]⟩:ByteArray).toList=[86]:=by rw [ByteArray.toList_eq]
  by_cases hA:a=⟨#[65]⟩
  · rw [decide_eq_true hA] at e1
    rw [if_neg (fun h=>h.1 hA)] at e2
    subst e1 e2
    have b2:(a.toList==[65])=true:=by rw [text_one];exact decide_eq_true hA
    have b3:(a.toList != [65])=false:=by unfold bne;rw [b2];rfl
    clear hA
    go_enter Tryz.func57,Tryz.ntmps57
    go_wp2_with fail
    refine (rowTText ha HP.out).mono ?_
    rintro r w1 ⟨rfl,hx,hf⟩
    have HX:=Lib.hid hx
    have HF:=Lib.hid hf
    clear hx hf HP
    go_wp2_with fail
    go_ret
    exact⟨rfl,HX.out,HF.out⟩
  · rw [decide_eq_false hA] at e1
    have b2:(a.toList==[65])=false:=by rw [text_one];exact decide_eq_false hA
    have b4:(a.toList != [65])=true:=by unfold bne;rw [b2];rfl
    by_cases hV:a=⟨#[86]⟩
    · rw [if_neg (fun h=>h.2 hV)] at e2
      subst e1 e2
      have b3:(a.toList==[86])=true:=by rw [text_one];exact decide_eq_true hV
      have b5:(a.toList != [86])=false:=by unfold bne;rw [b3];rfl
      clear hA hV
      go_enter Tryz.func57,Tryz.ntmps57
      go_wp2_with fail
      refine (rowTText ha HP.out).mono ?_
      rintro r w1 ⟨rfl,hx,hf⟩
      have HX:=Lib.hid hx
      have HF:=Lib.hid hf
      clear hx hf HP
      go_wp2_with fail
      go_ret
      exact⟨rfl,HX.out,HF.out⟩
    · rw [if_pos ⟨hA,hV⟩] at e2
      subst e1 e2
      have b3:(a.toList==[86])=false:=by rw [text_one];exact decide_eq_false hV
      have b5:(a.toList != [86])=true:=by unfold bne;rw [b3];rfl
      clear hA hV
      go_enter Tryz.func57,Tryz.ntmps57
      go_wp2_with fail
      refine (rowTText ha HP.out).mono ?_
      rintro r w1 ⟨rfl,hx,hf⟩
      have HX:=Lib.hid hx
      have HF:=Lib.hid hf
      clear hx hf HP
      go_wp2_with fail
      refine (rowFirst rfl HX.out).mono ?_
      rintro r w2 ⟨rfl,hx2,hf2⟩
      have HX2:=Lib.hid hx2
      have HF2:=Lib.hid (HF.out.step hf2)
      clear hx2 hf2
      go_wp2_with fail
      go_ret
      exact⟨rfl,HX2.out,HF2.out⟩
def sidedB (b:Bool) (d:ByteArray):Bool:=if b then !decide (d=eT) && !decide (d=wT) else !decide (d=ByteArray.empty)
theorem var_parts {s s1 s2 t:Rd} {b b0:Bool} {n n0:Int} {d:ByteArray} (h:rdVar s=((b,n),t)) (h1:rdNum 1 3 1 0 1800 s=((b0,n0),s1)) (h2:rdText s1=(d,s2)) :
    b=b0∧n=(if d=wT then -n0 else n0)∧t=(if sidedB b0 d=true then rdFail 3 s2 else s2):=by
  unfold rdVar at h
  rw [h1] at h
  simp only at h
  rw [h2] at h
  simp only at h
  unfold sidedR at h
  have nWZ:¬ wT=ByteArray.empty:=by decide
  cases b0 with
  | false=>
    have hn:n0=0:=rdNum_is h1
    subst hn
    by_cases hd:d=ByteArray.empty
    · subst hd
      rw [if_neg (by simp),if_neg (fun q=>nWZ q.symm)] at h
      injection h with e1 e2
      injection e1 with e1 e3
      exact⟨e1.symm,by rw [← e3];split <;> rfl,by rw [← e2];rfl⟩
    · rw [if_pos (.inr ⟨rfl,hd⟩)] at h
      injection h with e1 e2
      injection e1 with e1 e3
      exact⟨e1.symm,by rw [← e3];split <;> rfl,by rw [← e2,if_pos (by simp [sidedB,hd])]⟩
  | true=>
    by_cases hd:d≠eT∧d≠wT
    · rw [if_pos (.inl ⟨rfl,hd⟩)] at h
      injection h with e1 e2
      injection e1 with e1 e3
      exact⟨e1.symm,by rw [← e3,if_neg hd.2],by rw [← e2,if_pos (by simp [sidedB,hd.1,hd.2])]⟩
    · rw [if_neg (fun q=>q.elim (fun q=>hd q.2) (fun q=>by cases q.1))] at h
      have hs:¬ sidedB true d=true:=by
        intro q
        simp [sidedB] at q
        exact hd q
      by_cases hw:d=wT
      · rw [if_pos hw] at h
        injection h with e1 e2
        injection e1 with e1 e3
        exact⟨e1.symm,by rw [← e3,if_pos hw],by rw [← e2,if_neg hs]⟩
      · rw [if_neg hw] at h
        injection h with e1 e2
        injection e1 with e1 e3
        exact⟨e1.symm,by rw [← e3,if_neg hw],by rw [← e2,if_neg hs]⟩
theorem st_rest (s:Rd):(rdSt s).2.2=s.2.tail:=by unfold rdSt;split <;> rfl
theorem var_rest (s:Rd):(rdVar s).2.2=s.2.tail.tail:=by
  unfold rdVar sidedR
  split
  · rfl
  · split <;> rfl
theorem clk_rest (s:Rd):(rdClk s).2.2=s.2.tail:=rfl
theorem dat_rest (s:Rd):(rdDat s).2.2=s.2.tail:=rfl
theorem ang_rest (l:Bool) (s:Rd):(rdAng l s).2.2=s.2.tail.tail:=rfl
theorem num_rest (W M F L H:Int) (s:Rd):(rdNum W M F L H s).2.2=s.2.tail:=rfl
end Go.Proofs.YtoabkoniegmkaaaGreat
