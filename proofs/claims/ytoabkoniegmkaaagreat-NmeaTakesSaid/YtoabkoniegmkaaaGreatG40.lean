/- Layer 24: a text's date, by the reference. -/
import Derived.Test.YtoabkoniegmkaaaGreatG36
import Derived.Test.YtoabkoniegmkaaaGreatG23
import Derived.Test.YtoabkoniegmkaaaGreatG11
namespace Go.Proofs.YtoabkoniegmkaaaGreat
set_option linter.unusedVariables false
open Go.RowKit
theorem r24TakeDate_none (w:World):Calls Tryz.prog 58 #[.string ⟨#[]⟩] w (DatPost (zD,0) w):=by
  go_enter Tryz.func58,Tryz.ntmps58
  go_wp2_with fail
  exact bodyPost_ret (v:=.tuple #[datV false 0 0 0,.int .i64 0]) (by simp [results,Tryz.results58,go_sem]) rfl ⟨rfl,below_new _ _⟩
set_option maxRecDepth 8000 in
set_option maxHeartbeats 4000000 in
theorem r24TakeDate_bad (s:ByteArray) (w:World) (hs:s.size≤1000000) (h0:0 < s.size) (h:s.size≠6∨s.size=6∧allD s.data.toList=false):Calls Tryz.prog 58 #[.string s] w (DatPost (zD,3) w):=by
  have hn2:s.toList.isEmpty=false:=by rw [isEmpty_text];exact decide_eq_false (fun q=>by rw [q] at h0;exact absurd h0 (by decide))
  have HD:=fun W=>Lib.hid (r24digits_any s W hs)
  rcases h with h | ⟨h,hd⟩
  · have i1:((s.size:Int) != 6)=true:=by rw [bne_iff_ne];omega
    clear h
    go_enter Tryz.func58,Tryz.ntmps58
    go_wp2_with fail
    exact bodyPost_ret (v:=.tuple #[datV false 0 0 0,.int .i64 3]) (by simp [results,Tryz.results58,go_sem]) rfl ⟨rfl,below_new _ _⟩
  · have i1:((s.size:Int) != 6)=false:=by rw [bne_eq_false_iff_eq];omega
    rw [hd] at HD
    clear h hd
    go_enter Tryz.func58,Tryz.ntmps58
    go_wp2_with fail
    refine (HD _).out.mono ?_
    rintro e w' ⟨rfl,rfl⟩
    go_wp2_with fail
    exact bodyPost_ret (v:=.tuple #[datV false 0 0 0,.int .i64 3]) (by simp [results,Tryz.results58,go_sem]) rfl ⟨rfl,below_new _ _⟩
def TdMid (w W:World) (d m y:Int):Prop:=
  (∀ o,o < 4→W.cell? ⟨w.heap.size+1,o,none⟩=(#[Value.bool true,.int .i64 d,.int .i64 m,.int .i64 y]:Array Value)[o]?)∧(∀ o,W.frozen? ⟨w.heap.size+1,o,none⟩=false) ∧
  (∀ o,o < 4→W.cell? ⟨w.heap.size,o,none⟩=(#[Value.bool false,.int .i64 0,.int .i64 0,.int .i64 0]:Array Value)[o]?)∧(∀ o,W.frozen? ⟨w.heap.size,o,none⟩=false)∧Below w.heap.size w W∧w.heap.size+2≤W.heap.size
theorem td_of {w W:World} {d m y:Int} (hC:∀ o,W.cell? ⟨w.heap.size+1,o,none⟩=(#[Value.bool false,.int .i64 0,.int .i64 0,.int .i64 0]:Array Value)[o]?) (fC:∀ o,W.frozen? ⟨w.heap.size+1,o,none⟩=false)
    (hR:∀ o,W.cell? ⟨w.heap.size,o,none⟩=(#[Value.bool false,.int .i64 0,.int .i64 0,.int .i64 0]:Array Value)[o]?) (fR:∀ o,W.frozen? ⟨w.heap.size,o,none⟩=false) (hb:Below w.heap.size w W) (hz:w.heap.size+2≤W.heap.size) :
    TdMid w ((((W.setCell ⟨w.heap.size+1,0,none⟩ (.bool true)).setCell ⟨w.heap.size+1,1,none⟩ (.int .i64 d)).setCell ⟨w.heap.size+1,2,none⟩ (.int .i64 m)).setCell ⟨w.heap.size+1,3,none⟩ (.int .i64 y)) d m y:=by
  refine⟨fun o ho=>set4 (fun o ho=>by rw [hC o];rcases (by omega:o=0∨o=1∨o=2∨o=3) with rfl | rfl | rfl | rfl <;> exact⟨_,rfl⟩) o ho,fun o=>by simp only [World.frozen?_setCell];exact fC o,fun o ho=>?_,fun o=>by simp only [World.frozen?_setCell];exact fR o,set4_below hb (Nat.le_succ _),by simpa using hz⟩
  have n:∀ i,(⟨w.heap.size+1,i,none⟩:Addr)≠⟨w.heap.size,o,none⟩:=fun i q=>by injection q with q _;omega
  rw [World.cell?_setCell_other _ _ _ _ (n 3),World.cell?_setCell_other _ _ _ _ (n 2),World.cell?_setCell_other _ _ _ _ (n 1),World.cell?_setCell_other _ _ _ _ (n 0)]
  exact hR o
theorem td_shape {w:World} (d m y:Int) (i j:Nat) :
    TdMid w ((((((((w.alloc (datO false 0 0 0)).drewN i).alloc (datO false 0 0 0)).drewN j).setCell ⟨w.heap.size+1,0,none⟩ (.bool true)).setCell ⟨w.heap.size+1,1,none⟩ (.int .i64 d)).setCell ⟨w.heap.size+1,2,none⟩ (.int .i64 m)).setCell ⟨w.heap.size+1,3,none⟩ (.int .i64 y)) d m y:=by
  have hz:((w.alloc (datO false 0 0 0)).drewN i).heap.size=w.heap.size+1:=by show (w.alloc _).heap.size=_;simp
  have hf:∀ b o,w.heap.size≤b→((((w.alloc (datO false 0 0 0)).drewN i).alloc (datO false 0 0 0)).drewN j).frozen? ⟨b,o,none⟩=false:=fun b o hb=>by
    show (((w.alloc (datO false 0 0 0)).drewN i).alloc (datO false 0 0 0)).frozen? _=_
    rw [frozen?_alloc_cells]
    show (w.alloc (datO false 0 0 0)).frozen? _=_
    rw [frozen?_alloc_cells]
    exact frozen_past _ _ _ hb
  refine td_of (W:=(((w.alloc (datO false 0 0 0)).drewN i).alloc (datO false 0 0 0)).drewN j) (fun o=>?_) (fun o=>hf _ o (Nat.le_succ _)) (fun o=>?_) (fun o=>hf _ o (Nat.le_refl _)) ?_ ?_
  · exact World.cell?_alloc_at (w:=(w.alloc (datO false 0 0 0)).drewN i) _ _ _ _ hz.symm
  · exact (World.cell?_alloc_past (w:=(w.alloc (datO false 0 0 0)).drewN i) _ _ _ (by omega)).trans (World.cell?_alloc_at (w:=w) _ _ _ _ rfl)
  · exact bdrewN ((bdrewN (below_new _ _) i).trans ((below_new ((w.alloc (datO false 0 0 0)).drewN i) _).mono (by omega))) j
  · show w.heap.size+2≤(((w.alloc (datO false 0 0 0)).drewN i).alloc (datO false 0 0 0)).heap.size
    simp
theorem td_shapeL {w:World} (d m y:Int) (i:Nat):TdMid w (((w.alloc (datO false 0 0 0)).drewN i).alloc (datO true d m y)) d m y:=by
  have hz:((w.alloc (datO false 0 0 0)).drewN i).heap.size=w.heap.size+1:=by show (w.alloc _).heap.size=_;simp
  have hf:∀ b o,w.heap.size≤b→(((w.alloc (datO false 0 0 0)).drewN i).alloc (datO true d m y)).frozen? ⟨b,o,none⟩=false:=fun b o hb=>by
    rw [frozen?_alloc_cells]
    show (w.alloc (datO false 0 0 0)).frozen? _=_
    rw [frozen?_alloc_cells]
    exact frozen_past _ _ _ hb
  refine⟨fun o _=>?_,fun o=>hf _ o (Nat.le_succ _),fun o _=>?_,fun o=>hf _ o (Nat.le_refl _),?_,?_⟩
  · exact World.cell?_alloc_at (w:=(w.alloc (datO false 0 0 0)).drewN i) _ _ _ _ hz.symm
  · exact (World.cell?_alloc_past (w:=(w.alloc (datO false 0 0 0)).drewN i) _ _ _ (by omega)).trans (World.cell?_alloc_at (w:=w) _ _ _ _ rfl)
  · exact (bdrewN (below_new _ _) i).trans ((below_new ((w.alloc (datO false 0 0 0)).drewN i) _).mono (by omega))
  · show w.heap.size+2≤(((w.alloc (datO false 0 0 0)).drewN i).alloc (datO true d m y)).heap.size
    simp
theorem td_shapeM {w:World} (d m y:Int):TdMid w (((w.alloc (datO false 0 0 0)).drew).alloc (datO true d m y)) d m y:=td_shapeL d m y 1
theorem td_shapeA {w:World} (d m y:Int) (i:Nat) :
    TdMid w (((((((w.alloc (datO false 0 0 0)).drewN i).alloc (datO false 0 0 0)).setCell ⟨w.heap.size+1,0,none⟩ (.bool true)).setCell ⟨w.heap.size+1,1,none⟩ (.int .i64 d)).setCell ⟨w.heap.size+1,2,none⟩ (.int .i64 m)).setCell ⟨w.heap.size+1,3,none⟩ (.int .i64 y)) d m y:=td_shape d m y i 0
theorem td_shapeB {w:World} (d m y:Int) (j:Nat) :
    TdMid w ((((((((w.alloc (datO false 0 0 0)).drew).alloc (datO false 0 0 0)).drewN j).setCell ⟨w.heap.size+1,0,none⟩ (.bool true)).setCell ⟨w.heap.size+1,1,none⟩ (.int .i64 d)).setCell ⟨w.heap.size+1,2,none⟩ (.int .i64 m)).setCell ⟨w.heap.size+1,3,none⟩ (.int .i64 y)) d m y:=td_shape d m y 1 j
theorem td_shapeC {w:World} (d m y:Int) :
    TdMid w (((((((w.alloc (datO false 0 0 0)).drew).alloc (datO false 0 0 0)).setCell ⟨w.heap.size+1,0,none⟩ (.bool true)).setCell ⟨w.heap.size+1,1,none⟩ (.int .i64 d)).setCell ⟨w.heap.size+1,2,none⟩ (.int .i64 m)).setCell ⟨w.heap.size+1,3,none⟩ (.int .i64 y)) d m y:=td_shape d m y 1 0
theorem td_shapeD {w:World} (d m y:Int) (j:Nat) :
    TdMid w (((((((w.alloc (datO false 0 0 0)).alloc (datO false 0 0 0)).drewN j).setCell ⟨w.heap.size+1,0,none⟩ (.bool true)).setCell ⟨w.heap.size+1,1,none⟩ (.int .i64 d)).setCell ⟨w.heap.size+1,2,none⟩ (.int .i64 m)).setCell ⟨w.heap.size+1,3,none⟩ (.int .i64 y)) d m y:=td_shape d m y 0 j
set_option maxRecDepth 8000 in
set_option maxHeartbeats 8000000 in
theorem r24TakeDate_6 (a b c d p q:UInt8) (w:World) (hd:digB a=true∧digB b=true∧digB c=true∧digB d=true∧digB p=true∧digB q=true):Calls Tryz.prog 58 #[.string ⟨#[a,b,c,d,p,q]⟩] w (DatPost (takeDat [a,b,c,d,p,q]) w):=by
  have hz:(⟨#[a,b,c,d,p,q]⟩:ByteArray).size=6:=rfl
  have hn2:(⟨#[a,b,c,d,p,q]⟩:ByteArray).toList.isEmpty=false:=by rw [ByteArray.toList_eq];rfl
  have hn:((⟨#[a,b,c,d,p,q]⟩:ByteArray).toList==[])=false:=by rw [ByteArray.toList_eq];rfl
  have h2:(⟨#[a,b,c,d,p,q]⟩:ByteArray).extract 2 6=⟨#[c,d,p,q]⟩:=rfl
  have h4:(⟨#[a,b,c,d,p,q]⟩:ByteArray).extract 4 6=⟨#[p,q]⟩:=rfl
  obtain⟨da,db,dc,dd,dp,dq⟩:=hd
  have HD6:∀ W,Hid (Calls Tryz.prog 146 #[.string ⟨#[a,b,c,d,p,q]⟩] W fun e w'=>e=.returned (.bool true)∧W=w'):=fun W=>by
    have:=r24digits_any ⟨#[a,b,c,d,p,q]⟩ W (by show 6≤1000000;omega)
    rw [show allD (⟨#[a,b,c,d,p,q]⟩:ByteArray).data.toList=true by show (digB a && (digB b && (digB c && (digB d && (digB p && (digB q && true))))))=true;rw [da,db,dc,dd,dp,dq];rfl] at this
    exact this
  have HP0:∀ W,Hid (Calls Tryz.prog 147 #[.string ⟨#[a,b,c,d,p,q]⟩] W fun e w'=>e=.returned (.int .i64 (numP a b))∧∃ n,w'=W.drewN n):=fun W=>by
    have:=r24pair_any ⟨#[a,b,c,d,p,q]⟩ W (by show 2≤6;omega) (by show 6≤1000000;omega)
    rw [show (pairV ((⟨#[a,b,c,d,p,q]⟩:ByteArray)[0]'(Nat.succ_pos _)) ((⟨#[a,b,c,d,p,q]⟩:ByteArray)[1]'(by show 1 < 6;omega))).1=numP a b from pairV_num (by show (digB a && digB b)=true;rw [da,db];rfl)] at this
    exact this
  have HP2:∀ W,Hid (Calls Tryz.prog 147 #[.string ⟨#[c,d,p,q]⟩] W fun e w'=>e=.returned (.int .i64 (numP c d))∧∃ n,w'=W.drewN n):=fun W=>by
    have:=r24pair_any ⟨#[c,d,p,q]⟩ W (by show 2≤4;omega) (by show 4≤1000000;omega)
    rw [show (pairV ((⟨#[c,d,p,q]⟩:ByteArray)[0]'(Nat.succ_pos _)) ((⟨#[c,d,p,q]⟩:ByteArray)[1]'(by show 1 < 4;omega))).1=numP c d from pairV_num (by show (digB c && digB d)=true;rw [dc,dd];rfl)] at this
    exact this
  have HP4:∀ W,Hid (Calls Tryz.prog 147 #[.string ⟨#[p,q]⟩] W fun e w'=>e=.returned (.int .i64 (numP p q))∧∃ n,w'=W.drewN n):=fun W=>by
    have:=r24pair_any ⟨#[p,q]⟩ W (by show 2≤2;omega) (by show 2≤1000000;omega)
    rw [show (pairV ((⟨#[p,q]⟩:ByteArray)[0]'(Nat.succ_pos _)) ((⟨#[p,q]⟩:ByteArray)[1]'(by show 1 < 2;omega))).1=numP p q from pairV_num (by show (digB p && digB q)=true;rw [dp,dq];rfl)] at this
    exact this
  have HW:Hid (takeDat [a,b,c,d,p,q]=if datB (true,numP a b,numP c d,2000+numP p q)=true then ((true,numP a b,numP c d,2000+numP p q),0) else (zD,5)):=by
    have e1:threeL [a,b,c,d,p,q]=some (numP a b,numP c d,numP p q):=by
      show (if digB a && digB b && digB c && digB d && digB p && digB q then _ else _)=_
      rw [da,db,dc,dd,dp,dq]
      rfl
    show _=_
    unfold takeDat
    rw [if_neg (by simp),e1]
  have hC:0≤numP p q∧numP p q≤99:=threeL_last (l:=[a,b,c,d,p,q]) (a:=numP a b) (b:=numP c d) (by
      show (if digB a && digB b && digB c && digB d && digB p && digB q then _ else _)=_
      rw [da,db,dc,dd,dp,dq]
      rfl)
  have hw:IntKind.i64.wrap (2000+numP p q)=2000+numP p q:=IntWalk.i64_in _ (by omega)
  clear hC
  go_enter Tryz.func58,Tryz.ntmps58
  go_wp2_with fail
  refine ((HD6 _).out).mono ?_
  rintro e w' ⟨rfl,rfl⟩
  go_upto_region 5 with fail
  go_cut [4] (fun v wx=>v=.pointer (some ⟨w.heap.size+1,0,none⟩)∧Hid (TdMid w wx (numP a b) (numP c d) (2000+numP p q)))
  case first=>
    go_region_with (first | (go_at_call 147;with_reducible refine (HP0 _).out.mono ?_;rintro e w' ⟨rfl,n0,rfl⟩) | (go_at_call 147;with_reducible refine (HP2 _).out.mono ?_;rintro e w' ⟨rfl,n2,rfl⟩) | (go_at_call 147;with_reducible refine (HP4 _).out.mono ?_;rintro e w' ⟨rfl,n4,rfl⟩))
    all_goals go_wp2_with fail
    all_goals go_meet
    all_goals refine⟨rfl,Lib.hid ?_⟩
    all_goals (first | with_reducible exact td_shape _ _ _ _ _ | with_reducible exact td_shapeL _ _ _ _ | with_reducible exact td_shapeM _ _ _ | with_reducible exact td_shapeA _ _ _ _ | with_reducible exact td_shapeB _ _ _ _ | with_reducible exact td_shapeC _ _ _ | with_reducible exact td_shapeD _ _ _ _)
  case rest=>
  obtain⟨rfl,hT⟩:=hcut
  have HM:=fun W=>Lib.hid (r24MayDate_any true (numP a b) (numP c d) (2000+numP p q) W)
  clear hw
  generalize numP a b=A at *
  generalize numP c d=B at *
  generalize 2000+numP p q=C at *
  obtain⟨Y,hY⟩:∃ Y,datB (true,A,B,C)=Y:=⟨_,rfl⟩
  rw [hY] at HM HW
  clear hY
  have HT4:=hT
  have m0:=HT4.out.1 0 (by omega)
  have m1:=HT4.out.1 1 (by omega)
  have m2:=HT4.out.1 2 (by omega)
  have m3:=HT4.out.1 3 (by omega)
  clear hT
  go_wp2_with fail
  refine (HM _).out.mono ?_
  rintro e w5 ⟨rfl,hb5⟩
  have HR5:Hid (∀ o,o < 4→w5.cell? ⟨w.heap.size,o,none⟩=(#[Value.bool false,.int .i64 0,.int .i64 0,.int .i64 0]:Array Value)[o]?):=fun o ho=>((bcell hb5).1 _ o (by have:=HT4.out.2.2.2.2.2;omega)).trans (HT4.out.2.2.1 o ho)
  have HF5:Hid (∀ o,w5.frozen? ⟨w.heap.size,o,none⟩=false):=fun o=>((bcell hb5).2 _ o (by have:=HT4.out.2.2.2.2.2;omega)).trans (HT4.out.2.2.2.1 o)
  have HC5:Hid (∀ o,o < 4→w5.cell? ⟨w.heap.size+1,o,none⟩=(#[Value.bool true,.int .i64 A,.int .i64 B,.int .i64 C]:Array Value)[o]?):=fun o ho=>((bcell hb5).1 _ o (by have:=HT4.out.2.2.2.2.2;omega)).trans (HT4.out.1 o ho)
  have HB5:=Lib.hid (bthen HT4.out.2.2.2.2.1 hb5)
  clear hb5 HT4 m0 m1 m2 m3
  have r0:=HR5.out 0 (by omega)
  have r1:=HR5.out 1 (by omega)
  have r2:=HR5.out 2 (by omega)
  have r3:=HR5.out 3 (by omega)
  have fz:=HF5.out
  have c0:=HC5.out 0 (by omega)
  have c1:=HC5.out 1 (by omega)
  have c2:=HC5.out 2 (by omega)
  have c3:=HC5.out 3 (by omega)
  have HOLD:Hid (∀ o,o < 4→∃ v,w5.cell? ⟨w.heap.size,o,none⟩=some v):=fun o ho=>by rw [HR5.out o ho];rcases (by omega:o=0∨o=1∨o=2∨o=3) with rfl | rfl | rfl | rfl <;> exact⟨_,rfl⟩
  cases Y with
  | false=>
    have HX:Hid (takeDat [a,b,c,d,p,q]=(zD,5)):=HW.out
    clear HW
    go_wp2_with fail
    have hd:=set4 (W:=w5) (g:=w.heap.size) (a:=.bool false) (b:=.int .i64 0) (c:=.int .i64 0) (d:=.int .i64 0) HOLD.out
    have d0:=hd 0 (by omega)
    have d1:=hd 1 (by omega)
    have d2:=hd 2 (by omega)
    have d3:=hd 3 (by omega)
    have hbl:=set4_below (a:=.bool false) (b:=.int .i64 0) (c:=.int .i64 0) (d:=.int .i64 0) HB5.out (Nat.le_refl _)
    generalize (((w5.setCell ⟨w.heap.size,0,none⟩ (.bool false)).setCell ⟨w.heap.size,1,none⟩ (.int .i64 0)).setCell ⟨w.heap.size,2,none⟩ (.int .i64 0)).setCell ⟨w.heap.size,3,none⟩ (.int .i64 0)=w9 at *
    simp at d0 d1 d2 d3
    exact bodyPost_ret (v:=.tuple #[datV false 0 0 0,.int .i64 5]) (by simp [results,Tryz.results58,go_sem,d0,d1,d2,d3]) rfl ⟨by rw [HX.out];rfl,hbl⟩
  | true=>
    have HX:Hid (takeDat [a,b,c,d,p,q]=((true,A,B,C),0)):=HW.out
    clear HW
    go_wp2_with fail
    have hd:=set4 (W:=w5) (g:=w.heap.size) (a:=.bool true) (b:=.int .i64 A) (c:=.int .i64 B) (d:=.int .i64 C) HOLD.out
    have d0:=hd 0 (by omega)
    have d1:=hd 1 (by omega)
    have d2:=hd 2 (by omega)
    have d3:=hd 3 (by omega)
    have hbl:=set4_below (a:=.bool true) (b:=.int .i64 A) (c:=.int .i64 B) (d:=.int .i64 C) HB5.out (Nat.le_refl _)
    generalize (((w5.setCell ⟨w.heap.size,0,none⟩ (.bool true)).setCell ⟨w.heap.size,1,none⟩ (.int .i64 A)).setCell ⟨w.heap.size,2,none⟩ (.int .i64 B)).setCell ⟨w.heap.size,3,none⟩ (.int .i64 C)=w9 at *
    simp at d0 d1 d2 d3
    exact bodyPost_ret (v:=.tuple #[datV true A B C,.int .i64 0]) (by simp [results,Tryz.results58,go_sem,d0,d1,d2,d3]) rfl ⟨by rw [HX.out],hbl⟩
theorem takeDat_three {l:List UInt8} (hl:l≠[]) (h:threeL l=none):takeDat l=(zD,3):=by
  unfold takeDat
  rw [if_neg hl,h]
theorem r24TakeDate_any (s:ByteArray) (w:World) (hs:s.size≤1000000):Calls Tryz.prog 58 #[.string s] w (DatPost (takeDat s.data.toList) w):=by
  by_cases h0:s.size=0
  · obtain⟨⟨l⟩⟩:=s
    cases l with
    | nil=>exact r24TakeDate_none w
    | cons a l=>cases h0
  · have hne:s.data.toList≠[]:=fun q=>h0 (by
      obtain⟨⟨l⟩⟩:=s
      have q:l=[]:=q
      subst q
      rfl)
    have hsz:s.data.toList.length=s.size:=by obtain⟨⟨l⟩⟩:=s;rfl
    by_cases h6:s.size=6
    · cases ha:allD s.data.toList with
      | false=>
        rw [takeDat_three hne (threeL_dig ha)]
        exact r24TakeDate_bad s w hs (by omega) (.inr ⟨h6,ha⟩)
      | true=>
        obtain⟨⟨l⟩⟩:=s
        match l,h6,ha with
        | [a,b,c,d,p,q],_,ha=>
          have ha:(digB a && (digB b && (digB c && (digB d && (digB p && (digB q && true))))))=true:=ha
          simp only [Bool.and_eq_true,and_true] at ha
          obtain⟨x1,x2,x3,x4,x5,x6⟩:=ha
          exact r24TakeDate_6 a b c d p q w ⟨x1,x2,x3,x4,x5,x6⟩
    · rw [takeDat_three hne (threeL_len (by rw [hsz];exact h6))]
      exact r24TakeDate_bad s w hs (by omega) (.inl h6)
end Go.Proofs.YtoabkoniegmkaaaGreat
