/- Layer 24: a text's time, by the reference. -/
import Derived.Test.YtoabkoniegmkaaaGreatG23
import Derived.Test.YtoabkoniegmkaaaGreatG21
namespace Go.Proofs.YtoabkoniegmkaaaGreat
set_option linter.unusedVariables false
open Go.RowKit
def allD (l:List UInt8):Bool:=l.all digB
theorem allD_snoc {l:List UInt8} {k:Nat} (hk:k < l.length):allD (l.take (k+1))=(allD (l.take k) && digB l[k]):=by
  unfold allD
  rw [List.take_succ_eq_append_getElem hk,List.all_append]
  simp
theorem allD_no {l:List UInt8} {k:Nat} (hk:k < l.length) (h:digB l[k]=false):allD l=false:=by
  unfold allD
  rw [Bool.eq_false_iff]
  intro q
  rw [List.all_eq_true] at q
  rw [q _ (List.getElem_mem hk)] at h
  cases h
set_option maxHeartbeats 1000000 in
theorem r24digits_any (s:ByteArray) (w:World) (hs:s.size≤1000000):Calls Tryz.prog 146 #[.string s] w fun e w'=>e=.returned (.bool (allD s.data.toList))∧w=w':=by
  obtain⟨X,hX⟩:∃ X,allD s.data.toList=X:=⟨_,rfl⟩
  have HX:=Lib.hid hX
  rw [hX]
  clear hX
  go_enter Tryz.func146,Tryz.ntmps146
  go_wp2
  go_loop [3] (fun i=>∃ k:Nat,k≤s.size∧i=.int .i64 (k:Int)∧Hid (allD (s.data.toList.take k)=true)) (fun i=>s.size - (intOf i).toNat)
  case atStart=>exact⟨0,Nat.zero_le _,rfl,Lib.hid rfl⟩
  case round=>
    obtain⟨k,hk,rfl,hI⟩:=hrel
    by_cases hlt:k < s.size
    · have hkl:k < s.data.toList.length:=by simpa using hlt
      have hsn:allD (s.data.toList.take (k+1))=digB s[k]:=by
        rw [allD_snoc hkl,hI.out,Bool.true_and]
        rfl
      have hno:digB s[k]=false→X=false:=fun q=>by
        rw [← HX.out]
        exact allD_no hkl q
      have HSN:=Lib.hid hsn
      have HNO:=Lib.hid hno
      have HDG:Hid (digB s[k]=(decide (48≤s[k].toNat) && decide (s[k].toNat≤57))):=rfl
      have hv:=s[k].toNat_lt
      have hk3:(s[k].toNat:Int) < 48∨48≤(s[k].toNat:Int)∧57 < (s[k].toNat:Int)∨48≤(s[k].toNat:Int)∧(s[k].toNat:Int)≤57:=by omega
      clear hsn hno
      rcases hk3 with q | ⟨q1,q⟩ | ⟨q1,q⟩
      · have hf:digB s[k]=false:=by rw [HDG.out,decide_eq_false (by omega)];rfl
        have hx:=HNO.out hf
        subst hx
        clear hf HDG
        go_wp2
        go_ret
        exact⟨rfl,rfl⟩
      · have hf:digB s[k]=false:=by rw [HDG.out,decide_eq_false (p:=s[k].toNat≤57) (by omega),Bool.and_false]
        have hx:=HNO.out hf
        subst hx
        clear hf HDG
        go_wp2
        go_ret
        exact⟨rfl,rfl⟩
      · have hf:digB s[k]=true:=by rw [HDG.out,decide_eq_true (by omega),decide_eq_true (by omega)];rfl
        have HN2:Hid (allD (s.data.toList.take (k+1))=true):=HSN.out.trans hf
        have q57:¬ 57 < (s[k].toNat:Int):=by omega
        clear hf HDG HSN HNO
        go_wp2
        go_round
        case rel=>exact⟨k+1,by omega,by go_num,HN2⟩
        case measure=>simp [intOf];omega
    · obtain rfl:k=s.size:=by omega
      have hx:X=true:=by
        have:=hI.out
        rw [List.take_of_length_le (by simp)] at this
        rw [← HX.out];exact this
      subst hx
      go_wp2
      go_ret
      exact⟨rfl,rfl⟩
theorem r24pair_any (s:ByteArray) (w:World) (h:2≤s.size) (hs:s.size≤1000000):Calls Tryz.prog 147 #[.string s] w fun e w'=>e=.returned (.int .i64 (pairV (s[0]'(by omega)) (s[1]'(by omega))).1)∧∃ n,w'=w.drewN n:=by
  have h0:0 < s.size:=by omega
  have h1:1 < s.size:=by omega
  have hi0:(0:Int) < (s.size:Int):=by omega
  have hi1:(1:Int) < (s.size:Int):=by omega
  obtain⟨wa,a0,a1⟩:=u8_minus s[0]
  obtain⟨wb,b0,b1⟩:=u8_minus s[1]
  have HP:Hid ((pairV s[0] s[1]).1=10 * (((s[0].toNat:Int) - 48) % 256)+(((s[1].toNat:Int) - 48) % 256)):=rfl
  obtain⟨X,hX⟩:∃ X,(pairV s[0] s[1]).1=X:=⟨_,rfl⟩
  rw [hX] at HP ⊢
  generalize ((s[0].toNat:Int) - 48) % 256=A at *
  generalize ((s[1].toNat:Int) - 48) % 256=B at *
  have z1:IntKind.i64.wrap (10 * A)=10 * A:=IntWalk.i64_in _ (by omega)
  have z2:IntKind.i64.wrap (10 * A+B)=10 * A+B:=IntWalk.i64_in _ (by omega)
  have z3:IntKind.i64.wrap A=A:=IntWalk.i64_in _ (by omega)
  have z4:IntKind.i64.wrap B=B:=IntWalk.i64_in _ (by omega)
  clear hX
  go_enter Tryz.func147,Tryz.ntmps147
  go_wp2_with fail
  go_quiet (fail)
  go_wp2_with fail
  go_ret
  exact⟨ret_i64 (by rw [HP.out];rfl),_,rfl⟩
theorem threeL_short {l:List UInt8} (h:l.length < 6):threeL (l.take 6)=none:=threeL_len (by rw [List.length_take];omega)
theorem threeL_dig {l:List UInt8} (h:allD l=false):threeL l=none:=by
  unfold threeL
  split
  · rw [if_neg]
    intro q
    simp only [Bool.and_eq_true] at q
    unfold allD at h
    simp only [List.all_cons,List.all_nil,q.1.1.1.1.1,q.1.1.1.1.2,q.1.1.1.2,q.1.1.2,q.1.2,q.2,Bool.and_true] at h
    cases h
  · rfl
theorem takeClk_three {l:List UInt8} (hl:l≠[]) (h:threeL (l.take 6)=none):takeClk l=(zC,3):=by
  unfold takeClk
  rw [if_neg hl,h]
theorem takeClk_behind {l:List UInt8} (hl:l≠[]) (h:behindL (l.drop 6)=none):takeClk l=(zC,3):=by
  unfold takeClk
  rw [if_neg hl,h]
  cases threeL (l.take 6) <;> rfl
theorem behind_bad {l:List UInt8} (h6:6 < l.length) (h:l[6]≠46∨l.length < 8∨9 < l.length∨allD (l.drop 7)=false):behindL (l.drop 6)=none:=by
  match l,h6,h with
  | [_,_,_,_,_,_,p],_,_=>rfl
  | [_,_,_,_,_,_,p,a],_,h=>
    show (if _ then _ else _)=_
    rw [if_neg]
    rintro ⟨rfl,q⟩
    rcases h with h | h | h | h
    · exact h rfl
    · exact absurd h (by show ¬ (8 < 8);omega)
    · exact absurd h (by show ¬ (9 < 8);omega)
    · have h:(digB a && true)=false:=h
      rw [q] at h;cases h
  | [_,_,_,_,_,_,p,a,b],_,h=>
    show (if _ then _ else _)=_
    rw [if_neg]
    rintro ⟨rfl,q,r⟩
    rcases h with h | h | h | h
    · exact h rfl
    · exact absurd h (by show ¬ (9 < 8);omega)
    · exact absurd h (by show ¬ (9 < 9);omega)
    · have h:(digB a && (digB b && true))=false:=h
      rw [q,r] at h;cases h
  | _ :: _ :: _ :: _ :: _ :: _ :: _ :: _ :: _ :: _ :: _,_,_=>rfl
theorem r24Take_none (w:World):Calls Tryz.prog 143 #[.string ⟨#[]⟩] w (ClkPost (zC,0) w):=by
  go_enter Tryz.func143,Tryz.ntmps143
  go_wp2_with fail
  exact bodyPost_ret (v:=.tuple #[clkV false 0 0 0 0,.int .i64 0]) (by simp [results,Tryz.results143,go_sem]) rfl ⟨rfl,below_new _ _⟩
set_option maxRecDepth 8000 in
set_option maxHeartbeats 4000000 in
theorem r24Take_bad (s : ByteArray) (w : World) (hs : s.size ≤ 1000000) (h0 : 0 < s.size) (h : s.size < 6 ∨ 6 ≤ s.size ∧ allD (s.extract 0 6).data.toList = false ∨
      ∃ h6:6 < s.size,allD (s.extract 0 6).data.toList=true∧(s[6]≠46∨s[6]=46∧s.size < 8∨s[6]=46∧8≤s.size∧9 < s.size∨s[6]=46∧8≤s.size∧s.size≤9∧allD (s.extract 7 s.size).data.toList=false)) :
    Calls Tryz.prog 143 #[.string s] w (ClkPost (takeClk s.data.toList) w):=by
  obtain⟨f1,f2⟩:=nonempty_forms h0
  have hne:s.data.toList≠[]:=fun q=>by have:=size_nil q;omega
  have hls:s.data.toList.length=s.size:=by simp
  have HT:Hid (takeClk s.data.toList=(zC,3)):=by
    show _=_
    rcases h with h | ⟨h6,h⟩ | ⟨h6,-,h⟩
    · exact takeClk_three hne (threeL_short (by omega))
    · rw [take_ext] at h
      exact takeClk_three hne (threeL_dig h)
    · refine takeClk_behind hne (behind_bad (by omega) ?_)
      rcases h with h | ⟨-,h⟩ | ⟨-,-,h⟩ | ⟨-,-,-,h⟩
      · exact .inl h
      · exact .inr (.inl (by omega))
      · exact .inr (.inr (.inl (by omega)))
      · rw [drop_ext] at h
        exact .inr (.inr (.inr h))
  have hd:∀ (t:ByteArray) (W:World),t.size≤1000000→Hid (Calls Tryz.prog 146 #[.string t] W fun e w'=>e=.returned (.bool (allD t.data.toList))∧W=w'):=fun t W ht=>r24digits_any t W ht
  have HD6:=fun W=>hd (s.extract 0 6) W (by rw [ByteArray.size_extract];omega)
  have HD7:=fun W=>hd (s.extract 7 s.size) W (by rw [ByteArray.size_extract];omega)
  clear hne hls hd
  rcases h with h | ⟨h6,h⟩ | ⟨h6,k6,h⟩
  · have i1:(s.size:Int) < 6:=by omega
    clear HD6 HD7
    go_enter Tryz.func143,Tryz.ntmps143
    go_wp2_with fail
    exact bodyPost_ret (v:=.tuple #[clkV false 0 0 0 0,.int .i64 3]) (by simp [results,Tryz.results143,go_sem]) rfl ⟨by rw [HT.out];rfl,below_new _ _⟩
  · have i1:(6:Int)≤(s.size:Int):=by omega
    rw [h] at HD6
    clear HD7 h
    go_enter Tryz.func143,Tryz.ntmps143
    go_wp2_with fail
    refine ((HD6 _).out).mono ?_
    rintro e w' ⟨rfl,rfl⟩
    go_wp2_with fail
    exact bodyPost_ret (v:=.tuple #[clkV false 0 0 0 0,.int .i64 3]) (by simp [results,Tryz.results143,go_sem]) rfl ⟨by rw [HT.out];rfl,below_new _ _⟩
  · have i1:(6:Int) < (s.size:Int):=by omega
    have i2:(6:Int)≤(s.size:Int):=by omega
    rw [k6] at HD6
    clear k6
    have hk:((s[6].toNat:Int) != 46)=true∨((s[6].toNat:Int) != 46)=false∧(s.size:Int) < 8∨((s[6].toNat:Int) != 46)=false∧8≤(s.size:Int)∧9 < (s.size:Int)∨((s[6].toNat:Int) != 46)=false∧8≤(s.size:Int)∧(s.size:Int)≤9∧Hid (allD (s.extract 7 s.size).data.toList=false):=by
      have q2:s[6]=46→((s[6].toNat:Int) != 46)=false:=fun q=>by rw [q];rfl
      rcases h with h | ⟨h,k⟩ | ⟨h,k1,k2⟩ | ⟨h,k1,k2,k3⟩
      · refine .inl ?_
        rw [bne_iff_ne]
        intro k
        refine h (UInt8.toNat_inj.1 ?_)
        have:((46:UInt8).toNat:Int)=46:=rfl
        omega
      · exact .inr (.inl ⟨q2 h,by omega⟩)
      · exact .inr (.inr (.inl ⟨q2 h,by omega,by omega⟩))
      · exact .inr (.inr (.inr ⟨q2 h,by omega,by omega,k3⟩))
    clear h
    rcases hk with k1 | ⟨k1,k2⟩ | ⟨k1,k2,k3⟩ | ⟨k1,k2,k3,k4⟩
    · clear HD7
      go_enter Tryz.func143,Tryz.ntmps143
      go_wp2_with fail
      refine ((HD6 _).out).mono ?_
      rintro e w' ⟨rfl,rfl⟩
      go_wp2_with fail
      exact bodyPost_ret (v:=.tuple #[clkV false 0 0 0 0,.int .i64 3]) (by simp [results,Tryz.results143,go_sem]) rfl ⟨by rw [HT.out];rfl,below_new _ _⟩
    · clear HD7
      go_enter Tryz.func143,Tryz.ntmps143
      go_wp2_with fail
      refine ((HD6 _).out).mono ?_
      rintro e w' ⟨rfl,rfl⟩
      go_wp2_with fail
      exact bodyPost_ret (v:=.tuple #[clkV false 0 0 0 0,.int .i64 3]) (by simp [results,Tryz.results143,go_sem]) rfl ⟨by rw [HT.out];rfl,below_new _ _⟩
    · clear HD7
      go_enter Tryz.func143,Tryz.ntmps143
      go_wp2_with fail
      refine ((HD6 _).out).mono ?_
      rintro e w' ⟨rfl,rfl⟩
      go_wp2_with fail
      exact bodyPost_ret (v:=.tuple #[clkV false 0 0 0 0,.int .i64 3]) (by simp [results,Tryz.results143,go_sem]) rfl ⟨by rw [HT.out];rfl,below_new _ _⟩
    · rw [k4.out] at HD7
      clear k4
      go_enter Tryz.func143,Tryz.ntmps143
      go_wp2_with fail
      refine ((HD6 _).out).mono ?_
      rintro e w' ⟨rfl,rfl⟩
      go_wp2_with fail
      refine ((HD7 _).out).mono ?_
      rintro e w' ⟨rfl,rfl⟩
      go_wp2_with fail
      exact bodyPost_ret (v:=.tuple #[clkV false 0 0 0 0,.int .i64 3]) (by simp [results,Tryz.results143,go_sem]) rfl ⟨by rw [HT.out];rfl,below_new _ _⟩
def TkMid (w W:World) (h m s c:Int):Prop:=
  (∀ o,o < 5→W.cell? ⟨w.heap.size+1,o,none⟩=(#[Value.bool true,.int .i64 h,.int .i64 m,.int .i64 s,.int .i64 c]:Array Value)[o]?)∧(∀ o,W.frozen? ⟨w.heap.size+1,o,none⟩=false) ∧
  (∀ o,o < 5→W.cell? ⟨w.heap.size,o,none⟩=(#[Value.bool false,.int .i64 0,.int .i64 0,.int .i64 0,.int .i64 0]:Array Value)[o]?)∧(∀ o,W.frozen? ⟨w.heap.size,o,none⟩=false)∧Below w.heap.size w W∧w.heap.size+2≤W.heap.size
theorem mid_of {w W:World} {h m s:Int} (hC:∀ o,W.cell? ⟨w.heap.size+1,o,none⟩=(#[Value.bool false,.int .i64 0,.int .i64 0,.int .i64 0,.int .i64 0]:Array Value)[o]?) (fC:∀ o,W.frozen? ⟨w.heap.size+1,o,none⟩=false)
    (hR:∀ o,W.cell? ⟨w.heap.size,o,none⟩=(#[Value.bool false,.int .i64 0,.int .i64 0,.int .i64 0,.int .i64 0]:Array Value)[o]?) (fR:∀ o,W.frozen? ⟨w.heap.size,o,none⟩=false) (hb:Below w.heap.size w W) (hz:w.heap.size+2≤W.heap.size) :
    TkMid w (((((W.setCell ⟨w.heap.size+1,0,none⟩ (.bool true)).setCell ⟨w.heap.size+1,1,none⟩ (.int .i64 h)).setCell ⟨w.heap.size+1,2,none⟩ (.int .i64 m)).setCell ⟨w.heap.size+1,3,none⟩ (.int .i64 s)).setCell ⟨w.heap.size+1,4,none⟩ (.int .i64 0)) h m s 0:=by
  refine⟨fun o ho=>set5 (fun o ho=>by rw [hC o];rcases (by omega:o=0∨o=1∨o=2∨o=3∨o=4) with rfl | rfl | rfl | rfl | rfl <;> exact⟨_,rfl⟩) o ho,fun o=>by simp only [World.frozen?_setCell];exact fC o,fun o ho=>?_,fun o=>by simp only [World.frozen?_setCell];exact fR o,set5_below hb (Nat.le_succ _),by simpa using hz⟩
  have n:∀ i,(⟨w.heap.size+1,i,none⟩:Addr)≠⟨w.heap.size,o,none⟩:=fun i q=>by injection q with q _;omega
  rw [World.cell?_setCell_other _ _ _ _ (n 4),World.cell?_setCell_other _ _ _ _ (n 3),World.cell?_setCell_other _ _ _ _ (n 2),World.cell?_setCell_other _ _ _ _ (n 1),World.cell?_setCell_other _ _ _ _ (n 0)]
  exact hR o
theorem mid_shape {w:World} (h m s:Int) (i j:Nat) :
    TkMid w (((((((((w.alloc (clkO false 0 0 0 0)).drewN i).alloc (clkO false 0 0 0 0)).drewN j).setCell ⟨w.heap.size+1,0,none⟩ (.bool true)).setCell ⟨w.heap.size+1,1,none⟩ (.int .i64 h)).setCell ⟨w.heap.size+1,2,none⟩ (.int .i64 m)).setCell ⟨w.heap.size+1,3,none⟩ (.int .i64 s)).setCell ⟨w.heap.size+1,4,none⟩ (.int .i64 0)) h m s 0:=by
  have hz:((w.alloc (clkO false 0 0 0 0)).drewN i).heap.size=w.heap.size+1:=by show (w.alloc _).heap.size=_;simp
  have hf:∀ b o,w.heap.size≤b→((((w.alloc (clkO false 0 0 0 0)).drewN i).alloc (clkO false 0 0 0 0)).drewN j).frozen? ⟨b,o,none⟩=false:=fun b o hb=>by
    show (((w.alloc (clkO false 0 0 0 0)).drewN i).alloc (clkO false 0 0 0 0)).frozen? _=_
    rw [frozen?_alloc_cells]
    show (w.alloc (clkO false 0 0 0 0)).frozen? _=_
    rw [frozen?_alloc_cells]
    exact frozen_past _ _ _ hb
  refine mid_of (W:=(((w.alloc (clkO false 0 0 0 0)).drewN i).alloc (clkO false 0 0 0 0)).drewN j) (fun o=>?_) (fun o=>hf _ o (Nat.le_succ _)) (fun o=>?_) (fun o=>hf _ o (Nat.le_refl _)) ?_ ?_
  · exact World.cell?_alloc_at (w:=(w.alloc (clkO false 0 0 0 0)).drewN i) _ _ _ _ hz.symm
  · exact (World.cell?_alloc_past (w:=(w.alloc (clkO false 0 0 0 0)).drewN i) _ _ _ (by omega)).trans (World.cell?_alloc_at (w:=w) _ _ _ _ rfl)
  · exact bdrewN ((bdrewN (below_new _ _) i).trans ((below_new ((w.alloc (clkO false 0 0 0 0)).drewN i) _).mono (by omega))) j
  · show w.heap.size+2≤(((w.alloc (clkO false 0 0 0 0)).drewN i).alloc (clkO false 0 0 0 0)).heap.size
    simp
theorem mid_shapeL {w:World} (h m s:Int) (i:Nat):TkMid w (((w.alloc (clkO false 0 0 0 0)).drewN i).alloc (clkO true h m s 0)) h m s 0:=by
  have hz:((w.alloc (clkO false 0 0 0 0)).drewN i).heap.size=w.heap.size+1:=by show (w.alloc _).heap.size=_;simp
  have hf:∀ b o,w.heap.size≤b→(((w.alloc (clkO false 0 0 0 0)).drewN i).alloc (clkO true h m s 0)).frozen? ⟨b,o,none⟩=false:=fun b o hb=>by
    rw [frozen?_alloc_cells]
    show (w.alloc (clkO false 0 0 0 0)).frozen? _=_
    rw [frozen?_alloc_cells]
    exact frozen_past _ _ _ hb
  refine⟨fun o _=>?_,fun o=>hf _ o (Nat.le_succ _),fun o _=>?_,fun o=>hf _ o (Nat.le_refl _),?_,?_⟩
  · exact World.cell?_alloc_at (w:=(w.alloc (clkO false 0 0 0 0)).drewN i) _ _ _ _ hz.symm
  · exact (World.cell?_alloc_past (w:=(w.alloc (clkO false 0 0 0 0)).drewN i) _ _ _ (by omega)).trans (World.cell?_alloc_at (w:=w) _ _ _ _ rfl)
  · exact (bdrewN (below_new _ _) i).trans ((below_new ((w.alloc (clkO false 0 0 0 0)).drewN i) _).mono (by omega))
  · show w.heap.size+2≤(((w.alloc (clkO false 0 0 0 0)).drewN i).alloc (clkO true h m s 0)).heap.size
    simp
theorem mid_shapeM {w:World} (h m s:Int):TkMid w (((w.alloc (clkO false 0 0 0 0)).drew).alloc (clkO true h m s 0)) h m s 0:=mid_shapeL h m s 1
theorem mid_shapeA {w:World} (h m s:Int) (i:Nat) :
    TkMid w ((((((((w.alloc (clkO false 0 0 0 0)).drewN i).alloc (clkO false 0 0 0 0)).setCell ⟨w.heap.size+1,0,none⟩ (.bool true)).setCell ⟨w.heap.size+1,1,none⟩ (.int .i64 h)).setCell ⟨w.heap.size+1,2,none⟩ (.int .i64 m)).setCell ⟨w.heap.size+1,3,none⟩ (.int .i64 s)).setCell ⟨w.heap.size+1,4,none⟩ (.int .i64 0)) h m s 0:=mid_shape h m s i 0
theorem mid_shapeB {w:World} (h m s:Int) (j:Nat) :
    TkMid w (((((((((w.alloc (clkO false 0 0 0 0)).drew).alloc (clkO false 0 0 0 0)).drewN j).setCell ⟨w.heap.size+1,0,none⟩ (.bool true)).setCell ⟨w.heap.size+1,1,none⟩ (.int .i64 h)).setCell ⟨w.heap.size+1,2,none⟩ (.int .i64 m)).setCell ⟨w.heap.size+1,3,none⟩ (.int .i64 s)).setCell ⟨w.heap.size+1,4,none⟩ (.int .i64 0)) h m s 0:=mid_shape h m s 1 j
theorem mid_shapeC {w:World} (h m s:Int) :
    TkMid w ((((((((w.alloc (clkO false 0 0 0 0)).drew).alloc (clkO false 0 0 0 0)).setCell ⟨w.heap.size+1,0,none⟩ (.bool true)).setCell ⟨w.heap.size+1,1,none⟩ (.int .i64 h)).setCell ⟨w.heap.size+1,2,none⟩ (.int .i64 m)).setCell ⟨w.heap.size+1,3,none⟩ (.int .i64 s)).setCell ⟨w.heap.size+1,4,none⟩ (.int .i64 0)) h m s 0:=mid_shape h m s 1 0
theorem mid_shapeD {w:World} (h m s:Int) (j:Nat) :
    TkMid w ((((((((w.alloc (clkO false 0 0 0 0)).alloc (clkO false 0 0 0 0)).drewN j).setCell ⟨w.heap.size+1,0,none⟩ (.bool true)).setCell ⟨w.heap.size+1,1,none⟩ (.int .i64 h)).setCell ⟨w.heap.size+1,2,none⟩ (.int .i64 m)).setCell ⟨w.heap.size+1,3,none⟩ (.int .i64 s)).setCell ⟨w.heap.size+1,4,none⟩ (.int .i64 0)) h m s 0:=mid_shape h m s 0 j
theorem TkMid.cent {w W:World} {h m s:Int} (hT:TkMid w W h m s 0) (c:Int):TkMid w (W.setCell ⟨w.heap.size+1,4,none⟩ (.int .i64 c)) h m s c:=by
  obtain⟨h1,h2,h3,h4,h5,h6⟩:=hT
  refine⟨fun o ho=>?_,fun o=>by rw [World.frozen?_setCell];exact h2 o,fun o ho=>?_,fun o=>by rw [World.frozen?_setCell];exact h4 o,h5.setCell (Nat.le_succ _) _,by simpa using h6⟩
  · by_cases e:o=4
    · subst e
      exact World.cell?_setCell_same _ _ _ (h1 4 (by omega))
    · rw [World.cell?_setCell_other _ _ _ _ (fun q=>by injection q with _ q;exact e q.symm),h1 o ho]
      rcases (by omega:o=0∨o=1∨o=2∨o=3) with rfl | rfl | rfl | rfl <;> rfl
  · rw [World.cell?_setCell_other _ _ _ _ (fun q=>by injection q with q _;omega)]
    exact h3 o ho
theorem TkMid.drewN {w W:World} {h m s c:Int} (hT:TkMid w W h m s c) (n:Nat):TkMid w (W.drewN n) h m s c:=by
  obtain⟨h1,h2,h3,h4,h5,h6⟩:=hT
  exact⟨h1,h2,h3,h4,bdrewN h5 n,h6⟩
set_option maxRecDepth 8000 in
set_option maxHeartbeats 4000000 in
theorem r24Take_6 (a b c d p q:UInt8) (w:World) (hd:digB a=true∧digB b=true∧digB c=true∧digB d=true∧digB p=true∧digB q=true):Calls Tryz.prog 143 #[.string ⟨#[a,b,c,d,p,q]⟩] w (ClkPost (takeClk [a,b,c,d,p,q]) w):=by
  have hz:(⟨#[a,b,c,d,p,q]⟩:ByteArray).size=6:=rfl
  have hn2:(⟨#[a,b,c,d,p,q]⟩:ByteArray).toList.isEmpty=false:=by rw [ByteArray.toList_eq];rfl
  have hn:((⟨#[a,b,c,d,p,q]⟩:ByteArray).toList==[])=false:=by rw [ByteArray.toList_eq];rfl
  have h6:(⟨#[a,b,c,d,p,q]⟩:ByteArray).extract 0 6=⟨#[a,b,c,d,p,q]⟩:=rfl
  have h2:(⟨#[a,b,c,d,p,q]⟩:ByteArray).extract 2 6=⟨#[c,d,p,q]⟩:=rfl
  have h4:(⟨#[a,b,c,d,p,q]⟩:ByteArray).extract 4 6=⟨#[p,q]⟩:=rfl
  obtain⟨da,db,dc,dd,dp,dq⟩:=hd
  have HD6:∀ W,Hid (Calls Tryz.prog 146 #[.string ⟨#[a,b,c,d,p,q]⟩] W fun e w'=>e=.returned (.bool true)∧W=w'):=fun W=>by
    have:=r24digits_any ⟨#[a,b,c,d,p,q]⟩ W (by show 6≤1000000;omega)
    rw [show allD (⟨#[a,b,c,d,p,q]⟩:ByteArray).data.toList=true by show (digB a && (digB b && (digB c && (digB d && (digB p && (digB q && true))))))=true;rw [da,db,dc,dd,dp,dq];rfl] at this
    exact this
  have HP0:∀ W,Hid (Calls Tryz.prog 147 #[.string ⟨#[a,b,c,d,p,q]⟩] W fun e w'=>e=.returned (.int .i64 (numP a b))∧∃ n,w'=W.drewN n):=fun W=>by
    have:=r24pair_any ⟨#[a,b,c,d,p,q]⟩ W (by show 2≤6;omega) (by show 6≤1000000;omega)
    rw [show (pairV ((⟨#[a,b,c,d,p,q]⟩:ByteArray)[0]'(Nat.succ_pos _)) ((⟨#[a,b,c,d,p,q]⟩:ByteArray)[1]'(by show 1 < 6;omega))).1=numP a b from pairV_num (by show (digB a && digB b)=true;rw [da,db];rfl)] at this
    exact this
  have HP2:∀ W,Hid (Calls Tryz.prog 147 #[.string ⟨#[c,d,p,q]⟩] W fun e w'=>e=.returned (.int .i64 (numP c d))∧∃ n,w'=W.drewN n):=fun W=>by
    have:=r24pair_any ⟨#[c,d,p,q]⟩ W (by show 2≤4;omega) (by show 4≤1000000;omega)
    rw [show (pairV ((⟨#[c,d,p,q]⟩:ByteArray)[0]'(Nat.succ_pos _)) ((⟨#[c,d,p,q]⟩:ByteArray)[1]'(by show 1 < 4;omega))).1=numP c d from pairV_num (by show (digB c && digB d)=true;rw [dc,dd];rfl)] at this
    exact this
  have HP4:∀ W,Hid (Calls Tryz.prog 147 #[.string ⟨#[p,q]⟩] W fun e w'=>e=.returned (.int .i64 (numP p q))∧∃ n,w'=W.drewN n):=fun W=>by
    have:=r24pair_any ⟨#[p,q]⟩ W (by show 2≤2;omega) (by show 2≤1000000;omega)
    rw [show (pairV ((⟨#[p,q]⟩:ByteArray)[0]'(Nat.succ_pos _)) ((⟨#[p,q]⟩:ByteArray)[1]'(by show 1 < 2;omega))).1=numP p q from pairV_num (by show (digB p && digB q)=true;rw [dp,dq];rfl)] at this
    exact this
  go_enter Tryz.func143,Tryz.ntmps143
  go_wp2_with fail
  refine ((HD6 _).out).mono ?_
  rintro e w' ⟨rfl,rfl⟩
  go_upto_region 5 with fail
  go_cut [4] (fun v wx=>v=.pointer (some ⟨w.heap.size+1,0,none⟩)∧Hid (TkMid w wx (numP a b) (numP c d) (numP p q) 0))
  case first=>
    go_region_with (first | (go_at_call 147;with_reducible refine (HP0 _).out.mono ?_;rintro e w' ⟨rfl,n0,rfl⟩) | (go_at_call 147;with_reducible refine (HP2 _).out.mono ?_;rintro e w' ⟨rfl,n2,rfl⟩) | (go_at_call 147;with_reducible refine (HP4 _).out.mono ?_;rintro e w' ⟨rfl,n4,rfl⟩))
    all_goals go_wp2_with fail
    all_goals go_meet
    all_goals refine⟨rfl,Lib.hid ?_⟩
    all_goals (first | with_reducible exact mid_shape _ _ _ _ _ | with_reducible exact mid_shapeL _ _ _ _ | with_reducible exact mid_shapeM _ _ _ | with_reducible exact mid_shapeA _ _ _ _ | with_reducible exact mid_shapeB _ _ _ _ | with_reducible exact mid_shapeC _ _ _ | with_reducible exact mid_shapeD _ _ _ _)
  case rest=>
  obtain⟨rfl,hT⟩:=hcut
  have HM:=fun W=>Lib.hid (r24May_any true (numP a b) (numP c d) (numP p q) 0 W)
  have HW:Hid (takeClk [a,b,c,d,p,q]=if clkB (true,numP a b,numP c d,numP p q,0)=true then ((true,numP a b,numP c d,numP p q,0),0) else (zC,5)):=by
    have e1:threeL ([a,b,c,d,p,q].take 6)=some (numP a b,numP c d,numP p q):=by
      show (if digB a && digB b && digB c && digB d && digB p && digB q then _ else _)=_
      rw [da,db,dc,dd,dp,dq]
      rfl
    have e2:behindL ([a,b,c,d,p,q].drop 6)=some (0):=by
      rfl
    show _=_
    unfold takeClk
    rw [if_neg (by simp),e1,e2]
  generalize numP a b=A at *
  generalize numP c d=B at *
  generalize numP p q=C at *
  obtain⟨Y,hY⟩:∃ Y,clkB (true,A,B,C,0)=Y:=⟨_,rfl⟩
  rw [hY] at HM HW
  clear hY
  have HT4:=hT
  have m0:=HT4.out.1 0 (by omega)
  have m1:=HT4.out.1 1 (by omega)
  have m2:=HT4.out.1 2 (by omega)
  have m3:=HT4.out.1 3 (by omega)
  have m4:=HT4.out.1 4 (by omega)
  clear hT
  go_wp2_with fail
  refine (HM _).out.mono ?_
  rintro e w5 ⟨rfl,hb5⟩
  have HR5:Hid (∀ o,o < 5→w5.cell? ⟨w.heap.size,o,none⟩=(#[Value.bool false,.int .i64 0,.int .i64 0,.int .i64 0,.int .i64 0]:Array Value)[o]?):=fun o ho=>((bcell hb5).1 _ o (by have:=HT4.out.2.2.2.2.2;omega)).trans (HT4.out.2.2.1 o ho)
  have HF5:Hid (∀ o,w5.frozen? ⟨w.heap.size,o,none⟩=false):=fun o=>((bcell hb5).2 _ o (by have:=HT4.out.2.2.2.2.2;omega)).trans (HT4.out.2.2.2.1 o)
  have HC5:Hid (∀ o,o < 5→w5.cell? ⟨w.heap.size+1,o,none⟩=(#[Value.bool true,.int .i64 A,.int .i64 B,.int .i64 C,.int .i64 0]:Array Value)[o]?):=fun o ho=>((bcell hb5).1 _ o (by have:=HT4.out.2.2.2.2.2;omega)).trans (HT4.out.1 o ho)
  have HB5:=Lib.hid (bthen HT4.out.2.2.2.2.1 hb5)
  clear hb5 HT4 m0 m1 m2 m3 m4
  have r0:=HR5.out 0 (by omega)
  have r1:=HR5.out 1 (by omega)
  have r2:=HR5.out 2 (by omega)
  have r3:=HR5.out 3 (by omega)
  have r4:=HR5.out 4 (by omega)
  have fz:=HF5.out
  have c0:=HC5.out 0 (by omega)
  have c1:=HC5.out 1 (by omega)
  have c2:=HC5.out 2 (by omega)
  have c3:=HC5.out 3 (by omega)
  have c4:=HC5.out 4 (by omega)
  have HOLD:Hid (∀ o,o < 5→∃ v,w5.cell? ⟨w.heap.size,o,none⟩=some v):=fun o ho=>by rw [HR5.out o ho];rcases (by omega:o=0∨o=1∨o=2∨o=3∨o=4) with rfl | rfl | rfl | rfl | rfl <;> exact⟨_,rfl⟩
  cases Y with
  | false=>
    have HX:Hid (takeClk [a,b,c,d,p,q]=(zC,5)):=HW.out
    clear HW
    go_wp2_with fail
    have hd:=set5 (W:=w5) (g:=w.heap.size) (a:=.bool false) (b:=.int .i64 0) (c:=.int .i64 0) (d:=.int .i64 0) (e:=.int .i64 0) HOLD.out
    have d0:=hd 0 (by omega)
    have d1:=hd 1 (by omega)
    have d2:=hd 2 (by omega)
    have d3:=hd 3 (by omega)
    have d4:=hd 4 (by omega)
    have hbl:=set5_below (a:=.bool false) (b:=.int .i64 0) (c:=.int .i64 0) (d:=.int .i64 0) (e:=.int .i64 0) HB5.out (Nat.le_refl _)
    generalize ((((w5.setCell ⟨w.heap.size,0,none⟩ (.bool false)).setCell ⟨w.heap.size,1,none⟩ (.int .i64 0)).setCell ⟨w.heap.size,2,none⟩ (.int .i64 0)).setCell ⟨w.heap.size,3,none⟩ (.int .i64 0)).setCell ⟨w.heap.size,4,none⟩ (.int .i64 0)=w9 at *
    simp at d0 d1 d2 d3 d4
    exact bodyPost_ret (v:=.tuple #[clkV false 0 0 0 0,.int .i64 5]) (by simp [results,Tryz.results143,go_sem,d0,d1,d2,d3,d4]) rfl ⟨by rw [HX.out];rfl,hbl⟩
  | true=>
    have HX:Hid (takeClk [a,b,c,d,p,q]=((true,A,B,C,0),0)):=HW.out
    clear HW
    go_wp2_with fail
    have hd:=set5 (W:=w5) (g:=w.heap.size) (a:=.bool true) (b:=.int .i64 A) (c:=.int .i64 B) (d:=.int .i64 C) (e:=.int .i64 0) HOLD.out
    have d0:=hd 0 (by omega)
    have d1:=hd 1 (by omega)
    have d2:=hd 2 (by omega)
    have d3:=hd 3 (by omega)
    have d4:=hd 4 (by omega)
    have hbl:=set5_below (a:=.bool true) (b:=.int .i64 A) (c:=.int .i64 B) (d:=.int .i64 C) (e:=.int .i64 0) HB5.out (Nat.le_refl _)
    generalize ((((w5.setCell ⟨w.heap.size,0,none⟩ (.bool true)).setCell ⟨w.heap.size,1,none⟩ (.int .i64 A)).setCell ⟨w.heap.size,2,none⟩ (.int .i64 B)).setCell ⟨w.heap.size,3,none⟩ (.int .i64 C)).setCell ⟨w.heap.size,4,none⟩ (.int .i64 0)=w9 at *
    simp at d0 d1 d2 d3 d4
    exact bodyPost_ret (v:=.tuple #[clkV true A B C 0,.int .i64 0]) (by simp [results,Tryz.results143,go_sem,d0,d1,d2,d3,d4]) rfl ⟨by rw [HX.out],hbl⟩
end Go.Proofs.YtoabkoniegmkaaaGreat
