/- Layer 24: a text's time, by the reference: eight bytes. Printed by genclkk.py. -/
import Derived.Test.YtoabkoniegmkaaaGreatG36
import Derived.Test.YtoabkoniegmkaaaGreatG37
namespace Go.Proofs.YtoabkoniegmkaaaGreat
set_option linter.unusedVariables false
open Go.RowKit
set_option maxRecDepth 8000 in
set_option maxHeartbeats 4000000 in
theorem r24Take_8 (a b c d p q x:UInt8) (w:World) (hd:digB a=true∧digB b=true∧digB c=true∧digB d=true∧digB p=true∧digB q=true∧digB x=true):Calls Tryz.prog 143 #[.string ⟨#[a,b,c,d,p,q,46,x]⟩] w (ClkPost (takeClk [a,b,c,d,p,q,46,x]) w):=by
  have hz:(⟨#[a,b,c,d,p,q,46,x]⟩:ByteArray).size=8:=rfl
  have hn2:(⟨#[a,b,c,d,p,q,46,x]⟩:ByteArray).toList.isEmpty=false:=by rw [ByteArray.toList_eq];rfl
  have hn:((⟨#[a,b,c,d,p,q,46,x]⟩:ByteArray).toList==[])=false:=by rw [ByteArray.toList_eq];rfl
  have h6:(⟨#[a,b,c,d,p,q,46,x]⟩:ByteArray).extract 0 6=⟨#[a,b,c,d,p,q]⟩:=rfl
  have h2:(⟨#[a,b,c,d,p,q,46,x]⟩:ByteArray).extract 2 8=⟨#[c,d,p,q,46,x]⟩:=rfl
  have h4:(⟨#[a,b,c,d,p,q,46,x]⟩:ByteArray).extract 4 8=⟨#[p,q,46,x]⟩:=rfl
  have h7:(⟨#[a,b,c,d,p,q,46,x]⟩:ByteArray).extract 7 8=⟨#[x]⟩:=rfl
  have g6:((⟨#[a,b,c,d,p,q,46,x]⟩:ByteArray)[6]'(by show 6 < 8;omega))=46:=rfl
  have g7:((⟨#[a,b,c,d,p,q,46,x]⟩:ByteArray)[7]'(by show 7 < 8;omega))=x:=rfl
  obtain⟨da,db,dc,dd,dp,dq,dx⟩:=hd
  have HD6:∀ W,Hid (Calls Tryz.prog 146 #[.string ⟨#[a,b,c,d,p,q]⟩] W fun e w'=>e=.returned (.bool true)∧W=w'):=fun W=>by
    have:=r24digits_any ⟨#[a,b,c,d,p,q]⟩ W (by show 6≤1000000;omega)
    rw [show allD (⟨#[a,b,c,d,p,q]⟩:ByteArray).data.toList=true by show (digB a && (digB b && (digB c && (digB d && (digB p && (digB q && true))))))=true;rw [da,db,dc,dd,dp,dq];rfl] at this
    exact this
  have HP0:∀ W,Hid (Calls Tryz.prog 147 #[.string ⟨#[a,b,c,d,p,q,46,x]⟩] W fun e w'=>e=.returned (.int .i64 (numP a b))∧∃ n,w'=W.drewN n):=fun W=>by
    have:=r24pair_any ⟨#[a,b,c,d,p,q,46,x]⟩ W (by show 2≤8;omega) (by show 8≤1000000;omega)
    rw [show (pairV ((⟨#[a,b,c,d,p,q,46,x]⟩:ByteArray)[0]'(Nat.succ_pos _)) ((⟨#[a,b,c,d,p,q,46,x]⟩:ByteArray)[1]'(by show 1 < 8;omega))).1=numP a b from pairV_num (by show (digB a && digB b)=true;rw [da,db];rfl)] at this
    exact this
  have HP2:∀ W,Hid (Calls Tryz.prog 147 #[.string ⟨#[c,d,p,q,46,x]⟩] W fun e w'=>e=.returned (.int .i64 (numP c d))∧∃ n,w'=W.drewN n):=fun W=>by
    have:=r24pair_any ⟨#[c,d,p,q,46,x]⟩ W (by show 2≤6;omega) (by show 6≤1000000;omega)
    rw [show (pairV ((⟨#[c,d,p,q,46,x]⟩:ByteArray)[0]'(Nat.succ_pos _)) ((⟨#[c,d,p,q,46,x]⟩:ByteArray)[1]'(by show 1 < 6;omega))).1=numP c d from pairV_num (by show (digB c && digB d)=true;rw [dc,dd];rfl)] at this
    exact this
  have HP4:∀ W,Hid (Calls Tryz.prog 147 #[.string ⟨#[p,q,46,x]⟩] W fun e w'=>e=.returned (.int .i64 (numP p q))∧∃ n,w'=W.drewN n):=fun W=>by
    have:=r24pair_any ⟨#[p,q,46,x]⟩ W (by show 2≤4;omega) (by show 4≤1000000;omega)
    rw [show (pairV ((⟨#[p,q,46,x]⟩:ByteArray)[0]'(Nat.succ_pos _)) ((⟨#[p,q,46,x]⟩:ByteArray)[1]'(by show 1 < 4;omega))).1=numP p q from pairV_num (by show (digB p && digB q)=true;rw [dp,dq];rfl)] at this
    exact this
  have HD7:∀ W,Hid (Calls Tryz.prog 146 #[.string ⟨#[x]⟩] W fun e w'=>e=.returned (.bool true)∧W=w'):=fun W=>by
    have:=r24digits_any ⟨#[x]⟩ W (by show 1≤1000000;omega)
    rw [show allD (⟨#[x]⟩:ByteArray).data.toList=true by show (digB x && true)=true;rw [dx];rfl] at this
    exact this
  go_enter Tryz.func143,Tryz.ntmps143
  go_wp2_with fail
  refine ((HD6 _).out).mono ?_
  rintro e w' ⟨rfl,rfl⟩
  go_wp2_with fail
  refine ((HD7 _).out).mono ?_
  rintro e w' ⟨rfl,rfl⟩
  go_upto_region 5 with fail
  go_cut [4] (fun v wx=>v=.pointer (some ⟨w.heap.size+1,0,none⟩)∧Hid (TkMid w wx (numP a b) (numP c d) (numP p q) 0))
  case first=>
    go_region_with (first | (go_at_call 147;with_reducible refine (HP0 _).out.mono ?_;rintro e w' ⟨rfl,n0,rfl⟩) | (go_at_call 147;with_reducible refine (HP2 _).out.mono ?_;rintro e w' ⟨rfl,n2,rfl⟩) | (go_at_call 147;with_reducible refine (HP4 _).out.mono ?_;rintro e w' ⟨rfl,n4,rfl⟩))
    all_goals go_wp2_with fail
    all_goals go_meet
    all_goals refine⟨rfl,Lib.hid ?_⟩
    all_goals (first | with_reducible exact mid_shape _ _ _ _ _ | with_reducible exact mid_shapeL _ _ _ _ | with_reducible exact mid_shapeM _ _ _ | with_reducible exact mid_shapeA _ _ _ _ | with_reducible exact mid_shapeB _ _ _ _ | with_reducible exact mid_shapeC _ _ _ | with_reducible exact mid_shapeD _ _ _ _)
  case rest=>
  obtain⟨rfl,hT⟩:=hcut
  have m4:=hT.out.1 4 (by omega)
  have z4:=hT.out.2.1 4
  obtain⟨wx,x0,x1⟩:=u8_minus x
  have hx:((x.toNat:Int) - 48) % 256=(x.toNat:Int) - 48:=by
    have d2:=dx
    unfold digB at d2
    simp at d2
    omega
  go_upto_region 8 with fail
  have HT4:=Lib.hid (hT.out.cent (10 * (((x.toNat:Int) - 48) % 256)))
  rw [hx] at HT4
  try rw [hx]
  generalize wc.setCell ⟨w.heap.size+1,4,none⟩ (.int .i64 (10 * ((x.toNat:Int) - 48)))=W4 at *
  clear hT m4 z4 wx x0 x1 hx
  have HM:=fun W=>Lib.hid (r24May_any true (numP a b) (numP c d) (numP p q) (10 * ((x.toNat:Int) - 48)) W)
  have HW:Hid (takeClk [a,b,c,d,p,q,46,x]=if clkB (true,numP a b,numP c d,numP p q,(10 * ((x.toNat:Int) - 48)))=true then ((true,numP a b,numP c d,numP p q,(10 * ((x.toNat:Int) - 48))),0) else (zC,5)):=by
    have e1:threeL ([a,b,c,d,p,q,46,x].take 6)=some (numP a b,numP c d,numP p q):=by
      show (if digB a && digB b && digB c && digB d && digB p && digB q then _ else _)=_
      rw [da,db,dc,dd,dp,dq]
      rfl
    have e2:behindL ([a,b,c,d,p,q,46,x].drop 6)=some ((10 * ((x.toNat:Int) - 48))):=by
      show (if (46:UInt8)=46∧digB x=true then _ else _)=_
      rw [if_pos ⟨rfl,dx⟩]
    show _=_
    unfold takeClk
    rw [if_neg (by simp),e1,e2]
  generalize numP a b=A at *
  generalize numP c d=B at *
  generalize numP p q=C at *
  generalize (10 * ((x.toNat:Int) - 48))=cent at *
  obtain⟨Y,hY⟩:∃ Y,clkB (true,A,B,C,cent)=Y:=⟨_,rfl⟩
  rw [hY] at HM HW
  clear hY
  have m0:=HT4.out.1 0 (by omega)
  have m1:=HT4.out.1 1 (by omega)
  have m2:=HT4.out.1 2 (by omega)
  have m3:=HT4.out.1 3 (by omega)
  have m4:=HT4.out.1 4 (by omega)
  go_wp2_with fail
  refine (HM _).out.mono ?_
  rintro e w5 ⟨rfl,hb5⟩
  have HR5:Hid (∀ o,o < 5→w5.cell? ⟨w.heap.size,o,none⟩=(#[Value.bool false,.int .i64 0,.int .i64 0,.int .i64 0,.int .i64 0]:Array Value)[o]?):=fun o ho=>((bcell hb5).1 _ o (by have:=HT4.out.2.2.2.2.2;omega)).trans (HT4.out.2.2.1 o ho)
  have HF5:Hid (∀ o,w5.frozen? ⟨w.heap.size,o,none⟩=false):=fun o=>((bcell hb5).2 _ o (by have:=HT4.out.2.2.2.2.2;omega)).trans (HT4.out.2.2.2.1 o)
  have HC5:Hid (∀ o,o < 5→w5.cell? ⟨w.heap.size+1,o,none⟩=(#[Value.bool true,.int .i64 A,.int .i64 B,.int .i64 C,.int .i64 cent]:Array Value)[o]?):=fun o ho=>((bcell hb5).1 _ o (by have:=HT4.out.2.2.2.2.2;omega)).trans (HT4.out.1 o ho)
  have HB5:=Lib.hid (bthen HT4.out.2.2.2.2.1 hb5)
  clear hb5 HT4 m0 m1 m2 m3 m4
  have r0:=HR5.out 0 (by omega)
  have r1:=HR5.out 1 (by omega)
  have r2:=HR5.out 2 (by omega)
  have r3:=HR5.out 3 (by omega)
  have r4:=HR5.out 4 (by omega)
  have fz:=HF5.out
  have c0:=HC5.out 0 (by omega)
  have c1:=HC5.out 1 (by omega)
  have c2:=HC5.out 2 (by omega)
  have c3:=HC5.out 3 (by omega)
  have c4:=HC5.out 4 (by omega)
  have HOLD:Hid (∀ o,o < 5→∃ v,w5.cell? ⟨w.heap.size,o,none⟩=some v):=fun o ho=>by rw [HR5.out o ho];rcases (by omega:o=0∨o=1∨o=2∨o=3∨o=4) with rfl | rfl | rfl | rfl | rfl <;> exact⟨_,rfl⟩
  cases Y with
  | false=>
    have HX:Hid (takeClk [a,b,c,d,p,q,46,x]=(zC,5)):=HW.out
    clear HW
    go_wp2_with fail
    have hd:=set5 (W:=w5) (g:=w.heap.size) (a:=.bool false) (b:=.int .i64 0) (c:=.int .i64 0) (d:=.int .i64 0) (e:=.int .i64 0) HOLD.out
    have d0:=hd 0 (by omega)
    have d1:=hd 1 (by omega)
    have d2:=hd 2 (by omega)
    have d3:=hd 3 (by omega)
    have d4:=hd 4 (by omega)
    have hbl:=set5_below (a:=.bool false) (b:=.int .i64 0) (c:=.int .i64 0) (d:=.int .i64 0) (e:=.int .i64 0) HB5.out (Nat.le_refl _)
    generalize ((((w5.setCell ⟨w.heap.size,0,none⟩ (.bool false)).setCell ⟨w.heap.size,1,none⟩ (.int .i64 0)).setCell ⟨w.heap.size,2,none⟩ (.int .i64 0)).setCell ⟨w.heap.size,3,none⟩ (.int .i64 0)).setCell ⟨w.heap.size,4,none⟩ (.int .i64 0)=w9 at *
    simp at d0 d1 d2 d3 d4
    exact bodyPost_ret (v:=.tuple #[clkV false 0 0 0 0,.int .i64 5]) (by simp [results,Tryz.results143,go_sem,d0,d1,d2,d3,d4]) rfl ⟨by rw [HX.out];rfl,hbl⟩
  | true=>
    have HX:Hid (takeClk [a,b,c,d,p,q,46,x]=((true,A,B,C,cent),0)):=HW.out
    clear HW
    go_wp2_with fail
    have hd:=set5 (W:=w5) (g:=w.heap.size) (a:=.bool true) (b:=.int .i64 A) (c:=.int .i64 B) (d:=.int .i64 C) (e:=.int .i64 cent) HOLD.out
    have d0:=hd 0 (by omega)
    have d1:=hd 1 (by omega)
    have d2:=hd 2 (by omega)
    have d3:=hd 3 (by omega)
    have d4:=hd 4 (by omega)
    have hbl:=set5_below (a:=.bool true) (b:=.int .i64 A) (c:=.int .i64 B) (d:=.int .i64 C) (e:=.int .i64 cent) HB5.out (Nat.le_refl _)
    generalize ((((w5.setCell ⟨w.heap.size,0,none⟩ (.bool true)).setCell ⟨w.heap.size,1,none⟩ (.int .i64 A)).setCell ⟨w.heap.size,2,none⟩ (.int .i64 B)).setCell ⟨w.heap.size,3,none⟩ (.int .i64 C)).setCell ⟨w.heap.size,4,none⟩ (.int .i64 cent)=w9 at *
    simp at d0 d1 d2 d3 d4
    exact bodyPost_ret (v:=.tuple #[clkV true A B C cent,.int .i64 0]) (by simp [results,Tryz.results143,go_sem,d0,d1,d2,d3,d4]) rfl ⟨by rw [HX.out],hbl⟩
theorem r24Take_any (s:ByteArray) (w:World) (hs:s.size≤1000000):Calls Tryz.prog 143 #[.string s] w (ClkPost (takeClk s.data.toList) w):=by
  by_cases hb:0 < s.size∧(s.size < 6∨6≤s.size∧allD (s.extract 0 6).data.toList=false ∨
      ∃ h6:6 < s.size,allD (s.extract 0 6).data.toList=true∧(s[6]≠46∨s[6]=46∧s.size < 8∨s[6]=46∧8≤s.size∧9 < s.size∨s[6]=46∧8≤s.size∧s.size≤9∧allD (s.extract 7 s.size).data.toList=false))
  · exact r24Take_bad s w hs hb.1 hb.2
  · by_cases h0:s.size=0
    · obtain⟨⟨l⟩⟩:=s
      cases l with
      | nil=>exact r24Take_none w
      | cons a l=>cases h0
    · have h6:6≤s.size:=by
        rcases Nat.lt_or_ge s.size 6 with h | h
        · exact absurd ⟨by omega,.inl h⟩ hb
        · exact h
      have d6:allD (s.extract 0 6).data.toList=true:=by
        cases h:allD (s.extract 0 6).data.toList with
        | true=>rfl
        | false=>exact absurd ⟨by omega,.inr (.inl ⟨h6,h⟩)⟩ hb
      rcases Nat.lt_or_ge 6 s.size with h | h
      · have e6:s[6]=46:=Classical.byContradiction fun q=>hb ⟨by omega,.inr (.inr ⟨h,d6,.inl q⟩)⟩
        have h8:8≤s.size:=Nat.le_of_not_lt fun q=>hb ⟨by omega,.inr (.inr ⟨h,d6,.inr (.inl ⟨e6,q⟩)⟩)⟩
        have h9:s.size≤9:=Nat.le_of_not_lt fun q=>hb ⟨by omega,.inr (.inr ⟨h,d6,.inr (.inr (.inl ⟨e6,h8,q⟩))⟩)⟩
        have d7:allD (s.extract 7 s.size).data.toList=true:=by
          cases hd:allD (s.extract 7 s.size).data.toList with
          | true=>rfl
          | false=>exact absurd ⟨by omega,.inr (.inr ⟨h,d6,.inr (.inr (.inr ⟨e6,h8,h9,hd⟩))⟩)⟩ hb
        have E6:s.data.toList[6]?=some 46:=by rw [List.getElem?_eq_getElem (by simpa using h)];exact congrArg some e6
        clear e6
        rw [take_ext] at d6
        rw [drop_ext] at d7
        clear hb h0 h6 h
        obtain⟨⟨l⟩⟩:=s
        match l,h8,h9,d6,d7,E6 with
        | [a,b,c,d,p,q,e,x],_,_,d6,d7,e6=>
          have e6:e=46:=Option.some.inj e6
          subst e6
          have d6:(digB a && (digB b && (digB c && (digB d && (digB p && (digB q && true))))))=true:=d6
          have d7:(digB x && true)=true:=d7
          simp only [Bool.and_eq_true,and_true] at d6 d7
          exact r24Take_8 a b c d p q x w ⟨d6.1,d6.2.1,d6.2.2.1,d6.2.2.2.1,d6.2.2.2.2.1,d6.2.2.2.2.2,d7⟩
        | [a,b,c,d,p,q,e,x,y],_,_,d6,d7,e6=>
          have e6:e=46:=Option.some.inj e6
          subst e6
          have d6:(digB a && (digB b && (digB c && (digB d && (digB p && (digB q && true))))))=true:=d6
          have d7:(digB x && (digB y && true))=true:=d7
          simp only [Bool.and_eq_true,and_true] at d6 d7
          exact r24Take_9 a b c d p q x y w ⟨d6.1,d6.2.1,d6.2.2.1,d6.2.2.2.1,d6.2.2.2.2.1,d6.2.2.2.2.2,d7.1,d7.2⟩
        | a1 :: a2 :: a3 :: a4 :: a5 :: a6 :: a7 :: a8 :: a9 :: a10 :: l,_,h9,_,_,_=>exact absurd (show l.length+10≤9 from h9) (by omega)
        | [],h8,_,_,_,_=>exact absurd (show 8≤0 from h8) (by omega)
        | [_],h8,_,_,_,_=>exact absurd (show 8≤1 from h8) (by omega)
        | [_,_],h8,_,_,_,_=>exact absurd (show 8≤2 from h8) (by omega)
        | [_,_,_],h8,_,_,_,_=>exact absurd (show 8≤3 from h8) (by omega)
        | [_,_,_,_],h8,_,_,_,_=>exact absurd (show 8≤4 from h8) (by omega)
        | [_,_,_,_,_],h8,_,_,_,_=>exact absurd (show 8≤5 from h8) (by omega)
        | [_,_,_,_,_,_],h8,_,_,_,_=>exact absurd (show 8≤6 from h8) (by omega)
        | [_,_,_,_,_,_,_],h8,_,_,_,_=>exact absurd (show 8≤7 from h8) (by omega)
      · have hz:s.size=6:=by omega
        rw [take_ext] at d6
        clear hb h0 h6 h
        obtain⟨⟨l⟩⟩:=s
        match l,hz,d6 with
        | [a,b,c,d,p,q],_,d6=>
          have d6:(digB a && (digB b && (digB c && (digB d && (digB p && (digB q && true))))))=true:=d6
          simp only [Bool.and_eq_true,and_true] at d6
          exact r24Take_6 a b c d p q w ⟨d6.1,d6.2.1,d6.2.2.1,d6.2.2.2.1,d6.2.2.2.2.1,d6.2.2.2.2.2⟩
        | a1 :: a2 :: a3 :: a4 :: a5 :: a6 :: a7 :: l,hz,_=>exact absurd (show l.length+7=6 from hz) (by omega)
        | [],hz,_=>exact absurd (show 0=6 from hz) (by omega)
        | [_],hz,_=>exact absurd (show 1=6 from hz) (by omega)
        | [_,_],hz,_=>exact absurd (show 2=6 from hz) (by omega)
        | [_,_,_],hz,_=>exact absurd (show 3=6 from hz) (by omega)
        | [_,_,_,_],hz,_=>exact absurd (show 4=6 from hz) (by omega)
        | [_,_,_,_,_],hz,_=>exact absurd (show 5=6 from hz) (by omega)
end Go.Proofs.YtoabkoniegmkaaaGreat
