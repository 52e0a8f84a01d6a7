/- Layer 24: times and dates, the reference's checks and what it puts. -/
import Derived.Test.YtoabkoniegmkaaaGreatJ17
import Derived.Test.YtoabkoniegmkaaaGreatJ00
import Derived.Test.YtoabkoniegmkaaaGreatJ16
import Derived.Test.YtoabkoniegmkaaaGreatJ09
import Derived.Test.YtoabkoniegmkaaaGreatJ11
namespace Go.Proofs.YtoabkoniegmkaaaGreat
set_option linter.unusedVariables false
open Go.RowKit
set_option linter.unusedSimpArgs false
theorem digL_two {n:Nat} (h:n≤99):digL n 2=twoL (n:Int):=by
  unfold digL twoL
  rw [digF_step _ _ _ (by omega),digF_step _ _ _ (by omega),show n / 10 / 10=0 by omega,show 2 - 1 - 1=0 from rfl,digF_stop]
  have e1:(48+(n:Int) / 10).toNat=48+n / 10 % 10:=by omega
  have e2:(48+(n:Int) % 10).toNat=48+n % 10:=by omega
  rw [e1,e2]
  rfl
theorem digL_dig1 {n:Nat} (h:n≤9):digL n 1=[UInt8.ofNat (48+(n:Int)).toNat]:=by
  unfold digL
  rw [digF_step _ _ _ (by omega),show n / 10=0 by omega,show 1 - 1=0 from rfl,digF_stop]
  have e2:(48+(n:Int)).toNat=48+n % 10:=by omega
  rw [e2]
  rfl
theorem r24two_any (n:Int) (w:World) (h0:0≤n) (h9:n≤99):Calls Tryz.prog 166 #[.int .i64 n] w fun e w'=>e=.returned (.string (toB (twoL n)))∧Below w.heap.size w w':=by
  have HD:=fun W=>Lib.hid (r23Digits_any n.toNat 2 W (by omega) (by omega))
  rw [digL_two (by omega),show ((n.toNat:Nat):Int)=n by omega] at HD
  go_enter Tryz.func166,Tryz.ntmps166
  go_wp2_with fail
  refine ((HD _).out).mono ?_
  rintro e w' ⟨rfl,hb⟩
  go_wp2_with fail
  go_ret
  exact⟨rfl,hb⟩
theorem r24one_any (n:Int) (w:World) (h0:0≤n) (h9:n≤9):Calls Tryz.prog 164 #[.int .i64 n,.int .i64 1] w fun e w'=>e=.returned (.string ⟨#[UInt8.ofNat (48+n).toNat]⟩)∧Below w.heap.size w w':=by
  have HD:=r23Digits_any n.toNat 1 w (by omega) (by omega)
  rw [digL_dig1 (by omega),show ((n.toNat:Nat):Int)=n by omega] at HD
  exact HD
set_option maxHeartbeats 4000000 in
theorem r24Days_any (m y:Int) (w:World):Calls Tryz.prog 182 #[.int .i64 m,.int .i64 y] w fun e w'=>e=.returned (.int .i64 (daysI m y))∧w=w':=by
  by_cases h:m < 1∨12 < m∨y < 2000∨2099 < y
  · rw [show daysI m y=0 from if_pos h]
    rcases (by omega:m < 1∨(1≤m∧12 < m)∨(1≤m∧m≤12∧y < 2000)∨(1≤m∧m≤12∧2000≤y∧2099 < y)) with q | ⟨q1,q⟩ | ⟨q1,q2,q⟩ | ⟨q1,q2,q3,q⟩
    all_goals
      clear h
      go_enter Tryz.func182,Tryz.ntmps182
      go_wp2
      go_ret
      exact⟨rfl,rfl⟩
  · have hy0:2000≤y:=by omega
    have hy1:y≤2099:=by omega
    have hb:(y % 4==0)=true∧leapI y=1∨(y % 4==0)=false∧leapI y=0:=by
      unfold leapI
      by_cases q:y % 4=0
      · exact .inl ⟨by rw [beq_iff_eq];exact q,if_pos q⟩
      · exact .inr ⟨by rw [beq_eq_false_iff_ne];exact q,if_neg q⟩
    rcases (by omega:m=1∨m=2∨m=3∨m=4∨m=5∨m=6∨m=7∨m=8∨m=9∨m=10∨m=11∨m=12) with rfl | rfl | rfl | rfl | rfl | rfl | rfl | rfl | rfl | rfl | rfl | rfl
    all_goals
      unfold daysI
      rw [if_neg h]
      clear h
      simp only [Int.reduceEq,if_true,if_false,reduceIte,or_true,true_or,or_self,or_false,false_or]
      rcases hb with ⟨hb,e⟩ | ⟨hb,e⟩
      all_goals
        try rw [e]
        clear e
        go_enter Tryz.func182,Tryz.ntmps182
        go_wp2
        go_ret
        exact⟨rfl,rfl⟩
set_option maxHeartbeats 4000000 in
theorem r24May_any (b:Bool) (h m s c:Int) (w:World):Calls Tryz.prog 177 #[clkV b h m s c] w fun e w'=>e=.returned (.bool (clkB (b,h,m,s,c)))∧Below w.heap.size w w':=by
  cases b with
  | false=>
    rcases (by omega:(h=0∧m=0∧s=0∧c=0)∨h≠0∨(h=0∧m≠0)∨(h=0∧m=0∧s≠0)∨(h=0∧m=0∧s=0∧c≠0)) with ⟨rfl,rfl,rfl,rfl⟩ | q | ⟨rfl,q⟩ | ⟨rfl,rfl,q⟩ | ⟨rfl,rfl,rfl,q⟩
    · rw [show clkB (false,0,0,0,0)=true from rfl]
      go_enter Tryz.func177,Tryz.ntmps177
      go_wp2
      go_ret
      exact⟨rfl,below_new _ _⟩
    all_goals
      rw [show clkB (false,_,_,_,_)=false from decide_eq_false (by simp only;omega)]
      go_enter Tryz.func177,Tryz.ntmps177
      go_wp2
      go_ret
      exact⟨rfl,below_new _ _⟩
  | true=>
    by_cases q:0≤h∧h≤23∧0≤m∧m≤59∧0≤s∧s≤59∧0≤c∧c≤99
    · rw [show clkB (true,h,m,s,c)=true from decide_eq_true q]
      obtain⟨q1,q2,q3,q4,q5,q6,q7,q8⟩:=q
      go_enter Tryz.func177,Tryz.ntmps177
      go_wp2
      go_ret
      exact⟨by rfl,below_new _ _⟩
    · rw [show clkB (true,h,m,s,c)=false from decide_eq_false q]
      rcases (by omega:h < 0∨(0≤h∧23 < h)∨(0≤h∧h≤23∧m < 0)∨(0≤h∧h≤23∧0≤m∧59 < m)∨(0≤h∧h≤23∧0≤m∧m≤59∧s < 0)∨(0≤h∧h≤23∧0≤m∧m≤59∧0≤s∧59 < s)∨(0≤h∧h≤23∧0≤m∧m≤59∧0≤s∧s≤59∧c < 0)∨(0≤h∧h≤23∧0≤m∧m≤59∧0≤s∧s≤59∧0≤c∧99 < c)) with q | ⟨q1,q⟩ | ⟨q1,q2,q⟩ | ⟨q1,q2,q3,q⟩ | ⟨q1,q2,q3,q4,q⟩ | ⟨q1,q2,q3,q4,q5,q⟩ | ⟨q1,q2,q3,q4,q5,q6,q⟩ | ⟨q1,q2,q3,q4,q5,q6,q7,q⟩
      all_goals
        rename_i qq
        clear qq
        go_enter Tryz.func177,Tryz.ntmps177
        go_wp2
        go_ret
        first | exact⟨rfl,below_new _ _⟩ | exact⟨ret_bool (decide_eq_false (by omega)),below_new _ _⟩
set_option maxHeartbeats 4000000 in
theorem r24MayDate_any (b:Bool) (d m y:Int) (w:World):Calls Tryz.prog 148 #[datV b d m y] w fun e w'=>e=.returned (.bool (datB (b,d,m,y)))∧Below w.heap.size w w':=by
  cases b with
  | false=>
    rcases (by omega:(d=0∧m=0∧y=0)∨d≠0∨(d=0∧m≠0)∨(d=0∧m=0∧y≠0)) with ⟨rfl,rfl,rfl⟩ | q | ⟨rfl,q⟩ | ⟨rfl,rfl,q⟩
    · rw [show datB (false,0,0,0)=true from rfl]
      go_enter Tryz.func148,Tryz.ntmps148
      go_wp2
      go_ret
      exact⟨rfl,below_new _ _⟩
    all_goals
      rw [show datB (false,_,_,_)=false from decide_eq_false (by simp only;omega)]
      go_enter Tryz.func148,Tryz.ntmps148
      go_wp2
      go_ret
      exact⟨rfl,below_new _ _⟩
  | true=>
    have HD:=fun W=>Lib.hid (r24Days_any m y W)
    rcases (by omega:d < 1∨(1≤d∧daysI m y < d)∨(1≤d∧d≤daysI m y)) with q | ⟨q1,q⟩ | ⟨q1,q⟩
    · rw [show datB (true,d,m,y)=false from decide_eq_false (by simp only;omega)]
      generalize daysI m y=D at *
      have i1:decide (1≤d)=false:=decide_eq_false (by omega)
      go_enter Tryz.func148,Tryz.ntmps148
      go_wp2_with fail
      go_quiet ((go_at_call 182;exact Calls.quiet_of_same ((HD _).out.mono fun _ _ h=>⟨h.1,h.2.symm⟩)))
      go_wp2_with fail
      go_ret
      first | exact⟨by rfl,bdrewN (below_new _ _) _⟩ | exact⟨by rfl,below_new _ _⟩
    · rw [show datB (true,d,m,y)=false from decide_eq_false (by simp only;omega)]
      generalize daysI m y=D at *
      go_enter Tryz.func148,Tryz.ntmps148
      go_wp2_with fail
      go_quiet ((go_at_call 182;exact Calls.quiet_of_same ((HD _).out.mono fun _ _ h=>⟨h.1,h.2.symm⟩)))
      go_wp2_with fail
      go_ret
      first | exact⟨ret_bool (decide_eq_false (by omega)),bdrewN (below_new _ _) _⟩ | exact⟨by rfl,bdrewN (below_new _ _) _⟩
    · rw [show datB (true,d,m,y)=true from decide_eq_true (by simp only;omega)]
      generalize daysI m y=D at *
      go_enter Tryz.func148,Tryz.ntmps148
      go_wp2_with fail
      go_quiet ((go_at_call 182;exact Calls.quiet_of_same ((HD _).out.mono fun _ _ h=>⟨h.1,h.2.symm⟩)))
      go_wp2_with fail
      go_ret
      exact⟨by rfl,bdrewN (below_new _ _) _⟩
theorem toB_app (a b:List UInt8):toB (a++b)=toB a++toB b:=by
  apply ByteArray.ext
  simp [toB]
theorem quadS_below {w0 W w':World} {g a b c d:Nat} {x y z u:Value} (hb:Below W.heap.size W w') (h:W.cell? ⟨g,a,none⟩=some x∧W.cell? ⟨g,b,none⟩=some y∧W.cell? ⟨g,c,none⟩=some z∧W.cell? ⟨g,d,none⟩=some u∧Hid (Below w0.heap.size w0 W)∧Hid (g < W.heap.size)) :
    w'.cell? ⟨g,a,none⟩=some x∧w'.cell? ⟨g,b,none⟩=some y∧w'.cell? ⟨g,c,none⟩=some z∧w'.cell? ⟨g,d,none⟩=some u∧Hid (Below w0.heap.size w0 w')∧Hid (g < w'.heap.size):=by
  obtain⟨h1,h2,h3,h6,h4,h5⟩:=h
  obtain⟨k,-⟩:=bcell hb
  exact⟨(k g a h5.out).trans h1,(k g b h5.out).trans h2,(k g c h5.out).trans h3,(k g d h5.out).trans h6,Lib.hid (bthen h4.out hb),Lib.hid (Nat.lt_of_lt_of_le h5.out hb.size)⟩
theorem hasSuf_any (x y:UInt8) (b:Bool) (w:World) (hb:decide (y=48)=b):Calls Tryz.prog 244 #[.string ⟨#[46,x,y]⟩,.string ⟨#[48]⟩] w fun e w'=>e=.returned (.bool b)∧w=w':=by
  have h1:(⟨#[46,x,y]⟩:ByteArray).size=3:=rfl
  have h2:(⟨#[48]⟩:ByteArray).size=1:=rfl
  have h3:(⟨#[46,x,y]⟩:ByteArray).extract 2 3=⟨#[y]⟩:=rfl
  have h4:((⟨#[y]⟩:ByteArray).toList==[48])=b:=by rw [ByteArray.toList_eq,← hb];simp;rfl
  have HB:=Lib.hid hb
  clear hb
  go_enter Tryz.func244,Tryz.ntmps244
  go_wp2
  go_ret
  exact⟨ret_bool (by rw [← HB.out];rfl),rfl⟩
theorem trimSuf_any (x y:UInt8) (w:World):Calls Tryz.prog 239 #[.string ⟨#[46,x,y]⟩,.string ⟨#[48]⟩] w fun e w'=>e=.returned (.string (if y=48 then ⟨#[46,x]⟩ else ⟨#[46,x,y]⟩))∧w=w':=by
  have h1:(⟨#[46,x,y]⟩:ByteArray).size=3:=rfl
  have h2:(⟨#[48]⟩:ByteArray).size=1:=rfl
  have h3:(⟨#[46,x,y]⟩:ByteArray).extract 0 2=⟨#[46,x]⟩:=rfl
  have HT:∀ W,Hid (Calls Tryz.prog 242 #[.string ⟨#[46,x,y]⟩,.string ⟨#[48]⟩] W fun e w'=>e=.returned (.string (if y=48 then ⟨#[46,x]⟩ else ⟨#[46,x,y]⟩))∧W=w'):=fun W=>by
    by_cases hy:y=48
    · have HS:=fun W=>Lib.hid (hasSuf_any x y true W (decide_eq_true hy))
      rw [if_pos hy]
      clear hy
      show Calls _ _ _ _ _
      go_enter Tryz.func242,Tryz.ntmps242
      go_wp2_with fail
      refine ((HS _).out).mono ?_
      rintro e w' ⟨rfl,rfl⟩
      go_wp2_with fail
      go_ret
      exact⟨by rfl,rfl⟩
    · have HS:=fun W=>Lib.hid (hasSuf_any x y false W (decide_eq_false hy))
      rw [if_neg hy]
      clear hy
      show Calls _ _ _ _ _
      go_enter Tryz.func242,Tryz.ntmps242
      go_wp2_with fail
      refine ((HS _).out).mono ?_
      rintro e w' ⟨rfl,rfl⟩
      go_wp2_with fail
      go_ret
      exact⟨by rfl,rfl⟩
  generalize (if y=48 then (⟨#[46,x]⟩:ByteArray) else ⟨#[46,x,y]⟩)=R at *
  go_enter Tryz.func239,Tryz.ntmps239
  go_wp2_with fail
  refine ((HT _).out).mono ?_
  rintro e w' ⟨rfl,rfl⟩
  go_wp2_with fail
  go_ret
  exact⟨rfl,rfl⟩
theorem clkTail_trim {n:Int} (h0:0 < n) (h9:n≤99):(if UInt8.ofNat (48+n % 10).toNat=48 then (⟨#[46,UInt8.ofNat (48+n / 10).toNat]⟩:ByteArray) else ⟨#[46,UInt8.ofNat (48+n / 10).toNat,UInt8.ofNat (48+n % 10).toNat]⟩)=toB (clkTail n):=by
  have e:=u8_of (n:=n % 10) (by omega) (by omega)
  have hn:clkTail n=if n % 10=0 then [46,UInt8.ofNat (48+n / 10).toNat] else 46 :: twoL n:=if_neg (by omega)
  rw [hn]
  clear hn
  by_cases h:n % 10=0
  · have e2:UInt8.ofNat (48+n % 10).toNat=48:=by rw [h];rfl
    rw [if_pos e2,if_pos h]
    rfl
  · have e2:¬ UInt8.ofNat (48+n % 10).toNat=48:=fun q=>by rw [q] at e;simp at e;omega
    rw [if_neg e2,if_neg h]
    rfl
theorem clk_no (b:Bool) (h m s c:Int) (w:World) (hb:clkB (b,h,m,s,c)=false):Calls Tryz.prog 231 #[clkV b h m s c] w fun e w'=>e=.returned (.tuple #[.string ByteArray.empty,.int .i64 5])∧Below w.heap.size w w':=by
  have HM:=fun W=>Lib.hid (cmay_any b h m s c W)
  rw [hb] at HM
  go_enter Tryz.func231,Tryz.ntmps231
  go_wp2_with fail
  refine ((HM _).out).mono ?_
  rintro e w1 ⟨rfl,hb1⟩
  go_wp2_with fail
  go_ret2
  exact⟨rfl,bthen (below_new _ _) hb1⟩
theorem clk_none (w:World):Calls Tryz.prog 231 #[clkV false 0 0 0 0] w fun e w'=>e=.returned (.tuple #[.string ByteArray.empty,.int .i64 0])∧Below w.heap.size w w':=by
  have HM:=fun W=>Lib.hid (cmay_any false 0 0 0 0 W)
  rw [show clkB (false,0,0,0,0)=true from rfl] at HM
  have HS:Hid ((w.alloc (.cells #[.bool false,.int .i64 0,.int .i64 0,.int .i64 0,.int .i64 0] 28)).cell? ⟨w.heap.size,0,none⟩=some (.bool false)):=World.cell?_alloc_at _ _ _ _ rfl
  go_enter Tryz.func231,Tryz.ntmps231
  go_wp2_with fail
  refine ((HM _).out).mono ?_
  rintro e w1 ⟨rfl,hb1⟩
  have c0:=((bcell hb1).1 w.heap.size 0 (by simp)).trans HS.out
  go_wp2_with fail
  go_ret2
  exact⟨rfl,bthen (below_new _ _) hb1⟩
set_option maxRecDepth 8000 in
set_option maxHeartbeats 4000000 in
theorem clk_ok (h m s c:Int) (w:World) (hb:clkB (true,h,m,s,c)=true):Calls Tryz.prog 231 #[clkV true h m s c] w fun e w'=>e=.returned (.tuple #[.string (toB (twoL h++twoL m++twoL s++clkTail c)),.int .i64 0])∧Below w.heap.size w w':=by
  have HM:=fun W=>Lib.hid (cmay_any true h m s c W)
  obtain⟨x1,x2,x3,x4,x5,x6,x7,x8⟩:=clkB_true hb
  rw [hb] at HM
  have H1:=fun W=>Lib.hid (ctwo_any h W x1 (by omega))
  have H2:=fun W=>Lib.hid (ctwo_any m W x3 (by omega))
  have H3:=fun W=>Lib.hid (ctwo_any s W x5 (by omega))
  have H4:=fun W=>Lib.hid (ctwo_any c W x7 x8)
  have HT:0 < c→∀ W,Hid (Calls Tryz.prog 239 #[.string (⟨#[46]⟩++toB (twoL c)),.string ⟨#[48]⟩] W fun e w'=>e=.returned (.string (toB (clkTail c)))∧W=w'):=fun hc W=>by
    have:=trimSuf_any (UInt8.ofNat (48+c / 10).toNat) (UInt8.ofNat (48+c % 10).toNat) W
    rw [clkTail_trim hc x8] at this
    exact this
  obtain⟨X,hX⟩:∃ X,toB (twoL h++twoL m++twoL s++clkTail c)=X:=⟨_,rfl⟩
  rw [hX]
  have HE:Hid (X=toB (twoL h)++toB (twoL m)++toB (twoL s)++toB (clkTail c)):=by
    show _=_
    rw [← hX,toB_app,toB_app,toB_app]
  have HC0:Hid (c=0→X=toB (twoL h)++toB (twoL m)++toB (twoL s)):=fun q=>by
    rw [← hX,← toB_app,← toB_app,q]
    show toB (_++[])=_
    rw [List.append_nil]
  have zA:(toB (twoL h)).size=2:=rfl
  have zB:(toB (twoL m)).size=2:=rfl
  have zC':(toB (twoL s)).size=2:=rfl
  have zD':(toB (twoL c)).size=2:=rfl
  have zT:(toB (clkTail c)).size≤3:=by
    unfold clkTail
    split
    · decide
    · split
      · show 2≤3;omega
      · show 3≤3;omega
  clear hb hX
  have HS:Hid (∀ o,(w.alloc (.cells #[.bool true,.int .i64 h,.int .i64 m,.int .i64 s,.int .i64 c] 28)).cell? ⟨w.heap.size,o,none⟩=(#[Value.bool true,.int .i64 h,.int .i64 m,.int .i64 s,.int .i64 c]:Array Value)[o]?):=fun o=>World.cell?_alloc_at _ _ _ _ rfl
  go_enter Tryz.func231,Tryz.ntmps231
  go_wp2_with fail
  refine ((HM _).out).mono ?_
  rintro e w1 ⟨rfl,hb1⟩
  have hz1:w.heap.size < w1.heap.size:=by have:=hb1.size;simp at this;omega
  have c0:=((bcell hb1).1 w.heap.size 0 (by simp)).trans (HS.out 0)
  have HC1:Hid (∀ o,w1.cell? ⟨w.heap.size,o,none⟩=(#[Value.bool true,.int .i64 h,.int .i64 m,.int .i64 s,.int .i64 c]:Array Value)[o]?):=fun o=>((bcell hb1).1 w.heap.size o (by simp)).trans (HS.out o)
  have HB1:=Lib.hid (bthen (below_new w _) hb1)
  have HZ1:=Lib.hid hz1
  clear hb1 hz1 HS HM
  go_wp2_with fail
  have HS0:Hid (w1.drew.cell? ⟨w.heap.size,1,none⟩=some (.int .i64 h)∧w1.drew.cell? ⟨w.heap.size,2,none⟩=some (.int .i64 m)∧w1.drew.cell? ⟨w.heap.size,3,none⟩=some (.int .i64 s)∧w1.drew.cell? ⟨w.heap.size,4,none⟩=some (.int .i64 c)∧Hid (Below w.heap.size w w1.drew)∧Hid (w.heap.size < w1.drew.heap.size)):=⟨HC1.out 1,HC1.out 2,HC1.out 3,HC1.out 4,bdrew HB1.out,HZ1.out⟩
  clear c0 HC1 HB1 HZ1
  go_region_held3 (fun w'=>w'.cell? ⟨w.heap.size,1,none⟩=some (.int .i64 h)∧w'.cell? ⟨w.heap.size,2,none⟩=some (.int .i64 m)∧w'.cell? ⟨w.heap.size,3,none⟩=some (.int .i64 s)∧w'.cell? ⟨w.heap.size,4,none⟩=some (.int .i64 c)∧Hid (Below w.heap.size w w')∧Hid (w.heap.size < w'.heap.size)) (first | exact HS0.out | assumption | (refine quadS_below (by assumption) ?_;assumption) | (go_split_ands;refine⟨?_,?_,?_,?_,?_,?_⟩ <;> assumption) | (go_split_ands;refine quadS_below (by assumption) ⟨?_,?_,?_,?_,?_,?_⟩ <;> assumption)) ((go_at_call 238;refine (ctwo_any _ _ (by omega) (by omega)).mono ?_;rintro e w9 ⟨rfl,hb9⟩))
  all_goals
    go_split_ands
    rename_i HB9 HZ9
    by_cases hc:0 < c
    · have HT':=HT hc
      clear HT HC0
      go_wp2_with fail
      refine ((H4 _).out).mono ?_
      rintro e w4 ⟨rfl,hb4⟩
      go_wp2_with fail
      refine ((HT' _).out).mono ?_
      rintro e w5 ⟨rfl,rfl⟩
      go_wp2_with fail
      go_ret2
      exact⟨by rw [HE.out];rfl,bthen HB9.out hb4⟩
    · have hc0:c=0:=by omega
      have HR:=Lib.hid (HC0.out hc0)
      clear HT HC0 HE zT H4
      subst hc0
      go_wp2_with fail
      go_ret2
      exact⟨by rw [HR.out];rfl,HB9.out⟩
theorem clkPut_any (b:Bool) (h m s c:Int) (w:World):Calls Tryz.prog 231 #[clkV b h m s c] w fun e w'=>e=.returned (.tuple #[.string (clkT (b,h,m,s,c)).1,.int .i64 (clkT (b,h,m,s,c)).2])∧Below w.heap.size w w':=by
  unfold clkT
  by_cases hb:clkB (b,h,m,s,c)=false
  · rw [if_pos hb];exact clk_no b h m s c w hb
  · rw [if_neg hb]
    have hb:clkB (b,h,m,s,c)=true:=by simpa using hb
    cases b with
    | false=>
      obtain⟨rfl,rfl,rfl,rfl⟩:=clkB_false hb
      rw [if_pos rfl]
      exact clk_none w
    | true=>
      rw [if_neg (by simp)]
      exact clk_ok h m s c w hb
theorem r24clk_no (b:Bool) (h m s c:Int) (w:World) (hb:clkB (b,h,m,s,c)=false):Calls Tryz.prog 162 #[clkV b h m s c] w fun e w'=>e=.returned (.tuple #[.string ByteArray.empty,.int .i64 5])∧Below w.heap.size w w':=by
  have HM:=fun W=>Lib.hid (r24May_any b h m s c W)
  rw [hb] at HM
  go_enter Tryz.func162,Tryz.ntmps162
  go_wp2_with fail
  refine ((HM _).out).mono ?_
  rintro e w1 ⟨rfl,hb1⟩
  go_wp2_with fail
  go_ret2
  exact⟨rfl,bthen (below_new _ _) hb1⟩
theorem r24clk_none (w:World):Calls Tryz.prog 162 #[clkV false 0 0 0 0] w fun e w'=>e=.returned (.tuple #[.string ByteArray.empty,.int .i64 0])∧Below w.heap.size w w':=by
  have HM:=fun W=>Lib.hid (r24May_any false 0 0 0 0 W)
  rw [show clkB (false,0,0,0,0)=true from rfl] at HM
  have HS:Hid ((w.alloc (.cells #[.bool false,.int .i64 0,.int .i64 0,.int .i64 0,.int .i64 0] 28)).cell? ⟨w.heap.size,0,none⟩=some (.bool false)):=World.cell?_alloc_at _ _ _ _ rfl
  go_enter Tryz.func162,Tryz.ntmps162
  go_wp2_with fail
  refine ((HM _).out).mono ?_
  rintro e w1 ⟨rfl,hb1⟩
  have c0:=((bcell hb1).1 w.heap.size 0 (by simp)).trans HS.out
  go_wp2_with fail
  go_ret2
  exact⟨rfl,bthen (below_new _ _) hb1⟩
theorem cat3 (a b c:ByteArray):a++b++c=a++(b++c):=by
  apply ByteArray.ext
  simp
set_option maxRecDepth 8000 in
set_option maxHeartbeats 4000000 in
theorem r24clk_ok (h m s c:Int) (w:World) (hb:clkB (true,h,m,s,c)=true):Calls Tryz.prog 162 #[clkV true h m s c] w fun e w'=>e=.returned (.tuple #[.string (toB (twoL h++twoL m++twoL s++clkTail c)),.int .i64 0])∧Below w.heap.size w w':=by
  have HM:=fun W=>Lib.hid (r24May_any true h m s c W)
  obtain⟨x1,x2,x3,x4,x5,x6,x7,x8⟩:=clkB_true hb
  rw [hb] at HM
  have H4:=fun W=>Lib.hid (r24two_any c W x7 x8)
  have H5:=fun W=>Lib.hid (r24one_any (c / 10) W (by omega) (by omega))
  obtain⟨X,hX⟩:∃ X,toB (twoL h++twoL m++twoL s++clkTail c)=X:=⟨_,rfl⟩
  rw [hX]
  have HC0:Hid (c=0→X=toB (twoL h)++toB (twoL m)++toB (twoL s)):=fun q=>by
    rw [← hX,← toB_app,← toB_app,q]
    show toB (_++[])=_
    rw [List.append_nil]
  have HC1:Hid (c≠0→c % 10=0→X=toB (twoL h)++toB (twoL m)++toB (twoL s)++⟨#[46]⟩++⟨#[UInt8.ofNat (48+c / 10).toNat]⟩):=fun q r=>by
    rw [← hX,← toB_app,← toB_app,toB_app _ (clkTail c),cat3 _ ⟨#[46]⟩]
    congr 1
    unfold clkTail
    rw [if_neg q,if_pos r]
    rfl
  have HC2:Hid (c≠0→c % 10≠0→X=toB (twoL h)++toB (twoL m)++toB (twoL s)++⟨#[46]⟩++toB (twoL c)):=fun q r=>by
    rw [← hX,← toB_app,← toB_app,toB_app _ (clkTail c),cat3 _ ⟨#[46]⟩]
    congr 1
    unfold clkTail
    rw [if_neg q,if_neg r]
    rfl
  have zA:(toB (twoL h)).size=2:=rfl
  have zB:(toB (twoL m)).size=2:=rfl
  have zC':(toB (twoL s)).size=2:=rfl
  have zD':(toB (twoL c)).size=2:=rfl
  have zE':(⟨#[UInt8.ofNat (48+c / 10).toNat]⟩:ByteArray).size=1:=rfl
  clear hb hX
  have HS:Hid (∀ o,(w.alloc (.cells #[.bool true,.int .i64 h,.int .i64 m,.int .i64 s,.int .i64 c] 28)).cell? ⟨w.heap.size,o,none⟩=(#[Value.bool true,.int .i64 h,.int .i64 m,.int .i64 s,.int .i64 c]:Array Value)[o]?):=fun o=>World.cell?_alloc_at _ _ _ _ rfl
  go_enter Tryz.func162,Tryz.ntmps162
  go_wp2_with fail
  refine ((HM _).out).mono ?_
  rintro e w1 ⟨rfl,hb1⟩
  have hz1:w.heap.size < w1.heap.size:=by have:=hb1.size;simp at this;omega
  have c0:=((bcell hb1).1 w.heap.size 0 (by simp)).trans (HS.out 0)
  have HC:Hid (∀ o,w1.cell? ⟨w.heap.size,o,none⟩=(#[Value.bool true,.int .i64 h,.int .i64 m,.int .i64 s,.int .i64 c]:Array Value)[o]?):=fun o=>((bcell hb1).1 w.heap.size o (by simp)).trans (HS.out o)
  have HB1:=Lib.hid (bthen (below_new w _) hb1)
  have HZ1:=Lib.hid hz1
  clear hb1 hz1 HS HM
  go_wp2_with fail
  have HS0:Hid (w1.drew.cell? ⟨w.heap.size,1,none⟩=some (.int .i64 h)∧w1.drew.cell? ⟨w.heap.size,2,none⟩=some (.int .i64 m)∧w1.drew.cell? ⟨w.heap.size,3,none⟩=some (.int .i64 s)∧w1.drew.cell? ⟨w.heap.size,4,none⟩=some (.int .i64 c)∧Hid (Below w.heap.size w w1.drew)∧Hid (w.heap.size < w1.drew.heap.size)):=⟨HC.out 1,HC.out 2,HC.out 3,HC.out 4,bdrew HB1.out,HZ1.out⟩
  clear c0 HC HB1 HZ1
  go_region_held3 (fun w'=>w'.cell? ⟨w.heap.size,1,none⟩=some (.int .i64 h)∧w'.cell? ⟨w.heap.size,2,none⟩=some (.int .i64 m)∧w'.cell? ⟨w.heap.size,3,none⟩=some (.int .i64 s)∧w'.cell? ⟨w.heap.size,4,none⟩=some (.int .i64 c)∧Hid (Below w.heap.size w w')∧Hid (w.heap.size < w'.heap.size)) (first | exact HS0.out | assumption | (refine quadS_below (by assumption) ?_;assumption) | (go_split_ands;refine⟨?_,?_,?_,?_,?_,?_⟩ <;> assumption) | (go_split_ands;refine quadS_below (by assumption) ⟨?_,?_,?_,?_,?_,?_⟩ <;> assumption)) ((go_at_call 166;refine (r24two_any _ _ (by omega) (by omega)).mono ?_;rintro e w9 ⟨rfl,hb9⟩))
  all_goals
    go_split_ands
    rename_i HB9 HZ9
    by_cases hc:c=0
    · have HR:=Lib.hid (HC0.out hc)
      clear HC0 HC1 HC2 H4 H5
      subst hc
      go_wp2_with fail
      go_ret2
      exact⟨by rw [HR.out];rfl,HB9.out⟩
    · have hcb:(c==0)=false:=by rw [beq_eq_false_iff_ne];exact hc
      by_cases hr:c % 10=0
      · have hrb:(c % 10==0)=true:=by rw [beq_iff_eq];exact hr
        have HR:=Lib.hid (HC1.out hc hr)
        clear hr hc HC0 HC1 HC2
        go_wp2_with fail
        refine ((H5 _).out).mono ?_
        rintro e w4 ⟨rfl,hb4⟩
        go_wp2_with fail
        go_ret2
        exact⟨by rw [HR.out];rfl,bthen HB9.out hb4⟩
      · have hrb:(c % 10==0)=false:=by rw [beq_eq_false_iff_ne];exact hr
        have HR:=Lib.hid (HC2.out hc hr)
        clear hr hc HC0 HC1 HC2
        go_wp2_with fail
        refine ((H4 _).out).mono ?_
        rintro e w4 ⟨rfl,hb4⟩
        go_wp2_with fail
        go_ret2
        exact⟨by rw [HR.out];rfl,bthen HB9.out hb4⟩
theorem r24Put_any (b:Bool) (h m s c:Int) (w:World):Calls Tryz.prog 162 #[clkV b h m s c] w fun e w'=>e=.returned (.tuple #[.string (clkT (b,h,m,s,c)).1,.int .i64 (clkT (b,h,m,s,c)).2])∧Below w.heap.size w w':=by
  unfold clkT
  by_cases hb:clkB (b,h,m,s,c)=false
  · rw [if_pos hb];exact r24clk_no b h m s c w hb
  · rw [if_neg hb]
    have hb:clkB (b,h,m,s,c)=true:=by simpa using hb
    cases b with
    | false=>
      obtain⟨rfl,rfl,rfl,rfl⟩:=clkB_false hb
      rw [if_pos rfl]
      exact r24clk_none w
    | true=>
      rw [if_neg (by simp)]
      exact r24clk_ok h m s c w hb
theorem dat_no (b:Bool) (d m y:Int) (w:World) (hb:datB (b,d,m,y)=false):Calls Tryz.prog 267 #[datV b d m y] w fun e w'=>e=.returned (.tuple #[.string ByteArray.empty,.int .i64 5])∧Below w.heap.size w w':=by
  have HM:=fun W=>Lib.hid (cmayDate_any b d m y W)
  rw [hb] at HM
  go_enter Tryz.func267,Tryz.ntmps267
  go_wp2_with fail
  refine ((HM _).out).mono ?_
  rintro e w1 ⟨rfl,hb1⟩
  go_wp2_with fail
  go_ret2
  exact⟨rfl,bthen (below_new _ _) hb1⟩
theorem dat_none (w:World):Calls Tryz.prog 267 #[datV false 0 0 0] w fun e w'=>e=.returned (.tuple #[.string ByteArray.empty,.int .i64 0])∧Below w.heap.size w w':=by
  have HM:=fun W=>Lib.hid (cmayDate_any false 0 0 0 W)
  rw [show datB (false,0,0,0)=true from rfl] at HM
  have HS:Hid ((w.alloc (.cells #[.bool false,.int .i64 0,.int .i64 0,.int .i64 0] 34)).cell? ⟨w.heap.size,0,none⟩=some (.bool false)):=World.cell?_alloc_at _ _ _ _ rfl
  go_enter Tryz.func267,Tryz.ntmps267
  go_wp2_with fail
  refine ((HM _).out).mono ?_
  rintro e w1 ⟨rfl,hb1⟩
  have c0:=((bcell hb1).1 w.heap.size 0 (by simp)).trans HS.out
  go_wp2_with fail
  go_ret2
  exact⟨rfl,bthen (below_new _ _) hb1⟩
set_option maxRecDepth 8000 in
set_option maxHeartbeats 4000000 in
theorem dat_ok (d m y:Int) (w:World) (hb:datB (true,d,m,y)=true):Calls Tryz.prog 267 #[datV true d m y] w fun e w'=>e=.returned (.tuple #[.string (toB (twoL d++twoL m++twoL (y - 2000))),.int .i64 0])∧Below w.heap.size w w':=by
  have HM:=fun W=>Lib.hid (cmayDate_any true d m y W)
  obtain⟨x1,x2⟩:1≤d∧d≤daysI m y:=of_decide_eq_true hb
  have q1:=days_le m y
  obtain⟨x3,x4,x5,x6⟩:=days_pos (show 1≤daysI m y by omega)
  have x7:d≤31:=by omega
  rw [hb] at HM
  obtain⟨X,hX⟩:∃ X,toB (twoL d++twoL m++twoL (y - 2000))=X:=⟨_,rfl⟩
  rw [hX]
  have HE:Hid (X=toB (twoL d)++toB (twoL m)++toB (twoL (y - 2000))):=by
    show _=_
    rw [← hX,toB_app,toB_app]
  have zA:(toB (twoL d)).size=2:=rfl
  have zB:(toB (twoL m)).size=2:=rfl
  have zC':(toB (twoL (y - 2000))).size=2:=rfl
  have hw:IntKind.i64.wrap (y - 2000)=y - 2000:=IntWalk.i64_in _ (by omega)
  clear hb x2 q1 hX
  have HS:Hid (∀ o,(w.alloc (.cells #[.bool true,.int .i64 d,.int .i64 m,.int .i64 y] 34)).cell? ⟨w.heap.size,o,none⟩=(#[Value.bool true,.int .i64 d,.int .i64 m,.int .i64 y]:Array Value)[o]?):=fun o=>World.cell?_alloc_at _ _ _ _ rfl
  go_enter Tryz.func267,Tryz.ntmps267
  go_wp2_with fail
  refine ((HM _).out).mono ?_
  rintro e w1 ⟨rfl,hb1⟩
  have hz1:w.heap.size < w1.heap.size:=by have:=hb1.size;simp at this;omega
  have c0:=((bcell hb1).1 w.heap.size 0 (by simp)).trans (HS.out 0)
  have HC:Hid (∀ o,w1.cell? ⟨w.heap.size,o,none⟩=(#[Value.bool true,.int .i64 d,.int .i64 m,.int .i64 y]:Array Value)[o]?):=fun o=>((bcell hb1).1 w.heap.size o (by simp)).trans (HS.out o)
  have HB1:=Lib.hid (bthen (below_new w _) hb1)
  have HZ1:=Lib.hid hz1
  clear hb1 hz1 HS HM
  go_wp2_with fail
  have HS0:Hid (w1.drew.cell? ⟨w.heap.size,1,none⟩=some (.int .i64 d)∧w1.drew.cell? ⟨w.heap.size,2,none⟩=some (.int .i64 m)∧w1.drew.cell? ⟨w.heap.size,3,none⟩=some (.int .i64 y)∧w1.drew.cell? ⟨w.heap.size,0,none⟩=some (.bool true)∧Hid (Below w.heap.size w w1.drew)∧Hid (w.heap.size < w1.drew.heap.size)):=⟨HC.out 1,HC.out 2,HC.out 3,HC.out 0,bdrew HB1.out,HZ1.out⟩
  clear c0 HC HB1 HZ1
  go_region_held3 (fun w'=>w'.cell? ⟨w.heap.size,1,none⟩=some (.int .i64 d)∧w'.cell? ⟨w.heap.size,2,none⟩=some (.int .i64 m)∧w'.cell? ⟨w.heap.size,3,none⟩=some (.int .i64 y)∧w'.cell? ⟨w.heap.size,0,none⟩=some (.bool true)∧Hid (Below w.heap.size w w')∧Hid (w.heap.size < w'.heap.size)) (first | exact HS0.out | assumption | (refine quadS_below (by assumption) ?_;assumption) | (go_split_ands;refine⟨?_,?_,?_,?_,?_,?_⟩ <;> assumption) | (go_split_ands;refine quadS_below (by assumption) ⟨?_,?_,?_,?_,?_,?_⟩ <;> assumption)) ((go_at_call 238;refine (ctwo_any _ _ (by omega) (by omega)).mono ?_;rintro e w9 ⟨rfl,hb9⟩))
  all_goals
    go_split_ands
    rename_i HB9 HZ9
    go_wp2_with fail
    go_ret2
    exact⟨by rw [HE.out];rfl,HB9.out⟩
theorem datPut_any (b:Bool) (d m y:Int) (w:World):Calls Tryz.prog 267 #[datV b d m y] w fun e w'=>e=.returned (.tuple #[.string (datT (b,d,m,y)).1,.int .i64 (datT (b,d,m,y)).2])∧Below w.heap.size w w':=by
  unfold datT
  by_cases hb:datB (b,d,m,y)=false
  · rw [if_pos hb];exact dat_no b d m y w hb
  · rw [if_neg hb]
    have hb:datB (b,d,m,y)=true:=by simpa using hb
    cases b with
    | false=>
      obtain⟨rfl,rfl,rfl⟩:d=0∧m=0∧y=0:=of_decide_eq_true hb
      rw [if_pos rfl]
      exact dat_none w
    | true=>
      rw [if_neg (by simp)]
      exact dat_ok d m y w hb
theorem r24dat_no (b:Bool) (d m y:Int) (w:World) (hb:datB (b,d,m,y)=false):Calls Tryz.prog 92 #[datV b d m y] w fun e w'=>e=.returned (.tuple #[.string ByteArray.empty,.int .i64 5])∧Below w.heap.size w w':=by
  have HM:=fun W=>Lib.hid (r24MayDate_any b d m y W)
  rw [hb] at HM
  go_enter Tryz.func92,Tryz.ntmps92
  go_wp2_with fail
  refine ((HM _).out).mono ?_
  rintro e w1 ⟨rfl,hb1⟩
  go_wp2_with fail
  go_ret2
  exact⟨rfl,bthen (below_new _ _) hb1⟩
theorem r24dat_none (w:World):Calls Tryz.prog 92 #[datV false 0 0 0] w fun e w'=>e=.returned (.tuple #[.string ByteArray.empty,.int .i64 0])∧Below w.heap.size w w':=by
  have HM:=fun W=>Lib.hid (r24MayDate_any false 0 0 0 W)
  rw [show datB (false,0,0,0)=true from rfl] at HM
  have HS:Hid ((w.alloc (.cells #[.bool false,.int .i64 0,.int .i64 0,.int .i64 0] 34)).cell? ⟨w.heap.size,0,none⟩=some (.bool false)):=World.cell?_alloc_at _ _ _ _ rfl
  go_enter Tryz.func92,Tryz.ntmps92
  go_wp2_with fail
  refine ((HM _).out).mono ?_
  rintro e w1 ⟨rfl,hb1⟩
  have c0:=((bcell hb1).1 w.heap.size 0 (by simp)).trans HS.out
  go_wp2_with fail
  go_ret2
  exact⟨rfl,bthen (below_new _ _) hb1⟩
set_option maxRecDepth 8000 in
set_option maxHeartbeats 4000000 in
theorem r24dat_ok (d m y:Int) (w:World) (hb:datB (true,d,m,y)=true):Calls Tryz.prog 92 #[datV true d m y] w fun e w'=>e=.returned (.tuple #[.string (toB (twoL d++twoL m++twoL (y - 2000))),.int .i64 0])∧Below w.heap.size w w':=by
  have HM:=fun W=>Lib.hid (r24MayDate_any true d m y W)
  obtain⟨x1,x2⟩:1≤d∧d≤daysI m y:=of_decide_eq_true hb
  have q1:=days_le m y
  obtain⟨x3,x4,x5,x6⟩:=days_pos (show 1≤daysI m y by omega)
  have x7:d≤31:=by omega
  rw [hb] at HM
  obtain⟨X,hX⟩:∃ X,toB (twoL d++twoL m++twoL (y - 2000))=X:=⟨_,rfl⟩
  rw [hX]
  have HE:Hid (X=toB (twoL d)++toB (twoL m)++toB (twoL (y - 2000))):=by
    show _=_
    rw [← hX,toB_app,toB_app]
  have zA:(toB (twoL d)).size=2:=rfl
  have zB:(toB (twoL m)).size=2:=rfl
  have zC':(toB (twoL (y - 2000))).size=2:=rfl
  have hw:IntKind.i64.wrap (y - 2000)=y - 2000:=IntWalk.i64_in _ (by omega)
  clear hb x2 q1 hX
  have HS:Hid (∀ o,(w.alloc (.cells #[.bool true,.int .i64 d,.int .i64 m,.int .i64 y] 34)).cell? ⟨w.heap.size,o,none⟩=(#[Value.bool true,.int .i64 d,.int .i64 m,.int .i64 y]:Array Value)[o]?):=fun o=>World.cell?_alloc_at _ _ _ _ rfl
  go_enter Tryz.func92,Tryz.ntmps92
  go_wp2_with fail
  refine ((HM _).out).mono ?_
  rintro e w1 ⟨rfl,hb1⟩
  have hz1:w.heap.size < w1.heap.size:=by have:=hb1.size;simp at this;omega
  have c0:=((bcell hb1).1 w.heap.size 0 (by simp)).trans (HS.out 0)
  have HC:Hid (∀ o,w1.cell? ⟨w.heap.size,o,none⟩=(#[Value.bool true,.int .i64 d,.int .i64 m,.int .i64 y]:Array Value)[o]?):=fun o=>((bcell hb1).1 w.heap.size o (by simp)).trans (HS.out o)
  have HB1:=Lib.hid (bthen (below_new w _) hb1)
  have HZ1:=Lib.hid hz1
  clear hb1 hz1 HS HM
  go_wp2_with fail
  have HS0:Hid (w1.drew.cell? ⟨w.heap.size,1,none⟩=some (.int .i64 d)∧w1.drew.cell? ⟨w.heap.size,2,none⟩=some (.int .i64 m)∧w1.drew.cell? ⟨w.heap.size,3,none⟩=some (.int .i64 y)∧w1.drew.cell? ⟨w.heap.size,0,none⟩=some (.bool true)∧Hid (Below w.heap.size w w1.drew)∧Hid (w.heap.size < w1.drew.heap.size)):=⟨HC.out 1,HC.out 2,HC.out 3,HC.out 0,bdrew HB1.out,HZ1.out⟩
  clear c0 HC HB1 HZ1
  go_region_held3 (fun w'=>w'.cell? ⟨w.heap.size,1,none⟩=some (.int .i64 d)∧w'.cell? ⟨w.heap.size,2,none⟩=some (.int .i64 m)∧w'.cell? ⟨w.heap.size,3,none⟩=some (.int .i64 y)∧w'.cell? ⟨w.heap.size,0,none⟩=some (.bool true)∧Hid (Below w.heap.size w w')∧Hid (w.heap.size < w'.heap.size)) (first | exact HS0.out | assumption | (refine quadS_below (by assumption) ?_;assumption) | (go_split_ands;refine⟨?_,?_,?_,?_,?_,?_⟩ <;> assumption) | (go_split_ands;refine quadS_below (by assumption) ⟨?_,?_,?_,?_,?_,?_⟩ <;> assumption)) ((go_at_call 166;refine (r24two_any _ _ (by omega) (by omega)).mono ?_;rintro e w9 ⟨rfl,hb9⟩))
  all_goals
    go_split_ands
    rename_i HB9 HZ9
    go_wp2_with fail
    go_ret2
    exact⟨by rw [HE.out];rfl,HB9.out⟩
theorem r24datPut_any (b:Bool) (d m y:Int) (w:World):Calls Tryz.prog 92 #[datV b d m y] w fun e w'=>e=.returned (.tuple #[.string (datT (b,d,m,y)).1,.int .i64 (datT (b,d,m,y)).2])∧Below w.heap.size w w':=by
  unfold datT
  by_cases hb:datB (b,d,m,y)=false
  · rw [if_pos hb];exact r24dat_no b d m y w hb
  · rw [if_neg hb]
    have hb:datB (b,d,m,y)=true:=by simpa using hb
    cases b with
    | false=>
      obtain⟨rfl,rfl,rfl⟩:d=0∧m=0∧y=0:=of_decide_eq_true hb
      rw [if_pos rfl]
      exact r24dat_none w
    | true=>
      rw [if_neg (by simp)]
      exact r24dat_ok d m y w hb
abbrev ggaC (cb:Bool) (ch:Int) (cm:Int) (cs:Int) (cc:Int) (lb:Bool) (ln:Int) (ob:Bool) (on:Int) (q:Int) (sb:Bool) (sn:Int) (hb:Bool) (hn:Int) (ab:Bool) (an:Int) (gb:Bool) (gn:Int) (eb:Bool) (en:Int) (tb:Bool) (tn:Int):Array Value:=#[.bool cb,.int .i64 ch,.int .i64 cm,.int .i64 cs,.int .i64 cc,.bool lb,.int .i64 ln,.bool ob,.int .i64 on,.int .i64 q,.bool sb,.int .i64 sn,.bool hb,.int .i64 hn,.bool ab,.int .i64 an,.bool gb,.int .i64 gn,.bool eb,.int .i64 en,.bool tb,.int .i64 tn]
abbrev ggaV (cb:Bool) (ch:Int) (cm:Int) (cs:Int) (cc:Int) (lb:Bool) (ln:Int) (ob:Bool) (on:Int) (q:Int) (sb:Bool) (sn:Int) (hb:Bool) (hn:Int) (ab:Bool) (an:Int) (gb:Bool) (gn:Int) (eb:Bool) (en:Int) (tb:Bool) (tn:Int):Value:=.agg (ggaC cb ch cm cs cc lb ln ob on q sb sn hb hn ab an gb gn eb en tb tn)
theorem ggasats_any (w:World):Calls Tryz.prog 100 #[] w fun e w'=>e=.returned (colV 1 2 0 0 99)∧Below w.heap.size w w':=by
  go_enter Tryz.func100,Tryz.ntmps100
  go_wp2
  refine bodyPost_ret (v:=colV 1 2 0 0 99) (by simp [results,Tryz.results100,go_sem]) rfl ⟨rfl,below_new _ _⟩
theorem ggahdop_any (w:World):Calls Tryz.prog 101 #[] w fun e w'=>e=.returned (colV 1 3 2 0 99999)∧Below w.heap.size w w':=by
  go_enter Tryz.func101,Tryz.ntmps101
  go_wp2
  refine bodyPost_ret (v:=colV 1 3 2 0 99999) (by simp [results,Tryz.results101,go_sem]) rfl ⟨rfl,below_new _ _⟩
theorem ggaalt_any (w:World):Calls Tryz.prog 102 #[] w fun e w'=>e=.returned (colV 1 6 1 (-9999999) 9999999)∧Below w.heap.size w w':=by
  go_enter Tryz.func102,Tryz.ntmps102
  go_wp2
  refine bodyPost_ret (v:=colV 1 6 1 (-9999999) 9999999) (by simp [results,Tryz.results102,go_sem]) rfl ⟨rfl,below_new _ _⟩
theorem ggageoid_any (w:World):Calls Tryz.prog 104 #[] w fun e w'=>e=.returned (colV 1 4 1 (-99999) 99999)∧Below w.heap.size w w':=by
  go_enter Tryz.func104,Tryz.ntmps104
  go_wp2
  refine bodyPost_ret (v:=colV 1 4 1 (-99999) 99999) (by simp [results,Tryz.results104,go_sem]) rfl ⟨rfl,below_new _ _⟩
theorem ggaage_any (w:World):Calls Tryz.prog 105 #[] w fun e w'=>e=.returned (colV 1 4 1 0 99999)∧Below w.heap.size w w':=by
  go_enter Tryz.func105,Tryz.ntmps105
  go_wp2
  refine bodyPost_ret (v:=colV 1 4 1 0 99999) (by simp [results,Tryz.results105,go_sem]) rfl ⟨rfl,below_new _ _⟩
theorem ggaat_any (w:World):Calls Tryz.prog 106 #[] w fun e w'=>e=.returned (colV 1 4 0 0 1023)∧Below w.heap.size w w':=by
  go_enter Tryz.func106,Tryz.ntmps106
  go_wp2
  refine bodyPost_ret (v:=colV 1 4 0 0 1023) (by simp [results,Tryz.results106,go_sem]) rfl ⟨rfl,below_new _ _⟩
abbrev colsF:Array Value:=#[.int .i64 1,.int .i64 2,.int .i64 0,.int .i64 0,.int .i64 99,.int .i64 1,.int .i64 3,.int .i64 2,.int .i64 0,.int .i64 99999,.int .i64 1,.int .i64 6,.int .i64 1,.int .i64 (-9999999),.int .i64 9999999,.int .i64 1,.int .i64 4,.int .i64 1,.int .i64 (-99999),.int .i64 99999,.int .i64 1,.int .i64 4,.int .i64 1,.int .i64 0,.int .i64 99999,.int .i64 1,.int .i64 4,.int .i64 0,.int .i64 0,.int .i64 1023]
theorem r25Cols_any (w:World):Calls Tryz.prog 50 #[] w fun e w'=>e=.returned (.slice (some ⟨w.heap.size,0,none⟩) 6 6)∧(∀ o,w'.cell? ⟨w.heap.size,o,none⟩=colsF[o]?)∧w'.heap.size=w.heap.size+1∧Below w.heap.size w w':=by
  go_enter Tryz.func50,Tryz.ntmps50
  go_wp2
  go_ret
  exact⟨rfl,fun o=>World.cell?_alloc_at _ _ _ _ rfl,by simp,below_new _ _⟩
theorem ggaquality_any (n:Int) (w:World):Calls Tryz.prog 232 #[.int .i64 n] w fun e w'=>e=.returned (.tuple #[.string (digS 0 8 n),.int .i64 (digE 0 8 n)])∧Below w.heap.size w w':=by
  by_cases h1:n < 0
  · have e1:digS 0 8 n=ByteArray.empty:=if_pos (.inl h1)
    have e2:digE 0 8 n=5:=if_pos (.inl h1)
    rw [e1,e2]
    clear e1 e2
    go_enter Tryz.func232,Tryz.ntmps232
    go_wp2
    go_ret2
    exact⟨rfl,Below.refl _ _⟩
  by_cases h2:8 < n
  · have e1:digS 0 8 n=ByteArray.empty:=if_pos (.inr h2)
    have e2:digE 0 8 n=5:=if_pos (.inr h2)
    rw [e1,e2]
    clear e1 e2
    go_enter Tryz.func232,Tryz.ntmps232
    go_wp2
    go_ret2
    exact⟨rfl,Below.refl _ _⟩
  · have e1:digS 0 8 n=digT n:=if_neg (by omega)
    have e2:digE 0 8 n=0:=if_neg (by omega)
    rw [e1,e2]
    clear e1 e2
    have i1:0≤n:=by omega
    have i2:n≤8:=by omega
    have kc:=run_conv1 (P:=Tryz.prog) 141 9 5 Tryz.underlying141 Tryz.underlying5 Tryz.underlying9
    clear h1 h2
    go_enter Tryz.func232,Tryz.ntmps232
    go_wp2
    all_goals go_ret2
    all_goals exact⟨rfl,below_new _ _⟩
theorem ggabehind_any (b:Bool) (n:Int) (w:World):Calls Tryz.prog 233 #[numV b n] w fun e w'=>e=.returned (.tuple #[.string (unitT b ⟨#[77]⟩),.int .i64 0])∧Below w.heap.size w w':=by
  cases b
  all_goals
    go_enter Tryz.func233,Tryz.ntmps233
    go_wp2
    go_ret2
    exact⟨rfl,below_new _ _⟩
theorem r25PutClock_any {S:Nat→Prop} {g:Nat} {s t:Rd} {b:Bool} {h m c e:Int} {w:World} (ht:Hid (wrClk (b,h,m,c,e) s=t)) (hp:RowI S g s w) (hl:s.2.length+2≤1000000) :
    Calls Tryz.prog 85 #[.pointer (some ⟨g,0,none⟩),clkV b h m c e] w (RowStep S g t w):=by
  have HC:=fun W=>Lib.hid (r24Put_any b h m c e W)
  have HT:∀ W,Below w.heap.size w W→Hid (Calls Tryz.prog 91 #[.pointer (some ⟨g,0,none⟩),.string (clkT (b,h,m,c,e)).1,.int .i64 (clkT (b,h,m,c,e)).2] W (RowStep S g t W)):=fun W hb=>rowText (S:=S) ht (hp.keep hb) hl
  have HBD:=Lib.hid hp.bd
  generalize (clkT (b,h,m,c,e)).1=X at *
  generalize (clkT (b,h,m,c,e)).2=E at *
  have HB0:=Lib.hid (below_new w (.cells #[.bool b,.int .i64 h,.int .i64 m,.int .i64 c,.int .i64 e] 28))
  clear hp
  go_enter Tryz.func85,Tryz.ntmps85
  go_wp2_with fail
  refine ((HC _).out).mono ?_
  rintro e w1 ⟨rfl,hb1⟩
  have HB1:=Lib.hid (bthen HB0.out hb1)
  clear hb1 HB0
  go_wp2_with fail
  refine ((HT _ HB1.out).out).mono ?_
  rintro e w2 ⟨rfl,hp2,hk2⟩
  have HF:Hid (RowI S g t w2∧Kept S g w w2):=⟨hp2,(Kept.of_below HB1.out HBD.out).trans hk2⟩
  clear hp2 hk2
  go_wp2_with fail
  go_end0
  exact⟨rfl,HF.out.1,HF.out.2⟩
end Go.Proofs.YtoabkoniegmkaaaGreat
