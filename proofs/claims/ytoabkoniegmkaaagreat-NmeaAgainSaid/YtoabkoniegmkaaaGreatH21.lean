/- Layer 24: times and dates, the reference's checks and what it puts. -/
import Derived.Test.YtoabkoniegmkaaaGreatH20
import Derived.Test.YtoabkoniegmkaaaGreatH01
namespace Go.Proofs.YtoabkoniegmkaaaGreat
set_option linter.unusedVariables false
open Go.RowKit
set_option linter.unusedSimpArgs false
theorem toB_app (a b:List UInt8):toB (a++b)=toB a++toB b:=by
  apply ByteArray.ext
  simp [toB]
theorem quadS_below {w0 W w':World} {g a b c d:Nat} {x y z u:Value} (hb:Below W.heap.size W w') (h:W.cell? ⟨g,a,none⟩=some x∧W.cell? ⟨g,b,none⟩=some y∧W.cell? ⟨g,c,none⟩=some z∧W.cell? ⟨g,d,none⟩=some u∧Hid (Below w0.heap.size w0 W)∧Hid (g < W.heap.size)) :
    w'.cell? ⟨g,a,none⟩=some x∧w'.cell? ⟨g,b,none⟩=some y∧w'.cell? ⟨g,c,none⟩=some z∧w'.cell? ⟨g,d,none⟩=some u∧Hid (Below w0.heap.size w0 w')∧Hid (g < w'.heap.size):=by
  obtain⟨h1,h2,h3,h6,h4,h5⟩:=h
  obtain⟨k,-⟩:=bcell hb
  exact⟨(k g a h5.out).trans h1,(k g b h5.out).trans h2,(k g c h5.out).trans h3,(k g d h5.out).trans h6,Lib.hid (bthen h4.out hb),Lib.hid (Nat.lt_of_lt_of_le h5.out hb.size)⟩
theorem hasSuf_any (x y:UInt8) (b:Bool) (w:World) (hb:decide (y=48)=b):Calls Tryz.prog 244 #[.string ⟨#[46,x,y]⟩,.string ⟨#[48]⟩] w fun e w'=>e=.returned (.bool b)∧w=w':=by
  have h1:(⟨#[46,x,y]⟩:ByteArray).size=3:=rfl
  have h2:(⟨#[48]⟩:ByteArray).size=1:=rfl
  have h3:(⟨#[46,x,y]⟩:ByteArray).extract 2 3=⟨#[y]⟩:=rfl
  have h4:((⟨#[y]⟩:ByteArray).toList==[48])=b:=by rw [ByteArray.toList_eq,← hb];simp;rfl
  have HB:=Lib.hid hb
  clear hb
  go_enter Tryz.func244,Tryz.ntmps244
  go_wp2
  go_ret
  exact⟨ret_bool (by rw [← HB.out];rfl),rfl⟩
theorem trimSuf_any (x y:UInt8) (w:World):Calls Tryz.prog 239 #[.string ⟨#[46,x,y]⟩,.string ⟨#[48]⟩] w fun e w'=>e=.returned (.string (if y=48 then ⟨#[46,x]⟩ else ⟨#[46,x,y]⟩))∧w=w':=by
  have h1:(⟨#[46,x,y]⟩:ByteArray).size=3:=rfl
  have h2:(⟨#[48]⟩:ByteArray).size=1:=rfl
  have h3:(⟨#[46,x,y]⟩:ByteArray).extract 0 2=⟨#[46,x]⟩:=rfl
  have HT:∀ W,Hid (Calls Tryz.prog 242 #[.string ⟨#[46,x,y]⟩,.string ⟨#[48]⟩] W fun e w'=>e=.returned (.string (if y=48 then ⟨#[46,x]⟩ else ⟨#[46,x,y]⟩))∧W=w'):=fun W=>by
    by_cases hy:y=48
    · have HS:=fun W=>Lib.hid (hasSuf_any x y true W (decide_eq_true hy))
      rw [if_pos hy]
      clear hy
      show Calls _ _ _ _ _
      go_enter Tryz.func242,Tryz.ntmps242
      go_wp2_with fail
      refine ((HS _).out).mono ?_
      rintro e w' ⟨rfl,rfl⟩
      go_wp2_with fail
      go_ret
      exact⟨by rfl,rfl⟩
    · have HS:=fun W=>Lib.hid (hasSuf_any x y false W (decide_eq_false hy))
      rw [if_neg hy]
      clear hy
      show Calls _ _ _ _ _
      go_enter Tryz.func242,Tryz.ntmps242
      go_wp2_with fail
      refine ((HS _).out).mono ?_
      rintro e w' ⟨rfl,rfl⟩
      go_wp2_with fail
      go_ret
      exact⟨by rfl,rfl⟩
  generalize (if y=48 then (⟨#[46,x]⟩:ByteArray) else ⟨#[46,x,y]⟩)=R at *
  go_enter Tryz.func239,Tryz.ntmps239
  go_wp2_with fail
  refine ((HT _).out).mono ?_
  rintro e w' ⟨rfl,rfl⟩
  go_wp2_with fail
  go_ret
  exact⟨rfl,rfl⟩
theorem clkTail_trim {n:Int} (h0:0 < n) (h9:n≤99):(if UInt8.ofNat (48+n % 10).toNat=48 then (⟨#[46,UInt8.ofNat (48+n / 10).toNat]⟩:ByteArray) else ⟨#[46,UInt8.ofNat (48+n / 10).toNat,UInt8.ofNat (48+n % 10).toNat]⟩)=toB (clkTail n):=by
  have e:=u8_of (n:=n % 10) (by omega) (by omega)
  have hn:clkTail n=if n % 10=0 then [46,UInt8.ofNat (48+n / 10).toNat] else 46 :: twoL n:=if_neg (by omega)
  rw [hn]
  clear hn
  by_cases h:n % 10=0
  · have e2:UInt8.ofNat (48+n % 10).toNat=48:=by rw [h];rfl
    rw [if_pos e2,if_pos h]
    rfl
  · have e2:¬ UInt8.ofNat (48+n % 10).toNat=48:=fun q=>by rw [q] at e;simp at e;omega
    rw [if_neg e2,if_neg h]
    rfl
theorem clk_no (b:Bool) (h m s c:Int) (w:World) (hb:clkB (b,h,m,s,c)=false):Calls Tryz.prog 231 #[clkV b h m s c] w fun e w'=>e=.returned (.tuple #[.string ByteArray.empty,.int .i64 5])∧Below w.heap.size w w':=by
  have HM:=fun W=>Lib.hid (cmay_any b h m s c W)
  rw [hb] at HM
  go_enter Tryz.func231,Tryz.ntmps231
  go_wp2_with fail
  refine ((HM _).out).mono ?_
  rintro e w1 ⟨rfl,hb1⟩
  go_wp2_with fail
  go_ret2
  exact⟨rfl,bthen (below_new _ _) hb1⟩
theorem clk_none (w:World):Calls Tryz.prog 231 #[clkV false 0 0 0 0] w fun e w'=>e=.returned (.tuple #[.string ByteArray.empty,.int .i64 0])∧Below w.heap.size w w':=by
  have HM:=fun W=>Lib.hid (cmay_any false 0 0 0 0 W)
  rw [show clkB (false,0,0,0,0)=true from rfl] at HM
  have HS:Hid ((w.alloc (.cells #[.bool false,.int .i64 0,.int .i64 0,.int .i64 0,.int .i64 0] 28)).cell? ⟨w.heap.size,0,none⟩=some (.bool false)):=World.cell?_alloc_at _ _ _ _ rfl
  go_enter Tryz.func231,Tryz.ntmps231
  go_wp2_with fail
  refine ((HM _).out).mono ?_
  rintro e w1 ⟨rfl,hb1⟩
  have c0:=((bcell hb1).1 w.heap.size 0 (by simp)).trans HS.out
  go_wp2_with fail
  go_ret2
  exact⟨rfl,bthen (below_new _ _) hb1⟩
set_option maxRecDepth 8000 in
set_option maxHeartbeats 4000000 in
theorem clk_ok (h m s c:Int) (w:World) (hb:clkB (true,h,m,s,c)=true):Calls Tryz.prog 231 #[clkV true h m s c] w fun e w'=>e=.returned (.tuple #[.string (toB (twoL h++twoL m++twoL s++clkTail c)),.int .i64 0])∧Below w.heap.size w w':=by
  have HM:=fun W=>Lib.hid (cmay_any true h m s c W)
  obtain⟨x1,x2,x3,x4,x5,x6,x7,x8⟩:=clkB_true hb
  rw [hb] at HM
  have H1:=fun W=>Lib.hid (ctwo_any h W x1 (by omega))
  have H2:=fun W=>Lib.hid (ctwo_any m W x3 (by omega))
  have H3:=fun W=>Lib.hid (ctwo_any s W x5 (by omega))
  have H4:=fun W=>Lib.hid (ctwo_any c W x7 x8)
  have HT:0 < c→∀ W,Hid (Calls Tryz.prog 239 #[.string (⟨#[46]⟩++toB (twoL c)),.string ⟨#[48]⟩] W fun e w'=>e=.returned (.string (toB (clkTail c)))∧W=w'):=fun hc W=>by
    have:=trimSuf_any (UInt8.ofNat (48+c / 10).toNat) (UInt8.ofNat (48+c % 10).toNat) W
    rw [clkTail_trim hc x8] at this
    exact this
  obtain⟨X,hX⟩:∃ X,toB (twoL h++twoL m++twoL s++clkTail c)=X:=⟨_,rfl⟩
  rw [hX]
  have HE:Hid (X=toB (twoL h)++toB (twoL m)++toB (twoL s)++toB (clkTail c)):=by
    show _=_
    rw [← hX,toB_app,toB_app,toB_app]
  have HC0:Hid (c=0→X=toB (twoL h)++toB (twoL m)++toB (twoL s)):=fun q=>by
    rw [← hX,← toB_app,← toB_app,q]
    show toB (_++[])=_
    rw [List.append_nil]
  have zA:(toB (twoL h)).size=2:=rfl
  have zB:(toB (twoL m)).size=2:=rfl
  have zC':(toB (twoL s)).size=2:=rfl
  have zD':(toB (twoL c)).size=2:=rfl
  have zT:(toB (clkTail c)).size≤3:=by
    unfold clkTail
    split
    · decide
    · split
      · show 2≤3;omega
      · show 3≤3;omega
  clear hb hX
  have HS:Hid (∀ o,(w.alloc (.cells #[.bool true,.int .i64 h,.int .i64 m,.int .i64 s,.int .i64 c] 28)).cell? ⟨w.heap.size,o,none⟩=(#[Value.bool true,.int .i64 h,.int .i64 m,.int .i64 s,.int .i64 c]:Array Value)[o]?):=fun o=>World.cell?_alloc_at _ _ _ _ rfl
  go_enter Tryz.func231,Tryz.ntmps231
  go_wp2_with fail
  refine ((HM _).out).mono ?_
  rintro e w1 ⟨rfl,hb1⟩
  have hz1:w.heap.size < w1.heap.size:=by have:=hb1.size;simp at this;omega
  have c0:=((bcell hb1).1 w.heap.size 0 (by simp)).trans (HS.out 0)
  have HC1:Hid (∀ o,w1.cell? ⟨w.heap.size,o,none⟩=(#[Value.bool true,.int .i64 h,.int .i64 m,.int .i64 s,.int .i64 c]:Array Value)[o]?):=fun o=>((bcell hb1).1 w.heap.size o (by simp)).trans (HS.out o)
  have HB1:=Lib.hid (bthen (below_new w _) hb1)
  have HZ1:=Lib.hid hz1
  clear hb1 hz1 HS HM
  go_wp2_with fail
  have HS0:Hid (w1.drew.cell? ⟨w.heap.size,1,none⟩=some (.int .i64 h)∧w1.drew.cell? ⟨w.heap.size,2,none⟩=some (.int .i64 m)∧w1.drew.cell? ⟨w.heap.size,3,none⟩=some (.int .i64 s)∧w1.drew.cell? ⟨w.heap.size,4,none⟩=some (.int .i64 c)∧Hid (Below w.heap.size w w1.drew)∧Hid (w.heap.size < w1.drew.heap.size)):=⟨HC1.out 1,HC1.out 2,HC1.out 3,HC1.out 4,bdrew HB1.out,HZ1.out⟩
  clear c0 HC1 HB1 HZ1
  go_region_held3 (fun w'=>w'.cell? ⟨w.heap.size,1,none⟩=some (.int .i64 h)∧w'.cell? ⟨w.heap.size,2,none⟩=some (.int .i64 m)∧w'.cell? ⟨w.heap.size,3,none⟩=some (.int .i64 s)∧w'.cell? ⟨w.heap.size,4,none⟩=some (.int .i64 c)∧Hid (Below w.heap.size w w')∧Hid (w.heap.size < w'.heap.size)) (first | exact HS0.out | assumption | (refine quadS_below (by assumption) ?_;assumption) | (go_split_ands;refine⟨?_,?_,?_,?_,?_,?_⟩ <;> assumption) | (go_split_ands;refine quadS_below (by assumption) ⟨?_,?_,?_,?_,?_,?_⟩ <;> assumption)) ((go_at_call 238;refine (ctwo_any _ _ (by omega) (by omega)).mono ?_;rintro e w9 ⟨rfl,hb9⟩))
  all_goals
    go_split_ands
    rename_i HB9 HZ9
    by_cases hc:0 < c
    · have HT':=HT hc
      clear HT HC0
      go_wp2_with fail
      refine ((H4 _).out).mono ?_
      rintro e w4 ⟨rfl,hb4⟩
      go_wp2_with fail
      refine ((HT' _).out).mono ?_
      rintro e w5 ⟨rfl,rfl⟩
      go_wp2_with fail
      go_ret2
      exact⟨by rw [HE.out];rfl,bthen HB9.out hb4⟩
    · have hc0:c=0:=by omega
      have HR:=Lib.hid (HC0.out hc0)
      clear HT HC0 HE zT H4
      subst hc0
      go_wp2_with fail
      go_ret2
      exact⟨by rw [HR.out];rfl,HB9.out⟩
theorem clkPut_any (b:Bool) (h m s c:Int) (w:World):Calls Tryz.prog 231 #[clkV b h m s c] w fun e w'=>e=.returned (.tuple #[.string (clkT (b,h,m,s,c)).1,.int .i64 (clkT (b,h,m,s,c)).2])∧Below w.heap.size w w':=by
  unfold clkT
  by_cases hb:clkB (b,h,m,s,c)=false
  · rw [if_pos hb];exact clk_no b h m s c w hb
  · rw [if_neg hb]
    have hb:clkB (b,h,m,s,c)=true:=by simpa using hb
    cases b with
    | false=>
      obtain⟨rfl,rfl,rfl,rfl⟩:=clkB_false hb
      rw [if_pos rfl]
      exact clk_none w
    | true=>
      rw [if_neg (by simp)]
      exact clk_ok h m s c w hb
theorem dat_no (b:Bool) (d m y:Int) (w:World) (hb:datB (b,d,m,y)=false):Calls Tryz.prog 267 #[datV b d m y] w fun e w'=>e=.returned (.tuple #[.string ByteArray.empty,.int .i64 5])∧Below w.heap.size w w':=by
  have HM:=fun W=>Lib.hid (cmayDate_any b d m y W)
  rw [hb] at HM
  go_enter Tryz.func267,Tryz.ntmps267
  go_wp2_with fail
  refine ((HM _).out).mono ?_
  rintro e w1 ⟨rfl,hb1⟩
  go_wp2_with fail
  go_ret2
  exact⟨rfl,bthen (below_new _ _) hb1⟩
theorem dat_none (w:World):Calls Tryz.prog 267 #[datV false 0 0 0] w fun e w'=>e=.returned (.tuple #[.string ByteArray.empty,.int .i64 0])∧Below w.heap.size w w':=by
  have HM:=fun W=>Lib.hid (cmayDate_any false 0 0 0 W)
  rw [show datB (false,0,0,0)=true from rfl] at HM
  have HS:Hid ((w.alloc (.cells #[.bool false,.int .i64 0,.int .i64 0,.int .i64 0] 34)).cell? ⟨w.heap.size,0,none⟩=some (.bool false)):=World.cell?_alloc_at _ _ _ _ rfl
  go_enter Tryz.func267,Tryz.ntmps267
  go_wp2_with fail
  refine ((HM _).out).mono ?_
  rintro e w1 ⟨rfl,hb1⟩
  have c0:=((bcell hb1).1 w.heap.size 0 (by simp)).trans HS.out
  go_wp2_with fail
  go_ret2
  exact⟨rfl,bthen (below_new _ _) hb1⟩
set_option maxRecDepth 8000 in
set_option maxHeartbeats 4000000 in
theorem dat_ok (d m y:Int) (w:World) (hb:datB (true,d,m,y)=true):Calls Tryz.prog 267 #[datV true d m y] w fun e w'=>e=.returned (.tuple #[.string (toB (twoL d++twoL m++twoL (y - 2000))),.int .i64 0])∧Below w.heap.size w w':=by
  have HM:=fun W=>Lib.hid (cmayDate_any true d m y W)
  obtain⟨x1,x2⟩:1≤d∧d≤daysI m y:=of_decide_eq_true hb
  have q1:=days_le m y
  obtain⟨x3,x4,x5,x6⟩:=days_pos (show 1≤daysI m y by omega)
  have x7:d≤31:=by omega
  rw [hb] at HM
  obtain⟨X,hX⟩:∃ X,toB (twoL d++twoL m++twoL (y - 2000))=X:=⟨_,rfl⟩
  rw [hX]
  have HE:Hid (X=toB (twoL d)++toB (twoL m)++toB (twoL (y - 2000))):=by
    show _=_
    rw [← hX,toB_app,toB_app]
  have zA:(toB (twoL d)).size=2:=rfl
  have zB:(toB (twoL m)).size=2:=rfl
  have zC':(toB (twoL (y - 2000))).size=2:=rfl
  have hw:IntKind.i64.wrap (y - 2000)=y - 2000:=IntWalk.i64_in _ (by omega)
  clear hb x2 q1 hX
  have HS:Hid (∀ o,(w.alloc (.cells #[.bool true,.int .i64 d,.int .i64 m,.int .i64 y] 34)).cell? ⟨w.heap.size,o,none⟩=(#[Value.bool true,.int .i64 d,.int .i64 m,.int .i64 y]:Array Value)[o]?):=fun o=>World.cell?_alloc_at _ _ _ _ rfl
  go_enter Tryz.func267,Tryz.ntmps267
  go_wp2_with fail
  refine ((HM _).out).mono ?_
  rintro e w1 ⟨rfl,hb1⟩
  have hz1:w.heap.size < w1.heap.size:=by have:=hb1.size;simp at this;omega
  have c0:=((bcell hb1).1 w.heap.size 0 (by simp)).trans (HS.out 0)
  have HC:Hid (∀ o,w1.cell? ⟨w.heap.size,o,none⟩=(#[Value.bool true,.int .i64 d,.int .i64 m,.int .i64 y]:Array Value)[o]?):=fun o=>((bcell hb1).1 w.heap.size o (by simp)).trans (HS.out o)
  have HB1:=Lib.hid (bthen (below_new w _) hb1)
  have HZ1:=Lib.hid hz1
  clear hb1 hz1 HS HM
  go_wp2_with fail
  have HS0:Hid (w1.drew.cell? ⟨w.heap.size,1,none⟩=some (.int .i64 d)∧w1.drew.cell? ⟨w.heap.size,2,none⟩=some (.int .i64 m)∧w1.drew.cell? ⟨w.heap.size,3,none⟩=some (.int .i64 y)∧w1.drew.cell? ⟨w.heap.size,0,none⟩=some (.bool true)∧Hid (Below w.heap.size w w1.drew)∧Hid (w.heap.size < w1.drew.heap.size)):=⟨HC.out 1,HC.out 2,HC.out 3,HC.out 0,bdrew HB1.out,HZ1.out⟩
  clear c0 HC HB1 HZ1
  go_region_held3 (fun w'=>w'.cell? ⟨w.heap.size,1,none⟩=some (.int .i64 d)∧w'.cell? ⟨w.heap.size,2,none⟩=some (.int .i64 m)∧w'.cell? ⟨w.heap.size,3,none⟩=some (.int .i64 y)∧w'.cell? ⟨w.heap.size,0,none⟩=some (.bool true)∧Hid (Below w.heap.size w w')∧Hid (w.heap.size < w'.heap.size)) (first | exact HS0.out | assumption | (refine quadS_below (by assumption) ?_;assumption) | (go_split_ands;refine⟨?_,?_,?_,?_,?_,?_⟩ <;> assumption) | (go_split_ands;refine quadS_below (by assumption) ⟨?_,?_,?_,?_,?_,?_⟩ <;> assumption)) ((go_at_call 238;refine (ctwo_any _ _ (by omega) (by omega)).mono ?_;rintro e w9 ⟨rfl,hb9⟩))
  all_goals
    go_split_ands
    rename_i HB9 HZ9
    go_wp2_with fail
    go_ret2
    exact⟨by rw [HE.out];rfl,HB9.out⟩
theorem datPut_any (b:Bool) (d m y:Int) (w:World):Calls Tryz.prog 267 #[datV b d m y] w fun e w'=>e=.returned (.tuple #[.string (datT (b,d,m,y)).1,.int .i64 (datT (b,d,m,y)).2])∧Below w.heap.size w w':=by
  unfold datT
  by_cases hb:datB (b,d,m,y)=false
  · rw [if_pos hb];exact dat_no b d m y w hb
  · rw [if_neg hb]
    have hb:datB (b,d,m,y)=true:=by simpa using hb
    cases b with
    | false=>
      obtain⟨rfl,rfl,rfl⟩:d=0∧m=0∧y=0:=of_decide_eq_true hb
      rw [if_pos rfl]
      exact dat_none w
    | true=>
      rw [if_neg (by simp)]
      exact dat_ok d m y w hb
end Go.Proofs.YtoabkoniegmkaaaGreat
