/- Times and dates in sentences, plain (layer 24). -/
import Derived.Test.YtoabkoniegmkaaaGreatJ00
import Derived.Test.YtoabkoniegmkaaaGreatJ08
namespace Go.Proofs.YtoabkoniegmkaaaGreat
set_option linter.unusedVariables false
open Go.RowKit
def digB (c:UInt8):Bool:=decide (48≤c.toNat) && decide (c.toNat≤57)
def twoL (n:Int):List UInt8:=[UInt8.ofNat (48+n / 10).toNat,UInt8.ofNat (48+n % 10).toNat]
def numP (a b:UInt8):Int:=10 * ((a.toNat:Int) - 48)+((b.toNat:Int) - 48)
def threeL:List UInt8→Option (Int×Int×Int)
  | [a,b,c,d,e,f]=>if digB a && digB b && digB c && digB d && digB e && digB f then some (numP a b,numP c d,numP e f) else none
  | _=>none
def behindL:List UInt8→Option Int
  | []=>some 0
  | [p,a]=>if p=46∧digB a=true then some (10 * ((a.toNat:Int) - 48)) else none
  | [p,a,b]=>if p=46∧digB a=true∧digB b=true then some (numP a b) else none
  | _=>none
abbrev Clk:=Bool×Int×Int×Int×Int
abbrev Dat:=Bool×Int×Int×Int
def zC:Clk:=(false,0,0,0,0)
def zD:Dat:=(false,0,0,0)
def clkB (c:Clk):Bool:=if c.1=true then decide (0≤c.2.1∧c.2.1≤23∧0≤c.2.2.1∧c.2.2.1≤59∧0≤c.2.2.2.1∧c.2.2.2.1≤59∧0≤c.2.2.2.2∧c.2.2.2.2≤99) else decide (c.2.1=0∧c.2.2.1=0∧c.2.2.2.1=0∧c.2.2.2.2=0)
def clkTail (n:Int):List UInt8:=if n=0 then [] else if n % 10=0 then [46,UInt8.ofNat (48+n / 10).toNat] else 46 :: twoL n
def clkT (c:Clk):ByteArray×Int:=
  if clkB c=false then (ByteArray.empty,5) else if c.1=false then (ByteArray.empty,0) else (toB (twoL c.2.1++twoL c.2.2.1++twoL c.2.2.2.1++clkTail c.2.2.2.2),0)
def takeClk (l:List UInt8):Clk×Int:=
  if l=[] then (zC,0) else match threeL (l.take 6),behindL (l.drop 6) with
  | some (h,m,s),some c=>if clkB (true,h,m,s,c)=true then ((true,h,m,s,c),0) else (zC,5)
  | _,_=>(zC,3)
def leapI (y:Int):Int:=if y % 4=0 then 1 else 0
def daysI (m y:Int):Int:=if m < 1∨12 < m∨y < 2000∨2099 < y then 0 else if m=2 then 28+leapI y else if m=4∨m=6∨m=9∨m=11 then 30 else 31
def tableI (m:Int):Int:=if m=1 then 0 else if m=2 then 31 else if m=3 then 59 else if m=4 then 90 else if m=5 then 120 else if m=6 then 151 else if m=7 then 181 else if m=8 then 212 else if m=9 then 243 else if m=10 then 273 else if m=11 then 304 else if m=12 then 334 else 365
def aheadI (m y:Int):Int:=tableI m+if 2 < m then leapI y else 0
def datB (d:Dat):Bool:=if d.1=true then decide (1≤d.2.1∧d.2.1≤daysI d.2.2.1 d.2.2.2) else decide (d.2.1=0∧d.2.2.1=0∧d.2.2.2=0)
def datT (d:Dat):ByteArray×Int:=
  if datB d=false then (ByteArray.empty,5) else if d.1=false then (ByteArray.empty,0) else (toB (twoL d.2.1++twoL d.2.2.1++twoL (d.2.2.2 - 2000)),0)
def takeDat (l:List UInt8):Dat×Int:=
  if l=[] then (zD,0) else match threeL l with
  | some (a,b,c)=>if datB (true,a,b,2000+c)=true then ((true,a,b,2000+c),0) else (zD,5)
  | none=>(zD,3)
theorem ahead_succ {m y:Int} (h1:1≤m) (h2:m≤12) (h3:2000≤y) (h4:y≤2099):aheadI (m+1) y=aheadI m y+daysI m y:=by
  unfold aheadI daysI tableI
  rw [if_neg (by omega)]
  rcases (by omega:m=1∨m=2∨m=3∨m=4∨m=5∨m=6∨m=7∨m=8∨m=9∨m=10∨m=11∨m=12) with rfl | rfl | rfl | rfl | rfl | rfl | rfl | rfl | rfl | rfl | rfl | rfl <;> simp <;> omega
theorem leap_01 (y:Int):leapI y=0∨leapI y=1:=by unfold leapI;split <;> simp
theorem days_le (m y:Int):0≤daysI m y∧daysI m y≤31:=by
  have:=leap_01 y
  unfold daysI
  split
  · omega
  · split
    · omega
    · split <;> omega
theorem days_pos {m y:Int} (h:1≤daysI m y):1≤m∧m≤12∧2000≤y∧y≤2099:=by
  unfold daysI at h
  by_cases q:m < 1∨12 < m∨y < 2000∨2099 < y
  · rw [if_pos q] at h;omega
  · omega
theorem u8_of {n:Int} (h0:0≤n) (h1:n≤9):(UInt8.ofNat (48+n).toNat).toNat=48+n.toNat:=by
  simp
  omega
theorem two_back {n:Int} (h0:0≤n) (h1:n≤99):digB (UInt8.ofNat (48+n / 10).toNat)=true∧digB (UInt8.ofNat (48+n % 10).toNat)=true∧numP (UInt8.ofNat (48+n / 10).toNat) (UInt8.ofNat (48+n % 10).toNat)=n:=by
  have e1:=u8_of (n:=n / 10) (by omega) (by omega)
  have e2:=u8_of (n:=n % 10) (by omega) (by omega)
  unfold digB numP
  rw [e1,e2]
  refine⟨by simp;omega,by simp;omega,by omega⟩
theorem numP_le {a b:UInt8} (ha:digB a=true) (hb:digB b=true):0≤numP a b∧numP a b≤99:=by
  unfold digB at ha hb
  simp only [Bool.and_eq_true,decide_eq_true_eq] at ha hb
  unfold numP
  omega
theorem threeL_two {a b c:Int} (a0:0≤a) (a1:a≤99) (b0:0≤b) (b1:b≤99) (c0:0≤c) (c1:c≤99):threeL (twoL a++twoL b++twoL c)=some (a,b,c):=by
  obtain⟨x1,x2,x3⟩:=two_back a0 a1
  obtain⟨y1,y2,y3⟩:=two_back b0 b1
  obtain⟨z1,z2,z3⟩:=two_back c0 c1
  show (if _ then _ else _)=_
  rw [x1,x2,y1,y2,z1,z2,x3,y3,z3]
  rfl
theorem behindL_tail {n:Int} (h0:0≤n) (h1:n≤99):behindL (clkTail n)=some n:=by
  unfold clkTail
  split
  · next q=>rw [q];rfl
  · split
    · next q=>
      obtain⟨x1,-,-⟩:=two_back h0 h1
      have e1:=u8_of (n:=n / 10) (by omega) (by omega)
      show (if _ then _ else _)=_
      rw [if_pos ⟨rfl,x1⟩,e1]
      congr 1
      omega
    · obtain⟨x1,x2,x3⟩:=two_back h0 h1
      show (if _ then _ else _)=_
      rw [if_pos ⟨rfl,x1,x2⟩,x3]
theorem clkB_true {h m s c:Int} (q:clkB (true,h,m,s,c)=true):0≤h∧h≤23∧0≤m∧m≤59∧0≤s∧s≤59∧0≤c∧c≤99:=of_decide_eq_true q
theorem clkB_false {h m s c:Int} (q:clkB (false,h,m,s,c)=true):h=0∧m=0∧s=0∧c=0:=of_decide_eq_true q
theorem clk_put_take {c:Clk} (h:(clkT c).2=0):takeClk (clkT c).1.data.toList=(c,0):=by
  obtain⟨b,h',m,s,e⟩:=c
  unfold clkT at h ⊢
  by_cases hb:clkB (b,h',m,s,e)=false
  · rw [if_pos hb] at h;exact absurd h (by decide)
  rw [if_neg hb] at h ⊢
  have hb:clkB (b,h',m,s,e)=true:=by simpa using hb
  cases b with
  | false=>
    obtain⟨rfl,rfl,rfl,rfl⟩:=clkB_false hb
    rfl
  | true=>
    obtain⟨x1,x2,x3,x4,x5,x6,x7,x8⟩:=clkB_true hb
    have e1:=threeL_two x1 (show h'≤99 by omega) x3 (show m≤99 by omega) x5 (show s≤99 by omega)
    have e2:=behindL_tail x7 x8
    show takeClk (twoL h'++twoL m++twoL s++clkTail e)=_
    unfold takeClk
    rw [if_neg (by simp [twoL])]
    have t1:(twoL h'++twoL m++twoL s++clkTail e).take 6=twoL h'++twoL m++twoL s:=List.take_left' (by rfl)
    have t2:(twoL h'++twoL m++twoL s++clkTail e).drop 6=clkTail e:=List.drop_left' (by rfl)
    rw [t1,t2,e1,e2]
    simp only
    rw [if_pos hb]
theorem behindL_le {l:List UInt8} {n:Int} (h:behindL l=some n):0≤n∧n≤99∧(clkTail n).length≤l.length:=by
  unfold behindL at h
  split at h
  · injection h with h;subst h;simp [clkTail]
  · next p a=>
    split at h
    · next q=>
      injection h with h
      have q2:=q.2
      unfold digB at q2
      simp only [Bool.and_eq_true,decide_eq_true_eq] at q2
      refine⟨by omega,by omega,?_⟩
      unfold clkTail
      split
      · simp
      · rw [if_pos (by omega)];simp
    · cases h
  · next p a b=>
    split at h
    · next q=>
      injection h with h
      have:=numP_le q.2.1 q.2.2
      refine⟨by omega,by omega,?_⟩
      unfold clkTail twoL
      split
      · simp
      · split <;> simp
    · cases h
  · cases h
theorem threeL_le {l:List UInt8} {a b c:Int} (h:threeL l=some (a,b,c)):l.length=6∧0≤a∧a≤99∧0≤b∧b≤99∧0≤c∧c≤99:=by
  unfold threeL at h
  split at h
  · split at h
    · next q=>
      simp only [Bool.and_eq_true] at q
      obtain⟨⟨⟨⟨⟨q1,q2⟩,q3⟩,q4⟩,q5⟩,q6⟩:=q
      have h1:=numP_le q1 q2
      have h2:=numP_le q3 q4
      have h3:=numP_le q5 q6
      injection h with h
      injection h with e1 h
      injection h with e2 e3
      subst e1 e2 e3
      exact⟨rfl,h1.1,h1.2,h2.1,h2.2,h3.1,h3.2⟩
    · cases h
  · cases h
theorem clk_take_put {l:List UInt8} (h:(takeClk l).2=0):(clkT (takeClk l).1).2=0∧(clkT (takeClk l).1).1.size≤l.length:=by
  unfold takeClk at h ⊢
  by_cases hl:l=[]
  · subst hl;exact⟨rfl,by decide⟩
  rw [if_neg hl] at h ⊢
  cases h1:threeL (l.take 6) with
  | none=>rw [h1] at h;exact absurd h (by simp)
  | some x=>
    obtain⟨a,b,c⟩:=x
    rw [h1] at h
    cases h2:behindL (l.drop 6) with
    | none=>rw [h2] at h;exact absurd h (by simp)
    | some n=>
      rw [h2] at h
      simp only at h ⊢
      by_cases hb:clkB (true,a,b,c,n)=true
      · rw [if_pos hb]
        have l1:=(threeL_le h1).1
        have l2:=(behindL_le h2).2.2
        unfold clkT
        rw [if_neg (by rw [hb];decide),if_neg (by simp)]
        refine⟨rfl,?_⟩
        show (twoL a++twoL b++twoL c++clkTail n).toArray.size≤_
        rw [List.length_take] at l1
        rw [List.length_drop] at l2
        simp [twoL]
        omega
      · rw [if_neg hb] at h
        exact absurd h (by decide)
theorem dat_put_take {d:Dat} (h:(datT d).2=0):takeDat (datT d).1.data.toList=(d,0):=by
  obtain⟨b,x,m,y⟩:=d
  unfold datT at h ⊢
  by_cases hb:datB (b,x,m,y)=false
  · rw [if_pos hb] at h;exact absurd h (by decide)
  rw [if_neg hb] at h ⊢
  have hb:datB (b,x,m,y)=true:=by simpa using hb
  cases b with
  | false=>
    obtain⟨rfl,rfl,rfl⟩:x=0∧m=0∧y=0:=of_decide_eq_true hb
    rfl
  | true=>
    obtain⟨x1,x2⟩:1≤x∧x≤daysI m y:=of_decide_eq_true hb
    have d1:=days_le m y
    have d2:=days_pos (show 1≤daysI m y by omega)
    have e1:=threeL_two (show 0≤x by omega) (show x≤99 by omega) (show 0≤m by omega) (show m≤99 by omega) (show 0≤y - 2000 by omega) (show y - 2000≤99 by omega)
    show takeDat (twoL x++twoL m++twoL (y - 2000))=_
    unfold takeDat
    rw [if_neg (by simp [twoL]),e1]
    simp only
    rw [show 2000+(y - 2000)=y by omega,if_pos hb]
theorem dat_take_put {l:List UInt8} (h:(takeDat l).2=0):(datT (takeDat l).1).2=0∧(datT (takeDat l).1).1.size≤l.length:=by
  unfold takeDat at h ⊢
  by_cases hl:l=[]
  · subst hl;exact⟨rfl,by decide⟩
  rw [if_neg hl] at h ⊢
  cases h1:threeL l with
  | none=>rw [h1] at h;exact absurd h (by decide)
  | some x=>
    obtain⟨a,b,c⟩:=x
    rw [h1] at h
    simp only at h ⊢
    by_cases hb:datB (true,a,b,2000+c)=true
    · rw [if_pos hb]
      have l1:=(threeL_le h1).1
      unfold datT
      rw [if_neg (by rw [hb];decide),if_neg (by simp)]
      refine⟨rfl,?_⟩
      show (twoL a++twoL b++twoL (2000+c - 2000)).toArray.size≤_
      simp [twoL]
      omega
    · rw [if_neg hb] at h
      exact absurd h (by decide)
def rdClk (s:Rd):Clk×Rd:=((takeClk (rdText s).1.data.toList).1,rdFail (takeClk (rdText s).1.data.toList).2 (rdText s).2)
def rdDat (s:Rd):Dat×Rd:=((takeDat (rdText s).1.data.toList).1,rdFail (takeDat (rdText s).1.data.toList).2 (rdText s).2)
def wrClk (c:Clk) (s:Rd):Rd:=wrText (clkT c).1 (clkT c).2 s
def wrDat (d:Dat) (s:Rd):Rd:=wrText (datT d).1 (datT d).2 s
def rdAng (lat:Bool) (s:Rd):(Bool×Int)×Rd:=
  (((takeAng (s.2.headD ByteArray.empty).data.toList (s.2.tail.headD ByteArray.empty) lat).1,(takeAng (s.2.headD ByteArray.empty).data.toList (s.2.tail.headD ByteArray.empty) lat).2.1),
    (firstE (textE (textE s.1 s.2) s.2.tail) (takeAng (s.2.headD ByteArray.empty).data.toList (s.2.tail.headD ByteArray.empty) lat).2.2,s.2.tail.tail))
def wrAng (lat:Bool) (n:Bool×Int) (s:Rd):Rd:=(firstE s.1 (angN n.1 n.2 lat).2.2,s.2++[(angN n.1 n.2 lat).1,(angN n.1 n.2 lat).2.1])
theorem penAng {S:Nat→Prop} {g:Nat} {s t:Rd} {w:World} {lat b:Bool} {n:Int} (ht:Hid (wrAng lat (b,n) s=t)) (hp:PenI S g s w) (hl:s.2.length+2≤1000000) :
    Calls Tryz.prog 229 #[.pointer (some ⟨g,0,none⟩),numV b n,.bool lat] w (PenStep S g t w):=by
  have ht:=ht.out
  subst ht
  obtain⟨v,h1,h3,h4⟩:=hp
  exact (PenAngle_any g s.1 v s.2 b n lat w h1 hl).mono fun r w' h=>PenI.post h3 h4 h
theorem rowAng {S:Nat→Prop} {g:Nat} {s t:Rd} {w:World} {lat b:Bool} {n:Int} (ht:Hid (wrAng lat (b,n) s=t)) (hp:RowI S g s w) (hl:s.2.length+2≤1000000) :
    Calls Tryz.prog 86 #[.pointer (some ⟨g,0,none⟩),numV b n,.bool lat] w (RowStep S g t w):=by
  have ht:=ht.out
  subst ht
  obtain⟨v,h1,h3,h4⟩:=hp
  exact (RowAngle_any g s.1 v s.2 b n lat w h1 hl).mono fun r w' h=>RowI.post h3 h4 h
theorem eyeAng {g:Nat} {s t:Rd} {w:World} {lat b:Bool} {n:Int} (ht:Hid (rdAng lat s=((b,n),t))) (hp:EyeI g s w) :
    Calls Tryz.prog 97 #[.pointer (some ⟨g,0,none⟩),.bool lat] w (EyeStep g (numV b n) t w):=by
  have ht:=ht.out
  have hg:=hp.lt
  obtain⟨Q,h1,h2,h3⟩:=hp
  injection ht with e1 e2
  injection e1 with e3 e4
  subst e2 e3 e4
  exact (EyeAngle_any g s.1 s.2 lat w h1 (fun b q=>Nat.lt_trans (h2 b q) hg) hg (headD_small h3)).mono fun r w' h=>EyeI.post (s:=(rdAng lat s).2) h2 (tail_small (tail_small h3)) h
theorem wrAng_len {lat:Bool} {n:Bool×Int} {s:Rd}:(wrAng lat n s).2.length=s.2.length+2:=by unfold wrAng;simp
structure Codec {α:Type} (rd:Rd→α×Rd) (wr:α→Rd→Rd) (k:Nat):Prop where
  put:∀ a s,(wr a s).1=0→s.1=0∧∃ T:List ByteArray,T.length=k∧(∀ l,wr a (0,l)=(0,l++T))∧wr a s=(0,s.2++T)∧∀ R,rd (0,T++R)=(a,(0,R))
  take:∀ s,(rd s).2.1=0→s.1=0∧∃ T R a T',s.2=T++R∧T.length=k∧rd s=(a,(0,R))∧T'.length=k∧(∀ l,wr a (0,l)=(0,l++T'))∧NoLonger T' T∧∀ R,rd (0,T'++R)=(a,(0,R))
def seqR {α β:Type} (f:Rd→α×Rd) (g:Rd→β×Rd) (s:Rd):(α×β)×Rd:=(((f s).1,(g (f s).2).1),(g (f s).2).2)
def seqW {α β:Type} (f:α→Rd→Rd) (g:β→Rd→Rd) (x:α×β) (s:Rd):Rd:=g x.2 (f x.1 s)
theorem Codec.seq {α β:Type} {f:Rd→α×Rd} {g:Rd→β×Rd} {F:α→Rd→Rd} {G:β→Rd→Rd} {k j:Nat} (h1:Codec f F k) (h2:Codec g G j):Codec (seqR f g) (seqW F G) (k+j) where
  put:=fun a s h=>by
    obtain⟨a,b⟩:=a
    obtain⟨e1,T,e2,e3,e4,e5⟩:=h2.put b (F a s) h
    obtain⟨d1,U,d2,d3,d4,d5⟩:=h1.put a s e1
    refine⟨d1,U++T,by simp [d2,e2],fun l=>?_,?_,fun R=>?_⟩
    · show G b (F a (0,l))=_
      rw [d3,e3,List.append_assoc]
    · show G b (F a s)=_
      rw [e4,d4,List.append_assoc]
    · show (((f (0,U++T++R)).1,(g (f (0,U++T++R)).2).1),(g (f (0,U++T++R)).2).2)=_
      rw [List.append_assoc,d5,e5]
  take:=fun s h=>by
    obtain⟨e1,T,R,b,T',e2,e3,e4,e5,e6,e7,e8⟩:=h2.take (f s).2 h
    obtain⟨d1,U,R1,a,U',d2,d3,d4,d5,d6,d7,d8⟩:=h1.take s e1
    rw [d4] at e2 e4
    simp only at e2
    subst e2
    refine⟨d1,U++T,R,(a,b),U'++T',by rw [d2,List.append_assoc],by simp [d3,e3],?_,by simp [d5,e5],fun l=>?_,d7.append (by omega) e7,fun R=>?_⟩
    · show (((f s).1,(g (f s).2).1),(g (f s).2).2)=_
      rw [d4,e4]
    · show G b (F a (0,l))=_
      rw [d6,e6,List.append_assoc]
    · show (((f (0,U'++T'++R)).1,(g (f (0,U'++T'++R)).2).1),(g (f (0,U'++T'++R)).2).2)=_
      rw [List.append_assoc,d8,e8]
theorem NoLonger.one {t u:ByteArray} (h:t.size≤u.size):NoLonger [t] [u]:=NoLonger.cons h (NoLonger.nil _)
theorem Codec.num {M F L H:Int}:Codec (rdNum 1 M F L H) (wrNum 1 M F L H) 1 where
  put:=fun n s h=>by
    obtain⟨e1,t,e2,e3,e4⟩:=wrNum_ok h
    exact⟨e1,[t],rfl,e2,e3,fun R=>e4 R⟩
  take:=fun s h=>by
    obtain⟨e1,t,R,n,e2,e3,t',e4,e5,e6⟩:=rdNum_ok h
    exact⟨e1,[t],R,n,[t'],e2,rfl,e3,rfl,e4,NoLonger.one (e5 rfl),fun R=>e6 R⟩
theorem Codec.col (k:Cl) (hk:k.W=1):Codec (rdCol k) (wrCol k) 2 where
  put:=fun n s h=>by
    obtain⟨e1,t,u,e2,e3,e4⟩:=wrCol_ok h
    exact⟨e1,[t,u],rfl,e2,e3,fun R=>e4 R⟩
  take:=fun s h=>by
    obtain⟨e1,t,u,R,n,e2,e3,t',u',e4,e5,e6,e7⟩:=rdCol_ok h
    exact⟨e1,[t,u],R,n,[t',u'],e2,rfl,e3,rfl,e4,NoLonger.cons (e5 hk) (NoLonger.one e6),fun R=>e7 R⟩
theorem Codec.dig {lo hi:Int} (h0:0≤lo) (h9:hi≤9):Codec (rdDig lo hi) (wrDig lo hi) 1 where
  put:=fun n s h=>by
    obtain⟨e1,-,-,e2,e3,e4⟩:=wrDig_ok h0 h9 h
    exact⟨e1,[digT n],rfl,e2,e3,fun R=>e4 R⟩
  take:=fun s h=>by
    obtain⟨e1,t,R,n,e2,e3,-,-,e4,e5,e6⟩:=rdDig_ok h0 h9 h
    exact⟨e1,[t],R,n,[digT n],e2,rfl,e3,rfl,e5,NoLonger.one (by rw [digT_size,e4];exact Nat.le_refl _),fun R=>e6 R⟩
theorem Codec.ang (lat:Bool):Codec (rdAng lat) (wrAng lat) 2 where
  put:=fun n s h=>by
    obtain⟨b,n⟩:=n
    obtain⟨h1,h2⟩:=firstE_zero h
    have hp:=ang_take h2
    simp only at h2 hp
    refine⟨h1,[(angN b n lat).1,(angN b n lat).2.1],rfl,fun l=>?_,?_,fun R=>?_⟩
    · unfold wrAng;simp only;rw [h2];rfl
    · unfold wrAng;simp only;rw [h2,h1];rfl
    · unfold rdAng
      simp only [List.cons_append,List.nil_append,List.headD_cons,List.tail_cons,textE_cons,hp]
      rfl
  take:=fun s h=>by
    obtain⟨h1,h2⟩:=firstE_zero h
    obtain⟨h3,u,R,h4⟩:=textE_zero h1
    obtain⟨h5,t,R1,h6⟩:=textE_zero h3
    obtain⟨e,l⟩:=s
    simp only at h4 h5 h6
    subst h5 h6
    simp only [List.tail_cons] at h4
    subst h4
    simp only [List.headD_cons,List.tail_cons] at h2
    have hT:takeAng t.data.toList u lat=((takeAng t.data.toList u lat).1,(takeAng t.data.toList u lat).2.1,0):=by rw [← h2]
    obtain⟨t',u',h7,h8,h9⟩:=takeAng_put hT
    have h10:takeAng t'.data.toList u' lat=((takeAng t.data.toList u lat).1,(takeAng t.data.toList u lat).2.1,0):=by
      have:=ang_take (b:=(takeAng t.data.toList u lat).1) (n:=(takeAng t.data.toList u lat).2.1) (lat:=lat) (by rw [h7])
      rw [h7] at this
      exact this
    refine⟨rfl,[t,u],R,((takeAng t.data.toList u lat).1,(takeAng t.data.toList u lat).2.1),[t',u'],rfl,rfl,?_,rfl,fun l=>?_,NoLonger.cons ?_ (NoLonger.one ?_),fun R=>?_⟩
    · unfold rdAng
      simp only [List.headD_cons,List.tail_cons,h2,textE_cons]
      rfl
    · unfold wrAng
      simp only
      rw [h7]
      rfl
    · exact h8
    · exact h9
    · unfold rdAng
      simp only [List.cons_append,List.nil_append,List.headD_cons,List.tail_cons,textE_cons,h10]
      rfl
theorem Codec.text {α:Type} {tk:List UInt8→α×Int} {pt:α→ByteArray×Int} (h1:∀ a,(pt a).2=0→tk (pt a).1.data.toList=(a,0)) (h2:∀ l,(tk l).2=0→(pt (tk l).1).2=0∧(pt (tk l).1).1.size≤l.length) :
    Codec (fun s=>((tk (rdText s).1.data.toList).1,rdFail (tk (rdText s).1.data.toList).2 (rdText s).2)) (fun a s=>wrText (pt a).1 (pt a).2 s) 1 where
  put:=fun a s h=>by
    obtain⟨e1,e2⟩:=firstE_zero h
    have e3:=h1 a e2
    refine⟨e1,[(pt a).1],rfl,fun l=>?_,?_,fun R=>?_⟩
    · show wrText _ _ _=_
      rw [e2];rfl
    · show wrText _ _ _=_
      rw [e2];unfold wrText;rw [e1];rfl
    · show ((tk (rdText (0,(pt a).1 :: R)).1.data.toList).1,rdFail (tk (rdText (0,(pt a).1 :: R)).1.data.toList).2 (rdText (0,(pt a).1 :: R)).2)=_
      rw [rdText_cons,e3]
      rfl
  take:=fun s h=>by
    obtain⟨e1,e2⟩:=firstE_zero h
    obtain⟨e3,t,R,e4⟩:=textE_zero e1
    obtain⟨e,l⟩:=s
    simp only at e3 e4
    subst e3 e4
    rw [rdText_cons] at e2
    simp only at e2
    obtain⟨d1,d2⟩:=h2 _ e2
    have d3:=h1 _ d1
    refine⟨rfl,[t],R,(tk t.data.toList).1,[(pt (tk t.data.toList).1).1],rfl,rfl,?_,rfl,fun l=>?_,NoLonger.one (by simpa using d2),fun R=>?_⟩
    · show ((tk (rdText (0,t :: R)).1.data.toList).1,rdFail (tk (rdText (0,t :: R)).1.data.toList).2 (rdText (0,t :: R)).2)=_
      rw [rdText_cons]
      simp only
      rw [e2]
      rfl
    · show wrText _ _ _=_
      rw [d1];rfl
    · show ((tk (rdText (0,(pt (tk t.data.toList).1).1 :: R)).1.data.toList).1,rdFail (tk (rdText (0,(pt (tk t.data.toList).1).1 :: R)).1.data.toList).2 (rdText (0,(pt (tk t.data.toList).1).1 :: R)).2)=_
      rw [rdText_cons]
      simp only
      rw [d3]
      rfl
theorem Codec.clk:Codec rdClk wrClk 1:=Codec.text (fun _ h=>clk_put_take h) (fun _ h=>clk_take_put h)
theorem Codec.dat:Codec rdDat wrDat 1:=Codec.text (fun _ h=>dat_put_take h) (fun _ h=>dat_take_put h)
theorem Codec.message {α:Type} {rd:Rd→α×Rd} {wr:α→Rd→Rd} {k:Nat} (h:Codec rd wr k) {a:α} (ha:(wrDone (wr a (0,[]))).2=0):(wrDone (wr a (0,[]))).1.length=k∧rd (0,(wrDone (wr a (0,[]))).1)=(a,(0,[])):=by
  obtain⟨-,T,e1,e2,-,e3⟩:=h.put a (0,[]) ha
  have e4:=e3 []
  rw [List.append_nil] at e4
  rw [e2]
  exact⟨e1,e4⟩
abbrev N2:=Bool×Int
def zN:N2:=(false,0)
abbrev GgaT:=Clk×N2×N2×Int×N2×N2×N2×N2×N2×N2
def altK:Cl:=⟨1,6,1,-9999999,9999999,⟨#[77]⟩⟩
def geoK:Cl:=⟨1,4,1,-99999,99999,⟨#[77]⟩⟩
def ggaR:Rd→GgaT×Rd:=seqR rdClk (seqR (rdAng true) (seqR (rdAng false) (seqR (rdDig 0 8) (seqR (rdNum 1 2 0 0 99) (seqR (rdNum 1 3 2 0 99999) (seqR (rdCol altK) (seqR (rdCol geoK) (seqR (rdNum 1 4 1 0 99999) (rdNum 1 4 0 0 1023)))))))))
def ggaW:GgaT→Rd→Rd:=seqW wrClk (seqW (wrAng true) (seqW (wrAng false) (seqW (wrDig 0 8) (seqW (wrNum 1 2 0 0 99) (seqW (wrNum 1 3 2 0 99999) (seqW (wrCol altK) (seqW (wrCol geoK) (seqW (wrNum 1 4 1 0 99999) (wrNum 1 4 0 0 1023)))))))))
theorem Codec.gga:Codec ggaR ggaW 14:=
  Codec.clk.seq ((Codec.ang true).seq ((Codec.ang false).seq ((Codec.dig (by omega) (by omega)).seq (Codec.num.seq (Codec.num.seq ((Codec.col altK rfl).seq ((Codec.col geoK rfl).seq (Codec.num.seq Codec.num))))))))
def zeroF:GgaT:=(zC,zN,zN,0,zN,zN,zN,zN,zN,zN)
def putGga (g:GgaT):List ByteArray×Int:=wrDone (ggaW g (0,[]))
def takeGga (R:List ByteArray):GgaT×Int:=if R.length≠14 then (zeroF,3) else if (ggaR (0,R)).2.1=0 then ((ggaR (0,R)).1,0) else (zeroF,(ggaR (0,R)).2.1)
theorem gga_put_take {g:GgaT} (h:(putGga g).2=0):takeGga (putGga g).1=(g,0)∧(putGga g).1.length=14:=by
  obtain⟨h1,h2⟩:=Codec.gga.message h
  refine⟨?_,h1⟩
  unfold takeGga
  rw [if_neg (fun q=>q h1)]
  have h3:ggaR (0,(putGga g).1)=(g,(0,[])):=h2
  rw [h3]
  rfl
def stT (a:Bool):ByteArray:=if a=true then ⟨#[65]⟩ else ⟨#[86]⟩
def rdSt (s:Rd):Bool×Rd:=(decide ((rdText s).1=⟨#[65]⟩),if (rdText s).1≠⟨#[65]⟩∧(rdText s).1≠⟨#[86]⟩ then rdFail 3 (rdText s).2 else (rdText s).2)
def wrSt (a:Bool) (s:Rd):Rd:=wrText (stT a) 0 s
theorem stT_size (a:Bool):(stT a).size=1:=by cases a <;> rfl
theorem rdSt_put (a:Bool) (R:List ByteArray):rdSt (0,stT a :: R)=(a,(0,R)):=by
  unfold rdSt
  rw [rdText_cons]
  cases a
  · show (decide ((⟨#[86]⟩:ByteArray)=⟨#[65]⟩),if (⟨#[86]⟩:ByteArray)≠⟨#[65]⟩∧(⟨#[86]⟩:ByteArray)≠⟨#[86]⟩ then rdFail 3 (0,R) else (0,R))=_
    rw [if_neg (fun q=>q.2 rfl),decide_eq_false (by decide)]
  · show (decide ((⟨#[65]⟩:ByteArray)=⟨#[65]⟩),if (⟨#[65]⟩:ByteArray)≠⟨#[65]⟩∧(⟨#[65]⟩:ByteArray)≠⟨#[86]⟩ then rdFail 3 (0,R) else (0,R))=_
    rw [if_neg (fun q=>q.1 rfl),decide_eq_true rfl]
theorem Codec.st:Codec rdSt wrSt 1 where
  put:=fun a s h=>by
    obtain⟨e1,-⟩:=firstE_zero h
    exact⟨e1,[stT a],rfl,fun l=>rfl,by unfold wrSt wrText;rw [e1];rfl,fun R=>rdSt_put a R⟩
  take:=fun s h=>by
    obtain⟨e,l⟩:=s
    by_cases hq:(rdText (e,l)).1≠⟨#[65]⟩∧(rdText (e,l)).1≠⟨#[86]⟩
    · unfold rdSt at h
      rw [if_pos hq] at h
      exact absurd (firstE_zero h).2 (by decide)
    · have hr:rdSt (e,l)=(decide ((rdText (e,l)).1=⟨#[65]⟩),(rdText (e,l)).2):=by unfold rdSt;rw [if_neg hq]
      rw [hr] at h
      obtain⟨h1,t,R,h2⟩:=textE_zero h
      simp only at h1 h2
      subst h1 h2
      rw [rdText_cons] at hq hr
      simp only at hq hr
      have ht:t.size=1:=by
        by_cases h3:t=⟨#[65]⟩
        · rw [h3];rfl
        · by_cases h4:t=⟨#[86]⟩
          · rw [h4];rfl
          · exact absurd ⟨h3,h4⟩ hq
      exact⟨rfl,[t],R,_,[stT _],rfl,rfl,hr,rfl,fun l=>rfl,NoLonger.one (by rw [stT_size,ht];exact Nat.le_refl _),fun R=>rdSt_put _ R⟩
def eT:ByteArray:=⟨#[69]⟩
def wT:ByteArray:=⟨#[87]⟩
def sideT (v:N2):ByteArray:=if v.1=false∨v.2 < -1800 then ByteArray.empty else if v.2 < 0 then wT else eT
def farN (v:N2):N2:=if v.1=false∨v.2 < -1800 then v else if v.2 < 0 then (true,-v.2) else v
def wrVar (v:N2) (s:Rd):Rd:=wrText (sideT v) 0 (wrNum 1 3 1 0 1800 (farN v) s)
def sidedR (n:N2) (d:ByteArray) (s:Rd):N2×Rd:=
  if (n.1=true∧d≠eT∧d≠wT)∨(n.1=false∧d≠ByteArray.empty) then (n,rdFail 3 s) else if d=wT then ((n.1,-n.2),s) else (n,s)
def rdVar (s:Rd):N2×Rd:=sidedR (rdNum 1 3 1 0 1800 s).1 (rdText (rdNum 1 3 1 0 1800 s).2).1 (rdText (rdNum 1 3 1 0 1800 s).2).2
theorem sidedR_put (v:N2) (s:Rd) (h:v.1=true→-1800≤v.2):sidedR (farN v) (sideT v) s=(v,s):=by
  obtain⟨b,n⟩:=v
  cases b with
  | false=>
    have e1:farN (false,n)=(false,n):=if_pos (.inl rfl)
    have e2:sideT (false,n)=ByteArray.empty:=if_pos (.inl rfl)
    rw [e1,e2]
    unfold sidedR
    rw [if_neg (by simp),if_neg (by decide)]
  | true=>
    have h:=h rfl
    simp only at h
    by_cases hn:n < 0
    · have e1:farN (true,n)=(true,-n):=by unfold farN;rw [if_neg (by simp;omega),if_pos hn]
      have e2:sideT (true,n)=wT:=by unfold sideT;rw [if_neg (by simp;omega),if_pos hn]
      rw [e1,e2]
      unfold sidedR
      rw [if_neg (by simp),if_pos rfl]
      simp
    · have e1:farN (true,n)=(true,n):=by unfold farN;rw [if_neg (by simp;omega),if_neg hn]
      have e2:sideT (true,n)=eT:=by unfold sideT;rw [if_neg (by simp;omega),if_neg hn]
      rw [e1,e2]
      unfold sidedR
      rw [if_neg (by simp),if_neg (by decide)]
theorem putN_fits {b:Bool} {n W M F L H:Int} (h:(putN b n W M F L H).2=0):fitsB b n L H=true:=by
  unfold putN at h
  split at h
  · exact absurd h (by decide)
  · split at h
    · exact absurd h (by decide)
    · next q=>simpa using q
theorem farN_fits {v:N2} (h:fitsB (farN v).1 (farN v).2 0 1800=true):v.1=true→-1800≤v.2:=by
  intro hv
  by_cases q:v.2 < -1800
  · have e1:farN v=v:=if_pos (.inr q)
    rw [e1,hv] at h
    have:=of_decide_eq_true h
    omega
  · omega
theorem sideT_size (v:N2):(sideT v).size≤1:=by
  unfold sideT
  split
  · decide
  · split <;> decide
theorem Codec.var:Codec rdVar wrVar 2 where
  put:=fun v s h=>by
    obtain⟨e1,-⟩:=firstE_zero h
    obtain⟨e2,t,e3,e4,e5⟩:=wrNum_ok e1
    have e6:=farN_fits (putN_fits (firstE_zero e1).2)
    refine⟨e2,[t,sideT v],rfl,fun l=>?_,?_,fun R=>?_⟩
    · unfold wrVar;rw [e3];simp [wrText,firstE]
    · unfold wrVar;rw [e4];simp [wrText,firstE]
    · unfold rdVar
      rw [show [t,sideT v]++R=t :: sideT v :: R from rfl,e5]
      simp only
      rw [rdText_cons]
      exact sidedR_put v _ e6
  take:=fun s h=>by
    by_cases hq:((rdNum 1 3 1 0 1800 s).1.1=true∧(rdText (rdNum 1 3 1 0 1800 s).2).1≠eT∧(rdText (rdNum 1 3 1 0 1800 s).2).1≠wT)∨((rdNum 1 3 1 0 1800 s).1.1=false∧(rdText (rdNum 1 3 1 0 1800 s).2).1≠ByteArray.empty)
    · unfold rdVar sidedR at h
      rw [if_pos hq] at h
      exact absurd (firstE_zero h).2 (by decide)
    · have hr:rdVar s=(if (rdText (rdNum 1 3 1 0 1800 s).2).1=wT then (((rdNum 1 3 1 0 1800 s).1.1,-(rdNum 1 3 1 0 1800 s).1.2),(rdText (rdNum 1 3 1 0 1800 s).2).2) else ((rdNum 1 3 1 0 1800 s).1,(rdText (rdNum 1 3 1 0 1800 s).2).2)):=by
        unfold rdVar sidedR
        rw [if_neg hq]
      have h2:(rdText (rdNum 1 3 1 0 1800 s).2).2.1=0:=by
        rw [hr] at h
        split at h <;> exact h
      obtain⟨h3,d,R,h4⟩:=textE_zero h2
      obtain⟨e1,t,R1,n,e2,e3,t',e4,e5,e6⟩:=rdNum_ok h3
      rw [e3] at h4 hr hq
      simp only at h4
      subst h4
      rw [rdText_cons] at hr hq
      simp only at hr hq
      obtain⟨b,n⟩:=n
      have e7:fitsB b n 0 1800=true:=by
        have this:(wrNum 1 3 1 0 1800 (b,n) (0,[])).1=0:=congrArg Prod.fst (e4 [])
        exact putN_fits (firstE_zero (e:=0) (E:=(putN b n 1 3 1 0 1800).2) this).2
      simp only at hr hq
      -- the message's number,and how it is written
      have key:∀ v:N2,farN v=(b,n)→(v.1=true→-1800≤v.2)→rdVar s=(v,(0,R))→(sideT v).size≤d.size→s.1=0∧∃ T R a T',s.2=T++R∧T.length=2∧rdVar s=(a,(0,R))∧T'.length=2∧(∀ l,wrVar a (0,l)=(0,l++T'))∧NoLonger T' T∧∀ R,rdVar (0,T'++R)=(a,(0,R)):=by
        intro v hf hv hrd hsz
        refine⟨e1,[t,d],R,v,[t',sideT v],e2,rfl,hrd,rfl,fun l=>?_,NoLonger.cons (e5 rfl) (NoLonger.one hsz),fun R=>?_⟩
        · unfold wrVar;rw [hf,e4];simp [wrText,firstE]
        · unfold rdVar
          rw [show [t',sideT v]++R=t' :: sideT v :: R from rfl,e6]
          simp only
          rw [rdText_cons]
          simp only
          rw [← hf]
          exact sidedR_put v _ hv
      cases b with
      | false=>
        have hd:d=ByteArray.empty:=Classical.byContradiction fun q=>hq (.inr ⟨rfl,q⟩)
        subst hd
        refine key (false,n) (if_pos (.inl rfl)) (fun q=>by cases q) ?_ (by rw [show sideT (false,n)=ByteArray.empty from if_pos (.inl rfl)];exact Nat.le_refl _)
        rw [hr,if_neg (by decide)]
      | true=>
        have e8:0≤n∧n≤1800:=of_decide_eq_true e7
        by_cases hW:d=wT
        · subst hW
          rw [if_pos rfl] at hr
          refine key (true,-n) ?_ (fun _=>by simp only;omega) hr (sideT_size _)
          unfold farN
          rw [if_neg (by simp;omega)]
          by_cases h0:n=0
          · subst h0;rw [if_neg (by simp)];rfl
          · rw [if_pos (by simp only;omega)];simp
        · have hE:d=eT:=Classical.byContradiction fun q=>hq (.inl ⟨rfl,q,hW⟩)
          subst hE
          rw [if_neg hW] at hr
          refine key (true,n) ?_ (fun _=>by simp only;omega) hr (sideT_size _)
          unfold farN
          rw [if_neg (by simp;omega),if_neg (by simp only;omega)]
abbrev RmcT:=Clk×Bool×N2×N2×N2×N2×Dat×N2
def rmcR:Rd→RmcT×Rd:=seqR rdClk (seqR rdSt (seqR (rdAng true) (seqR (rdAng false) (seqR (rdNum 1 4 2 0 999999) (seqR (rdNum 1 3 2 0 36000) (seqR rdDat rdVar))))))
def rmcW:RmcT→Rd→Rd:=seqW wrClk (seqW wrSt (seqW (wrAng true) (seqW (wrAng false) (seqW (wrNum 1 4 2 0 999999) (seqW (wrNum 1 3 2 0 36000) (seqW wrDat wrVar))))))
theorem Codec.rmc:Codec rmcR rmcW 11:=
  Codec.clk.seq (Codec.st.seq ((Codec.ang true).seq ((Codec.ang false).seq (Codec.num.seq (Codec.num.seq (Codec.dat.seq Codec.var))))))
def zeroM:RmcT:=(zC,false,zN,zN,zN,zN,zD,zN)
def putRmc (g:RmcT):List ByteArray×Int:=wrDone (rmcW g (0,[]))
def takeRmc (R:List ByteArray):RmcT×Int:=
  if R.length≠11∧R.length≠12 then (zeroM,3) else if (rdMode (rmcR (0,R)).2).1=0 then ((rmcR (0,R)).1,0) else (zeroM,(rdMode (rmcR (0,R)).2).1)
theorem rmc_put_take {g:RmcT} (h:(putRmc g).2=0):takeRmc (putRmc g).1=(g,0)∧(putRmc g).1.length=11:=by
  obtain⟨h1,h2⟩:=Codec.rmc.message h
  refine⟨?_,h1⟩
  unfold takeRmc
  have h4:(putRmc g).1.length=11:=h1
  rw [if_neg (by rw [h4];decide)]
  have h3:rmcR (0,(putRmc g).1)=(g,(0,[])):=h2
  rw [h3]
  rfl
end Go.Proofs.YtoabkoniegmkaaaGreat
