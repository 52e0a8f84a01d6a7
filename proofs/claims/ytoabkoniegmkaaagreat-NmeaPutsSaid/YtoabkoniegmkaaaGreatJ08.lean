/- Layer 23, plain: what is taken, put, is taken as that; angles. -/
import Derived.Test.YtoabkoniegmkaaaGreatJ04
import Derived.Test.YtoabkoniegmkaaaGreatJ07
import Derived.Test.YtoabkoniegmkaaaGreatJ00
import Derived.Deep.RegionWith
namespace Go.Proofs.YtoabkoniegmkaaaGreat
set_option linter.unusedVariables false
open Go.RowKit
theorem foldl_val (l:List UInt8):∀ n,l.foldl (fun n c=>10 * n+(c.toNat - 48)) n=n * 10 ^ l.length+valD l:=by
  induction l with
  | nil=>intro n;simp [valD]
  | cons c l ih=>
    intro n
    have e1:valD (c :: l)=(10 * 0+(c.toNat - 48)) * 10 ^ l.length+valD l:=ih (10 * 0+(c.toNat - 48))
    rw [List.foldl_cons,ih,e1,List.length_cons,Nat.pow_succ,Nat.add_mul]
    rw [show n * (10 ^ l.length * 10)=10 * n * 10 ^ l.length from by rw [← Nat.mul_assoc,Nat.mul_right_comm,Nat.mul_comm n 10]]
    simp only [Nat.mul_zero,Nat.zero_add]
    omega
theorem valD_append (a b:List UInt8):valD (a++b)=valD a * 10 ^ b.length+valD b:=by
  unfold valD
  rw [List.foldl_append]
  exact foldl_val b _
theorem pointL_short {l:List UInt8} {a m f n:Nat} (h:NumText l a m f n) (ha:1≤a) (hmf:m+f≤18):(pointL n 1 f).length≤l.length:=by
  obtain⟨A,T,rfl,hA,h1,h2,h3⟩:=h
  have hv:=valD_lt A hA
  have hp:0 < 10 ^ f:=Nat.pow_pos (by decide)
  unfold pointL
  rw [List.length_append,List.length_append]
  rcases h3 with ⟨rfl,rfl⟩ | ⟨B,rfl,hB,h4,h5,rfl⟩
  · rw [Nat.mul_div_cancel _ hp,Nat.mul_mod_left]
    have:=digL_le (l:=1) hv (by omega)
    show _+([]:List UInt8).length≤_
    simpa using this
  · have hvb:=valD_lt B hB
    have hr:valD B * 10 ^ (f - B.length) < 10 ^ f:=by
      have:valD B * 10 ^ (f - B.length) < 10 ^ B.length * 10 ^ (f - B.length):=Nat.mul_lt_mul_of_pos_right hvb (Nat.pow_pos (by decide))
      rwa [← Nat.pow_add,show B.length+(f - B.length)=f from by omega] at this
    have e1:(valD A * 10 ^ f+valD B * 10 ^ (f - B.length)) / 10 ^ f=valD A:=by
      rw [Nat.mul_comm,Nat.mul_add_div hp,Nat.div_eq_of_lt hr,Nat.add_zero]
    have e2:(valD A * 10 ^ f+valD B * 10 ^ (f - B.length)) % 10 ^ f=valD B * 10 ^ (f - B.length):=by
      rw [Nat.mul_comm,Nat.mul_add_mod,Nat.mod_eq_of_lt hr]
    rw [e1,e2]
    have k1:=digL_le (l:=1) hv (by omega)
    have k2:=tailB_short (valD B) (f - B.length) f hr (by omega) (by omega)
    rw [List.length_cons]
    omega
theorem take_put {l:List UInt8} {b:Bool} {n W M F L H:Int} (h:takeN l W M F L H=(b,n,0)) :
    ∃ t:ByteArray,putN b n W M F L H=(t,0)∧(W=1→t.size≤l.length):=by
  unfold takeN at h
  by_cases hr:rightB W M F L H=false
  · rw [if_pos hr] at h;simp at h
  rw [if_neg hr] at h
  by_cases h0:l=[]
  · rw [if_pos h0] at h
    injection h with h1 h2
    injection h2 with h2 h3
    subst h1 h2
    refine⟨ByteArray.empty,?_,fun _=>by show 0≤_;omega⟩
    unfold putN
    rw [if_neg hr,if_neg (by unfold fitsB;simp),if_pos rfl]
  rw [if_neg h0] at h
  obtain⟨w,m,f,rfl,rfl,rfl,g1,g2,g3,g4,g5,g6⟩:=right_mf (by simpa using hr)
  rw [Int.toNat_natCast,Int.toNat_natCast] at h
  cases hq:parseN (bodyL l) 1 m f with
  | none=>rw [hq] at h;simp at h
  | some k=>
    rw [hq] at h
    dsimp only at h
    by_cases hf:fitsB true (if negL l then -(k:Int) else (k:Int)) L H=true
    · rw [if_pos hf] at h
      injection h with h1 h2
      injection h2 with h2 h3
      subst h1
      rw [h2] at hf
      have ht:=pointL_short (parseN_inv hq) (Nat.le_refl _) (by omega)
      have hab:n.natAbs=k:=by split at h2 <;> omega
      unfold putN
      rw [if_neg hr,if_neg (by rw [hf];decide),if_neg (by decide),Int.toNat_natCast,Int.toNat_natCast]
      by_cases hn:n < 0
      · rw [if_pos hn,show (-n).toNat=k from by omega]
        refine⟨_,rfl,fun e=>?_⟩
        have hw:w=1:=by omega
        subst hw
        have hneg:negL l=true:=by
          cases hg:negL l with
          | true=>rfl
          | false=>rw [hg] at h2;simp at h2;omega
        unfold bodyL at ht
        rw [hneg,if_pos rfl,List.length_drop] at ht
        have:0 < l.length:=List.length_pos_iff.2 h0
        rw [size_B,List.length_cons]
        omega
      · rw [if_neg hn,show n.toNat=k from by omega]
        refine⟨_,rfl,fun e=>?_⟩
        have hw:w=1:=by omega
        subst hw
        rw [size_B]
        refine Nat.le_trans ht ?_
        unfold bodyL
        split
        · rw [List.length_drop];omega
        · omega
    · rw [if_neg hf] at h;simp at h
theorem angL_text (x:Nat) (lat:Bool) (h:(x:Int)≤farI lat):NumText (angL x lat) (wide2 lat) (wide2 lat) 5 (x / 6000000 * 10000000+x % 6000000):=by
  have hx:x≤1080000000∧(lat=true→x≤540000000):=by
    unfold farI at h
    cases lat
    · have:(x:Int)≤1080000000:=by simpa using h
      exact⟨by omega,fun k=>by cases k⟩
    · have:(x:Int)≤540000000:=by simpa using h
      exact⟨by omega,fun _=>by omega⟩
  have e3:(10:Nat) ^ 3=1000:=by decide
  have e2:(10:Nat) ^ 2=100:=by decide
  have e5:(10:Nat) ^ 5=100000:=by decide
  have hd:x / 6000000 < 10 ^ wideN lat:=by
    unfold wideN
    cases lat with
    | true=>have:=hx.2 rfl;simp;omega
    | false=>simp;omega
  have hw:wideN lat≤3:=by unfold wideN;split <;> omega
  have k1:=digL_eq hd (by omega)
  have k2:(digL (x % 6000000 / 100000) 2).length=2:=digL_eq (by omega) (by omega)
  have k3:=digL_val (n:=x / 6000000) (l:=wideN lat) (by omega)
  have k4:=digL_val (n:=x % 6000000 / 100000) (l:=2) (by omega)
  have hA:wide2 lat=wideN lat+2:=by unfold wide2 wideN;split <;> rfl
  have hv:valD (digL (x / 6000000) (wideN lat)++digL (x % 6000000 / 100000) 2)=x / 6000000 * 100+x % 6000000 / 100000:=by rw [valD_append,k2,k3,k4,e2]
  refine⟨digL (x / 6000000) (wideN lat)++digL (x % 6000000 / 100000) 2,tailB (x % 6000000 % 100000) 5,?_,?_,?_,?_,?_⟩
  · unfold angL pointL
    rw [e5,List.append_assoc]
  · intro c hc
    rcases List.mem_append.1 hc with h | h
    · exact digL_isD _ _ c h
    · exact digL_isD _ _ c h
  · rw [List.length_append,k1,k2,hA];exact Nat.le_refl _
  · rw [List.length_append,k1,k2,hA];exact Nat.le_refl _
  · rw [hv,e5]
    rcases tailB_text (x % 6000000 % 100000) 5 (by omega) (by omega) with ⟨h1,h2⟩ | ⟨B,h1,h2,h3,h4,h5⟩
    · exact .inl ⟨h1,by omega⟩
    · exact .inr ⟨B,h1,h2,h3,h4,by rw [h5];omega⟩
theorem angL_ne (x:Nat) (lat:Bool) (h:(x:Int)≤farI lat):angL x lat≠[]:=
  (bodyL_pos (angL_text x lat h) (by unfold wide2;split <;> omega)).2.2
theorem ang_take {b:Bool} {n:Int} {lat:Bool} (h:(angN b n lat).2.2=0):takeAng (angN b n lat).1.data.toList (angN b n lat).2.1 lat=(b,n,0):=by
  unfold angN at h ⊢
  by_cases hf:fitsB b n (-farI lat) (farI lat)=false
  · rw [if_pos hf] at h;exact absurd h (by decide)
  rw [if_neg hf] at h ⊢
  cases b with
  | false=>
    rw [if_pos rfl]
    have:n=0:=by unfold fitsB at hf;simpa using hf
    subst this
    unfold takeAng
    exact if_pos ⟨rfl,rfl⟩
  | true=>
    rw [if_neg (by decide)]
    have hb:=fitsB_true (show fitsB true n (-farI lat) (farI lat)=true by simpa using hf)
    have hx:((n.natAbs:Nat):Int)≤farI lat:=by omega
    have hp:=parseN_of (angL_text n.natAbs lat hx)
    have hne:=angL_ne n.natAbs lat hx
    have q1:(n.natAbs / 6000000 * 10000000+n.natAbs % 6000000) % 10000000=n.natAbs % 6000000:=by omega
    have q2:(n.natAbs / 6000000 * 10000000+n.natAbs % 6000000) / 10000000 * 6000000+(n.natAbs / 6000000 * 10000000+n.natAbs % 6000000) % 10000000=n.natAbs:=by omega
    by_cases hn:n < 0
    · rw [if_pos hn]
      show takeAng (toB (angL (-n).toNat lat)).data.toList (sideB lat true) lat=_
      rw [toList_B,show (-n).toNat=n.natAbs from by omega]
      unfold takeAng
      rw [if_neg (fun k=>hne k.1),hp]
      dsimp only
      rw [if_neg (fun k=>k.2 rfl),q2,q1,if_neg (by omega),if_pos rfl,show -((n.natAbs:Nat):Int)=n from by omega]
    · rw [if_neg hn]
      show takeAng (toB (angL n.toNat lat)).data.toList (sideB lat false) lat=_
      rw [toList_B,show n.toNat=n.natAbs from by omega]
      unfold takeAng
      rw [if_neg (fun k=>hne k.1),hp]
      dsimp only
      rw [if_neg (fun k=>k.1 rfl),q2,q1,if_neg (by omega),if_neg (sideB_ne lat),show ((n.natAbs:Nat):Int)=n from by omega]
theorem sideB_size (lat neg:Bool):(sideB lat neg).size=1:=by cases lat <;> cases neg <;> rfl
theorem angL_short {l:List UInt8} {x N:Nat} {lat:Bool} (h:NumText l (wide2 lat) (wide2 lat) 5 N) (hm:N % 10000000 < 6000000) (hx:x=N / 10000000 * 6000000+N % 10000000) (hf:(x:Int)≤farI lat):(angL x lat).length≤l.length:=by
  obtain⟨A,T,rfl,hA,h1,h2,h3⟩:=h
  obtain⟨A',T',e,hA',h1',h2',h3'⟩:=angL_text x lat hf
  have hN:x / 6000000 * 10000000+x % 6000000=N:=by omega
  rw [hN] at h3'
  rw [e,List.length_append,List.length_append]
  have e5:(10:Nat) ^ 5=100000:=by decide
  have hT':T'=tailB (N % 100000) 5:=by
    have k:=angL_text x lat hf
    have:angL x lat=(digL (x / 6000000) (wideN lat)++digL (x % 6000000 / 100000) 2)++tailB (x % 6000000 % 100000) 5:=by
      unfold angL pointL
      rw [e5,List.append_assoc]
    rw [this] at e
    have hw:wideN lat≤3:=by unfold wideN;split <;> omega
    have hxx:x≤1080000000:=by unfold farI at hf;split at hf <;> omega
    have hd:x / 6000000 < 10 ^ wideN lat:=by
      unfold farI at hf
      unfold wideN
      cases lat with
      | true=>simp at hf ⊢;omega
      | false=>simp at hf ⊢;omega
    have l1:(digL (x / 6000000) (wideN lat)++digL (x % 6000000 / 100000) 2).length=A'.length:=by
      rw [List.length_append, digL_eq hd (by omega), digL_eq (n := x % 6000000 / 100000) (l := 2) (by have : (10 : Nat) ^ 2 = 100 := by decide
                                                                                                      omega) (by omega)]
      have:wide2 lat=wideN lat+2:=by unfold wide2 wideN;split <;> rfl
      omega
    have:=(List.append_inj e l1).2
    rw [← this,show x % 6000000 % 100000=N % 100000 from by omega]
  rw [hT']
  rcases h3 with ⟨rfl,h⟩ | ⟨B,rfl,hB,h4,h5,h⟩
  · have:N % 100000=0:=by rw [h,e5];exact Nat.mul_mod_left _ _
    rw [this]
    show _+([]:List UInt8).length≤_+([]:List UInt8).length
    omega
  · have hvb:=valD_lt B hB
    have hr:valD B * 10 ^ (5 - B.length) < 10 ^ 5:=by
      have:valD B * 10 ^ (5 - B.length) < 10 ^ B.length * 10 ^ (5 - B.length):=Nat.mul_lt_mul_of_pos_right hvb (Nat.pow_pos (by decide))
      rwa [← Nat.pow_add,show B.length+(5 - B.length)=5 from by omega] at this
    have:N % 100000=valD B * 10 ^ (5 - B.length):=by
      rw [← e5,h,Nat.mul_comm (valD A),Nat.mul_add_mod,Nat.mod_eq_of_lt hr]
    rw [this]
    have k2:=tailB_short (valD B) (5 - B.length) 5 hr (by omega) (by omega)
    rw [List.length_cons]
    omega
theorem takeAng_put {l:List UInt8} {d:ByteArray} {lat b:Bool} {n:Int} (h:takeAng l d lat=(b,n,0)) :
    ∃ t p:ByteArray,angN b n lat=(t,p,0)∧t.size≤l.length∧p.size≤d.size:=by
  unfold takeAng at h
  by_cases h0:l=[]∧d.data.toList=[]
  · rw [if_pos h0] at h
    injection h with h1 h2
    injection h2 with h2 h3
    subst h1 h2
    refine⟨ByteArray.empty,ByteArray.empty,?_,Nat.zero_le _,Nat.zero_le _⟩
    unfold angN
    rw [if_neg (by unfold fitsB;simp),if_pos rfl]
  rw [if_neg h0] at h
  cases hq:parseN l (wide2 lat) (wide2 lat) 5 with
  | none=>rw [hq] at h;simp at h
  | some N=>
    rw [hq] at h
    dsimp only at h
    by_cases hd:d≠sideB lat false∧d≠sideB lat true
    · rw [if_pos hd] at h;simp at h
    rw [if_neg hd] at h
    by_cases hg:6000000≤N % 10000000∨farI lat < ((N / 10000000 * 6000000+N % 10000000:Nat):Int)
    · rw [if_pos hg] at h;simp at h
    rw [if_neg hg] at h
    injection h with h1 h2
    injection h2 with h2 h3
    subst h1
    obtain⟨x,hx⟩:∃ x,x=N / 10000000 * 6000000+N % 10000000:=⟨_,rfl⟩
    rw [← hx] at hg h2
    have hfar:(x:Int)≤farI lat:=by omega
    have hs:=angL_short (parseN_inv hq) (by omega) hx hfar
    have hab:n.natAbs=x:=by split at h2 <;> omega
    have hd1:d.size=1:=by
      by_cases k:d=sideB lat false
      · rw [k];exact sideB_size _ _
      · have:d=sideB lat true:=Classical.not_not.1 fun k'=>hd ⟨k,k'⟩
        rw [this];exact sideB_size _ _
    have hfit:fitsB true n (-farI lat) (farI lat)=true:=by
      unfold fitsB
      rw [if_pos rfl]
      exact decide_eq_true (by omega)
    unfold angN
    rw [if_neg (by rw [hfit];decide),if_neg (by decide)]
    by_cases hn:n < 0
    · rw [if_pos hn,show (-n).toNat=x from by omega]
      exact⟨_,_,rfl,by rw [size_B];exact hs,by rw [sideB_size,hd1];exact Nat.le_refl _⟩
    · rw [if_neg hn,show n.toNat=x from by omega]
      exact⟨_,_,rfl,by rw [size_B];exact hs,by rw [sideB_size,hd1];exact Nat.le_refl _⟩
abbrev Rd:=Int×List ByteArray
def rdText (s:Rd):ByteArray×Rd:=(s.2.headD ByteArray.empty,(textE s.1 s.2,s.2.tail))
def rdNum (W M F L H:Int) (s:Rd):(Bool×Int)×Rd:=
  (((takeN (s.2.headD ByteArray.empty).data.toList W M F L H).1,(takeN (s.2.headD ByteArray.empty).data.toList W M F L H).2.1),(firstE (textE s.1 s.2) (takeN (s.2.headD ByteArray.empty).data.toList W M F L H).2.2,s.2.tail))
def rdFail (E:Int) (s:Rd):Rd:=(firstE s.1 E,s.2)
def wrText (t:ByteArray) (E:Int) (s:Rd):Rd:=(firstE s.1 E,s.2++[t])
def wrNum (W M F L H:Int) (n:Bool×Int) (s:Rd):Rd:=(firstE s.1 (putN n.1 n.2 W M F L H).2,s.2++[(putN n.1 n.2 W M F L H).1])
def wrDone (s:Rd):List ByteArray×Int:=(if s.1=0 then s.2 else [],s.1)
theorem firstE_zero {e E:Int} (h:firstE e E=0):e=0∧E=0:=by
  unfold firstE at h
  by_cases he:e=0
  · rw [if_pos he] at h;exact⟨he,h⟩
  · rw [if_neg he] at h;exact absurd h he
theorem textE_zero {e:Int} {R:List ByteArray} (h:textE e R=0):e=0∧∃ t R',R=t :: R':=by
  unfold textE at h
  cases R with
  | nil=>rw [if_pos rfl] at h;exact absurd (firstE_zero h).2 (by decide)
  | cons t R'=>rw [if_neg (by simp)] at h;exact⟨h,t,R',rfl⟩
theorem textE_cons (e:Int) (t:ByteArray) (R:List ByteArray):textE e (t :: R)=e:=if_neg (by simp)
theorem wrNum_ok {W M F L H:Int} {n:Bool×Int} {s:Rd} (h:(wrNum W M F L H n s).1=0) :
    s.1=0∧∃ t,(∀ l,wrNum W M F L H n (0,l)=(0,l++[t]))∧wrNum W M F L H n s=(0,s.2++[t])∧∀ R,rdNum W M F L H (0,t :: R)=(n,(0,R)):=by
  obtain⟨h1,h2⟩:=firstE_zero h
  refine⟨h1,(putN n.1 n.2 W M F L H).1,fun l=>?_,?_,fun R=>?_⟩
  · unfold wrNum;rw [h2];rfl
  · unfold wrNum;rw [h2,h1];rfl
  · have hp:=put_take h2
    unfold rdNum
    rw [textE_cons]
    simp only [List.headD_cons,List.tail_cons,hp]
    rfl
theorem rdNum_ok {W M F L H:Int} {s:Rd} (h:(rdNum W M F L H s).2.1=0) :
    s.1=0∧∃ t R n,s.2=t :: R∧rdNum W M F L H s=(n,(0,R))∧∃ t',(∀ l,wrNum W M F L H n (0,l)=(0,l++[t']))∧(W=1→t'.size≤t.size)∧∀ R,rdNum W M F L H (0,t' :: R)=(n,(0,R)):=by
  obtain⟨h1,h2⟩:=firstE_zero h
  obtain⟨h3,t,R,h4⟩:=textE_zero h1
  obtain⟨e,l⟩:=s
  simp only at h3 h4
  subst h3 h4
  simp only [List.headD_cons] at h2
  obtain⟨b,n,E⟩:Bool×Int×Int:=takeN t.data.toList W M F L H
  have hT:takeN t.data.toList W M F L H=((takeN t.data.toList W M F L H).1,(takeN t.data.toList W M F L H).2.1,0):=by rw [← h2]
  obtain⟨t',h5,h6⟩:=take_put hT
  refine⟨rfl,t,R,((takeN t.data.toList W M F L H).1,(takeN t.data.toList W M F L H).2.1),rfl,?_,t',fun l=>?_,fun hW=>?_,fun R=>?_⟩
  · unfold rdNum
    simp only [List.headD_cons,List.tail_cons,h2,textE_cons]
    rfl
  · unfold wrNum
    rw [h5]
    rfl
  · have:=h6 hW
    simpa using this
  · have h7:=put_take (by rw [h5]:(putN (takeN t.data.toList W M F L H).1 (takeN t.data.toList W M F L H).2.1 W M F L H).2=0)
    rw [h5] at h7
    unfold rdNum
    rw [textE_cons]
    simp only [List.headD_cons,List.tail_cons] at h7 ⊢
    rw [h7]
    rfl
structure Cl where
  W:Int
  M:Int
  F:Int
  L:Int
  H:Int
  c:ByteArray
def unitT (b:Bool) (c:ByteArray):ByteArray:=if b=true then c else ByteArray.empty
def rdUnit (c:ByteArray) (b:Bool) (s:Rd):Rd:=if (rdText s).1≠c∧(b=true∨(rdText s).1≠ByteArray.empty) then rdFail 3 (rdText s).2 else (rdText s).2
def rdCol (k:Cl) (s:Rd):(Bool×Int)×Rd:=((rdNum k.W k.M k.F k.L k.H s).1,rdUnit k.c (rdNum k.W k.M k.F k.L k.H s).1.1 (rdNum k.W k.M k.F k.L k.H s).2)
def wrCol (k:Cl) (n:Bool×Int) (s:Rd):Rd:=wrText (unitT n.1 k.c) 0 (wrNum k.W k.M k.F k.L k.H n s)
theorem rdUnit_put (c:ByteArray) (b:Bool) (R:List ByteArray):rdUnit c b (0,unitT b c :: R)=(0,R):=by
  unfold rdUnit rdText unitT
  cases b <;> simp [textE_cons]
theorem rdUnit_ok {c:ByteArray} {b:Bool} {s:Rd} (h:(rdUnit c b s).1=0):s.1=0∧∃ u R,s.2=u :: R∧rdUnit c b s=(0,R)∧(unitT b c).size≤u.size:=by
  obtain⟨e,l⟩:=s
  by_cases hq:(rdText (e,l)).1≠c∧(b=true∨(rdText (e,l)).1≠ByteArray.empty)
  · unfold rdUnit at h
    rw [if_pos hq] at h
    exact absurd (firstE_zero h).2 (by decide)
  · have h0:=h
    unfold rdUnit at h0 ⊢
    rw [if_neg hq] at h0 ⊢
    obtain⟨h1,u,R,h2⟩:=textE_zero h0
    simp only at h1 h2
    subst h1 h2
    refine⟨rfl,u,R,rfl,by simp [rdText,textE_cons],?_⟩
    unfold unitT
    cases b with
    | false=>simp
    | true=>
      have:u=c:=Classical.byContradiction fun q=>hq ⟨by simpa [rdText] using q,.inl rfl⟩
      rw [this];simp
theorem wrCol_ok {k:Cl} {n:Bool×Int} {s:Rd} (h:(wrCol k n s).1=0) :
    s.1=0∧∃ t u,(∀ l,wrCol k n (0,l)=(0,l++[t,u]))∧wrCol k n s=(0,s.2++[t,u])∧∀ R,rdCol k (0,t :: u :: R)=(n,(0,R)):=by
  obtain⟨h1,-⟩:=firstE_zero h
  obtain⟨h2,t,h3,h4,h5⟩:=wrNum_ok h1
  refine⟨h2,t,unitT n.1 k.c,fun l=>?_,?_,fun R=>?_⟩
  · unfold wrCol;rw [h3];simp [wrText,firstE]
  · unfold wrCol;rw [h4];simp [wrText,firstE]
  · unfold rdCol
    rw [h5]
    simp only
    rw [rdUnit_put]
theorem rdCol_ok {k:Cl} {s:Rd} (h:(rdCol k s).2.1=0) :
    s.1=0∧∃ t u R n,s.2=t :: u :: R∧rdCol k s=(n,(0,R))∧∃ t' u',(∀ l,wrCol k n (0,l)=(0,l++[t',u']))∧(k.W=1→t'.size≤t.size)∧u'.size≤u.size∧∀ R,rdCol k (0,t' :: u' :: R)=(n,(0,R)):=by
  obtain⟨h1,u,R,h2,h3,h4⟩:=rdUnit_ok h
  obtain⟨h5,t,R',n,h6,h7,t',h8,h9,h10⟩:=rdNum_ok h1
  rw [h7] at h2
  simp only at h2
  subst h2
  refine⟨h5,t,u,R,n,h6,?_,t',unitT n.1 k.c,fun l=>?_,h9,?_,fun R=>?_⟩
  · unfold rdCol;rw [h3,h7]
  · unfold wrCol;rw [h8];simp [wrText,firstE]
  · rw [h7] at h4;exact h4
  · unfold rdCol
    rw [h10]
    simp only
    rw [rdUnit_put]
def wrCols:List Cl→List (Bool×Int)→Rd→Rd
  | k :: K,n :: N,s=>wrCols K N (wrCol k n s)
  | _,_,s=>s
def rdCols:List Cl→Rd→List (Bool×Int)×Rd
  | [],s=>([],s)
  | k :: K,s=>((rdCol k s).1 :: (rdCols K (rdCol k s).2).1,(rdCols K (rdCol k s).2).2)
theorem wrCols_ok:∀ (K:List Cl) (N:List (Bool×Int)) (s:Rd),N.length=K.length→(wrCols K N s).1=0 →
    s.1=0∧∃ T:List ByteArray,T.length=2 * K.length∧wrCols K N s=(0,s.2++T)∧∀ R,rdCols K (0,T++R)=(N,(0,R))
  | [],[],s,_,h=>⟨h,[],rfl,by rw [List.append_nil];exact Prod.ext h rfl,fun _=>rfl⟩
  | k :: K,n :: N,s,hl,h=>by
    obtain⟨h1,T,h2,h3,h4⟩:=wrCols_ok K N (wrCol k n s) (by simpa using hl) h
    obtain⟨h5,t,u,h6,h7,h8⟩:=wrCol_ok h1
    refine⟨h5,t :: u :: T,by simp [h2];omega,?_,fun R=>?_⟩
    · show wrCols K N (wrCol k n s)=_
      rw [h3,h7];simp
    · show ((rdCol k (0,t :: u :: (T++R))).1 :: (rdCols K (rdCol k (0,t :: u :: (T++R))).2).1,(rdCols K (rdCol k (0,t :: u :: (T++R))).2).2)=_
      rw [h8,h4]
  | [],n :: N,s,hl,_=>by simp at hl
  | k :: K,[],s,hl,_=>by simp at hl
def NoLonger (T U:List ByteArray):Prop:=∀ (i:Nat) (t u:ByteArray),T[i]?=some t→U[i]?=some u→t.size≤u.size
theorem NoLonger.cons {t u:ByteArray} {T U:List ByteArray} (h:t.size≤u.size) (k:NoLonger T U):NoLonger (t :: T) (u :: U):=by
  intro i a b h1 h2
  cases i with
  | zero=>simp at h1 h2;subst h1 h2;exact h
  | succ i=>exact k i a b (by simpa using h1) (by simpa using h2)
theorem NoLonger.nil (U:List ByteArray):NoLonger [] U:=fun i t u h=>by simp at h
theorem rdCols_ok:∀ (K:List Cl) (s:Rd),(∀ k∈K,k.W=1)→(rdCols K s).2.1=0 →
    s.1=0∧∃ T R N T',s.2=T++R∧T.length=2 * K.length∧N.length=K.length∧T'.length=2 * K.length∧rdCols K s=(N,(0,R))∧(∀ l,wrCols K N (0,l)=(0,l++T'))∧NoLonger T' T∧∀ R,rdCols K (0,T'++R)=(N,(0,R))
  | [],s,_,h=>⟨h,[],s.2,[],[],rfl,rfl,rfl,rfl,Prod.ext rfl (Prod.ext h rfl),fun l=>by rw [List.append_nil];rfl,NoLonger.nil _,fun _=>rfl⟩
  | k :: K,s,hK,h=>by
    obtain⟨h1,T,R,N,T',h2,h3,h4,h5,h6,h7,h8,h9⟩:=rdCols_ok K (rdCol k s).2 (fun j hj=>hK j (List.mem_cons_of_mem _ hj)) h
    obtain⟨g1,t,u,R',n,g2,g3,t',u',g4,g5,g6,g7⟩:=rdCol_ok h1
    rw [g3] at h2
    simp only at h2
    subst h2
    refine⟨g1,t :: u :: T,R,n :: N,t' :: u' :: T',by rw [g2];rfl,by simp [h3];omega,by simp [h4],by simp [h5];omega,?_,fun l=>?_,?_,fun R=>?_⟩
    · show ((rdCol k s).1 :: (rdCols K (rdCol k s).2).1,(rdCols K (rdCol k s).2).2)=_
      rw [h6,g3]
    · show wrCols K N (wrCol k n (0,l))=_
      rw [g4,h7];simp
    · exact NoLonger.cons (g5 (hK k (List.mem_cons_self ..))) (NoLonger.cons g6 h8)
    · show ((rdCol k (0,t' :: u' :: (T'++R))).1 :: (rdCols K (rdCol k (0,t' :: u' :: (T'++R))).2).1,(rdCols K (rdCol k (0,t' :: u' :: (T'++R))).2).2)=_
      rw [g7,h9]
def vtgK:List Cl:=[⟨1,3,2,0,36000,⟨#[84]⟩⟩,⟨1,3,2,0,36000,⟨#[77]⟩⟩,⟨1,4,2,0,999999,⟨#[78]⟩⟩,⟨1,4,2,0,999999,⟨#[75]⟩⟩]
def putVtg (N:List (Bool×Int)):List ByteArray×Int:=wrDone (wrCols vtgK N (0,[]))
def capB (s:ByteArray):Bool:=decide (s.size=1) && decide (65≤(s[0]?.getD 0).toNat) && decide ((s[0]?.getD 0).toNat≤90)
def rdMode (s:Rd):Rd:=if s.2=[] then s else if (rdText s).1≠ByteArray.empty∧capB (rdText s).1=false then rdFail 3 (rdText s).2 else (rdText s).2
def zeros4:List (Bool×Int):=[(false,0),(false,0),(false,0),(false,0)]
def takeVtg (R:List ByteArray):List (Bool×Int)×Int:=
  if R.length≠8∧R.length≠9 then (zeros4,3)
  else if (rdMode (rdCols vtgK (0,R)).2).1=0 then ((rdCols vtgK (0,R)).1,0) else (zeros4,(rdMode (rdCols vtgK (0,R)).2).1)
theorem rdMode_zero {s:Rd} (h:(rdMode s).1=0):s.1=0:=by
  unfold rdMode at h
  split at h
  · exact h
  · split at h
    · exact absurd (firstE_zero h).2 (by decide)
    · exact (textE_zero h).1
theorem vtgK_one:∀ k∈vtgK,k.W=1:=by simp [vtgK]
theorem vtg_put_take {N:List (Bool×Int)} (hN:N.length=4) (h:(putVtg N).2=0):takeVtg (putVtg N).1=(N,0)∧(putVtg N).1.length=8:=by
  obtain⟨-,T,h1,h2,h3⟩:=wrCols_ok vtgK N (0,[]) hN h
  have hT:(putVtg N).1=T:=by unfold putVtg wrDone;rw [h2];simp
  have h4:=h3 []
  rw [List.append_nil] at h4
  have h5:T.length=8:=h1
  rw [hT]
  refine⟨?_,h5⟩
  unfold takeVtg
  rw [if_neg (by rw [h5];simp),h4]
  rfl
theorem vtg_take_put {R:List ByteArray} (h:(takeVtg R).2=0):(takeVtg R).1.length=4∧(putVtg (takeVtg R).1).2=0∧NoLonger (putVtg (takeVtg R).1).1 R:=by
  unfold takeVtg at h ⊢
  by_cases hl:R.length≠8∧R.length≠9
  · rw [if_pos hl] at h;exact absurd h (by decide)
  · rw [if_neg hl] at h ⊢
    by_cases h0:(rdMode (rdCols vtgK (0,R)).2).1=0
    · rw [if_pos h0]
      obtain⟨-,T,R',N,T',h1,h2,h3,h4,h5,h6,h7,h8⟩:=rdCols_ok vtgK (0,R) vtgK_one (rdMode_zero h0)
      rw [h5]
      refine⟨h3,?_⟩
      unfold putVtg
      rw [h6]
      refine⟨rfl,fun i t u ht hu=>?_⟩
      have ht':T'[i]?=some t:=by simpa [wrDone] using ht
      have hi:i < T'.length:=(List.getElem?_eq_some_iff.1 ht').1
      have hu':R[i]?=some u:=hu
      rw [show R=T++R' from h1,List.getElem?_append_left (by omega)] at hu'
      exact h7 i t u ht' hu'
    · rw [if_neg h0] at h
      exact absurd h h0
theorem takeVtg_no {R:List ByteArray} (h:(takeVtg R).2≠0):(takeVtg R).1=zeros4:=by
  unfold takeVtg at h ⊢
  split at h
  · rename_i q;rw [if_pos q]
  · rename_i q
    rw [if_neg q]
    split at h
    · exact absurd rfl h
    · rename_i q2;rw [if_neg q2]
theorem takeVtg_len (R:List ByteArray):(takeVtg R).1.length=4:=by
  by_cases h:(takeVtg R).2=0
  · exact (vtg_take_put h).1
  · rw [takeVtg_no h];rfl
theorem putN_size (b:Bool) (n W M F L H:Int):(putN b n W M F L H).1.size≤42:=by
  unfold putN
  split
  · exact Nat.zero_le _
  split
  · exact Nat.zero_le _
  split
  · exact Nat.zero_le _
  split
  · show (toB _).size≤42
    have:=pointL_len (-n).toNat W.toNat F.toNat
    rw [size_B,List.length_cons]
    omega
  · show (toB _).size≤42
    have:=pointL_len n.toNat W.toNat F.toNat
    rw [size_B]
    omega
def Small (l:List ByteArray):Prop:=∀ t∈l,t.size≤100
theorem Small.nil:Small []:=fun t h=>by cases h
theorem Small.snoc {l:List ByteArray} {t:ByteArray} (h:Small l) (ht:t.size≤100):Small (l++[t]):=fun u hu=>by
  rcases List.mem_append.1 hu with q | q
  · exact h u q
  · rw [List.mem_singleton.1 q];exact ht
theorem wrNum_small {W M F L H:Int} {n:Bool×Int} {s:Rd} (h:Small s.2):Small (wrNum W M F L H n s).2:=h.snoc (Nat.le_trans (putN_size _ _ _ _ _ _ _) (by omega))
theorem wrText_small {t:ByteArray} {E:Int} {s:Rd} (h:Small s.2) (ht:t.size≤100):Small (wrText t E s).2:=h.snoc ht
theorem wrCol_small {k:Cl} {n:Bool×Int} {s:Rd} (h:Small s.2) (hc:k.c.size≤100):Small (wrCol k n s).2:=by
  unfold wrCol
  refine wrText_small (wrNum_small h) ?_
  unfold unitT
  split
  · exact hc
  · simp
theorem wrDone_small {s:Rd} (h:Small s.2):Small (wrDone s).1:=by
  unfold wrDone
  simp only
  split
  · exact h
  · exact Small.nil
theorem wrCols_small:∀ (K:List Cl) (N:List (Bool×Int)) (s:Rd),(∀ k∈K,k.c.size≤100)→Small s.2→Small (wrCols K N s).2
  | [],_,_,_,h=>h
  | _ :: _,[],_,_,h=>h
  | k :: K,n :: N,s,hK,h=>wrCols_small K N (wrCol k n s) (fun j hj=>hK j (List.mem_cons_of_mem _ hj)) (wrCol_small h (hK k (List.mem_cons_self ..)))
theorem putVtg_small (N:List (Bool×Int)):Small (putVtg N).1:=wrDone_small (wrCols_small _ _ _ (by decide) Small.nil)
def dgB (t:ByteArray):Bool:=decide (t.size=1) && decide (48≤(t[0]?.getD 0).toNat) && decide ((t[0]?.getD 0).toNat≤57)
def dgN (t:ByteArray):Int:=((t[0]?.getD 0).toNat:Int) - 48
def digT (n:Int):ByteArray:=⟨#[UInt8.ofNat (48+n).toNat]⟩
def rdDig (lo hi:Int) (s:Rd):Int×Rd:=
  if dgB (rdText s).1=true then (dgN (rdText s).1,if dgN (rdText s).1 < lo∨hi < dgN (rdText s).1 then rdFail 5 (rdText s).2 else (rdText s).2) else (0,rdFail 3 (rdText s).2)
def wrDig (lo hi n:Int) (s:Rd):Rd:=if n < lo∨hi < n then wrText ByteArray.empty 5 s else wrText (digT n) 0 s
def wrDigR (lo hi n:Int) (s:Rd):Rd:=if n < lo∨hi < n then rdFail 5 s else wrText (digT n) 0 s
theorem digT_size (n:Int):(digT n).size=1:=rfl
theorem digT_get (n:Int):(digT n)[0]?=some (UInt8.ofNat (48+n).toNat):=rfl
theorem digT_back {n:Int} (h0:0≤n) (h9:n≤9):dgB (digT n)=true∧dgN (digT n)=n:=by
  have hv:(UInt8.ofNat (48+n).toNat).toNat=(48+n).toNat:=by rw [UInt8.toNat_ofNat'];omega
  unfold dgB dgN
  rw [digT_size,digT_get,Option.getD_some,hv]
  refine⟨?_,by omega⟩
  simp
  omega
theorem dgB_put {t:ByteArray} (h:dgB t=true):0≤dgN t∧dgN t≤9∧t.size=1:=by
  unfold dgB at h
  simp at h
  unfold dgN
  omega
theorem rdText_cons (t:ByteArray) (R:List ByteArray):rdText (0,t :: R)=(t,(0,R)):=by simp [rdText,textE_cons]
theorem wrDig_ok {lo hi n:Int} {s:Rd} (hlo:0≤lo) (hhi:hi≤9) (h:(wrDig lo hi n s).1=0) :
    s.1=0∧lo≤n∧n≤hi∧(∀ l,wrDig lo hi n (0,l)=(0,l++[digT n]))∧wrDig lo hi n s=(0,s.2++[digT n])∧∀ R,rdDig lo hi (0,digT n :: R)=(n,(0,R)):=by
  by_cases hq:n < lo∨hi < n
  · unfold wrDig at h
    rw [if_pos hq] at h
    exact absurd (firstE_zero h).2 (by decide)
  · have k:∀ s,wrDig lo hi n s=wrText (digT n) 0 s:=fun s=>if_neg hq
    rw [k] at h
    obtain⟨h1,-⟩:=firstE_zero h
    obtain⟨d1,d2⟩:=digT_back (n:=n) (by omega) (by omega)
    refine⟨h1,by omega,by omega,fun l=>by rw [k];rfl,by rw [k];unfold wrText;rw [h1];rfl,fun R=>?_⟩
    unfold rdDig
    rw [rdText_cons]
    simp only
    rw [if_pos d1,d2,if_neg hq]
theorem rdDig_ok {lo hi:Int} {s:Rd} (hlo:0≤lo) (hhi:hi≤9) (h:(rdDig lo hi s).2.1=0) :
    s.1=0∧∃ t R n,s.2=t :: R∧rdDig lo hi s=(n,(0,R))∧lo≤n∧n≤hi∧t.size=1∧(∀ l,wrDig lo hi n (0,l)=(0,l++[digT n]))∧∀ R,rdDig lo hi (0,digT n :: R)=(n,(0,R)):=by
  obtain⟨e,l⟩:=s
  by_cases hd:dgB (rdText (e,l)).1=true
  · by_cases hq:dgN (rdText (e,l)).1 < lo∨hi < dgN (rdText (e,l)).1
    · unfold rdDig at h
      rw [if_pos hd,if_pos hq] at h
      exact absurd (firstE_zero h).2 (by decide)
    · have hr:rdDig lo hi (e,l)=(dgN (rdText (e,l)).1,(rdText (e,l)).2):=by unfold rdDig;rw [if_pos hd,if_neg hq]
      rw [hr] at h
      obtain⟨h1,t,R,h2⟩:=textE_zero h
      simp only at h1 h2
      subst h1 h2
      rw [rdText_cons] at hd hq hr
      simp only at hd hq hr
      obtain⟨d0,d9,d1⟩:=dgB_put hd
      have hw:(wrDig lo hi (dgN t) (0,[])).1=0:=by unfold wrDig;rw [if_neg hq];rfl
      obtain⟨-,w1,w2,w3,-,w5⟩:=wrDig_ok hlo hhi hw
      exact⟨rfl,t,R,dgN t,rfl,hr,w1,w2,d1,w3,w5⟩
  · unfold rdDig at h
    rw [if_neg hd] at h
    exact absurd (firstE_zero h).2 (by decide)
abbrev V4:=(Bool×Int)×(Bool×Int)×(Bool×Int)×(Bool×Int)
def wrView (v:V4) (s:Rd):Rd:=wrNum 1 2 0 0 99 v.2.2.2 (wrNum 1 3 0 0 359 v.2.2.1 (wrNum 1 2 0 0 90 v.2.1 (wrNum 1 3 0 1 255 v.1 s)))
def rdView (s:Rd):V4×Rd:=
  (((rdNum 1 3 0 1 255 s).1,(rdNum 1 2 0 0 90 (rdNum 1 3 0 1 255 s).2).1,(rdNum 1 3 0 0 359 (rdNum 1 2 0 0 90 (rdNum 1 3 0 1 255 s).2).2).1,(rdNum 1 2 0 0 99 (rdNum 1 3 0 0 359 (rdNum 1 2 0 0 90 (rdNum 1 3 0 1 255 s).2).2).2).1),
    (rdNum 1 2 0 0 99 (rdNum 1 3 0 0 359 (rdNum 1 2 0 0 90 (rdNum 1 3 0 1 255 s).2).2).2).2)
def wrViews (l:List V4) (s:Rd):Rd:=l.foldl (fun s v=>wrView v s) s
def rdViews:Nat→Rd→List V4×Rd
  | 0,s=>([],s)
  | k+1,s=>((rdView s).1 :: (rdViews k (rdView s).2).1,(rdViews k (rdView s).2).2)
theorem wrView_ok {v:V4} {s:Rd} (h:(wrView v s).1=0) :
    s.1=0∧∃ T:List ByteArray,T.length=4∧(∀ l,wrView v (0,l)=(0,l++T))∧wrView v s=(0,s.2++T)∧∀ R,rdView (0,T++R)=(v,(0,R)):=by
  obtain⟨d1,t4,d2,d3,d4⟩:=wrNum_ok h
  obtain⟨c1,t3,c2,c3,c4⟩:=wrNum_ok d1
  obtain⟨b1,t2,b2,b3,b4⟩:=wrNum_ok c1
  obtain⟨a1,t1,a2,a3,a4⟩:=wrNum_ok b1
  have hall:∀ l,wrView v (0,l)=(0,l++[t1,t2,t3,t4]):=fun l=>by
    unfold wrView
    rw [a2,b2,c2,d2]
    simp
  refine⟨a1,[t1,t2,t3,t4],rfl,hall,?_,fun R=>?_⟩
  · have:s=(0,s.2):=Prod.ext a1 rfl
    rw [this]
    exact hall _
  · unfold rdView
    simp only [List.cons_append,List.nil_append,a4,b4,c4,d4]
theorem rdView_ok {s:Rd} (h:(rdView s).2.1=0) :
    s.1=0∧∃ T R v T',s.2=T++R∧T.length=4∧T'.length=4∧rdView s=(v,(0,R))∧(∀ l,wrView v (0,l)=(0,l++T'))∧NoLonger T' T∧∀ R,rdView (0,T'++R)=(v,(0,R)):=by
  obtain⟨d1,t4,R4,n4,d2,d3,u4,d4,d5,d6⟩:=rdNum_ok h
  obtain⟨c1,t3,R3,n3,c2,c3,u3,c4,c5,c6⟩:=rdNum_ok d1
  obtain⟨b1,t2,R2,n2,b2,b3,u2,b4,b5,b6⟩:=rdNum_ok c1
  obtain⟨a1,t1,R1,n1,a2,a3,u1,a4,a5,a6⟩:=rdNum_ok b1
  rw [a3] at b2 b3 c2 c3 d2 d3
  simp only at b2 b3 c2 c3 d2 d3
  subst b2
  rw [b3] at c2 c3 d2 d3
  simp only at c2 c3 d2 d3
  subst c2
  rw [c3] at d2 d3
  simp only at d2 d3
  subst d2
  refine⟨a1,[t1,t2,t3,t4],R4,(n1,n2,n3,n4),[u1,u2,u3,u4],a2,rfl,rfl,?_,fun l=>?_,?_,fun R=>?_⟩
  · unfold rdView
    rw [a3]
    simp only
    rw [b3]
    simp only
    rw [c3]
    simp only
    rw [d3]
  · unfold wrView
    simp only
    rw [a4,b4,c4,d4]
    simp
  · exact NoLonger.cons (a5 rfl) (NoLonger.cons (b5 rfl) (NoLonger.cons (c5 rfl) (NoLonger.cons (d5 rfl) (NoLonger.nil _))))
  · unfold rdView
    simp only [List.cons_append,List.nil_append,a6,b6,c6,d6]
theorem NoLonger.append {T U T' U':List ByteArray} (h:NoLonger T U) (hl:T.length=U.length) (k:NoLonger T' U'):NoLonger (T++T') (U++U'):=by
  intro i a b h1 h2
  rcases Nat.lt_or_ge i T.length with q | q
  · rw [List.getElem?_append_left q] at h1
    rw [List.getElem?_append_left (by omega)] at h2
    exact h i a b h1 h2
  · rw [List.getElem?_append_right q] at h1
    rw [List.getElem?_append_right (by omega),← hl] at h2
    exact k _ a b h1 h2
theorem wrViews_ok:∀ (l:List V4) (s:Rd),(wrViews l s).1=0 →
    s.1=0∧∃ T:List ByteArray,T.length=4 * l.length∧(∀ L,wrViews l (0,L)=(0,L++T))∧wrViews l s=(0,s.2++T)∧∀ R,rdViews l.length (0,T++R)=(l,(0,R))
  | [],s,h=>⟨h,[],rfl,fun L=>by rw [List.append_nil];rfl,by rw [List.append_nil];exact Prod.ext h rfl,fun R=>rfl⟩
  | v :: l,s,h=>by
    obtain⟨h1,T,h2,h3,h4,h5⟩:=wrViews_ok l (wrView v s) h
    obtain⟨g1,U,g2,g3,g4,g5⟩:=wrView_ok h1
    refine⟨g1,U++T,by simp [g2,h2];omega,fun L=>?_,?_,fun R=>?_⟩
    · show wrViews l (wrView v (0,L))=_
      rw [g3,h3,List.append_assoc]
    · show wrViews l (wrView v s)=_
      rw [h4,g4,List.append_assoc]
    · show ((rdView (0,U++T++R)).1 :: (rdViews l.length (rdView (0,U++T++R)).2).1,(rdViews l.length (rdView (0,U++T++R)).2).2)=_
      rw [List.append_assoc,g5]
      simp only
      rw [h5]
theorem rdViews_ok:∀ (k:Nat) (s:Rd),(rdViews k s).2.1=0 →
    s.1=0∧∃ T R l T',s.2=T++R∧T.length=4 * k∧T'.length=4 * k∧l.length=k∧rdViews k s=(l,(0,R))∧(∀ L,wrViews l (0,L)=(0,L++T'))∧NoLonger T' T∧∀ R,rdViews k (0,T'++R)=(l,(0,R))
  | 0,s,h=>⟨h,[],s.2,[],[],rfl,rfl,rfl,rfl,Prod.ext rfl (Prod.ext h rfl),fun L=>by rw [List.append_nil];rfl,NoLonger.nil _,fun R=>rfl⟩
  | k+1,s,h=>by
    obtain⟨h1,T,R,l,T',h2,h3,h4,h5,h6,h7,h8,h9⟩:=rdViews_ok k (rdView s).2 h
    obtain⟨g1,U,R',v,U',g2,g3,g4,g5,g6,g7,g8⟩:=rdView_ok h1
    rw [g5] at h2 h6
    simp only at h2 h6
    subst h2
    refine⟨g1,U++T,R,v :: l,U'++T',by rw [g2,List.append_assoc],by simp [g3,h3];omega,by simp [g4,h4];omega,by simp [h5],?_,fun L=>?_,NoLonger.append g7 (by omega) h8,fun R=>?_⟩
    · show ((rdView s).1 :: (rdViews k (rdView s).2).1,(rdViews k (rdView s).2).2)=_
      rw [g5]
      simp only
      rw [h6]
    · show wrViews l (wrView v (0,L))=_
      rw [g6,h7,List.append_assoc]
    · show ((rdView (0,U'++T'++R)).1 :: (rdViews k (rdView (0,U'++T'++R)).2).1,(rdViews k (rdView (0,U'++T'++R)).2).2)=_
      rw [List.append_assoc,g8]
      simp only
      rw [h9]
structure GsvD where
  T:Int
  N:Int
  S:Int
  L:List V4
def zeroG:GsvD:=⟨0,0,0,[]⟩
def putGsv (m:GsvD):List ByteArray×Int:=if 4 < m.L.length then ([],7) else wrDone (wrViews m.L (wrNum 1 2 0 0 99 (true,m.S) (wrDig 1 (min m.T 9) m.N (wrDig 1 9 m.T (0,[])))))
def rdSeen (s:Rd):Int×Rd:=((rdNum 1 2 0 0 99 s).1.2,if (rdNum 1 2 0 0 99 s).1.1=true then (rdNum 1 2 0 0 99 s).2 else rdFail 3 (rdNum 1 2 0 0 99 s).2)
def badG (n:Nat):Prop:=n < 3∨19 < n∨n % 4≠3
instance (n:Nat):Decidable (badG n):=by unfold badG;infer_instance
def takeGsv (R:List ByteArray):GsvD×Int:=
  if badG R.length then (zeroG,3)
  else if (rdViews ((R.length - 3) / 4) (rdSeen (rdDig 1 (rdDig 1 9 (0,R)).1 (rdDig 1 9 (0,R)).2).2).2).2.1=0 then
    (⟨(rdDig 1 9 (0,R)).1,(rdDig 1 (rdDig 1 9 (0,R)).1 (rdDig 1 9 (0,R)).2).1,(rdSeen (rdDig 1 (rdDig 1 9 (0,R)).1 (rdDig 1 9 (0,R)).2).2).1,(rdViews ((R.length - 3) / 4) (rdSeen (rdDig 1 (rdDig 1 9 (0,R)).1 (rdDig 1 9 (0,R)).2).2).2).1⟩,0)
  else (zeroG,(rdViews ((R.length - 3) / 4) (rdSeen (rdDig 1 (rdDig 1 9 (0,R)).1 (rdDig 1 9 (0,R)).2).2).2).2.1)
theorem rdSeen_ok {s:Rd} (h:(rdSeen s).2.1=0):s.1=0∧∃ t R n,s.2=t :: R∧rdSeen s=(n,(0,R))∧∃ t',(∀ l,wrNum 1 2 0 0 99 (true,n) (0,l)=(0,l++[t']))∧t'.size≤t.size∧∀ R,rdSeen (0,t' :: R)=(n,(0,R)):=by
  by_cases hb:(rdNum 1 2 0 0 99 s).1.1=true
  · have hr:rdSeen s=((rdNum 1 2 0 0 99 s).1.2,(rdNum 1 2 0 0 99 s).2):=by unfold rdSeen;rw [if_pos hb]
    rw [hr] at h
    obtain⟨h1,t,R,n,h2,h3,t',h4,h5,h6⟩:=rdNum_ok h
    rw [h3] at hb hr
    obtain⟨b,n⟩:=n
    simp only at hb hr
    subst hb
    refine⟨h1,t,R,n,h2,hr,t',h4,h5 rfl,fun R=>?_⟩
    unfold rdSeen
    rw [h6]
    rfl
  · unfold rdSeen at h
    rw [if_neg hb] at h
    exact absurd (firstE_zero h).2 (by decide)
theorem gsv_put_take {m:GsvD} (h:(putGsv m).2=0):takeGsv (putGsv m).1=(m,0)∧¬ badG (putGsv m).1.length:=by
  by_cases hl:4 < m.L.length
  · unfold putGsv at h;rw [if_pos hl] at h;exact absurd h (by decide)
  · have hp:putGsv m=wrDone (wrViews m.L (wrNum 1 2 0 0 99 (true,m.S) (wrDig 1 (min m.T 9) m.N (wrDig 1 9 m.T (0,[]))))):=if_neg hl
    rw [hp] at h ⊢
    obtain⟨h1,V,h2,-,h4,h5⟩:=wrViews_ok _ _ h
    obtain⟨g1,t3,g2,g3,g4⟩:=wrNum_ok h1
    obtain⟨f1,f2,f3,f4,f5,f6⟩:=wrDig_ok (by omega) (by omega) g1
    obtain⟨e1,e2,e3,e4,e5,e6⟩:=wrDig_ok (by omega) (by omega) f1
    have hT:min m.T 9=m.T:=by omega
    rw [hT] at f4 f5 f6 g3 h4
    have hR:(wrDone (wrViews m.L (wrNum 1 2 0 0 99 (true,m.S) (wrDig 1 m.T m.N (wrDig 1 9 m.T (0,[])))))).1=digT m.T :: digT m.N :: t3 :: V:=by
      unfold wrDone
      rw [h4,g3,f5,e5]
      simp
    rw [hT,hR]
    have hlen:(digT m.T :: digT m.N :: t3 :: V).length=3+4 * m.L.length:=by simp [h2];omega
    have hbad:¬ badG (digT m.T :: digT m.N :: t3 :: V).length:=by unfold badG;rw [hlen];omega
    refine⟨?_,hbad⟩
    have hs:∀ R,rdSeen (0,t3 :: R)=(m.S,(0,R)):=fun R=>by unfold rdSeen;rw [g4];rfl
    have hv:=h5 []
    rw [List.append_nil] at hv
    unfold takeGsv
    rw [if_neg hbad,hlen,e6]
    simp only
    rw [f6]
    simp only
    rw [hs]
    simp only
    rw [show (3+4 * m.L.length - 3) / 4=m.L.length from by omega,hv]
    rfl
theorem gsv_take_put {R:List ByteArray} (h:(takeGsv R).2=0):(takeGsv R).1.L.length≤4∧(putGsv (takeGsv R).1).2=0∧(putGsv (takeGsv R).1).1.length=R.length∧NoLonger (putGsv (takeGsv R).1).1 R:=by
  by_cases hb:badG R.length
  · unfold takeGsv at h;rw [if_pos hb] at h;exact absurd h (by decide)
  · have hb2:=hb
    unfold badG at hb2
    by_cases h0:(rdViews ((R.length - 3) / 4) (rdSeen (rdDig 1 (rdDig 1 9 (0,R)).1 (rdDig 1 9 (0,R)).2).2).2).2.1=0
    · have ht:takeGsv R=(⟨(rdDig 1 9 (0,R)).1,(rdDig 1 (rdDig 1 9 (0,R)).1 (rdDig 1 9 (0,R)).2).1,(rdSeen (rdDig 1 (rdDig 1 9 (0,R)).1 (rdDig 1 9 (0,R)).2).2).1,(rdViews ((R.length - 3) / 4) (rdSeen (rdDig 1 (rdDig 1 9 (0,R)).1 (rdDig 1 9 (0,R)).2).2).2).1⟩,0):=by
        unfold takeGsv;rw [if_neg hb,if_pos h0]
      obtain⟨h1,V,R4,L,V',h2,h3,h4,h5,h6,h7,h8,h9⟩:=rdViews_ok _ _ h0
      obtain⟨g1,t3,R3,n3,g2,g3,u3,g4,g5,g6⟩:=rdSeen_ok h1
      have hT9:(rdDig 1 9 (0,R)).1≤9:=by
        unfold rdDig
        split
        · rename_i q;exact (dgB_put q).2.1
        · exact (by decide:(0:Int)≤9)
      obtain⟨f1,t2,R2,n2,f2,f3,f4,f5,f6,f7,f8⟩:=rdDig_ok (by omega) hT9 g1
      obtain⟨e1,t1,R1,n1,e2,e3,e4,e5,e6,e7,e8⟩:=rdDig_ok (by omega) (by omega) f1
      rw [e3] at f2 f3 f5 f7 f8 g2 g3 h2 h6 ht
      simp only at f2 f3 f5 f7 f8 g2 g3 h2 h6 ht
      subst f2
      rw [f3] at g2 g3 h2 h6 ht
      simp only at g2 g3 h2 h6 ht
      subst g2
      rw [g3] at h2 h6 ht
      simp only at h2 h6 ht
      subst h2
      rw [h6] at ht
      simp only at ht e2
      subst e2
      have hlen:¬ 4 < L.length:=by simp only [List.length_cons,List.length_append] at h5 hb2;omega
      have hp:putGsv ⟨n1,n2,n3,L⟩=(digT n1 :: digT n2 :: u3 :: V',0):=by
        unfold putGsv
        rw [if_neg hlen]
        simp only
        rw [show min n1 9=n1 from by omega,e7,f7,g4,h7]
        simp [wrDone]
      rw [ht]
      simp only
      rw [hp]
      have hR4:R4=[]:=by
        have h10:(t1 :: t2 :: t3 :: (V++R4)).length=3+4 * ((t1 :: t2 :: t3 :: (V++R4)).length - 3) / 4+R4.length - 0:=by
          simp only [List.length_cons,List.length_append] at h3 hb2 ⊢;omega
        exact List.eq_nil_of_length_eq_zero (by simp only [List.length_cons,List.length_append] at h3 hb2;omega)
      subst hR4
      refine⟨by omega,rfl,?_,?_⟩
      · simp only [List.length_cons,List.length_append,List.length_nil] at h3 h4 ⊢;omega
      · rw [List.append_nil]
        exact NoLonger.cons (by rw [digT_size];omega) (NoLonger.cons (by rw [digT_size];omega) (NoLonger.cons g5 h8))
    · unfold takeGsv at h
      rw [if_neg hb,if_neg h0] at h
      exact absurd h h0
theorem takeGsv_no {R:List ByteArray} (h:(takeGsv R).2≠0):(takeGsv R).1=zeroG:=by
  unfold takeGsv at h ⊢
  split at h
  · rename_i q;rw [if_pos q]
  · rename_i q
    rw [if_neg q]
    split at h
    · exact absurd rfl h
    · rename_i q2;rw [if_neg q2]
def Alike (s t:Rd):Prop:=s.1=t.1∧(s.1=0→s=t)
theorem Alike.refl (s:Rd):Alike s s:=⟨rfl,fun _=>rfl⟩
theorem Alike.num {s t:Rd} (h:Alike s t) (W M F L H:Int) (n:Bool×Int):Alike (wrNum W M F L H n s) (wrNum W M F L H n t):=by
  refine⟨by unfold wrNum;rw [h.1],fun q=>?_⟩
  rw [h.2 (firstE_zero q).1]
theorem Alike.dig {s t:Rd} (h:Alike s t) (lo hi n:Int):Alike (wrDig lo hi n s) (wrDigR lo hi n t):=by
  unfold wrDig wrDigR
  by_cases hq:n < lo∨hi < n
  · rw [if_pos hq,if_pos hq]
    refine⟨by unfold wrText rdFail;rw [h.1],fun q=>absurd (firstE_zero q).2 (by decide)⟩
  · rw [if_neg hq,if_neg hq]
    refine⟨by unfold wrText;rw [h.1],fun q=>?_⟩
    rw [h.2 (firstE_zero q).1]
theorem Alike.view {s t:Rd} (h:Alike s t) (v:V4):Alike (wrView v s) (wrView v t):=(((h.num _ _ _ _ _ _).num _ _ _ _ _ _).num _ _ _ _ _ _).num _ _ _ _ _ _
theorem Alike.done {s t:Rd} (h:Alike s t):wrDone s=wrDone t:=by
  unfold wrDone
  by_cases q:s.1=0
  · rw [h.2 q]
  · rw [if_neg q,if_neg (by rw [← h.1];exact q),h.1]
theorem putGsv_small (m:GsvD):Small (putGsv m).1:=by
  unfold putGsv
  split
  · exact Small.nil
  · refine wrDone_small ?_
    have hd:∀ lo hi n s,Small s.2→Small (wrDig lo hi n s).2:=fun lo hi n s h=>by
      unfold wrDig
      split
      · exact wrText_small h (by simp)
      · exact wrText_small h (by rw [digT_size];omega)
    have hv:∀ (l:List V4) s,Small s.2→Small (wrViews l s).2:=fun l=>by
      induction l with
      | nil=>exact fun s h=>h
      | cons v l ih=>exact fun s h=>ih _ (wrNum_small (wrNum_small (wrNum_small (wrNum_small h))))
    exact hv _ _ (wrNum_small (hd _ _ _ _ (hd _ _ _ _ Small.nil)))
structure Kept (S:Nat→Prop) (g:Nat) (w w':World):Prop where
  os:w'.os=w.os
  tape:w'.tape=w.tape
  output:w'.output=w.output
  size:w.heap.size≤w'.heap.size
  block:∀ k,S k→k≠g→w'.heap[k]?=w.heap[k]?
theorem Kept.refl (S:Nat→Prop) (g:Nat) (w:World):Kept S g w w:=⟨rfl,rfl,rfl,Nat.le_refl _,fun _ _ _=>rfl⟩
theorem Kept.trans {S:Nat→Prop} {g:Nat} {w w1 w2:World} (h:Kept S g w w1) (k:Kept S g w1 w2):Kept S g w w2:=
  ⟨k.os.trans h.os,k.tape.trans h.tape,k.output.trans h.output,Nat.le_trans h.size k.size,fun i h1 h2=>(k.block i h1 h2).trans (h.block i h1 h2)⟩
theorem Kept.less {S T:Nat→Prop} {g:Nat} {w w':World} (h:Kept S g w w') (hT:∀ k,T k→S k):Kept T g w w':=
  ⟨h.os,h.tape,h.output,h.size,fun k h1 h2=>h.block k (hT k h1) h2⟩
theorem Kept.frm {S:Nat→Prop} {g:Nat} {v:Value} {w w':World} (h:Frm g v w w') (hv:∀ k,v.ownBlock=some k→¬ S k) (hb:∀ k,S k→k < w.heap.size):Kept S g w w':=
  ⟨h.os,h.tape,h.output,h.size,fun k h1 h2=>h.block k (hb k h1) h2 (fun q=>hv k q h1)⟩
theorem Kept.of_below {S:Nat→Prop} {g:Nat} {w w':World} (h:Below w.heap.size w w') (hb:∀ k,S k→k < w.heap.size):Kept S g w w':=
  ⟨h.os,h.tape,h.output,h.size,fun k h1 _=>h.block k (hb k h1)⟩
theorem Kept.cell {S:Nat→Prop} {g:Nat} {w w':World} (h:Kept S g w w') {b o:Nat} (hb:S b) (hg:b≠g):w'.cell? ⟨b,o,none⟩=w.cell? ⟨b,o,none⟩:=World.cell?_of_block (a:=⟨b,o,none⟩) (h.block b hb hg)
theorem Kept.below {S:Nat→Prop} {g B:Nat} {w w':World} (h:Kept S g w w') (hg:B≤g) (hb:∀ k,k < B→S k):Below B w w':=
  ⟨h.os,h.tape,h.output,h.size,fun k hk=>h.block k (hb k hk) (by omega)⟩
def Also (S:Nat→Prop) (w w':World) (k:Nat):Prop:=S k∨(w.heap.size≤k∧k < w'.heap.size)
def PenI (S:Nat→Prop) (g:Nat) (s:Rd) (w:World):Prop:=
  ∃ v,PenOk w g s.1 v s.2∧(∀ k,S k→k < w.heap.size)∧∀ k,v.ownBlock=some k→¬ S k
def RowI (S:Nat→Prop) (g:Nat) (s:Rd) (w:World):Prop:=
  ∃ v,RowW w g s.1 v s.2∧(∀ k,S k→k < w.heap.size)∧∀ k,v.ownBlock=some k→¬ S k
theorem PenI.keep {S:Nat→Prop} {g:Nat} {s:Rd} {w w':World} (h:PenI S g s w) (hb:Below w.heap.size w w'):PenI S g s w':=by
  obtain⟨v,h1,h3,h4⟩:=h
  exact⟨v,h1.keep hb,fun k hk=>Nat.lt_of_lt_of_le (h3 k hk) hb.size,h4⟩
theorem RowI.keep {S:Nat→Prop} {g:Nat} {s:Rd} {w w':World} (h:RowI S g s w) (hb:Below w.heap.size w w'):RowI S g s w':=by
  obtain⟨v,h1,h3,h4⟩:=h
  exact⟨v,h1.keep hb,fun k hk=>Nat.lt_of_lt_of_le (h3 k hk) hb.size,h4⟩
theorem PenI.also {S:Nat→Prop} {g:Nat} {s:Rd} {w w':World} (h:PenI S g s w) (hb:Below w.heap.size w w'):PenI (Also S w w') g s w':=by
  obtain⟨v,h1,h3,h4⟩:=h
  refine⟨v,h1.keep hb,fun k hk=>?_,fun k hk q=>?_⟩
  · have:=hb.size
    rcases hk with hk | hk
    · have:=h3 k hk;omega
    · exact hk.2
  · rcases q with q | q
    · exact h4 k hk q
    · have:=(h1.2.2.2.2.2.lt k hk).2;omega
theorem PenI.less {S T:Nat→Prop} {g:Nat} {s:Rd} {w:World} (h:PenI S g s w) (hT:∀ k,T k→S k):PenI T g s w:=by
  obtain⟨v,h1,h3,h4⟩:=h
  exact⟨v,h1,fun k hk=>h3 k (hT k hk),fun k hk q=>h4 k hk (hT k q)⟩
theorem PenI.bd {S:Nat→Prop} {g:Nat} {s:Rd} {w:World} (h:PenI S g s w):∀ k,S k→k < w.heap.size:=h.choose_spec.2.1
theorem RowI.bd {S:Nat→Prop} {g:Nat} {s:Rd} {w:World} (h:RowI S g s w):∀ k,S k→k < w.heap.size:=h.choose_spec.2.1
theorem PenI.post {S:Nat→Prop} {g:Nat} {s:Rd} {E:Int} {T:List ByteArray} {w w':World} {v:Value} {r:Ending} (h3:∀ k,S k→k < w.heap.size) (h4:∀ k,v.ownBlock=some k→¬ S k) (h:PutPost23 g s.1 E v s.2 T w r w') :
    r=.returned (.tuple #[])∧PenI S g (firstE s.1 E,s.2++T) w'∧Kept S g w w':=by
  obtain⟨rfl,v',p1,p2,p3⟩:=h
  refine⟨rfl,⟨v',p1,fun k hk=>Nat.lt_of_lt_of_le (h3 k hk) p2.size,fun k hk q=>?_⟩,Kept.frm p2 h4 h3⟩
  rcases p3 with p3 | p3
  · exact h4 k (p3 ▸ hk) q
  · have:=p3 k hk;have:=h3 k q;omega
theorem RowI.post {S:Nat→Prop} {g:Nat} {s:Rd} {E:Int} {T:List ByteArray} {w w':World} {v:Value} {r:Ending} (h3:∀ k,S k→k < w.heap.size) (h4:∀ k,v.ownBlock=some k→¬ S k) (h:RowPost g s.1 E v s.2 T w r w') :
    r=.returned (.tuple #[])∧RowI S g (firstE s.1 E,s.2++T) w'∧Kept S g w w':=by
  obtain⟨rfl,v',p1,p2,p3⟩:=h
  refine⟨rfl,⟨v',p1,fun k hk=>Nat.lt_of_lt_of_le (h3 k hk) p2.size,fun k hk q=>?_⟩,Kept.frm p2 h4 h3⟩
  rcases p3 with p3 | p3
  · exact h4 k (p3 ▸ hk) q
  · have:=p3 k hk;have:=h3 k q;omega
def PenStep (S:Nat→Prop) (g:Nat) (s:Rd) (w:World) (r:Ending) (w':World):Prop:=r=.returned (.tuple #[])∧PenI S g s w'∧Kept S g w w'
def RowStep (S:Nat→Prop) (g:Nat) (s:Rd) (w:World) (r:Ending) (w':World):Prop:=r=.returned (.tuple #[])∧RowI S g s w'∧Kept S g w w'
theorem penNum {S:Nat→Prop} {g:Nat} {s t:Rd} {w:World} {b:Bool} {n W M F L H:Int} (ht:Hid (wrNum W M F L H (b,n) s=t)) (hp:PenI S g s w) (hl:s.2.length+2≤1000000) :
    Calls Tryz.prog 228 #[.pointer (some ⟨g,0,none⟩),numV b n,colV W M F L H] w (PenStep S g t w):=by
  have ht:=ht.out
  subst ht
  obtain⟨v,h1,h3,h4⟩:=hp
  exact (PenNum_any g s.1 v s.2 b n W M F L H w h1 hl).mono fun r w' h=>PenI.post h3 h4 h
theorem penText {S:Nat→Prop} {g:Nat} {s t:Rd} {w:World} {a:ByteArray} {E:Int} (ht:Hid (wrText a E s=t)) (hp:PenI S g s w) (hl:s.2.length+2≤1000000) :
    Calls Tryz.prog 230 #[.pointer (some ⟨g,0,none⟩),.string a,.int .i64 E] w (PenStep S g t w):=by
  have ht:=ht.out
  subst ht
  obtain⟨v,h1,h3,h4⟩:=hp
  exact (PenText_any g s.1 E v s.2 a w h1 hl).mono fun r w' h=>PenI.post h3 h4 h
theorem penDone {S:Nat→Prop} {g:Nat} {s:Rd} {w:World} (hp:PenI S g s w) (hl:s.2.length≤1000000) :
    Calls Tryz.prog 234 #[.pointer (some ⟨g,0,none⟩)] w (DonePost s.1 s.2 w):=by
  obtain⟨v,h1,h3,h4⟩:=hp
  exact PenDone_any g s.1 v s.2 w h1 hl
theorem rowNum {S:Nat→Prop} {g:Nat} {s t:Rd} {w:World} {b:Bool} {n W M F L H:Int} (ht:Hid (wrNum W M F L H (b,n) s=t)) (hp:RowI S g s w) (hl:s.2.length+2≤1000000) :
    Calls Tryz.prog 88 #[.pointer (some ⟨g,0,none⟩),numV b n,colV W M F L H] w (RowStep S g t w):=by
  have ht:=ht.out
  subst ht
  obtain⟨v,h1,h3,h4⟩:=hp
  exact (RowNum_any g s.1 v s.2 b n W M F L H w h1 hl).mono fun r w' h=>RowI.post h3 h4 h
theorem rowText {S:Nat→Prop} {g:Nat} {s t:Rd} {w:World} {a:ByteArray} {E:Int} (ht:Hid (wrText a E s=t)) (hp:RowI S g s w) (hl:s.2.length+2≤1000000) :
    Calls Tryz.prog 91 #[.pointer (some ⟨g,0,none⟩),.string a,.int .i64 E] w (RowStep S g t w):=by
  have ht:=ht.out
  subst ht
  obtain⟨v,h1,h3,h4⟩:=hp
  exact (RowText_any g s.1 v s.2 a E w h1 hl).mono fun r w' h=>RowI.post h3 h4 h
theorem rowDone {S:Nat→Prop} {g:Nat} {s:Rd} {w:World} (hp:RowI S g s w) (hl:s.2.length≤1000000) :
    Calls Tryz.prog 90 #[.pointer (some ⟨g,0,none⟩)] w (DonePost s.1 s.2 w):=by
  obtain⟨v,h1,h3,h4⟩:=hp
  exact RowDone_any g s.1 v s.2 w h1 hl
def EyeI (g:Nat) (s:Rd) (w:World):Prop:=∃ Q,EyeR Q w g s.1 s.2∧(∀ b,Q b→b < g)∧∀ t∈s.2,t.size≤1000000
theorem EyeI.keep {g:Nat} {s:Rd} {w w':World} (h:EyeI g s w) (hb:Below w.heap.size w w'):EyeI g s w':=by
  obtain⟨Q,h1,h2,h3⟩:=h;exact⟨Q,h1.keep hb,h2,h3⟩
theorem EyeI.far {g G o:Nat} {s:Rd} {w:World} {u:Value} (h:EyeI g s w) (hG:g < G):EyeI g s (w.setCell ⟨G,o,none⟩ u):=by
  obtain⟨Q,h1,h2,h3⟩:=h;exact⟨Q,h1.far (fun q=>by have:=h2 _ q;omega) (by omega),h2,h3⟩
theorem EyeI.lt {g:Nat} {s:Rd} {w:World} (h:EyeI g s w):g < w.heap.size:=by
  obtain⟨Q,⟨A,c,h0,h1,h2,h3,h4,-⟩,-⟩:=h;exact h4
theorem tail_small {l:List ByteArray} {N:Nat} (h:∀ t∈l,t.size≤N):∀ t∈l.tail,t.size≤N:=fun t ht=>h t (List.mem_of_mem_tail ht)
theorem headD_small {l:List ByteArray} {N:Nat} (h:∀ t∈l,t.size≤N):(l.headD ByteArray.empty).size≤N:=by
  cases l with
  | nil=>simp
  | cons a l=>exact h a (List.mem_cons_self ..)
def EyeStep (g:Nat) (x:Value) (s:Rd) (w:World) (r:Ending) (w':World):Prop:=r=.returned x∧EyeI g s w'∧Frm g nilV w w'
theorem EyeI.post {Q:Nat→Prop} {g:Nat} {x:Value} {s:Rd} {w w':World} {r:Ending} (h2:∀ b,Q b→b < g) (h3:∀ t∈s.2,t.size≤1000000) (h:EyePost Q g x s.1 s.2 w r w'):EyeStep g x s w r w':=
  ⟨h.1,⟨Q,h.2.1,h2,h3⟩,h.2.2⟩
theorem eyeNum {g:Nat} {s t:Rd} {w:World} {b:Bool} {n W M F L H:Int} (ht:Hid (rdNum W M F L H s=((b,n),t))) (hp:EyeI g s w) :
    Calls Tryz.prog 96 #[.pointer (some ⟨g,0,none⟩),colV W M F L H] w (EyeStep g (numV b n) t w):=by
  have ht:=ht.out
  have hg:=hp.lt
  obtain⟨Q,h1,h2,h3⟩:=hp
  injection ht with e1 e2
  injection e1 with e3 e4
  subst e2 e3 e4
  exact (EyeNum_any g s.1 s.2 W M F L H w h1 (fun b q=>Nat.lt_trans (h2 b q) hg) hg (headD_small h3)).mono fun r w' h=>EyeI.post (s:=(rdNum W M F L H s).2) h2 (tail_small h3) h
theorem eyeText {g:Nat} {s t:Rd} {w:World} {a:ByteArray} (ht:Hid (rdText s=(a,t))) (hp:EyeI g s w) :
    Calls Tryz.prog 112 #[.pointer (some ⟨g,0,none⟩)] w (EyeStep g (.string a) t w):=by
  have ht:=ht.out
  obtain⟨Q,h1,h2,h3⟩:=hp
  injection ht with e1 e2
  subst e1 e2
  exact (EyeText_any g s.1 s.2 w h1).mono fun r w' h=>EyeI.post (s:=(rdText s).2) h2 (tail_small h3) h
theorem eyeFail {g:Nat} {s t:Rd} {w:World} {E:Int} (ht:Hid (rdFail E s=t)) (hp:EyeI g s w) :
    Calls Tryz.prog 109 #[.pointer (some ⟨g,0,none⟩),.int .i64 E] w (EyeStep g (.tuple #[]) t w):=by
  have ht:=ht.out
  obtain⟨Q,h1,h2,h3⟩:=hp
  subst ht
  exact (EyeFail_any g s.1 E s.2 w h1).mono fun r w' h=>EyeI.post (s:=rdFail E s) h2 h3 h
theorem eyeErr {g:Nat} {s:Rd} {w:World} (hp:EyeI g s w) :
    Calls Tryz.prog 107 #[.pointer (some ⟨g,0,none⟩)] w fun r w'=>r=.returned (.int .i64 s.1)∧w=w':=by
  obtain⟨Q,h1,h2,h3⟩:=hp
  exact EyeErr_any g s.1 s.2 w h1
theorem eyeLeft {g:Nat} {s:Rd} {w:World} (hp:EyeI g s w) :
    Calls Tryz.prog 135 #[.pointer (some ⟨g,0,none⟩)] w fun r w'=>r=.returned (.int .i64 (s.2.length:Int))∧w=w':=by
  obtain⟨Q,h1,h2,h3⟩:=hp
  exact EyeLeft_any g s.1 s.2 w h1
theorem penRow {w:World}:Calls Tryz.prog 227 #[] w fun r w'=>r=.returned (.pointer (some ⟨w.heap.size,0,none⟩))∧PenI (fun k=>k < w.heap.size+1) w.heap.size (0,[]) w'∧Below w.heap.size w w'∧w'.heap.size=w.heap.size+1:=
  (Row_any w).mono fun r w' ⟨h1,h2,h3,h4⟩=>⟨h1,⟨_,h2,fun k hk=>by omega,fun k hk=>by simp [Value.ownBlock] at hk⟩,h3,h4⟩
theorem rowNew {w:World}:RowI (fun k=>k < w.heap.size+1) w.heap.size (0,[]) (w.alloc (.cells #[.slice none 0 0,.int .i64 0,.int .i64 0] 112)):=by
  refine⟨.slice none 0 0,⟨by simp [World.cell?_alloc_at],by simp [World.cell?_alloc_at],fun o=>?_,by simp,World.ownsRow_nil _ _ _ _⟩,fun k hk=>by simpa using hk,fun k hk=>by simp [Value.ownBlock] at hk⟩
  rw [frozen?_alloc_cells]
  exact frozen_past _ _ _ (Nat.le_refl _)
theorem eyeLook {A:Option Addr} {R:List ByteArray} {c:Nat} {w:World} (hA:A=none→c=0) (hs:Strs w w.heap.size A R) (hn:R.length≤1000000) (ht:∀ t∈R,t.size≤1000000) :
    Calls Tryz.prog 95 #[.slice A R.length c] w fun r w'=>∃ g,r=.returned (.pointer (some ⟨g,0,none⟩))∧EyeI g (0,R) w'∧w.heap.size≤g∧w'.heap.size=g+1∧Below w.heap.size w w':=
  (Look_any A R c w hA hs hn).mono fun r w' ⟨g,h1,h2,h3,h4,h5⟩=>⟨g,h1,⟨_,h2,fun b q=>q.2,ht⟩,h3,h4,h5⟩
abbrev vtgC (b0:Bool) (n0:Int) (b1:Bool) (n1:Int) (b2:Bool) (n2:Int) (b3:Bool) (n3:Int):Array Value:=#[.bool b0,.int .i64 n0,.bool b1,.int .i64 n1,.bool b2,.int .i64 n2,.bool b3,.int .i64 n3]
abbrev vtgV (b0:Bool) (n0:Int) (b1:Bool) (n1:Int) (b2:Bool) (n2:Int) (b3:Bool) (n3:Int):Value:=.agg (vtgC b0 n0 b1 n1 b2 n2 b3 n3)
abbrev clC (W M F L H:Int) (c:ByteArray):Array Value:=#[.int .i64 W,.int .i64 M,.int .i64 F,.int .i64 L,.int .i64 H,.string c]
abbrev clV (W M F L H:Int) (c:ByteArray):Value:=.agg (clC W M F L H c)
abbrev clCells:Array Value:=#[.int .i64 1,.int .i64 3,.int .i64 2,.int .i64 0,.int .i64 36000,.string ⟨#[84]⟩,.int .i64 1,.int .i64 3,.int .i64 2,.int .i64 0,.int .i64 36000,.string ⟨#[77]⟩,.int .i64 1,.int .i64 4,.int .i64 2,.int .i64 0,.int .i64 999999,.string ⟨#[78]⟩,.int .i64 1,.int .i64 4,.int .i64 2,.int .i64 0,.int .i64 999999,.string ⟨#[75]⟩]
abbrev clO (W M F L H:Int) (c:ByteArray):Obj:=.cells (clC W M F L H c) 174
theorem isEmpty_text (a:ByteArray):a.toList.isEmpty=decide (a=ByteArray.empty):=by
  rw [← beq_text]
  have:ByteArray.empty.toList=[]:=by rw [ByteArray.toList_eq];rfl
  rw [this]
  cases a.toList <;> rfl
theorem r28Course_any (w:World):Calls Tryz.prog 63 #[] w fun e w'=>e=.returned (colV 1 3 2 0 36000)∧Below w.heap.size w w':=by
  go_enter Tryz.func63,Tryz.ntmps63
  go_wp2
  refine bodyPost_ret (v:=colV 1 3 2 0 36000) (by simp [results,Tryz.results63,go_sem]) rfl ⟨rfl,below_new _ _⟩
theorem r28Speed_any (w:World):Calls Tryz.prog 64 #[] w fun e w'=>e=.returned (colV 1 4 2 0 999999)∧Below w.heap.size w w':=by
  go_enter Tryz.func64,Tryz.ntmps64
  go_wp2
  refine bodyPost_ret (v:=colV 1 4 2 0 999999) (by simp [results,Tryz.results64,go_sem]) rfl ⟨rfl,below_new _ _⟩
def ColsPost (w:World) (r:Ending) (w':World):Prop:=∃ h,r=.returned (.slice (some ⟨h,0,none⟩) 4 4)∧(∀ o,w'.cell? ⟨h,o,none⟩=clCells[o]?)∧w.heap.size≤h∧h < w'.heap.size∧Below w.heap.size w w'
set_option maxHeartbeats 1000000 in
theorem vtgcolumns_any (w:World):Calls Tryz.prog 132 #[] w (ColsPost w):=by
  go_enter Tryz.func132,Tryz.ntmps132
  go_wp2
  go_ret
  refine⟨w.heap.size+1+1,rfl,fun o=>?_,by omega,by simp,bthen (bthen (below_new _ _) (below_new _ _)) (below_new _ _)⟩
  rw [World.cell?_alloc_at _ _ _ _ (by simp)]
abbrev ptrC (M:Nat):Array Value:=#[.pointer (some ⟨M,0,none⟩),.pointer (some ⟨M,2,none⟩),.pointer (some ⟨M,4,none⟩),.pointer (some ⟨M,6,none⟩)]
set_option maxHeartbeats 1000000 in
theorem vtgnumbers_any (M:Nat) (w:World):Calls Tryz.prog 133 #[.pointer (some ⟨M,0,none⟩)] w fun e w'=>e=.returned (.slice (some ⟨w.heap.size,0,none⟩) 4 4)∧(∀ o,w'.cell? ⟨w.heap.size,o,none⟩=(ptrC M)[o]?)∧w.heap.size < w'.heap.size∧Below w.heap.size w w':=by
  go_enter Tryz.func133,Tryz.ntmps133
  go_wp2_with fail
  go_region_with (fail)
  all_goals
    go_wp2_with fail
    go_ret
    refine⟨rfl,fun o=>?_,?_,bdrew (below_new _ _)⟩
    · show (w.alloc _).cell? _=_
      rw [World.cell?_alloc_at _ _ _ _ rfl]
    · show _ < (w.alloc _).heap.size
      simp
theorem vtgbehind_any (W M F L H:Int) (c:ByteArray) (b:Bool) (n:Int) (w:World):Calls Tryz.prog 279 #[clV W M F L H c,numV b n] w fun e w'=>e=.returned (.string (unitT b c))∧Below w.heap.size w w':=by
  cases b with
  | true=>
    go_enter Tryz.func279,Tryz.ntmps279
    go_wp2
    go_ret
    exact⟨rfl,bthen (below_new _ _) (below_new _ _)⟩
  | false=>
    go_enter Tryz.func279,Tryz.ntmps279
    go_wp2
    go_ret
    exact⟨rfl,bthen (below_new _ _) (below_new _ _)⟩
theorem r25PutUnit_any {S:Nat→Prop} {g:Nat} {s t:Rd} {b:Bool} {n:Int} {c:ByteArray} {w:World} (ht:Hid (wrText (unitT b c) 0 s=t)) (hp:RowI S g s w) (hl:s.2.length+2≤1000000) :
    Calls Tryz.prog 89 #[.pointer (some ⟨g,0,none⟩),numV b n,.string c] w (RowStep S g t w):=by
  have HQ:∀ o,Hid (Calls Tryz.prog 91 #[.pointer (some ⟨g,0,none⟩),.string (unitT b c),.int .i64 0] (w.alloc o) (RowStep S g t (w.alloc o))):=fun o=>rowText ht (hp.keep (below_new w o)) hl
  have HB:=fun o=>Lib.hid (Kept.of_below (g:=g) (below_new w o) hp.bd)
  clear ht hp hl
  cases b with
  | true=>
    have e1:unitT true c=c:=rfl
    rw [e1] at HQ
    go_enter Tryz.func89,Tryz.ntmps89
    go_wp2_with fail
    refine ((HQ _).out).mono ?_
    rintro e w1 ⟨rfl,h1,h2⟩
    go_wp2_with fail
    go_end0
    exact⟨rfl,h1,(HB _).out.trans h2⟩
  | false=>
    have e1:unitT false c=ByteArray.empty:=rfl
    rw [e1] at HQ
    go_enter Tryz.func89,Tryz.ntmps89
    go_wp2_with fail
    refine ((HQ _).out).mono ?_
    rintro e w1 ⟨rfl,h1,h2⟩
    go_wp2_with fail
    go_end0
    exact⟨rfl,h1,(HB _).out.trans h2⟩
end Go.Proofs.YtoabkoniegmkaaaGreat
