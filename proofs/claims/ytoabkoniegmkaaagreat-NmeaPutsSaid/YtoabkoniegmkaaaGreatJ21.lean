/- Layer 28: the reference's Take. Printed by genvtg7.py. -/
import Derived.Test.YtoabkoniegmkaaaGreatJ10
import Derived.Deep.RegionHeld3
import Derived.Test.YtoabkoniegmkaaaGreatJ12
import Derived.Test.YtoabkoniegmkaaaGreatJ19
import Derived.Test.YtoabkoniegmkaaaGreatJ20
import Derived.Test.YtoabkoniegmkaaaGreatJ08
import Derived.Test.YtoabkoniegmkaaaGreatJ11
namespace Go.Proofs.YtoabkoniegmkaaaGreat
set_option linter.unusedVariables false
open Go.RowKit
def rdOne (s:Rd):Bool×Rd:=(decide ((rdText s).1=⟨#[65]⟩),if (rdText s).1≠⟨#[65]⟩∧(rdText s).1≠⟨#[77]⟩ then rdFail 3 (rdText s).2 else (rdText s).2)
def rdIds:Nat→Rd→List Int×Rd
  | 0,s=>([],s)
  | k+1,s=>(if (rdNum 1 3 0 1 255 s).1.1=true then (rdNum 1 3 0 1 255 s).1.2 :: (rdIds k (rdNum 1 3 0 1 255 s).2).1 else (rdIds k (rdNum 1 3 0 1 255 s).2).1,(rdIds k (rdNum 1 3 0 1 255 s).2).2)
structure GsaD where
  a:Bool
  f:Int
  ids:List Int
  p0:Bool×Int
  p1:Bool×Int
  p2:Bool×Int
def zeroS:GsaD:=⟨false,0,[],(false,0),(false,0),(false,0)⟩
def rdDop (s:Rd):(Bool×Int)×Rd:=rdNum 1 3 2 0 99999 s
def rdGsa (s:Rd):GsaD×Rd:=
  (⟨(rdOne s).1,(rdDig 1 3 (rdOne s).2).1,(rdIds 12 (rdDig 1 3 (rdOne s).2).2).1,(rdDop (rdIds 12 (rdDig 1 3 (rdOne s).2).2).2).1,(rdDop (rdDop (rdIds 12 (rdDig 1 3 (rdOne s).2).2).2).2).1,(rdDop (rdDop (rdDop (rdIds 12 (rdDig 1 3 (rdOne s).2).2).2).2).2).1⟩,
    (rdDop (rdDop (rdDop (rdIds 12 (rdDig 1 3 (rdOne s).2).2).2).2).2).2)
def takeGsa (R:List ByteArray):GsaD×Int:=if R.length≠17 then (zeroS,3) else if (rdGsa (0,R)).2.1=0 then ((rdGsa (0,R)).1,0) else (zeroS,(rdGsa (0,R)).2.1)
theorem gsa_taken {R:List ByteArray} {a:Bool} {f:Int} {ids:List Int} {d0 d1 d2:Bool×Int} {r1 r2 r3 r4 r5 r6:Rd} (hl:R.length=17) (h1:Hid (rdOne (0,R)=(a,r1))) (h2:Hid (rdDig 1 3 r1=(f,r2))) (h3:Hid (rdIds 12 r2=(ids,r3))) (h4:Hid (rdNum 1 3 2 0 99999 r3=(d0,r4))) (h5:Hid (rdNum 1 3 2 0 99999 r4=(d1,r5))) (h6:Hid (rdNum 1 3 2 0 99999 r5=(d2,r6))) :
    takeGsa R=if r6.1=0 then (⟨a,f,ids,d0,d1,d2⟩,0) else (zeroS,r6.1):=by
  have hg:rdGsa (0,R)=(⟨a,f,ids,d0,d1,d2⟩,r6):=by
    unfold rdGsa rdDop
    rw [h1.out]
    simp only
    rw [h2.out]
    simp only
    rw [h3.out]
    simp only
    rw [h4.out]
    simp only
    rw [h5.out]
    simp only
    rw [h6.out]
  unfold takeGsa
  rw [if_neg (fun q=>q hl),hg]
theorem rdIds_step {k:Nat} {s s':Rd} {b:Bool} {n:Int} (h:rdNum 1 3 0 1 255 s=((b,n),s')):rdIds (k+1) s=(if b=true then n :: (rdIds k s').1 else (rdIds k s').1,(rdIds k s').2):=by
  simp only [rdIds,h]
theorem rdIds_len:∀ (k:Nat) (s:Rd),(rdIds k s).1.length≤k
  | 0,s=>Nat.le_refl _
  | k+1,s=>by
    have:=rdIds_len k (rdNum 1 3 0 1 255 s).2
    simp only [rdIds]
    split
    · simp;omega
    · omega
theorem one_ways (t:ByteArray) (s1:Rd):((t.toList==[65])=true∧decide (t=⟨#[65]⟩)=true∧(if t≠⟨#[65]⟩∧t≠⟨#[77]⟩ then rdFail 3 s1 else s1)=s1) ∨
    ((t.toList==[65])=false∧decide (t=⟨#[65]⟩)=false∧((t.toList==[77])=true∧(if t≠⟨#[65]⟩∧t≠⟨#[77]⟩ then rdFail 3 s1 else s1)=s1∨(t.toList==[77])=false∧(if t≠⟨#[65]⟩∧t≠⟨#[77]⟩ then rdFail 3 s1 else s1)=rdFail 3 s1)):=by
  have l65:(⟨#[65]⟩:ByteArray).toList=[65]:=by rw [ByteArray.toList_eq]
  have l77:(⟨#[77]⟩:ByteArray).toList=[77]:=by rw [ByteArray.toList_eq]
  have b65:(t.toList==[65])=decide (t=⟨#[65]⟩):=by rw [← beq_text,l65]
  have b77:(t.toList==[77])=decide (t=⟨#[77]⟩):=by rw [← beq_text,l77]
  rw [b65,b77]
  by_cases h:t=⟨#[65]⟩
  · exact .inl ⟨decide_eq_true h,decide_eq_true h,if_neg (fun q=>q.1 h)⟩
  · refine .inr ⟨decide_eq_false h,decide_eq_false h,?_⟩
    by_cases h2:t=⟨#[77]⟩
    · exact .inl ⟨decide_eq_true h2,if_neg (fun q=>q.2 h2)⟩
    · exact .inr ⟨decide_eq_false h2,if_pos ⟨h,h2⟩⟩
theorem gsaid_any (w:World):Calls Tryz.prog 129 #[] w fun e w'=>e=.returned (colV 1 3 0 1 255)∧Below w.heap.size w w':=by
  go_enter Tryz.func129,Tryz.ntmps129
  go_wp2
  refine bodyPost_ret (v:=colV 1 3 0 1 255) (by simp [results,Tryz.results129,go_sem]) rfl ⟨rfl,below_new _ _⟩
theorem gsadop_any (w:World):Calls Tryz.prog 130 #[] w fun e w'=>e=.returned (colV 1 3 2 0 99999)∧Below w.heap.size w w':=by
  go_enter Tryz.func130,Tryz.ntmps130
  go_wp2
  refine bodyPost_ret (v:=colV 1 3 2 0 99999) (by simp [results,Tryz.results130,go_sem]) rfl ⟨rfl,below_new _ _⟩
theorem r27Id_any (w:World):Calls Tryz.prog 61 #[] w fun e w'=>e=.returned (colV 1 3 0 1 255)∧Below w.heap.size w w':=by
  go_enter Tryz.func61,Tryz.ntmps61
  go_wp2
  refine bodyPost_ret (v:=colV 1 3 0 1 255) (by simp [results,Tryz.results61,go_sem]) rfl ⟨rfl,below_new _ _⟩
theorem r27Dop_any (w:World):Calls Tryz.prog 62 #[] w fun e w'=>e=.returned (colV 1 3 2 0 99999)∧Below w.heap.size w w':=by
  go_enter Tryz.func62,Tryz.ntmps62
  go_wp2
  refine bodyPost_ret (v:=colV 1 3 2 0 99999) (by simp [results,Tryz.results62,go_sem]) rfl ⟨rfl,below_new _ _⟩
set_option maxRecDepth 8000 in
set_option maxHeartbeats 2000000 in
theorem gsaisAuto_any {g:Nat} {s t:Rd} {b:Bool} {w:World} (ht:Hid (rdOne s=(b,t))) (hp:EyeI g s w):Calls Tryz.prog 127 #[.pointer (some ⟨g,0,none⟩)] w (EyeStep g (.bool b) t w):=by
  obtain⟨a,s1,ha⟩:∃ a s1,Hid (rdText s=(a,s1)):=⟨_,_,rfl⟩
  have ht:=ht.out
  unfold rdOne at ht
  rw [ha.out] at ht
  injection ht with e1 e2
  simp only at e1 e2
  have HP:=Lib.hid hp
  clear hp
  rcases one_ways a s1 with ⟨k1,k2,k3⟩ | ⟨k1,k2,⟨k3,k4⟩ | ⟨k3,k4⟩⟩
  · rw [k2] at e1
    rw [k3] at e2
    subst e1 e2
    clear k2 k3
    go_enter Tryz.func127,Tryz.ntmps127
    go_wp2_with fail
    refine (eyeText ha HP.out).mono ?_
    rintro r w1 ⟨rfl,hx,hf⟩
    have HX:=Lib.hid hx
    have HF:=Lib.hid hf
    clear hx hf HP
    go_wp2_with fail
    go_ret
    exact⟨rfl,HX.out,HF.out⟩
  · rw [k2] at e1
    rw [k4] at e2
    subst e1 e2
    clear k2 k4
    go_enter Tryz.func127,Tryz.ntmps127
    go_wp2_with fail
    refine (eyeText ha HP.out).mono ?_
    rintro r w1 ⟨rfl,hx,hf⟩
    have HX:=Lib.hid hx
    have HF:=Lib.hid hf
    clear hx hf HP
    go_wp2_with fail
    go_ret
    exact⟨rfl,HX.out,HF.out⟩
  · rw [k2] at e1
    rw [k4] at e2
    subst e1 e2
    clear k2 k4
    go_enter Tryz.func127,Tryz.ntmps127
    go_wp2_with fail
    refine (eyeText ha HP.out).mono ?_
    rintro r w1 ⟨rfl,hx,hf⟩
    have HX:=Lib.hid hx
    have HF:=Lib.hid hf
    clear hx hf HP
    go_wp2_with fail
    refine (eyeFail rfl HX.out).mono ?_
    rintro r w2 ⟨rfl,hx2,hf2⟩
    have HX2:=Lib.hid hx2
    have HF2:=Lib.hid (HF.out.step hf2)
    clear hx2 hf2
    go_wp2_with fail
    go_ret
    exact⟨rfl,HX2.out,HF2.out⟩
set_option maxRecDepth 8000 in
set_option maxHeartbeats 4000000 in
theorem gsafix_any {g:Nat} {s t:Rd} {n:Int} {w:World} (ht:Hid (rdDig 1 3 s=(n,t))) (hp:EyeI g s w):Calls Tryz.prog 128 #[.pointer (some ⟨g,0,none⟩)] w (EyeStep g (.int .i64 n) t w):=by
  obtain⟨a,s1,ha⟩:∃ a s1,Hid (rdText s=(a,s1)):=⟨_,_,rfl⟩
  obtain⟨hw1,hw2,hw3⟩:=rdDig_ways (lo:=1) (hi:=3) ha.out
  have HP:=Lib.hid hp
  have ht:=ht.out
  clear hp
  rcases dig_ways a with ⟨hb,h1⟩ | ⟨hz,h1,⟨h2,hb⟩ | ⟨h2,hb⟩ | ⟨h2,h3,hb,hv⟩⟩
  · have e:=hw1 hb
    rw [e] at ht
    injection ht with e1 e2
    subst e1 e2
    clear e hw1 hw2 hw3 hb
    have i1:((a.size:Int)==1)=false:=by rw [beq_eq_false_iff_ne];omega
    go_enter Tryz.func128,Tryz.ntmps128
    go_wp2_with fail
    refine (eyeText ha HP.out).mono ?_
    rintro r w1 ⟨rfl,hx,hf⟩
    have HX:=Lib.hid hx
    have HF:=Lib.hid hf
    clear hx hf HP
    go_wp2_with fail
    refine (eyeFail rfl HX.out).mono ?_
    rintro r w2 ⟨rfl,hx2,hf2⟩
    have HX2:=Lib.hid hx2
    have HF2:=Lib.hid (HF.out.step hf2)
    clear hx2 hf2
    go_wp2_with fail
    go_ret
    exact⟨rfl,HX2.out,HF2.out⟩
  · have e:=hw1 hb
    rw [e] at ht
    injection ht with e1 e2
    subst e1 e2
    clear e hw1 hw2 hw3 hb
    have i1:((a.size:Int)==1)=true:=by rw [beq_iff_eq];omega
    have i2:((a[0].toNat:Nat):Int) < 48:=by omega
    go_enter Tryz.func128,Tryz.ntmps128
    go_wp2_with fail
    refine (eyeText ha HP.out).mono ?_
    rintro r w1 ⟨rfl,hx,hf⟩
    have HX:=Lib.hid hx
    have HF:=Lib.hid hf
    clear hx hf HP
    go_wp2_with fail
    refine (eyeFail rfl HX.out).mono ?_
    rintro r w2 ⟨rfl,hx2,hf2⟩
    have HX2:=Lib.hid hx2
    have HF2:=Lib.hid (HF.out.step hf2)
    clear hx2 hf2
    go_wp2_with fail
    go_ret
    exact⟨rfl,HX2.out,HF2.out⟩
  · have e:=hw1 hb
    rw [e] at ht
    injection ht with e1 e2
    subst e1 e2
    clear e hw1 hw2 hw3 hb
    have i1:((a.size:Int)==1)=true:=by rw [beq_iff_eq];omega
    have i2:(48:Int)≤((a[0].toNat:Nat):Int):=by omega
    have i3:(57:Int) < ((a[0].toNat:Nat):Int):=by omega
    go_enter Tryz.func128,Tryz.ntmps128
    go_wp2_with fail
    refine (eyeText ha HP.out).mono ?_
    rintro r w1 ⟨rfl,hx,hf⟩
    have HX:=Lib.hid hx
    have HF:=Lib.hid hf
    clear hx hf HP
    go_wp2_with fail
    refine (eyeFail rfl HX.out).mono ?_
    rintro r w2 ⟨rfl,hx2,hf2⟩
    have HX2:=Lib.hid hx2
    have HF2:=Lib.hid (HF.out.step hf2)
    clear hx2 hf2
    go_wp2_with fail
    go_ret
    exact⟨rfl,HX2.out,HF2.out⟩
  · have i1:((a.size:Int)==1)=true:=by rw [beq_iff_eq];omega
    have i2:(48:Int)≤((a[0].toNat:Nat):Int):=by omega
    have i3:((a[0].toNat:Nat):Int)≤57:=by omega
    rw [hv] at hw2 hw3
    by_cases hq:(a[0].toNat:Int) - 48 < 1∨3 < (a[0].toNat:Int) - 48
    · have e:=hw2 hb hq
      rw [e] at ht
      injection ht with e1 e2
      subst e1 e2
      clear e hw1 hw2 hw3 hb hv
      by_cases hq1:(a[0].toNat:Int) < 49
      · clear hq
        go_enter Tryz.func128,Tryz.ntmps128
        go_wp2_with fail
        refine (eyeText ha HP.out).mono ?_
        rintro r w1 ⟨rfl,hx,hf⟩
        have HX:=Lib.hid hx
        have HF:=Lib.hid hf
        clear hx hf HP
        go_wp2_with fail
        refine (eyeFail rfl HX.out).mono ?_
        rintro r w2 ⟨rfl,hx2,hf2⟩
        have HX2:=Lib.hid hx2
        have HF2:=Lib.hid (HF.out.step hf2)
        clear hx2 hf2
        go_wp2_with fail
        go_ret
        exact⟨rfl,HX2.out,HF2.out⟩
      · have q1:49≤(a[0].toNat:Int):=by omega
        have q2:51 < (a[0].toNat:Int):=by omega
        clear hq hq1
        go_enter Tryz.func128,Tryz.ntmps128
        go_wp2_with fail
        refine (eyeText ha HP.out).mono ?_
        rintro r w1 ⟨rfl,hx,hf⟩
        have HX:=Lib.hid hx
        have HF:=Lib.hid hf
        clear hx hf HP
        go_wp2_with fail
        refine (eyeFail rfl HX.out).mono ?_
        rintro r w2 ⟨rfl,hx2,hf2⟩
        have HX2:=Lib.hid hx2
        have HF2:=Lib.hid (HF.out.step hf2)
        clear hx2 hf2
        go_wp2_with fail
        go_ret
        exact⟨rfl,HX2.out,HF2.out⟩
    · have e:=hw3 hb hq
      rw [e] at ht
      injection ht with e1 e2
      subst e1 e2
      have q1:49≤(a[0].toNat:Int):=by omega
      have q2:(a[0].toNat:Int)≤51:=by omega
      clear e hw1 hw2 hw3 hb hv hq
      go_enter Tryz.func128,Tryz.ntmps128
      go_wp2_with fail
      refine (eyeText ha HP.out).mono ?_
      rintro r w1 ⟨rfl,hx,hf⟩
      have HX:=Lib.hid hx
      have HF:=Lib.hid hf
      clear hx hf HP
      go_wp2_with fail
      go_ret
      exact⟨rfl,HX.out,HF.out⟩
abbrev gsaC (a:Bool) (f:Int) (A:Option Addr) (n c:Nat) (b0:Bool) (n0:Int) (b1:Bool) (n1:Int) (b2:Bool) (n2:Int):Array Value:=#[.bool a,.int .i64 f,.slice A n c,.bool b0,.int .i64 n0,.bool b1,.int .i64 n1,.bool b2,.int .i64 n2]
abbrev gsaV (a:Bool) (f:Int) (A:Option Addr) (n c:Nat) (b0:Bool) (n0:Int) (b1:Bool) (n1:Int) (b2:Bool) (n2:Int):Value:=.agg (gsaC a f A n c b0 n0 b1 n1 b2 n2)
def Ints (w:World) (B:Nat) (A:Option Addr) (l:List Int):Prop:=∀ k (hk:k < l.length),∃ b off,A=some ⟨b,off,none⟩∧b < B∧w.cell? ⟨b,off+k,none⟩=some (.int .i64 l[k])
theorem Ints.below {w w':World} {B B':Nat} {A:Option Addr} {l:List Int} (h:Ints w B A l) (hb:Below B' w w') (hB:B≤B'):Ints w' B A l:=fun k hk=>by
  obtain⟨b,off,h1,h2,h3⟩:=h k hk
  exact⟨b,off,h1,h2,(hb.cell (p:=⟨b,off+k,none⟩) (by show b < B';omega)).trans h3⟩
theorem Ints.more {w:World} {B B':Nat} {A:Option Addr} {l:List Int} (h:Ints w B A l) (hB:B≤B'):Ints w B' A l:=fun k hk=>by
  obtain⟨b,off,h1,h2,h3⟩:=h k hk
  exact⟨b,off,h1,by omega,h3⟩
def GsaPost (x:GsaD×Int) (w:World) (r:Ending) (w':World):Prop:=
  ∃ A n c,r=.returned (.tuple #[gsaV x.1.a x.1.f A n c x.1.p0.1 x.1.p0.2 x.1.p1.1 x.1.p1.2 x.1.p2.1 x.1.p2.2,.int .i64 x.2])∧x.1.ids.length=n∧Ints w' w'.heap.size A x.1.ids∧Below w.heap.size w w'
def idsC (D:List Int):Array Value:=((D.map (Value.int .i64))++List.replicate (12 - D.length) (Value.int .i64 0)).toArray
theorem idsC_size (D:List Int) (h:D.length≤12):(idsC D).size=12:=by simp [idsC];omega
theorem idsC_put (D:List Int) (n:Int) (h:D.length < 12):(idsC D).setIfInBounds D.length (.int .i64 n)=idsC (D++[n]):=by
  obtain⟨k,hk⟩:∃ k,12 - D.length=k+1:=⟨11 - D.length,by omega⟩
  have hk2:12 - (D.length+1)=k:=by omega
  unfold idsC
  rw [List.setIfInBounds_toArray]
  congr 1
  rw [hk,List.replicate_succ,List.set_append_right _ _ (by simp),List.length_append,List.length_singleton,hk2]
  simp
theorem idsC_get (D:List Int) (k:Nat) (h:k < D.length):(idsC D)[k]?=some (.int .i64 D[k]):=by
  unfold idsC
  simp only [List.getElem?_toArray]
  rw [List.getElem?_append_left (by simpa using h)]
  simp [h]
theorem idsC_zero (D:List Int) (h:D.length < 12):(idsC D)[D.length]?=some (.int .i64 0):=by
  unfold idsC
  simp only [List.getElem?_toArray]
  rw [List.getElem?_append_right (by simp),List.getElem?_replicate,if_pos (by simp;omega)]
theorem far_set {w:World} {R b o o':Nat} {u:Value} (h:R≠b):(w.setCell ⟨R,o,none⟩ u).cell? ⟨b,o',none⟩=w.cell? ⟨b,o',none⟩:=World.cell?_setCell_other _ _ _ _ (fun q=>by injection q with q;exact h q)
theorem ints_of {w:World} {IB:Nat} {D:List Int} (h:∀ j,w.cell? ⟨IB,j,none⟩=(idsC D)[j]?) (hz:IB < w.heap.size):Ints w w.heap.size (some ⟨IB,0,none⟩) D:=fun k hk=>⟨IB,0,rfl,hz,by rw [Nat.zero_add,h,idsC_get D k hk]⟩
set_option maxRecDepth 8000 in
theorem gsaTake_bad (A:Option Addr) (n c:Nat) (w:World) (h:((n:Int) != 17)=true):Calls Tryz.prog 45 #[.slice A n c] w (GsaPost (zeroS,3) w):=by
  go_enter Tryz.func45,Tryz.ntmps45
  go_wp2
  exact bodyPost_ret (v:=.tuple #[gsaV false 0 none 0 0 false 0 false 0 false 0,.int .i64 3]) (by simp [results,Tryz.results45,go_sem]) rfl ⟨none,0,0,rfl,rfl,fun k hk=>absurd hk (Nat.not_lt_zero _),below_new _ _⟩
set_option maxRecDepth 8000 in
set_option maxHeartbeats 8000000 in
theorem gsaTake_ok (A:Option Addr) (n c:Nat) (R:List ByteArray) (w:World) (hl:R.length=n) (hA:A=none→c=0) (hs:Strs w w.heap.size A R) (hz:∀ t∈R,t.size≤1000000) (hkn:Hid (n=17)) :
    Calls Tryz.prog 45 #[.slice A n c] w (GsaPost (takeGsa R) w):=by
  obtain⟨a,r1,h1⟩:∃ n u,Hid (rdOne (0,R)=(n,u)):=⟨_,_,rfl⟩
  obtain⟨f,r2,h2⟩:∃ n u,Hid (rdDig 1 3 r1=(n,u)):=⟨_,_,rfl⟩
  obtain⟨ids,r3,h3⟩:∃ n u,Hid (rdIds 12 r2=(n,u)):=⟨_,_,rfl⟩
  obtain⟨b0,n0,r4,h4⟩:∃ b n u,Hid (rdNum 1 3 2 0 99999 r3=((b,n),u)):=⟨_,_,_,rfl⟩
  obtain⟨b1,n1,r5,h5⟩:∃ b n u,Hid (rdNum 1 3 2 0 99999 r4=((b,n),u)):=⟨_,_,_,rfl⟩
  obtain⟨b2,n2,r6,h6⟩:∃ b n u,Hid (rdNum 1 3 2 0 99999 r5=((b,n),u)):=⟨_,_,_,rfl⟩
  obtain⟨X,hX⟩:∃ X,takeGsa R=X:=⟨_,rfl⟩
  have HT:Hid (X=if r6.1=0 then (⟨a,f,ids,(b0,n0),(b1,n1),(b2,n2)⟩,0) else (zeroS,r6.1)):=hX.symm.trans (gsa_taken (by rw [hl];exact hkn.out) h1 h2 h3 h4 h5 h6)
  rw [hX]
  clear hX
  have HB0:=Lib.hid (below_new w (.cells (gsaC false 0 none 0 0 false 0 false 0 false 0) 39))
  have HL:=Lib.hid (eyeLook (c:=c) hA ((hs.below HB0.out (Nat.le_refl _)).more HB0.out.size) (by have:=hkn.out;omega) hz)
  rw [hl] at HL
  have hR0:∀ o,(w.alloc (.cells (gsaC false 0 none 0 0 false 0 false 0 false 0) 39)).cell? ⟨w.heap.size,o,none⟩=(gsaC false 0 none 0 0 false 0 false 0 false 0)[o]?:=fun o=>World.cell?_alloc_at _ _ _ _ rfl
  have hR1:∀ o,(w.alloc (.cells (gsaC false 0 none 0 0 false 0 false 0 false 0) 39)).frozen? ⟨w.heap.size,o,none⟩=false:=fun o=>by rw [frozen?_alloc_cells];exact frozen_past _ _ _ (Nat.le_refl _)
  have HR0:=Lib.hid hR0
  have HR1:=Lib.hid hR1
  have HZ0:Hid ((w.alloc (.cells (gsaC false 0 none 0 0 false 0 false 0 false 0) 39)).heap.size=w.heap.size+1):=by show _=_;simp
  have i17:((n:Int) != 17)=false:=by have:=hkn.out;rw [bne_eq_false_iff_eq];omega
  clear hs hA hz hR0 hR1 hl
  go_enter Tryz.func45,Tryz.ntmps45
  try dsimp only
  repeat (fail_if_success (show Code.wp _ (Code.seq (Code.region 1 _ _) _) _ _ _)
          first | go_values | go_skip | go_guarded | go_step | go_upon | go_back | (simp only [Int.not_lt,Int.not_le] at *;go_simp) | (go_ite <;> go_prune <;> (try go_simp)))
  go_cut [] (fun wx=>wx=w.alloc (.cells (gsaC false 0 none 0 0 false 0 false 0 false 0) 39))
  case first=>
    go_wp2_with fail
    go_meet
    rfl
  case rest=>
  subst hcut
  generalize hW0:w.alloc (.cells (gsaC false 0 none 0 0 false 0 false 0 false 0) 39)=W0 at *
  clear hW0
  go_wp2_with fail
  refine HL.out.mono ?_
  rintro r w1 ⟨g,rfl,hx1,hg1,hz1,hb1⟩
  have HX1:=Lib.hid hx1
  have HB1:=Lib.hid hb1
  have HG1:=Lib.hid hg1
  clear hx1 hb1 hg1 hz1 HL
  go_wp2_with fail
  refine (gsaisAuto_any h1 HX1.out).mono ?_
  rintro r w2 ⟨rfl,hx2,hf2⟩
  have HX2:=Lib.hid hx2
  have HF2:=Lib.hid hf2
  clear hx2 hf2
  go_wp2_with fail
  refine (gsafix_any h2 HX2.out).mono ?_
  rintro r w3 ⟨rfl,hx3,hf3⟩
  have HX3:=Lib.hid hx3
  have HF3:=Lib.hid (HF2.out.step hf3)
  clear hx3 hf3 HX2 HF2
  go_wp2_with fail
  have hbm:=below_new w3 (.cells (gsaC a f none 0 0 false 0 false 0 false 0) 39)
  have hzm:(w3.alloc (.cells (gsaC a f none 0 0 false 0 false 0 false 0) 39)).heap.size=w3.heap.size+1:=by simp
  have hbi:=below_new (w3.alloc (.cells (gsaC a f none 0 0 false 0 false 0 false 0) 39)) (.cells #[.int .i64 0,.int .i64 0,.int .i64 0,.int .i64 0,.int .i64 0,.int .i64 0,.int .i64 0,.int .i64 0,.int .i64 0,.int .i64 0,.int .i64 0,.int .i64 0] 171)
  have T0:TkI (EyeI g r2) g (w3.heap.size+1) (idsC []) ((w3.alloc (.cells (gsaC a f none 0 0 false 0 false 0 false 0) 39)).alloc (.cells #[.int .i64 0,.int .i64 0,.int .i64 0,.int .i64 0,.int .i64 0,.int .i64 0,.int .i64 0,.int .i64 0,.int .i64 0,.int .i64 0,.int .i64 0,.int .i64 0] 171)) ((w3.alloc (.cells (gsaC a f none 0 0 false 0 false 0 false 0) 39)).alloc (.cells #[.int .i64 0,.int .i64 0,.int .i64 0,.int .i64 0,.int .i64 0,.int .i64 0,.int .i64 0,.int .i64 0,.int .i64 0,.int .i64 0,.int .i64 0,.int .i64 0] 171)):=
    ⟨(HX3.out.keep hbm).keep hbi,fun j=>World.cell?_alloc_at _ _ _ _ hzm.symm,fun j=>by rw [frozen?_alloc_cells];exact frozen_past _ _ _ (by omega),by have:=HX3.out.lt;omega,by simp,rfl,rfl,rfl,Nat.le_refl _,fun _ _ _ _=>rfl⟩
  have HMB:Hid ((∀ o,((w3.alloc (.cells (gsaC a f none 0 0 false 0 false 0 false 0) 39)).alloc (.cells #[.int .i64 0,.int .i64 0,.int .i64 0,.int .i64 0,.int .i64 0,.int .i64 0,.int .i64 0,.int .i64 0,.int .i64 0,.int .i64 0,.int .i64 0,.int .i64 0] 171)).cell? ⟨w3.heap.size,o,none⟩=(gsaC a f none 0 0 false 0 false 0 false 0)[o]?)∧(∀ o,((w3.alloc (.cells (gsaC a f none 0 0 false 0 false 0 false 0) 39)).alloc (.cells #[.int .i64 0,.int .i64 0,.int .i64 0,.int .i64 0,.int .i64 0,.int .i64 0,.int .i64 0,.int .i64 0,.int .i64 0,.int .i64 0,.int .i64 0,.int .i64 0] 171)).frozen? ⟨w3.heap.size,o,none⟩=false)):=
    ⟨fun o=>(World.cell?_alloc_past _ _ _ (by simp)).trans (World.cell?_alloc_at _ _ _ _ rfl),fun o=>by rw [frozen?_alloc_cells,frozen?_alloc_cells];exact frozen_past _ _ _ (Nat.le_refl _)⟩
  have hz0:=HZ0.out
  have hb1s:=HB1.out.size
  have hf3s:=HF3.out.size
  have hx3l:=HX3.out.lt
  have hg1:=HG1.out
  have hbB:Below W0.heap.size W0 ((w3.alloc (.cells (gsaC a f none 0 0 false 0 false 0 false 0) 39)).alloc (.cells #[.int .i64 0,.int .i64 0,.int .i64 0,.int .i64 0,.int .i64 0,.int .i64 0,.int .i64 0,.int .i64 0,.int .i64 0,.int .i64 0,.int .i64 0,.int .i64 0] 171)):=
    bthen (Below.trans HB1.out (HF3.out.below (by omega) (fun k hk=>by simp [Value.ownBlock] at hk) (by omega))) (bthen hbm hbi)
  have HRW:Hid ((∀ o,((w3.alloc (.cells (gsaC a f none 0 0 false 0 false 0 false 0) 39)).alloc (.cells #[.int .i64 0,.int .i64 0,.int .i64 0,.int .i64 0,.int .i64 0,.int .i64 0,.int .i64 0,.int .i64 0,.int .i64 0,.int .i64 0,.int .i64 0,.int .i64 0] 171)).cell? ⟨w.heap.size,o,none⟩=(gsaC false 0 none 0 0 false 0 false 0 false 0)[o]?)∧(∀ o,((w3.alloc (.cells (gsaC a f none 0 0 false 0 false 0 false 0) 39)).alloc (.cells #[.int .i64 0,.int .i64 0,.int .i64 0,.int .i64 0,.int .i64 0,.int .i64 0,.int .i64 0,.int .i64 0,.int .i64 0,.int .i64 0,.int .i64 0,.int .i64 0] 171)).frozen? ⟨w.heap.size,o,none⟩=false)∧Below w.heap.size w ((w3.alloc (.cells (gsaC a f none 0 0 false 0 false 0 false 0) 39)).alloc (.cells #[.int .i64 0,.int .i64 0,.int .i64 0,.int .i64 0,.int .i64 0,.int .i64 0,.int .i64 0,.int .i64 0,.int .i64 0,.int .i64 0,.int .i64 0,.int .i64 0] 171))):=
    ⟨fun o=>((bcell hbB).1 _ o (by omega)).trans (HR0.out o),fun o=>((bcell hbB).2 _ o (by omega)).trans (HR1.out o),Below.trans HB0.out (hbB.mono (by omega))⟩
  have HLT:Hid (w.heap.size < g∧g < w3.heap.size∧w3.heap.size+1 < ((w3.alloc (.cells (gsaC a f none 0 0 false 0 false 0 false 0) 39)).alloc (.cells #[.int .i64 0,.int .i64 0,.int .i64 0,.int .i64 0,.int .i64 0,.int .i64 0,.int .i64 0,.int .i64 0,.int .i64 0,.int .i64 0,.int .i64 0,.int .i64 0] 171)).heap.size):=⟨by omega,by omega,by simp⟩
  have HI0:Hid ([]++(rdIds 12 r2).1=ids∧(rdIds 12 r2).2=r3∧TkI (EyeI g r2) g (w3.heap.size+1) (idsC []) ((w3.alloc (.cells (gsaC a f none 0 0 false 0 false 0 false 0) 39)).alloc (.cells #[.int .i64 0,.int .i64 0,.int .i64 0,.int .i64 0,.int .i64 0,.int .i64 0,.int .i64 0,.int .i64 0,.int .i64 0,.int .i64 0,.int .i64 0,.int .i64 0] 171)) ((w3.alloc (.cells (gsaC a f none 0 0 false 0 false 0 false 0) 39)).alloc (.cells #[.int .i64 0,.int .i64 0,.int .i64 0,.int .i64 0,.int .i64 0,.int .i64 0,.int .i64 0,.int .i64 0,.int .i64 0,.int .i64 0,.int .i64 0,.int .i64 0] 171))):=⟨by rw [h3.out];rfl,by rw [h3.out],T0⟩
  clear hbm hzm hbi T0 hz0 hb1s hf3s hx3l hg1 hbB HX3 HF3 HB1 HG1 HR0 HR1 HZ0 HB0 HX1
  generalize hW:(w3.alloc (.cells (gsaC a f none 0 0 false 0 false 0 false 0) 39)).alloc (.cells #[.int .i64 0,.int .i64 0,.int .i64 0,.int .i64 0,.int .i64 0,.int .i64 0,.int .i64 0,.int .i64 0,.int .i64 0,.int .i64 0,.int .i64 0,.int .i64 0] 171)=W at *
  generalize hIB:w3.heap.size+1=IB at *
  generalize w3.heap.size=MB at *
  clear hW
  have HIM:Hid (MB < IB):=by show _ < _;omega
  clear hIB
  go_loopw [7,21] (fun nv iv wr=>∃ (i:Nat) (D:List Int) (s:Rd),iv=.int .i64 (i:Int)∧nv=.int .i64 (D.length:Int)∧i≤12∧D.length≤i∧Hid (D++(rdIds (12 - i) s).1=ids∧(rdIds (12 - i) s).2=r3∧TkI (EyeI g s) g IB (idsC D) W wr)) (fun _ iv _=>12 - (intOf iv).toNat)
  case atStart=>exact⟨0,[],r2,rfl,rfl,by omega,Nat.zero_le _,HI0⟩
  case round=>
    clear HI0
    obtain⟨i,D,s,rfl,rfl,hi,hDi,hI⟩:=hrel
    by_cases hlt:i < 12
    · obtain⟨b,n,s',e0⟩:∃ b n u,Hid (rdNum 1 3 0 1 255 s=((b,n),u)):=⟨_,_,_,rfl⟩
      have hst:=rdIds_step (k:=11 - i) e0.out
      rw [show 11 - i+1=12 - i from by omega,show 11 - i=12 - (i+1) from by omega] at hst
      have HST:=Lib.hid hst
      clear hst
      have i1:(i:Int) < 12:=by omega
      have i2:(0:Int)≤(i:Int):=by omega
      go_wp2_with fail
      refine (gsaid_any _).mono ?_
      rintro r x1 ⟨rfl,hb⟩
      have HT1:=Lib.hid (hI.out.2.2.keep (Y:=EyeI g s) (hI.out.2.2.x.keep hb) hb)
      clear hb
      go_wp2_with fail
      refine (eyeNum e0 HT1.out.x).mono ?_
      rintro r x2 ⟨rfl,hx,hf⟩
      have HT2:=Lib.hid (HT1.out.frm (Y:=EyeI g s') hx hf)
      clear hx hf HT1
      have hbn:=below_new x2 (.cells #[.bool b,.int .i64 n] 30)
      have hT3:=HT2.out.keep (Y:=EyeI g s') (HT2.out.x.keep hbn) hbn
      have hn0:(x2.alloc (.cells #[.bool b,.int .i64 n] 30)).cell? ⟨x2.heap.size,0,none⟩=some (.bool b):=World.cell?_alloc_at _ _ _ _ rfl
      have hn1:(x2.alloc (.cells #[.bool b,.int .i64 n] 30)).cell? ⟨x2.heap.size,1,none⟩=some (.int .i64 n):=World.cell?_alloc_at _ _ _ _ rfl
      have hc:=hT3.c D.length
      rw [idsC_zero D (by omega)] at hc
      have hfz:=hT3.z D.length
      have HT3:=Lib.hid hT3
      have i3:(0:Int)≤(D.length:Int):=by omega
      have i4:(D.length:Int) < 12:=by omega
      clear hbn hT3
      cases b with
      | false=>
        have HNX:Hid (D++(rdIds (12 - (i+1)) s').1=ids∧(rdIds (12 - (i+1)) s').2=r3∧TkI (EyeI g s') g IB (idsC D) W (x2.alloc (.cells #[.bool false,.int .i64 n] 30))):=by
          have q1:=hI.out.1
          have q2:=hI.out.2.1
          rw [HST.out] at q1 q2
          exact⟨q1,q2,HT3.out⟩
        go_wp2_with fail
        go_roundw
        case rel=>exact⟨i+1,D,s',by go_num,rfl,by omega,by omega,HNX⟩
        case measure=>simp [intOf];omega
      | true=>
        have hp:=HT3.out.put (o:=D.length) (u:=.int .i64 n) (by rw [idsC_size D (by omega)];omega) (HT3.out.x.far (by have:=HLT.out;have:=HIM.out;omega):EyeI g s' _)
        rw [idsC_put D n (by omega)] at hp
        have HNX:Hid ((D++[n])++(rdIds (12 - (i+1)) s').1=ids∧(rdIds (12 - (i+1)) s').2=r3∧TkI (EyeI g s') g IB (idsC (D++[n])) W ((x2.alloc (.cells #[.bool true,.int .i64 n] 30)).setCell ⟨IB,D.length,none⟩ (.int .i64 n))):=by
          have q1:=hI.out.1
          have q2:=hI.out.2.1
          rw [HST.out] at q1 q2
          refine⟨?_,q2,hp⟩
          rw [← q1]
          simp
        clear hp
        go_wp2_with fail
        go_roundw
        case rel=>exact⟨i+1,D++[n],s',by go_num,by simp,by omega,by simp;omega,HNX⟩
        case measure=>simp [intOf];omega
    · obtain rfl:i=12:=by omega
      have hD:D=ids:=by have:=hI.out.1;simpa [rdIds] using this
      have hs3:s=r3:=by have:=hI.out.2.1;simpa [rdIds] using this
      subst hD hs3
      have HTI:=Lib.hid hI.out.2.2
      have i3:(0:Int)≤(D.length:Int):=by omega
      have i4:(D.length:Int)≤12:=by omega
      have hT0:TkI (EyeI g s) g MB (gsaC a f none 0 0 false 0 false 0 false 0) wr wr:=⟨HTI.out.x,fun o=>(HTI.out.cell (by have:=HLT.out;have:=HIM.out;omega) (by have:=HLT.out;omega) (by have:=HIM.out;omega)).trans (HMB.out.1 o),fun o=>(HTI.out.frozen (by have:=HLT.out;have:=HIM.out;omega) (by have:=HLT.out;omega) (by have:=HIM.out;omega)).trans (HMB.out.2 o),HLT.out.2.1,by have:=HTI.out.mz;have:=HIM.out;omega,rfl,rfl,rfl,Nat.le_refl _,fun _ _ _ _=>rfl⟩
      have HIDS:Hid (∀ j,wr.cell? ⟨IB,j,none⟩=(idsC D)[j]?):=HTI.out.c
      have HIZ:Hid (IB < wr.heap.size):=HTI.out.mz
      have HRWx:Hid ((∀ o,wr.cell? ⟨w.heap.size,o,none⟩=(gsaC false 0 none 0 0 false 0 false 0 false 0)[o]?)∧(∀ o,wr.frozen? ⟨w.heap.size,o,none⟩=false)∧Below w.heap.size w wr):=
        ⟨fun o=>(HTI.out.cell (by have:=HLT.out;have:=HIM.out;omega) (by have:=HLT.out;omega) (by have:=HLT.out;have:=HIM.out;omega)).trans (HRW.out.1 o),fun o=>(HTI.out.frozen (by have:=HLT.out;have:=HIM.out;omega) (by have:=HLT.out;omega) (by have:=HLT.out;have:=HIM.out;omega)).trans (HRW.out.2.1 o),Below.trans HRW.out.2.2 (HTI.out.below (by have:=HLT.out;omega) (by have:=HLT.out;have:=HIM.out;omega))⟩
      have m2:=hT0.c 2
      have z2:=hT0.z 2
      have HT0:=Lib.hid hT0
      clear hT0 hI HRW HMB
      go_wp2_with fail
      have hp:=HT0.out.put (o:=2) (u:=.slice (some ⟨IB,0,none⟩) D.length D.length) (by simp) (HT0.out.x.far HLT.out.2.1)
      have e:∀ C:Array Value,C=gsaC a f (some ⟨IB,0,none⟩) D.length D.length false 0 false 0 false 0→TkI (EyeI g s) g MB C wr (wr.setCell ⟨MB,2,none⟩ (.slice (some ⟨IB,0,none⟩) D.length D.length)):=fun C hC=>by subst hC;exact hp
      have HT1:=Lib.hid (e _ rfl)
      clear e hp m2 z2 HT0
      generalize wr.setCell ⟨MB,2,none⟩ (.slice (some ⟨IB,0,none⟩) D.length D.length)=y0 at *
      refine (gsadop_any _).mono ?_
      rintro r x0 ⟨rfl,hb⟩
      have HT2:=Lib.hid (HT1.out.keep (Y:=EyeI g s) (HT1.out.x.keep hb) hb)
      clear hb HT1
      go_wp2_with fail
      refine (eyeNum h4 HT2.out.x).mono ?_
      rintro r y1 ⟨rfl,hx,hf⟩
      have HT1:=Lib.hid (HT2.out.frm hx hf)
      clear hx hf HT2
      go_wp2_with fail
      refine (gsadop_any _).mono ?_
      rintro r x1 ⟨rfl,hb⟩
      have HT2:=Lib.hid (HT1.out.keep (Y:=EyeI g r4) (HT1.out.x.keep hb) hb)
      clear hb HT1
      go_wp2_with fail
      refine (eyeNum h5 HT2.out.x).mono ?_
      rintro r y2 ⟨rfl,hx,hf⟩
      have HT1:=Lib.hid (HT2.out.frm hx hf)
      clear hx hf HT2
      go_wp2_with fail
      refine (gsadop_any _).mono ?_
      rintro r x2 ⟨rfl,hb⟩
      have HT2:=Lib.hid (HT1.out.keep (Y:=EyeI g r5) (HT1.out.x.keep hb) hb)
      clear hb HT1
      go_wp2_with fail
      refine (eyeNum h6 HT2.out.x).mono ?_
      rintro r y3 ⟨rfl,hx,hf⟩
      have HT1:=Lib.hid (HT2.out.frm hx hf)
      clear hx hf HT2
      have hT4:=HT1.out
      have m3:=hT4.c 3
      have z3:=hT4.z 3
      have m4:=hT4.c 4
      have z4:=hT4.z 4
      have m5:=hT4.c 5
      have z5:=hT4.z 5
      have m6:=hT4.c 6
      have z6:=hT4.z 6
      have m7:=hT4.c 7
      have z7:=hT4.z 7
      have m8:=hT4.c 8
      have z8:=hT4.z 8
      clear hT4
      go_upto_region 16 with fail
      have hx0:EyeI g r6 ((y3.setCell ⟨MB,3,none⟩ (.bool b0)).setCell ⟨MB,4,none⟩ (.int .i64 n0)):=((HT1.out.x).far (G:=MB) (o:=3) (u:=.bool b0) HLT.out.2.1).far (G:=MB) (o:=4) (u:=.int .i64 n0) HLT.out.2.1
      have hs0:TkI (EyeI g r6) g MB (gsaC a f (some ⟨IB,0,none⟩) D.length D.length b0 n0 false 0 false 0) wr ((y3.setCell ⟨MB,3,none⟩ (.bool b0)).setCell ⟨MB,4,none⟩ (.int .i64 n0)):=(HT1.out).store (o:=3) rfl rfl (fun j=>by rcases j with _ | _ | _ | _ | _ | _ | _ | _ | _ | j <;> simp) hx0
      have hx1:EyeI g r6 ((((y3.setCell ⟨MB,3,none⟩ (.bool b0)).setCell ⟨MB,4,none⟩ (.int .i64 n0)).setCell ⟨MB,5,none⟩ (.bool b1)).setCell ⟨MB,6,none⟩ (.int .i64 n1)):=((hx0).far (G:=MB) (o:=5) (u:=.bool b1) HLT.out.2.1).far (G:=MB) (o:=6) (u:=.int .i64 n1) HLT.out.2.1
      have hs1:TkI (EyeI g r6) g MB (gsaC a f (some ⟨IB,0,none⟩) D.length D.length b0 n0 b1 n1 false 0) wr ((((y3.setCell ⟨MB,3,none⟩ (.bool b0)).setCell ⟨MB,4,none⟩ (.int .i64 n0)).setCell ⟨MB,5,none⟩ (.bool b1)).setCell ⟨MB,6,none⟩ (.int .i64 n1)):=(hs0).store (o:=5) rfl rfl (fun j=>by rcases j with _ | _ | _ | _ | _ | _ | _ | _ | _ | j <;> simp) hx1
      have hx2:EyeI g r6 ((((((y3.setCell ⟨MB,3,none⟩ (.bool b0)).setCell ⟨MB,4,none⟩ (.int .i64 n0)).setCell ⟨MB,5,none⟩ (.bool b1)).setCell ⟨MB,6,none⟩ (.int .i64 n1)).setCell ⟨MB,7,none⟩ (.bool b2)).setCell ⟨MB,8,none⟩ (.int .i64 n2)):=((hx1).far (G:=MB) (o:=7) (u:=.bool b2) HLT.out.2.1).far (G:=MB) (o:=8) (u:=.int .i64 n2) HLT.out.2.1
      have hs2:TkI (EyeI g r6) g MB (gsaC a f (some ⟨IB,0,none⟩) D.length D.length b0 n0 b1 n1 b2 n2) wr ((((((y3.setCell ⟨MB,3,none⟩ (.bool b0)).setCell ⟨MB,4,none⟩ (.int .i64 n0)).setCell ⟨MB,5,none⟩ (.bool b1)).setCell ⟨MB,6,none⟩ (.int .i64 n1)).setCell ⟨MB,7,none⟩ (.bool b2)).setCell ⟨MB,8,none⟩ (.int .i64 n2)):=(hs1).store (o:=7) rfl rfl (fun j=>by rcases j with _ | _ | _ | _ | _ | _ | _ | _ | _ | j <;> simp) hx2
      have HT5:=Lib.hid hs2
      clear hs0 hs1 hs2 hx0 hx1 hx2 HT1 m3 m4 m5 m6 m7 m8 z3 z4 z5 z6 z7 z8
      generalize ((((((y3.setCell ⟨MB,3,none⟩ (.bool b0)).setCell ⟨MB,4,none⟩ (.int .i64 n0)).setCell ⟨MB,5,none⟩ (.bool b1)).setCell ⟨MB,6,none⟩ (.int .i64 n1)).setCell ⟨MB,7,none⟩ (.bool b2)).setCell ⟨MB,8,none⟩ (.int .i64 n2))=y9 at *
      have HER:=Lib.hid (eyeErr HT5.out.x)
      obtain⟨E,hE⟩:∃ E,r6.1=E:=⟨_,rfl⟩
      rw [hE] at HER HT
      clear hE
      have hIDS:∀ j,y9.cell? ⟨IB,j,none⟩=(idsC D)[j]?:=fun j=>(HT5.out.cell HIZ.out (by have:=HLT.out;have:=HIM.out;omega) (by have:=HIM.out;omega)).trans (HIDS.out j)
      have HID9:=Lib.hid hIDS
      have HIZ9:Hid (IB < y9.heap.size):=by show _ < _;have:=HT5.out.size;have:=HIZ.out;omega
      have hr:∀ j,y9.cell? ⟨w.heap.size,j,none⟩=(gsaC false 0 none 0 0 false 0 false 0 false 0)[j]?:=fun j=>(HT5.out.cell (by have:=HIZ.out;have:=HLT.out;have:=HIM.out;omega) (by have:=HLT.out;omega) (by have:=HLT.out;omega)).trans (HRWx.out.1 j)
      have hf:∀ j,y9.frozen? ⟨w.heap.size,j,none⟩=false:=fun j=>(HT5.out.frozen (by have:=HIZ.out;have:=HLT.out;have:=HIM.out;omega) (by have:=HLT.out;omega) (by have:=HLT.out;omega)).trans (HRWx.out.2.1 j)
      have HB9:Hid (Below w.heap.size w y9):=Below.trans HRWx.out.2.2 (HT5.out.below (by have:=HLT.out;omega) (by have:=HIZ.out;have:=HLT.out;have:=HIM.out;omega))
      have hm:=HT5.out.c
      have HR:=Lib.hid (show AtC y9 w.heap.size (gsaC false 0 none 0 0 false 0 false 0 false 0) from hr)
      have r_0:=hr 0
      have r_1:=hr 1
      have r_2:=hr 2
      have r_3:=hr 3
      have r_4:=hr 4
      have r_5:=hr 5
      have r_6:=hr 6
      have r_7:=hr 7
      have r_8:=hr 8
      have f_0:=hf 0
      have f_1:=hf 1
      have f_2:=hf 2
      have f_3:=hf 3
      have f_4:=hf 4
      have f_5:=hf 5
      have f_6:=hf 6
      have f_7:=hf 7
      have f_8:=hf 8
      have m_0:=hm 0
      have m_1:=hm 1
      have m_2:=hm 2
      have m_3:=hm 3
      have m_4:=hm 4
      have m_5:=hm 5
      have m_6:=hm 6
      have m_7:=hm 7
      have m_8:=hm 8
      clear hr hf hm hIDS HT5 HIDS HRWx
      go_wp2_with fail
      refine HER.out.mono ?_
      rintro r w' ⟨rfl,rfl⟩
      by_cases hE:E=0
      · subst hE
        have HX2:Hid (X=(⟨a,f,D,(b0,n0),(b1,n1),(b2,n2)⟩,0)):=HT.out.trans (if_pos rfl)
        have HNE:Hid (w.heap.size≠IB):=by show _≠_;have:=HLT.out;have:=HIM.out;omega
        clear HT
        have K:=(((((((((HR.out.set 0 (.bool a) (by simp)).set 1 (.int .i64 f) (by simp)).set 2 (.slice (some ⟨IB,0,none⟩) D.length D.length) (by simp)).set 3 (.bool b0) (by simp)).set 4 (.int .i64 n0) (by simp)).set 5 (.bool b1) (by simp)).set 6 (.int .i64 n1) (by simp)).set 7 (.bool b2) (by simp)).set 8 (.int .i64 n2) (by simp))
        have k0:=K 0
        have k1:=K 1
        have k2:=K 2
        have k3:=K 3
        have k4:=K 4
        have k5:=K 5
        have k6:=K 6
        have k7:=K 7
        have k8:=K 8
        simp at k0 k1 k2 k3 k4 k5 k6 k7 k8
        go_wp2_with fail
        refine bodyPost_ret (v:=.tuple #[gsaV a f (some ⟨IB,0,none⟩) D.length D.length b0 n0 b1 n1 b2 n2,.int .i64 0]) (by simp [results,Tryz.results45,go_sem,k0,k1,k2,k3,k4,k5,k6,k7,k8]) rfl ?_
        rw [HX2.out]
        exact⟨some ⟨IB,0,none⟩,D.length,D.length,rfl,rfl,ints_of (fun k=>((far_set HNE.out).trans (((far_set HNE.out).trans (((far_set HNE.out).trans (((far_set HNE.out).trans (((far_set HNE.out).trans (((far_set HNE.out).trans (((far_set HNE.out).trans (((far_set HNE.out).trans (((far_set HNE.out).trans (HID9.out k))))))))))))))))))) (by simpa using HIZ9.out),(below_set (below_set (below_set (below_set (below_set (below_set (below_set (below_set (below_set HB9.out (Nat.le_refl _)) (Nat.le_refl _)) (Nat.le_refl _)) (Nat.le_refl _)) (Nat.le_refl _)) (Nat.le_refl _)) (Nat.le_refl _)) (Nat.le_refl _)) (Nat.le_refl _))⟩
      · have hne:(E != 0)=true:=by rw [bne_iff_ne];exact hE
        have HX2:Hid (X=(zeroS,E)):=HT.out.trans (if_neg hE)
        clear hE HT
        have K:=(((((((((HR.out.set 0 (.bool false) (by simp)).set 1 (.int .i64 0) (by simp)).set 2 (.slice none 0 0) (by simp)).set 3 (.bool false) (by simp)).set 4 (.int .i64 0) (by simp)).set 5 (.bool false) (by simp)).set 6 (.int .i64 0) (by simp)).set 7 (.bool false) (by simp)).set 8 (.int .i64 0) (by simp))
        have k0:=K 0
        have k1:=K 1
        have k2:=K 2
        have k3:=K 3
        have k4:=K 4
        have k5:=K 5
        have k6:=K 6
        have k7:=K 7
        have k8:=K 8
        simp at k0 k1 k2 k3 k4 k5 k6 k7 k8
        go_wp2_with fail
        refine bodyPost_ret (v:=.tuple #[gsaV false 0 none 0 0 false 0 false 0 false 0,.int .i64 E]) (by simp [results,Tryz.results45,go_sem,k0,k1,k2,k3,k4,k5,k6,k7,k8]) rfl ?_
        rw [HX2.out]
        exact⟨none,0,0,rfl,rfl,fun k hk=>absurd hk (Nat.not_lt_zero _),(below_set (below_set (below_set (below_set (below_set (below_set (below_set (below_set (below_set HB9.out (Nat.le_refl _)) (Nat.le_refl _)) (Nat.le_refl _)) (Nat.le_refl _)) (Nat.le_refl _)) (Nat.le_refl _)) (Nat.le_refl _)) (Nat.le_refl _)) (Nat.le_refl _))⟩
abbrev eyeO (g:Nat):Obj:=.cells #[.pointer (some ⟨g,0,none⟩)] 159
abbrev eyeV (g:Nat):Value:=.agg #[.pointer (some ⟨g,0,none⟩)]
theorem eye_text_small {g:Nat} {s t:Rd} {a:ByteArray} {w:World} (ha:Hid (rdText s=(a,t))) (hp:EyeI g s w):a.size≤1000000:=by
  have:=ha.out
  unfold rdText at this
  injection this with e _
  rw [← e]
  exact headD_small hp.choose_spec.2.2
theorem box_eye (w:World) (g:Nat):(w.alloc (eyeO g)).cell? ⟨w.heap.size,0,none⟩=some (.pointer (some ⟨g,0,none⟩)):=World.cell?_alloc_at _ _ _ _ rfl
set_option maxRecDepth 8000 in
set_option maxHeartbeats 4000000 in
theorem ggatime_any {g:Nat} {s t:Rd} {b:Bool} {h m c e:Int} {w:World} (ht:Hid (rdClk s=((b,h,m,c,e),t))) (hp:EyeI g s w):Calls Tryz.prog 98 #[eyeV g] w (EyeStep g (clkV b h m c e) t w):=by
  obtain⟨a,s1,ha⟩:∃ a s1,Hid (rdText s=(a,s1)):=⟨_,_,rfl⟩
  have hsm:=eye_text_small ha hp
  obtain⟨E,ht1,ht2⟩:∃ E,Hid (takeClk a.data.toList=((b,h,m,c,e),E))∧Hid (rdFail E s1=t):=by
    have q:=ht.out
    unfold rdClk at q
    rw [ha.out] at q
    injection q with q1 q2
    exact⟨_,Prod.ext q1 rfl,q2⟩
  have hgl:=hp.lt
  have hb0:=below_new w (eyeO g)
  have hb1:=below_new (w.alloc (eyeO g)) (clkO false 0 0 0 0)
  have hz0:(w.alloc (eyeO g)).heap.size=w.heap.size+1:=by simp
  have HX0:=Lib.hid ((hp.keep hb0).keep hb1)
  have HF0:Hid (Frm g nilV w ((w.alloc (eyeO g)).alloc (clkO false 0 0 0 0))):=Frm.of_below (bthen hb0 hb1)
  have p0:((w.alloc (eyeO g)).alloc (clkO false 0 0 0 0)).cell? ⟨w.heap.size,0,none⟩=some (.pointer (some ⟨g,0,none⟩)):=(World.cell?_alloc_past _ _ _ (by simp)).trans (box_eye w g)
  have HP0:=Lib.hid p0
  have HR0:Hid (∀ o,((w.alloc (eyeO g)).alloc (clkO false 0 0 0 0)).cell? ⟨w.heap.size+1,o,none⟩=(#[Value.bool false,.int .i64 0,.int .i64 0,.int .i64 0,.int .i64 0]:Array Value)[o]?):=fun o=>World.cell?_alloc_at _ _ _ _ hz0.symm
  have HRF:Hid (∀ o,((w.alloc (eyeO g)).alloc (clkO false 0 0 0 0)).frozen? ⟨w.heap.size+1,o,none⟩=false):=fun o=>by rw [frozen?_alloc_cells,frozen?_alloc_cells];exact frozen_past _ _ _ (by omega)
  have HZ:Hid (w.heap.size+1 < ((w.alloc (eyeO g)).alloc (clkO false 0 0 0 0)).heap.size∧g < w.heap.size):=⟨by simp,hgl⟩
  clear hb0 hb1 hz0 hp hgl ht
  go_enter Tryz.func98,Tryz.ntmps98
  go_wp2_with fail
  generalize hW0:(w.alloc (eyeO g)).alloc (clkO false 0 0 0 0)=W0 at *
  refine (eyeText ha HX0.out).mono ?_
  rintro r w1 ⟨rfl,hx1,hf1⟩
  have HX1:=Lib.hid hx1
  have HF1:=Lib.hid hf1
  clear hx1 hf1 hW0 HX0
  go_wp2_with fail
  refine (clkTake_any a w1 hsm).mono ?_
  rw [ht1.out]
  rintro r w2 ⟨rfl,hb2⟩
  dsimp only
  have hbc:=below_new w2 (clkO b h m c e)
  have HX3:Hid (EyeI g s1 (w2.alloc (clkO b h m c e))):=(HX1.out.keep hb2).keep hbc
  have HF3:Hid (Frm g nilV W0 (w2.alloc (clkO b h m c e))):=HF1.out.step (Frm.of_below (bthen hb2 hbc))
  have HC3:Hid (∀ o,(w2.alloc (clkO b h m c e)).cell? ⟨w2.heap.size,o,none⟩=(#[Value.bool b,.int .i64 h,.int .i64 m,.int .i64 c,.int .i64 e]:Array Value)[o]?):=fun o=>World.cell?_alloc_at _ _ _ _ rfl
  have HZ3:Hid (w2.heap.size < (w2.alloc (clkO b h m c e)).heap.size∧W0.heap.size≤w2.heap.size):=⟨by simp,by have:=HF1.out.size;have:=hb2.size;omega⟩
  have p3:(w2.alloc (clkO b h m c e)).cell? ⟨w.heap.size,0,none⟩=some (.pointer (some ⟨g,0,none⟩)):=(frm_cells HF3.out (by have:=HZ.out;omega) (by have:=HZ.out;omega) 0).trans HP0.out
  clear hbc hb2 HX1 HF1 p0
  go_wp2_with fail
  generalize hW3:w2.alloc (clkO b h m c e)=W3 at *
  clear hW3 p3
  refine (eyeFail ht2 HX3.out).mono ?_
  rintro r w4 ⟨rfl,hx4,hf4⟩
  have HX4:=Lib.hid hx4
  have HF4:=Lib.hid (HF3.out.step hf4)
  have hc4:∀ o,w4.cell? ⟨w2.heap.size,o,none⟩=(#[Value.bool b,.int .i64 h,.int .i64 m,.int .i64 c,.int .i64 e]:Array Value)[o]?:=fun o=>(frm_cells hf4 HZ3.out.1 (by have:=HZ.out;have:=HZ3.out;omega) o).trans (HC3.out o)
  have hr4:∀ o,w4.cell? ⟨w.heap.size+1,o,none⟩=(#[Value.bool false,.int .i64 0,.int .i64 0,.int .i64 0,.int .i64 0]:Array Value)[o]?:=fun o=>(frm_cells HF4.out HZ.out.1 (by have:=HZ.out;omega) o).trans (HR0.out o)
  have fz:∀ o,w4.frozen? ⟨w.heap.size+1,o,none⟩=false:=fun o=>(frm_frozen HF4.out HZ.out.1 (by have:=HZ.out;omega) o).trans (HRF.out o)
  have HF5:=Lib.hid (HF0.out.step HF4.out)
  have c0:=hc4 0
  have c1:=hc4 1
  have c2:=hc4 2
  have c3:=hc4 3
  have c4:=hc4 4
  have r0:=hr4 0
  have r1:=hr4 1
  have r2:=hr4 2
  have r3:=hr4 3
  have r4:=hr4 4
  have HOLD:Hid (∀ o,o < 5→∃ v,w4.cell? ⟨w.heap.size+1,o,none⟩=some v):=fun o ho=>by rw [hr4 o];rcases (by omega:o=0∨o=1∨o=2∨o=3∨o=4) with rfl | rfl | rfl | rfl | rfl <;> exact⟨_,rfl⟩
  clear hx4 hf4 hc4 hr4 HC3 HR0 HRF HF3 HX3 HF0 HF4
  go_wp2_with fail
  have hd:=set5 (W:=w4) (g:=w.heap.size+1) (a:=.bool b) (b:=.int .i64 h) (c:=.int .i64 m) (d:=.int .i64 c) (e:=.int .i64 e) HOLD.out
  have d0:=hd 0 (by omega)
  have d1:=hd 1 (by omega)
  have d2:=hd 2 (by omega)
  have d3:=hd 3 (by omega)
  have d4:=hd 4 (by omega)
  simp at d0 d1 d2 d3 d4
  have hG:g < w.heap.size+1:=by have:=HZ.out.2;omega
  refine bodyPost_ret (v:=clkV b h m c e) (by simp [results,Tryz.results98,go_sem,d0,d1,d2,d3,d4]) rfl ⟨rfl,?_,?_⟩
  · exact ((((HX4.out.far hG).far hG).far hG).far hG).far hG
  · exact ((((HF5.out.put (Nat.le_succ _)).put (Nat.le_succ _)).put (Nat.le_succ _)).put (Nat.le_succ _)).put (Nat.le_succ _)
set_option maxRecDepth 8000 in
set_option maxHeartbeats 4000000 in
theorem ggadigit_any {g:Nat} {s t:Rd} {n:Int} {w:World} (ht:Hid (rdDig 0 8 s=(n,t))) (hp:EyeI g s w):Calls Tryz.prog 99 #[eyeV g] w (EyeStep g (.int .i64 n) t w):=by
  obtain⟨a,s1,ha⟩:∃ a s1,Hid (rdText s=(a,s1)):=⟨_,_,rfl⟩
  obtain⟨hw1,hw2,hw3⟩:=rdDig_ways (lo:=0) (hi:=8) ha.out
  have ht:=ht.out
  have hgl:=hp.lt
  have hb0:=below_new w (eyeO g)
  have HP:=Lib.hid (hp.keep hb0)
  have HF0:Hid (Frm g nilV w (w.alloc (eyeO g))):=Frm.of_below hb0
  have p0:=box_eye w g
  have HP0:=Lib.hid p0
  have HZ:Hid (g < w.heap.size∧w.heap.size < (w.alloc (eyeO g)).heap.size):=⟨hgl,by simp⟩
  clear hp hb0 hgl
  rcases dig_ways a with ⟨hb,h1⟩ | ⟨hz,h1,⟨h2,hb⟩ | ⟨h2,hb⟩ | ⟨h2,h3,hb,hv⟩⟩
  · have e:=hw1 hb
    rw [e] at ht
    injection ht with e1 e2
    subst e1 e2
    clear e hw1 hw2 hw3 hb
    have i1:((a.size:Int)==1)=false:=by rw [beq_eq_false_iff_ne];omega
    go_enter Tryz.func99,Tryz.ntmps99
    go_wp2_with fail
    generalize hW0:w.alloc (eyeO g)=W0 at *
    refine (eyeText ha HP.out).mono ?_
    rintro r w1 ⟨rfl,hx,hf⟩
    have HX:=Lib.hid hx
    have HF:=Lib.hid (HF0.out.step hf)
    have p1:=(frm_cells hf (b:=w.heap.size) HZ.out.2 (by have:=HZ.out.1;omega) 0).trans HP0.out
    clear hx hf HP HF0
    go_wp2_with fail
    refine (eyeFail rfl HX.out).mono ?_
    rintro r w2 ⟨rfl,hx2,hf2⟩
    have HX2:=Lib.hid hx2
    have HF2:=Lib.hid (HF.out.step hf2)
    clear hx2 hf2
    go_wp2_with fail
    go_ret
    exact⟨rfl,HX2.out,HF2.out⟩
  · have e:=hw1 hb
    rw [e] at ht
    injection ht with e1 e2
    subst e1 e2
    clear e hw1 hw2 hw3 hb
    have i1:((a.size:Int)==1)=true:=by rw [beq_iff_eq];omega
    have i2:((a[0].toNat:Nat):Int) < 48:=by omega
    go_enter Tryz.func99,Tryz.ntmps99
    go_wp2_with fail
    generalize hW0:w.alloc (eyeO g)=W0 at *
    refine (eyeText ha HP.out).mono ?_
    rintro r w1 ⟨rfl,hx,hf⟩
    have HX:=Lib.hid hx
    have HF:=Lib.hid (HF0.out.step hf)
    have p1:=(frm_cells hf (b:=w.heap.size) HZ.out.2 (by have:=HZ.out.1;omega) 0).trans HP0.out
    clear hx hf HP HF0
    go_wp2_with fail
    refine (eyeFail rfl HX.out).mono ?_
    rintro r w2 ⟨rfl,hx2,hf2⟩
    have HX2:=Lib.hid hx2
    have HF2:=Lib.hid (HF.out.step hf2)
    clear hx2 hf2
    go_wp2_with fail
    go_ret
    exact⟨rfl,HX2.out,HF2.out⟩
  · have e:=hw1 hb
    rw [e] at ht
    injection ht with e1 e2
    subst e1 e2
    clear e hw1 hw2 hw3 hb
    have i1:((a.size:Int)==1)=true:=by rw [beq_iff_eq];omega
    have i2:(48:Int)≤((a[0].toNat:Nat):Int):=by omega
    have i3:(57:Int) < ((a[0].toNat:Nat):Int):=by omega
    go_enter Tryz.func99,Tryz.ntmps99
    go_wp2_with fail
    generalize hW0:w.alloc (eyeO g)=W0 at *
    refine (eyeText ha HP.out).mono ?_
    rintro r w1 ⟨rfl,hx,hf⟩
    have HX:=Lib.hid hx
    have HF:=Lib.hid (HF0.out.step hf)
    have p1:=(frm_cells hf (b:=w.heap.size) HZ.out.2 (by have:=HZ.out.1;omega) 0).trans HP0.out
    clear hx hf HP HF0
    go_wp2_with fail
    refine (eyeFail rfl HX.out).mono ?_
    rintro r w2 ⟨rfl,hx2,hf2⟩
    have HX2:=Lib.hid hx2
    have HF2:=Lib.hid (HF.out.step hf2)
    clear hx2 hf2
    go_wp2_with fail
    go_ret
    exact⟨rfl,HX2.out,HF2.out⟩
  · have i1:((a.size:Int)==1)=true:=by rw [beq_iff_eq];omega
    have i2:(48:Int)≤((a[0].toNat:Nat):Int):=by omega
    have i3:((a[0].toNat:Nat):Int)≤57:=by omega
    rw [hv] at hw2 hw3
    by_cases hq:(a[0].toNat:Int) - 48 < 0∨8 < (a[0].toNat:Int) - 48
    · have e:=hw2 hb hq
      rw [e] at ht
      injection ht with e1 e2
      subst e1 e2
      have q2:56 < (a[0].toNat:Int):=by omega
      clear e hw1 hw2 hw3 hb hv hq
      go_enter Tryz.func99,Tryz.ntmps99
      go_wp2_with fail
      generalize hW0:w.alloc (eyeO g)=W0 at *
      refine (eyeText ha HP.out).mono ?_
      rintro r w1 ⟨rfl,hx,hf⟩
      have HX:=Lib.hid hx
      have HF:=Lib.hid (HF0.out.step hf)
      have p1:=(frm_cells hf (b:=w.heap.size) HZ.out.2 (by have:=HZ.out.1;omega) 0).trans HP0.out
      clear hx hf HP HF0
      go_wp2_with fail
      refine (eyeFail rfl HX.out).mono ?_
      rintro r w2 ⟨rfl,hx2,hf2⟩
      have HX2:=Lib.hid hx2
      have HF2:=Lib.hid (HF.out.step hf2)
      clear hx2 hf2
      go_wp2_with fail
      go_ret
      exact⟨rfl,HX2.out,HF2.out⟩
    · have e:=hw3 hb hq
      rw [e] at ht
      injection ht with e1 e2
      subst e1 e2
      have q2:(a[0].toNat:Int)≤56:=by omega
      clear e hw1 hw2 hw3 hb hv hq
      go_enter Tryz.func99,Tryz.ntmps99
      go_wp2_with fail
      generalize hW0:w.alloc (eyeO g)=W0 at *
      refine (eyeText ha HP.out).mono ?_
      rintro r w1 ⟨rfl,hx,hf⟩
      have HX:=Lib.hid hx
      have HF:=Lib.hid (HF0.out.step hf)
      have p1:=(frm_cells hf (b:=w.heap.size) HZ.out.2 (by have:=HZ.out.1;omega) 0).trans HP0.out
      clear hx hf HP HF0
      go_wp2_with fail
      go_ret
      exact⟨rfl,HX.out,HF.out⟩
set_option maxRecDepth 8000 in
set_option maxHeartbeats 4000000 in
theorem ggaunit_any {g:Nat} {s t:Rd} {b:Bool} {n:Int} {w:World} (ht:Hid (rdUnit ⟨#[77]⟩ b s=t)) (hp:EyeI g s w):Calls Tryz.prog 103 #[eyeV g,numV b n] w (EyeStep g (.tuple #[]) t w):=by
  obtain⟨a,s1,ha⟩:∃ a s1,Hid (rdText s=(a,s1)):=⟨_,_,rfl⟩
  have ht2:t=if a≠⟨#[77]⟩∧(b=true∨a≠ByteArray.empty) then rdFail 3 s1 else s1:=by
    have q:=ht.out
    unfold rdUnit at q
    rw [ha.out] at q
    exact q.symm
  have hways:=unit_ways a ⟨#[77]⟩ b s1
  rw [← ht2,show (⟨#[77]⟩:ByteArray).toList=[77] by rw [ByteArray.toList_eq]] at hways
  have hgl:=hp.lt
  have hb0:=below_new w (eyeO g)
  have hb1:=below_new (w.alloc (eyeO g)) (.cells #[.bool b,.int .i64 n] 30)
  have hz0:(w.alloc (eyeO g)).heap.size=w.heap.size+1:=by simp
  have HP:=Lib.hid ((hp.keep hb0).keep hb1)
  have HF0:Hid (Frm g nilV w ((w.alloc (eyeO g)).alloc (.cells #[.bool b,.int .i64 n] 30))):=Frm.of_below (bthen hb0 hb1)
  have p0:((w.alloc (eyeO g)).alloc (.cells #[.bool b,.int .i64 n] 30)).cell? ⟨w.heap.size,0,none⟩=some (.pointer (some ⟨g,0,none⟩)):=(World.cell?_alloc_past _ _ _ (by simp)).trans (box_eye w g)
  have HP0:=Lib.hid p0
  have HN0:Hid (((w.alloc (eyeO g)).alloc (.cells #[.bool b,.int .i64 n] 30)).cell? ⟨w.heap.size+1,0,none⟩=some (.bool b)):=World.cell?_alloc_at _ _ _ _ hz0.symm
  have HZ:Hid (g < w.heap.size∧w.heap.size < ((w.alloc (eyeO g)).alloc (.cells #[.bool b,.int .i64 n] 30)).heap.size):=⟨hgl,by simp;omega⟩
  have HZN:Hid (w.heap.size+1 < ((w.alloc (eyeO g)).alloc (.cells #[.bool b,.int .i64 n] 30)).heap.size):=by show _ < _;simp
  clear hp hb0 hb1 hz0 hgl ht2 ht
  rcases hways with ⟨k1,hq⟩ | ⟨k1,kb,hq⟩ | ⟨k1,kb,k2,hq⟩ | ⟨k1,kb,k2,hq⟩
  · subst hq
    go_enter Tryz.func103,Tryz.ntmps103
    go_wp2_with fail
    generalize hW0:(w.alloc (eyeO g)).alloc (.cells #[.bool b,.int .i64 n] 30)=W0 at *
    refine (eyeText ha HP.out).mono ?_
    rintro r w1 ⟨rfl,hx,hf⟩
    have HX:=Lib.hid hx
    have HF:=Lib.hid (HF0.out.step hf)
    have p1:=(frm_cells hf (b:=w.heap.size) HZ.out.2 (by have:=HZ.out.1;omega) 0).trans HP0.out
    have n1:=(frm_cells hf (b:=w.heap.size+1) HZN.out (by have:=HZ.out.1;omega) 0).trans HN0.out
    clear hx hf HP HF0
    go_wp2_with fail
    go_end0
    exact⟨rfl,HX.out,HF.out⟩
  · subst kb hq
    go_enter Tryz.func103,Tryz.ntmps103
    go_wp2_with fail
    generalize hW0:(w.alloc (eyeO g)).alloc (.cells #[.bool true,.int .i64 n] 30)=W0 at *
    refine (eyeText ha HP.out).mono ?_
    rintro r w1 ⟨rfl,hx,hf⟩
    have HX:=Lib.hid hx
    have HF:=Lib.hid (HF0.out.step hf)
    have p1:=(frm_cells hf (b:=w.heap.size) HZ.out.2 (by have:=HZ.out.1;omega) 0).trans HP0.out
    have n1:=(frm_cells hf (b:=w.heap.size+1) HZN.out (by have:=HZ.out.1;omega) 0).trans HN0.out
    clear hx hf HP HF0
    go_wp2_with fail
    refine (eyeFail rfl HX.out).mono ?_
    rintro r w2 ⟨rfl,hx2,hf2⟩
    have HX2:=Lib.hid hx2
    have HF2:=Lib.hid (HF.out.step hf2)
    clear hx2 hf2
    go_wp2_with fail
    go_end0
    exact⟨rfl,HX2.out,HF2.out⟩
  · subst kb hq
    go_enter Tryz.func103,Tryz.ntmps103
    go_wp2_with fail
    generalize hW0:(w.alloc (eyeO g)).alloc (.cells #[.bool false,.int .i64 n] 30)=W0 at *
    refine (eyeText ha HP.out).mono ?_
    rintro r w1 ⟨rfl,hx,hf⟩
    have HX:=Lib.hid hx
    have HF:=Lib.hid (HF0.out.step hf)
    have p1:=(frm_cells hf (b:=w.heap.size) HZ.out.2 (by have:=HZ.out.1;omega) 0).trans HP0.out
    have n1:=(frm_cells hf (b:=w.heap.size+1) HZN.out (by have:=HZ.out.1;omega) 0).trans HN0.out
    clear hx hf HP HF0
    go_wp2_with fail
    refine (eyeFail rfl HX.out).mono ?_
    rintro r w2 ⟨rfl,hx2,hf2⟩
    have HX2:=Lib.hid hx2
    have HF2:=Lib.hid (HF.out.step hf2)
    clear hx2 hf2
    go_wp2_with fail
    go_end0
    exact⟨rfl,HX2.out,HF2.out⟩
  · subst kb hq
    go_enter Tryz.func103,Tryz.ntmps103
    go_wp2_with fail
    generalize hW0:(w.alloc (eyeO g)).alloc (.cells #[.bool false,.int .i64 n] 30)=W0 at *
    refine (eyeText ha HP.out).mono ?_
    rintro r w1 ⟨rfl,hx,hf⟩
    have HX:=Lib.hid hx
    have HF:=Lib.hid (HF0.out.step hf)
    have p1:=(frm_cells hf (b:=w.heap.size) HZ.out.2 (by have:=HZ.out.1;omega) 0).trans HP0.out
    have n1:=(frm_cells hf (b:=w.heap.size+1) HZN.out (by have:=HZ.out.1;omega) 0).trans HN0.out
    clear hx hf HP HF0
    go_wp2_with fail
    go_end0
    exact⟨rfl,HX.out,HF.out⟩
def wrIds (l:List (Bool×Int)) (s:Rd):Rd:=l.foldl (fun s n=>wrNum 1 3 0 1 255 n s) s
def modeT (a:Bool):ByteArray:=if a=true then ⟨#[65]⟩ else ⟨#[77]⟩
def nums12 (ids:List Int):List (Bool×Int):=ids.map (fun n=>(true,n))++List.replicate (12 - ids.length) (false,0)
def putGsa (m:GsaD):List ByteArray×Int:=if 12 < m.ids.length then ([],7) else wrDone (wrNum 1 3 2 0 99999 m.p2 (wrNum 1 3 2 0 99999 m.p1 (wrNum 1 3 2 0 99999 m.p0 (wrIds (nums12 m.ids) (wrDig 1 3 m.f (wrText (modeT m.a) 0 (0,[])))))))
theorem wrIds_ok:∀ (l:List (Bool×Int)) (s:Rd),(wrIds l s).1=0→s.1=0∧∃ T:List ByteArray,T.length=l.length∧(∀ L,wrIds l (0,L)=(0,L++T))∧wrIds l s=(0,s.2++T)∧∀ R,rdIds l.length (0,T++R)=((l.filter fun x=>x.1).map (fun x=>x.2),(0,R))
  | [],s,h=>⟨h,[],rfl,fun L=>by rw [List.append_nil];rfl,by rw [List.append_nil];exact Prod.ext h rfl,fun R=>rfl⟩
  | n :: l,s,h=>by
    obtain⟨h1,T,h2,h3,h4,h5⟩:=wrIds_ok l (wrNum 1 3 0 1 255 n s) h
    obtain⟨g1,t,g2,g3,g4⟩:=wrNum_ok h1
    refine⟨g1,t :: T,by simp [h2],fun L=>?_,?_,fun R=>?_⟩
    · show wrIds l (wrNum 1 3 0 1 255 n (0,L))=_
      rw [g2,h3,List.append_assoc];rfl
    · show wrIds l (wrNum 1 3 0 1 255 n s)=_
      rw [h4,g3,List.append_assoc];rfl
    · obtain⟨b,n⟩:=n
      have:=rdIds_step (k:=l.length) (g4 (T++R))
      rw [List.length_cons,List.cons_append,this,h5]
      cases b <;> simp
theorem nums12_back (ids:List Int):((nums12 ids).filter fun x=>x.1).map (fun x=>x.2)=ids:=by
  unfold nums12
  rw [List.filter_append,List.map_append]
  have h1:(ids.map (fun n=>((true,n):Bool×Int))).filter (fun x=>x.1)=ids.map (fun n=>(true,n)):=List.filter_eq_self.2 (fun a ha=>by obtain⟨n,-,rfl⟩:=List.mem_map.1 ha;rfl)
  have h2:(List.replicate (12 - ids.length) ((false,0):Bool×Int)).filter (fun x=>x.1)=[]:=List.filter_eq_nil_iff.2 (fun a ha=>by rw [List.eq_of_mem_replicate ha];decide)
  rw [h1,h2,List.map_nil,List.append_nil,List.map_map]
  exact List.map_id _
theorem nums12_len (ids:List Int) (h:ids.length≤12):(nums12 ids).length=12:=by simp [nums12];omega
theorem rdOne_put (a:Bool) (R:List ByteArray):rdOne (0,modeT a :: R)=(a,(0,R)):=by
  unfold rdOne
  rw [rdText_cons]
  cases a
  · show (decide ((⟨#[77]⟩:ByteArray)=⟨#[65]⟩),if (⟨#[77]⟩:ByteArray)≠⟨#[65]⟩∧(⟨#[77]⟩:ByteArray)≠⟨#[77]⟩ then rdFail 3 (0,R) else (0,R))=_
    rw [if_neg (fun q=>q.2 rfl),decide_eq_false (by decide)]
  · show (decide ((⟨#[65]⟩:ByteArray)=⟨#[65]⟩),if (⟨#[65]⟩:ByteArray)≠⟨#[65]⟩∧(⟨#[65]⟩:ByteArray)≠⟨#[77]⟩ then rdFail 3 (0,R) else (0,R))=_
    rw [if_neg (fun q=>q.1 rfl),decide_eq_true rfl]
theorem gsa_put_take {m:GsaD} (h:(putGsa m).2=0):takeGsa (putGsa m).1=(m,0)∧(putGsa m).1.length=17:=by
  by_cases hl:12 < m.ids.length
  · unfold putGsa at h;rw [if_pos hl] at h;exact absurd h (by decide)
  · have hp:putGsa m=wrDone (wrNum 1 3 2 0 99999 m.p2 (wrNum 1 3 2 0 99999 m.p1 (wrNum 1 3 2 0 99999 m.p0 (wrIds (nums12 m.ids) (wrDig 1 3 m.f (wrText (modeT m.a) 0 (0,[]))))))):=if_neg hl
    rw [hp] at h ⊢
    obtain⟨h1,t2,-,h3,h4⟩:=wrNum_ok h
    obtain⟨g1,t1,-,g3,g4⟩:=wrNum_ok h1
    obtain⟨f1,t0,-,f3,f4⟩:=wrNum_ok g1
    obtain⟨e1,T,e2,-,e4,e5⟩:=wrIds_ok _ _ f1
    obtain⟨d1,-,-,-,d5,d6⟩:=wrDig_ok (by omega) (by omega) e1
    rw [nums12_len m.ids (by omega)] at e2 e5
    rw [nums12_back] at e5
    have hR:(wrDone (wrNum 1 3 2 0 99999 m.p2 (wrNum 1 3 2 0 99999 m.p1 (wrNum 1 3 2 0 99999 m.p0 (wrIds (nums12 m.ids) (wrDig 1 3 m.f (wrText (modeT m.a) 0 (0,[])))))))).1=modeT m.a :: digT m.f :: (T++[t0,t1,t2]):=by
      unfold wrDone
      rw [h3,g3,f3,e4,d5]
      simp [wrText]
    rw [hR]
    have hlen:(modeT m.a :: digT m.f :: (T++[t0,t1,t2])).length=17:=by simp [e2]
    refine⟨?_,hlen⟩
    have:=gsa_taken (R:=modeT m.a :: digT m.f :: (T++[t0,t1,t2])) hlen (Lib.hid (rdOne_put m.a _)) (Lib.hid (d6 _)) (Lib.hid (e5 _)) (Lib.hid (f4 _)) (Lib.hid (g4 _)) (Lib.hid (h4 _))
    rw [this,if_pos rfl]
end Go.Proofs.YtoabkoniegmkaaaGreat
