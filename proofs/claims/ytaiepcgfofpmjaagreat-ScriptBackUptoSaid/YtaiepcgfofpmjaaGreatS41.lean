/- Layer 44: few parts of steps. -/
import Derived.Test.YtaiepcgfofpmjaaGreatS38
import Derived.Deep.LoopGhost
namespace Go.Proofs.YtaiepcgfofpmjaaGreat
set_option linter.unusedVariables false
open Go.RowKit
def fewK:Nat→List StpK→Bool
  | _,[]=>true
  | n,s :: r=>if 5000 < n+min s.b.length 5000∨300 < s.v.length∨40 < s.l.length then false else fewK (n+min s.b.length 5000) r
def fewB (ss:List StpK) (most:Int):Bool:=decide ((ss.length:Int)≤most) && fewK 0 ss
theorem fewK_cons (n:Nat) (s:StpK) (r:List StpK):fewK n (s :: r)=if 5000 < n+min s.b.length 5000∨300 < s.v.length∨40 < s.l.length then false else fewK (n+min s.b.length 5000) r:=rfl
set_option maxHeartbeats 2000000 in
set_option maxRecDepth 100000 in
theorem few44_any {Q R:Nat→Prop} {w:World} (A:Option Addr) (c:Nat) {Cs:List (List Value)} {ss:List StpK} (hA:FlatQ Q w A (List.flatten Cs)) (hC:StpsM R w Cs ss) (most:Int) (hs:ss.length≤9223372036854775807) :
    Calls Tryz.prog 7 #[.slice A ss.length c,.int .i64 most] w fun e w'=>e=.returned (.bool (fewB ss most))∧w=w':=by
  by_cases hm:most < (ss.length:Int)
  · have e:fewB ss most=false:=by unfold fewB;rw [decide_eq_false (by omega)];rfl
    rw [e]
    generalize ss.length=n at *
    clear hA hC e
    go_enter Tryz.func7,Tryz.ntmps7
    go_wp2
    go_ret
    exact⟨rfl,rfl⟩
  have e:fewB ss most=fewK 0 ss:=by unfold fewB;rw [decide_eq_true (by omega)];rfl
  rw [e]
  obtain⟨x,hx⟩:∃ x,fewK 0 ss=x:=⟨_,rfl⟩
  have HX:=Lib.hid hx
  rw [hx]
  have HA:=Lib.hid (And.intro hA hC)
  obtain⟨N,hN⟩:∃ N,ss.length=N:=⟨_,rfl⟩
  have HN:=Lib.hid hN
  rw [hN] at hm hs ⊢
  have hm':(N:Int)≤most:=by omega
  clear hA hC e hx hN hm
  go_enter Tryz.func7,Tryz.ntmps7
  go_wp2_with fail
  go_loopg [5,6] N (fun g u5 u6 wr=>∃ (k n:Nat),u6=.int .i64 (k:Int)∧u5=.int .i64 (n:Int)∧k≤N∧N - k≤g∧n≤5000∧Hid (fewK n (ss.drop k)=x)∧wr=w)
  case atStart=>exact⟨0,0,rfl,rfl,by omega,by omega,by omega,Lib.hid HX.out,rfl⟩
  case round=>
    obtain⟨k,n,rfl,rfl,hk,hg,hn,HK,rfl⟩:=hrel
    by_cases hlt:k < N
    · have hkl:k < ss.length:=by rw [HN.out];exact hlt
      have hkc:k < Cs.length:=by rw [HA.out.2.len];exact hkl
      obtain⟨b,off,rfl,hr⟩:=stps_at HA.out.1 HA.out.2 (Below.refl _ _) k hkc
      obtain⟨A1,c1,A2,c2,A3,c3,eC,-,-,-⟩:=(HA.out.2.at_ k hkc hkl).it
      rw [eC] at hr
      have c4:=hr 1 (.slice A1 ss[k].b.length c1) rfl
      have c5:=hr 4 (.slice A2 ss[k].v.length c2) rfl
      have c6:=hr 6 (.slice A3 ss[k].l.length c3) rfl
      have hf:=HK.out
      rw [List.drop_eq_getElem_cons hkl,fewK_cons] at hf
      have HF:=Lib.hid hf
      generalize ss[k].b.length=bl at *
      generalize ss[k].v.length=vl at *
      generalize ss[k].l.length=ll at *
      clear hr eC hf HK
      have hi0:(k:Int) < (N:Int):=by omega
      have hkk:k+1≤N:=hlt
      obtain⟨m,hm1,hm2⟩:∃ m:Nat,m=min bl 5000∧m≤5000:=⟨_,rfl,by omega⟩
      rw [← hm1] at HF
      have hmv:(5000 < (bl:Int)∧m=5000)∨((bl:Int)≤5000∧m=bl):=by omega
      clear hm1
      by_cases q1:5000 < n+m
      · obtain rfl:x=false:=by have:=HF.out;rw [if_pos (.inl q1)] at this;exact this.symm
        rcases hmv with ⟨q2,rfl⟩ | ⟨q2,rfl⟩
        · have q3:5000 < (n:Int)+5000:=by omega
          go_wp2_with fail
          go_ret
          exact⟨rfl,rfl⟩
        · have q3:5000 < (n:Int)+(m:Int):=by omega
          go_wp2_with fail
          go_ret
          exact⟨rfl,rfl⟩
      by_cases qv:300 < vl
      · obtain rfl:x=false:=by have:=HF.out;rw [if_pos (.inr (.inl qv))] at this;exact this.symm
        have qv':300 < (vl:Int):=by omega
        rcases hmv with ⟨q2,rfl⟩ | ⟨q2,rfl⟩
        · have q3:(n:Int)+5000≤5000:=by omega
          go_wp2_with fail
          go_ret
          exact⟨rfl,rfl⟩
        · have q3:(n:Int)+(m:Int)≤5000:=by omega
          go_wp2_with fail
          go_ret
          exact⟨rfl,rfl⟩
      by_cases ql:40 < ll
      · obtain rfl:x=false:=by have:=HF.out;rw [if_pos (.inr (.inr ql))] at this;exact this.symm
        have qv':(vl:Int)≤300:=by omega
        have ql':40 < (ll:Int):=by omega
        rcases hmv with ⟨q2,rfl⟩ | ⟨q2,rfl⟩
        · have q3:(n:Int)+5000≤5000:=by omega
          go_wp2_with fail
          go_ret
          exact⟨rfl,rfl⟩
        · have q3:(n:Int)+(m:Int)≤5000:=by omega
          go_wp2_with fail
          go_ret
          exact⟨rfl,rfl⟩
      have HG:Hid (fewK (n+m) (ss.drop (k+1))=x):=by have:=HF.out;rwa [if_neg (by omega)] at this
      have qv':(vl:Int)≤300:=by omega
      have ql':(ll:Int)≤40:=by omega
      rcases hmv with ⟨q2,rfl⟩ | ⟨q2,rfl⟩
      · have q3:(n:Int)+5000≤5000:=by omega
        go_wp2_with fail
        go_roundg (N - (k+1))
        case rel=>exact⟨k+1,n+5000,by go_num,by go_num,by omega,by omega,by omega,HG,rfl⟩
        case measure=>omega
      · have q3:(n:Int)+(m:Int)≤5000:=by omega
        go_wp2_with fail
        go_roundg (N - (k+1))
        case rel=>exact⟨k+1,n+m,by go_num,by go_num,by omega,by omega,by omega,HG,rfl⟩
        case measure=>omega
    · obtain rfl:x=true:=by have:=HK.out;rw [List.drop_of_length_le (by rw [HN.out];omega)] at this;exact this.symm
      have hge:(N:Int)≤(k:Int):=by omega
      go_wp2_with fail
      go_ret
      exact⟨rfl,rfl⟩
end Go.Proofs.YtaiepcgfofpmjaaGreat
