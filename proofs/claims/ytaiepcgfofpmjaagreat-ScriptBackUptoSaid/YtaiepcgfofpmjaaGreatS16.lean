/- Contracts of the reference of layer 7: bit, Of, Hex, Digit, Unhex, Seal, Open. -/
import Derived.Test.YtaiepcgfofpmjaaGreatS10
import Derived.Deep.QuietTactic
import Derived.BigQuiet
namespace Go.Proofs.YtaiepcgfofpmjaaGreat
set_option linter.unusedVariables false
open Go.RowKit
theorem hexL_dig (n:Int) (h0:0≤n) (h1:n≤255) :
    ((ByteArray.mk #[48,49,50,51,52,53,54,55,56,57,65,66,67,68,69,70]).extract (n / 16).toNat (n / 16+1).toNat ++
      (ByteArray.mk #[48,49,50,51,52,53,54,55,56,57,65,66,67,68,69,70]).extract (n % 16).toNat (n % 16+1).toNat)=⟨(hexL n).toArray⟩:=by
  obtain⟨k,rfl⟩:=Int.eq_ofNat_of_zero_le h0
  have h:∀ k:Fin 256,((ByteArray.mk #[48,49,50,51,52,53,54,55,56,57,65,66,67,68,69,70]).extract (((k.val:Nat):Int) / 16).toNat (((k.val:Nat):Int) / 16+1).toNat ++
      (ByteArray.mk #[48,49,50,51,52,53,54,55,56,57,65,66,67,68,69,70]).extract (((k.val:Nat):Int) % 16).toNat (((k.val:Nat):Int) % 16+1).toNat)=⟨(hexL ((k.val:Nat):Int)).toArray⟩:=by decide +kernel
  exact h ⟨k,by omega⟩
set_option maxHeartbeats 400000 in
theorem r07Hex_any (n:Int) (w:World) (h0:0≤n) (h1:n≤255) :
    Calls Tryz.prog 102 #[.int .u8 n] w fun e w'=>e=.returned (.string ⟨(hexL n).toArray⟩)∧Below w.heap.size w w':=by
  have hd:=Lib.hid (hexL_dig n h0 h1)
  go_enter Tryz.func102,Tryz.ntmps102
  go_wp2_with fail
  go_quiet (fail)
  go_wp2_with fail
  go_ret
  exact⟨ret_str hd.out,bdrewN (Below.refl _ _) _⟩
def dgt (k:Nat):Int:=if k < 10 then 48+k else 55+k
theorem dgt_at (k:Nat) (hk:k < 16):(((ByteArray.mk #[48,49,50,51,52,53,54,55,56,57,65,66,67,68,69,70])[k]'hk).toNat:Int)=dgt k:=by
  have h:∀ k:Fin 16,(((ByteArray.mk #[48,49,50,51,52,53,54,55,56,57,65,66,67,68,69,70])[k.val]'k.isLt).toNat:Int)=dgt k.val:=by decide +kernel
  exact h ⟨k,hk⟩
def digI (c:Int):Int:=if isR c then valR c else -1
theorem digI_low (c:Int) (ha:97≤c) (hb:c≤102):digI c=c - 97+10:=by
  unfold digI
  rw [if_pos (by simp [isR];omega)]
  unfold valR
  split
  · omega
  · split <;> omega
theorem digI_dgt (k:Nat) (hk:k < 16):digI (dgt k)=(k:Int):=by
  have h:∀ k:Fin 16,digI (dgt k.val)=((k.val:Nat):Int):=by decide +kernel
  exact h ⟨k,hk⟩
theorem digI_none (c:Int) (h:c < 97∨102 < c) (hno:∀ j:Nat,j < 16→dgt j≠c):digI c=-1:=by
  unfold digI
  rw [if_neg]
  intro hr
  have hr':48≤c∧c≤57∨65≤c∧c≤70∨97≤c∧c≤102:=by simpa [isR] using hr
  rcases hr' with ⟨a,b⟩ | ⟨a,b⟩ | ⟨a,b⟩
  · have:=hno (c - 48).toNat (by omega)
    unfold dgt at this
    split at this <;> omega
  · have:=hno (c - 55).toNat (by omega)
    unfold dgt at this
    split at this <;> omega
  · omega
set_option maxHeartbeats 1000000 in
theorem r07Digit_any (c:Int) (w:World) (h0:0≤c) (h1:c≤255) :
    Calls Tryz.prog 132 #[.int .u8 c] w fun e w'=>e=.returned (.int .i64 (digI c))∧w=w':=by
  by_cases h:97≤c∧c≤102
  · obtain⟨ha,hb⟩:=h
    rw [digI_low c ha hb]
    go_enter Tryz.func132,Tryz.ntmps132
    go_wp2
    go_ret
    exact⟨rfl,rfl⟩
  · have h':c < 97∨102 < c:=by omega
    clear h
    have H:=Lib.hid h'
    rcases h' with h | h
    all_goals
      go_enter Tryz.func132,Tryz.ntmps132
      go_wp2
      go_loop [3] (fun i=>∃ k:Nat,k≤16∧i=.int .i64 k∧∀ j:Nat,j < k→dgt j≠c) (fun i=>16 - (intOf i).toNat)
      case atStart=>exact⟨0,Nat.zero_le _,rfl,fun j hj=>absurd hj (Nat.not_lt_zero _)⟩
      case round=>
        obtain⟨k,hk,rfl,hno⟩:=hrel
        have Hno:=Lib.hid hno
        clear hno
        by_cases hlt:k < 16
        · have ek:=dgt_at k hlt
          by_cases he:dgt k=c
          · have Hc:Hid (digI c=(k:Int)):=by rw [← he];exact digI_dgt k hlt
            have hb:(dgt k==c)=true:=by rw [beq_iff_eq];exact he
            clear he
            go_wp2_with fail
            go_ret
            exact⟨by rw [Hc.out];rfl,rfl⟩
          · have He:=Lib.hid he
            have hb:(dgt k==c)=false:=by rw [beq_eq_false_iff_ne];exact he
            clear he
            go_wp2_with fail
            go_round
            case rel=>exact⟨k+1,by omega,by go_num,fun j hj=>by
              rcases Nat.lt_or_ge j k with h | h
              · exact Hno.out j h
              · obtain rfl:j=k:=by omega
                exact He.out⟩
            case measure=>simp [intOf];omega
        · have e16:k=16:=by omega
          have Hc:Hid (digI c=-1):=digI_none c H.out (fun j hj=>Hno.out j (by omega))
          clear e16
          go_wp2_with fail
          go_ret
          exact⟨by rw [Hc.out];rfl,rfl⟩
theorem digI_yes (c:Int) (h:isR c=true):digI c=valR c:=by unfold digI;rw [if_pos h]
theorem digI_no (c:Int) (h:isR c=false):digI c=-1:=by unfold digI;rw [if_neg (by rw [h];decide)]
set_option maxHeartbeats 400000 in
theorem r07Unhex_core (s:ByteArray) (w:World) (a b:Int) (hs0:2≤s.size) (hs1:s.size≤2)
    (d0:Hid (digI ((s[0]'(by omega)).toNat:Int)=a)) (d1:Hid (digI ((s[1]'(by omega)).toNat:Int)=b)) (a1:-1≤a) (a2:a < 16) (b1:-1≤b) (b2:b < 16)
    (R:Value) (hR:Hid ((0≤a→0≤b→R=.tuple #[.int .u8 (16 * a+b),.bool true])∧(a < 0∨b < 0→R=.tuple #[.int .u8 0,.bool false]))) :
    Calls Tryz.prog 101 #[.string s] w fun e w'=>e=.returned R∧w=w':=by
  have hb:((s.size:Int) != 2)=false:=by rw [bne_eq_false_iff_eq];omega
  have u0:((s[0]'(by omega)).toNat:Int)≤255:=by have:=(s[0]'(by omega)).toNat_lt;omega
  have u1:((s[1]'(by omega)).toNat:Int)≤255:=by have:=(s[1]'(by omega)).toNat_lt;omega
  by_cases ha:a < 0
  · go_enter Tryz.func101,Tryz.ntmps101
    go_wp2_with fail
    refine (r07Digit_any _ _ (by omega) u0).mono ?_
    rintro e w' ⟨rfl,rfl⟩
    rw [d0.out]
    go_wp2_with fail
    refine (r07Digit_any _ _ (by omega) u1).mono ?_
    rintro e w' ⟨rfl,rfl⟩
    rw [d1.out]
    go_wp2_with fail
    go_ret2
    exact⟨by rw [hR.out.2 (.inl ha)];rfl,rfl⟩
  · by_cases hb0:b < 0
    · go_enter Tryz.func101,Tryz.ntmps101
      go_wp2_with fail
      refine (r07Digit_any _ _ (by omega) u0).mono ?_
      rintro e w' ⟨rfl,rfl⟩
      rw [d0.out]
      go_wp2_with fail
      refine (r07Digit_any _ _ (by omega) u1).mono ?_
      rintro e w' ⟨rfl,rfl⟩
      rw [d1.out]
      go_wp2_with fail
      go_ret2
      exact⟨by rw [hR.out.2 (.inr hb0)];rfl,rfl⟩
    · go_enter Tryz.func101,Tryz.ntmps101
      go_wp2_with fail
      refine (r07Digit_any _ _ (by omega) u0).mono ?_
      rintro e w' ⟨rfl,rfl⟩
      rw [d0.out]
      go_wp2_with fail
      refine (r07Digit_any _ _ (by omega) u1).mono ?_
      rintro e w' ⟨rfl,rfl⟩
      rw [d1.out]
      go_wp2_with fail
      go_ret2
      exact⟨by rw [hR.out.1 (by omega) (by omega)];rfl,rfl⟩
theorem digI_bd (c:Int):-1≤digI c∧digI c < 16:=by
  cases h:isR c with
  | true=>rw [digI_yes c h];have:=valR_bd c h;omega
  | false=>rw [digI_no c h];omega
theorem digI_pos (c:Int) (h:0≤digI c):isR c=true:=by
  cases h':isR c with
  | true=>rfl
  | false=>rw [digI_no c h'] at h;omega
theorem r07Unhex_any (s:ByteArray) (w:World) :
    Calls Tryz.prog 101 #[.string s] w fun e w'=>e=.returned (.tuple #[.int .u8 ((unhexL s.data.toList).getD 0),.bool (unhexL s.data.toList).isSome])∧w=w':=by
  by_cases hs:s.size=2
  · have b0:=digI_bd ((s[0]'(by omega)).toNat:Int)
    have b1:=digI_bd ((s[1]'(by omega)).toNat:Int)
    refine r07Unhex_core s w _ _ (by omega) (by omega) rfl rfl b0.1 b0.2 b1.1 b1.2 _ ⟨fun h0 h1=>?_,fun h=>?_⟩
    · have r0:=digI_pos _ h0
      have r1:=digI_pos _ h1
      rw [unhexL_two s hs,r0,r1,digI_yes _ r0,digI_yes _ r1]
      rfl
    · rw [unhexL_two s hs,if_neg]
      · rfl
      · intro hc
        rw [Bool.and_eq_true] at hc
        rw [digI_yes _ hc.1,digI_yes _ hc.2] at h
        have v0:=valR_bd _ hc.1
        have v1:=valR_bd _ hc.2
        omega
  · rw [unhexL_len (by simpa using hs)]
    have hb:((s.size:Int) != 2)=true:=by rw [bne_iff_ne];omega
    clear hs
    go_enter Tryz.func101,Tryz.ntmps101
    go_wp2
    go_ret2
    exact⟨rfl,rfl⟩
end Go.Proofs.YtaiepcgfofpmjaaGreat
