/- Layer 45: ScriptReads. -/
import Derived.Test.YtaiepcgfofpmjaaGreatS39
import Derived.Test.YtaiepcgfofpmjaaGreatS21
import Derived.Test.YtaiepcgfofpmjaaGreatS38
namespace Go.Proofs.YtaiepcgfofpmjaaGreat
set_option linter.unusedVariables false
open Go.RowKit
theorem numsW_len:∀ (l:List (List UInt8)) (v:List Int),numsW l=some v→v.length=l.length
  | [],v,h=>by simp [numsW] at h;subst h;rfl
  | w :: r,v,h=>by
    unfold numsW at h
    split at h
    · cases h
    · cases hr:numsW r with
      | none=>rw [hr] at h;cases h
      | some u=>
        rw [hr] at h
        simp only [Option.map_some,Option.some.injEq] at h
        subst h
        rw [List.length_cons,List.length_cons,numsW_len r u hr]
theorem pairsW_len:∀ (l:List (List UInt8)) (v:List (Int×Int)),pairsW l=some v→v.length=l.length
  | [],v,h=>by simp [pairsW] at h;subst h;rfl
  | w :: r,v,h=>by
    unfold pairsW at h
    split at h
    · cases h
    · cases hr:pairsW r with
      | none=>rw [hr] at h;cases h
      | some u=>
        rw [hr] at h
        simp only [Option.map_some,Option.some.injEq] at h
        subst h
        rw [List.length_cons,List.length_cons,pairsW_len r u hr]
theorem stepW_len (ws:List (List UInt8)) (s:Stp) (h:stepW ws=some s):(rawK s).v.length≤ws.length∧(rawK s).l.length≤ws.length:=by
  match ws with
  | []=>cases h
  | [_]=>cases h
  | w0 :: w1 :: more=>
    unfold stepW at h
    dsimp only at h
    split at h
    · split at h
      · split at h
        · cases h;exact⟨Nat.zero_le _,Nat.zero_le _⟩
        · cases h
      · cases h
    · split at h
      · cases h
      · split at h
        · split at h
          · cases h;exact⟨Nat.zero_le _,Nat.zero_le _⟩
          · cases h
        · split at h
          · split at h
            · cases h;exact⟨Nat.zero_le _,Nat.zero_le _⟩
            · cases h
          · split at h
            · cases hr:numsW more with
              | none=>rw [hr] at h;cases h
              | some u=>
                rw [hr] at h
                cases h
                have:=numsW_len more u hr
                exact⟨by show u.length≤_;rw [List.length_cons,List.length_cons];omega,Nat.zero_le _⟩
            · split at h
              · cases hr:pairsW more with
                | none=>rw [hr] at h;cases h
                | some u=>
                  rw [hr] at h
                  cases h
                  have:=pairsW_len more u hr
                  exact⟨Nat.zero_le _,by show u.length≤_;rw [List.length_cons,List.length_cons];omega⟩
              · cases h
theorem read_mem:∀ (ws:List (List UInt8)) (k:Nat) (acc ss:List Stp) (n:Nat),readW k ws acc=(some ss,n)→∀ s∈ss,s∈acc∨∃ x∈ws,lineW x=some s
  | [],k,acc,ss,n,h,s,hs=>by
    unfold readW at h
    injection h with h _
    injection h with h
    subst h
    exact .inl hs
  | w :: r,k,acc,ss,n,h,s,hs=>by
    unfold readW at h
    split at h
    · rcases read_mem r _ _ _ _ h s hs with q | ⟨x,q1,q2⟩
      · exact .inl q
      · exact .inr ⟨x,List.mem_cons_of_mem _ q1,q2⟩
    · split at h
      · cases h
      · rename_i t ht
        rcases read_mem r _ _ _ _ h s hs with q | ⟨x,q1,q2⟩
        · rcases List.mem_append.1 q with q | q
          · exact .inl q
          · rw [List.mem_singleton.1 q]
            exact .inr ⟨w,by simp,ht⟩
        · exact .inr ⟨x,List.mem_cons_of_mem _ q1,q2⟩
theorem read_len {l:List UInt8} {ss:List Stp} {n:Nat} (h:readW 0 (splitB 10 l) []=(some ss,n)):∀ s∈ss.map rawK,s.v.length≤l.length+1∧s.l.length≤l.length+1:=fun s hs=>by
  obtain⟨t,ht,rfl⟩:=List.mem_map.1 hs
  rcases read_mem _ _ _ _ _ h t ht with q | ⟨x,hx,q⟩
  · cases q
  · have h1:=stepW_len _ _ q
    have h2:=split_len 32 x
    have h3:=split_part 10 l x hx
    omega
theorem read_count:∀ (ws:List (List UInt8)) (k:Nat) (acc ss:List Stp) (n:Nat),readW k ws acc=(some ss,n)→ss.length≤acc.length+ws.length
  | [],k,acc,ss,n,h=>by
    unfold readW at h
    injection h with h _
    injection h with h
    subst h
    exact Nat.le_refl _
  | w :: r,k,acc,ss,n,h=>by
    unfold readW at h
    split at h
    · have:=read_count r _ _ _ _ h
      rw [List.length_cons]
      omega
    · split at h
      · cases h
      · have:=read_count r _ _ _ _ h
        rw [List.length_append,List.length_singleton] at this
        rw [List.length_cons]
        omega
theorem stps_nil (W:World):Calls Tryz.prog 24 #[.slice none 0 0,.slice none 0 0] W fun e w'=>e=.returned (.bool true)∧Below W.heap.size W w':=
  r45Steps_eq (Q:=fun _=>True) (R:=fun _=>True) (Q2:=fun _=>True) (R2:=fun _=>True) (Cs:=[]) (Ds:=[]) (ss:=[]) none none 0 0 (FlatQ.nil _ _ _) (FlatQ.nil _ _ _) (StpsM.nil _ _) (StpsM.nil _ _) (fun s hs=>by cases hs) (Nat.zero_le _)
set_option maxRecDepth 8000 in
set_option maxHeartbeats 1000000 in
theorem scriptReads_any (s:ByteArray) (w:World) (hs:s.size≤maxLen):Calls Tryz.prog 4 #[.string s] w fun e w'=>e=.returned (.bool true)∧Below w.heap.size w w':=by
  have HNU:=fun n W=>Lib.hid (num45_any n W)
  have HKN:=fun W=>Lib.hid (knows45_any W)
  unfold maxLen at hs
  by_cases hl:5000 < (s.size:Int)
  · go_enter Tryz.func4,Tryz.ntmps4
    go_wp2_with fail
    refine (HKN _).out.mono ?_
    rintro e w1 ⟨rfl,hb⟩
    go_wp2_with fail
    go_ret
    exact⟨rfl,hb⟩
  have HA:=fun W=>Lib.hid (scrRead_any s W (by omega))
  have HB:=fun W=>Lib.hid (r45Read_any s W (by omega))
  have hln:s.data.toList.length=s.size:=by simp
  have HRL:Hid (∀ ss n,readW 0 (splitB 10 s.data.toList) []=(some ss,n)→∀ x∈ss.map rawK,x.v.length≤1000000∧x.l.length≤1000000):=Lib.hid fun ss n h x hx=>by
    have:=read_len h x hx
    omega
  have HRC:Hid (∀ ss n,readW 0 (splitB 10 s.data.toList) []=(some ss,n)→ss.length≤1000000000):=Lib.hid fun ss n h=>by
    have h1:=read_count _ _ _ _ _ h
    have h2:=split_len 10 s.data.toList
    simp only [List.length_nil] at h1
    omega
  obtain⟨R,hR⟩:∃ R,readW 0 (splitB 10 s.data.toList) []=R:=⟨_,rfl⟩
  unfold ReadOut at HA HB
  rw [hR] at HA HB HRL HRC
  clear hln hR
  have hl':(s.size:Int)≤5000:=by omega
  clear hl
  go_enter Tryz.func4,Tryz.ntmps4
  go_wp2_with fail
  refine (HKN _).out.mono ?_
  rintro e w1 ⟨rfl,hb1⟩
  have HB1:=Lib.hid hb1
  clear hb1
  go_wp2_with fail
  refine (HA _).out.mono ?_
  rintro e w2 ⟨ha,hb2⟩
  have HB2:=Lib.hid (bthen HB1.out hb2)
  rcases ha with ⟨hr1,rfl⟩ | ⟨ss,A,c,Cs,hr1,rfl,hf,hst,-⟩
  · have HR1:=Lib.hid hr1
    clear hr1 hb2
    go_wp2_with fail
    refine (HB _).out.mono ?_
    rintro e w3 ⟨hb,hb3⟩
    rcases hb with ⟨-,rfl⟩ | ⟨ss,A,c,Cs,hr2,-⟩
    · have HB3:=Lib.hid (bthen HB2.out hb3)
      have HSN:=Lib.hid (stps_nil w3)
      clear hb3
      go_wp2_with fail
      refine HSN.out.mono ?_
      rintro e w4 ⟨rfl,hb4⟩
      have HB4:=Lib.hid (bthen HB3.out hb4)
      clear hb4
      go_wp2_with (refine (HNU _ _).out.mono ?_;rintro e w5 ⟨rfl,rfl⟩)
      go_ret
      exact⟨rfl,HB4.out⟩
    · have:=HR1.out
      rw [hr2] at this
      cases this
  · have HF:=Lib.hid (And.intro hf hst)
    have HR1:=Lib.hid hr1
    clear hr1 hb2 hf hst
    go_wp2_with fail
    refine (HB _).out.mono ?_
    rintro e w3 ⟨hb,hb3⟩
    rcases hb with ⟨hn,-⟩ | ⟨ss2,A2,c2,Cs2,hr2,rfl,hf2,hst2,-⟩
    · have:=HR1.out
      rw [this] at hn
      cases hn
    · have e2:ss2=ss:=by
        have:=HR1.out
        rw [hr2] at this
        injection this with this _
        injection this
      subst e2
      have HB3:=Lib.hid (bthen HB2.out hb3)
      have hls:ss2.length≤1000000000:=HRC.out ss2 0 HR1.out
      have HSE:Hid (Calls Tryz.prog 24 #[.slice A ss2.length c,.slice A2 ss2.length c2] w3 fun e w'=>e=.returned (.bool true)∧Below w3.heap.size w3 w'):=Lib.hid (by
        have:=r45Steps_eq (w:=w3) A A2 c c2 (HF.out.1.lt.below hb3 fun b q=>q.2) hf2 (HF.out.2.keep (fun b q=>hb3.block b q.2) fun _ q=>q) hst2 (HRL.out ss2 0 HR1.out) (by rw [List.length_map];exact hls)
        rwa [List.length_map] at this)
      generalize ss2.length=m at *
      clear hb3 hf2 hst2 hr2 HF
      go_wp2_with fail
      refine HSE.out.mono ?_
      rintro e w4 ⟨rfl,hb4⟩
      have HB4:=Lib.hid (bthen HB3.out hb4)
      clear hb4
      go_wp2_with (refine (HNU _ _).out.mono ?_;rintro e w5 ⟨rfl,rfl⟩)
      go_ret
      exact⟨rfl,HB4.out⟩
theorem scriptReads_walk (s:ByteArray) (w:World) (hs:s.size≤maxLen):Calls Tryz.prog 4 #[.string s] w fun e w'=>e=.returned (.bool true)∧Below w.heap.size w w':=scriptReads_any s w hs
end Go.Proofs.YtaiepcgfofpmjaaGreat
