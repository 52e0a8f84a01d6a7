/- Layer 45: digits and the number of a word, of the reference. -/
import Derived.Test.YtaiepcgfofpmjaaGreatS14
import Derived.Test.YtaiepcgfofpmjaaGreatS04
import Derived.Deep.LoopGhost
import Derived.Test.YtaiepcgfofpmjaaGreatS13
import Derived.Deep.DeepCutAuto
import Derived.Deep.RegionWith
import Derived.Deep.RegionLaw
namespace Go.Proofs.YtaiepcgfofpmjaaGreat
set_option linter.unusedVariables false
open Go.RowKit
set_option maxHeartbeats 1000000 in
theorem r45Digits_any (n:Int) (w:World) (hn:I64 n):Calls Tryz.prog 58 #[.int .i64 n] w fun e w'=>e=.returned (.string (toB (dgT n)))∧Below w.heap.size w w':=by
  obtain⟨n0,n1⟩:=hn
  have HD:∀ (k:Nat) (m:Int),m=k→k≤9223372036854775807→∀ W,Hid (Calls Tryz.prog 103 #[.int .i64 m,.int .i64 1] W fun e w'=>e=.returned (.string (toB (digL k 1)))∧Below W.heap.size W w'):=fun k m hm hk W=>by rw [hm];exact r23DigitsW_any k 1 W hk (by omega)
  unfold dgT
  by_cases h:n < 0
  · rw [if_pos h]
    obtain⟨N,hN⟩:∃ N:Nat,-n=N:=⟨(-n).toNat,by omega⟩
    rw [show (-n).toNat=N from by omega]
    obtain rfl:n=-(N:Int):=by omega
    have hl:=digg_snoc N (by have:=dig_bound (n:=N) (by omega);exact Nat.lt_trans this (by decide))
    have hq:(-(N:Int)).tmod 10=-((N % 10:Nat):Int):=by rw [Int.neg_tmod];rfl
    have hd:(-(N:Int)).tdiv 10=-((N / 10:Nat):Int):=by rw [Int.neg_tdiv];rfl
    have h1:=HD (N % 10) ((N % 10:Nat):Int) rfl (by omega)
    have h2:=HD (N / 10) ((N / 10:Nat):Int) rfl (by omega)
    have hL:digL (N % 10) 1=[UInt8.ofNat (48+N % 10)]:=by rw [digg_snoc _ (by omega),if_pos (by omega),List.nil_append];congr 3;omega
    by_cases h9:N < 10
    · rw [if_pos h9,List.nil_append,← hL] at hl
      have HX:Hid (toB (45 :: digL N 1)=⟨#[45]⟩++toB (digL (N % 10) 1)):=by
        show _=_
        rw [hl,show (⟨#[45]⟩:ByteArray)=toB [45] from rfl,toB_append]
        rfl
      have HS2:(digL (N % 10) 1).length≤20:=digF_len 20 _ _
      have s2:=size_B (digL (N % 10) 1)
      have e0:N / 10=0:=by omega
      rw [e0] at hd
      clear hl hL h2 HD h9 e0 hN
      have hl9:((N % 10:Nat):Int)≤9:=by omega
      generalize N % 10=L at *
      generalize toB (digL L 1)=B at *
      go_enter Tryz.func58,Tryz.ntmps58
      go_wp2_with fail
      refine (h1 _).out.mono ?_
      rintro e w1 ⟨rfl,hb⟩
      go_wp2_with fail
      go_ret
      exact⟨by rw [HX.out];rfl,hb⟩
    · rw [if_neg h9,← hL] at hl
      have HL:=Lib.hid hl
      have hp:(0:Int) < ((N / 10:Nat):Int):=by omega
      have hm:((N / 10:Nat):Int)≤922337203685477580:=by omega
      have hl9:((N % 10:Nat):Int)≤9:=by omega
      have HS1:(digL (N / 10) 1).length≤20:=digF_len 20 _ _
      have HS2:(digL (N % 10) 1).length≤20:=digF_len 20 _ _
      clear hl hL HD h9 hN
      generalize N % 10=L at *
      generalize N / 10=H at *
      have s1:=size_B (digL H 1)
      have s2:=size_B (digL L 1)
      have HX:Hid (toB (45 :: digL N 1)=(⟨#[45]⟩++toB (digL H 1))++toB (digL L 1)):=by
        show _=_
        rw [HL.out,show (⟨#[45]⟩:ByteArray)=toB [45] from rfl,toB_append,toB_append]
        rfl
      generalize toB (digL H 1)=A at *
      generalize toB (digL L 1)=B at *
      go_enter Tryz.func58,Tryz.ntmps58
      go_wp2_with fail
      refine (h2 _).out.mono ?_
      rintro e w1 ⟨rfl,hb⟩
      go_wp2_with fail
      refine (h1 _).out.mono ?_
      rintro e w2 ⟨rfl,hb2⟩
      go_wp2_with fail
      go_ret
      exact⟨by rw [HX.out];rfl,bthen hb hb2⟩
  · rw [if_neg h]
    have h1:=HD n.toNat n (by omega) (by omega)
    have h2:0≤n:=by omega
    clear HD h
    go_enter Tryz.func58,Tryz.ntmps58
    go_wp2_with fail
    refine (h1 _).out.mono ?_
    rintro e w1 ⟨rfl,hb⟩
    go_wp2_with fail
    go_ret
    exact⟨rfl,hb⟩
theorem drop_step (s:ByteArray) (f i:Nat) (hf:f≤i) (h:i < s.size):(s.data.toList.drop f).take (i+1 - f)=(s.data.toList.drop f).take (i - f)++[s[i]]:=by
  have hl:s.data.toList.length=s.size:=by simp
  rw [show i+1 - f=(i - f)+1 from by omega,List.take_succ_eq_append_getElem (by rw [List.length_drop];omega)]
  congr 2
  rw [List.getElem_drop]
  have e:f+(i - f)=i:=by omega
  simp only [e]
  rfl
def sgV (neg:Bool) (V:Nat):Int:=if neg then -(V:Int) else (V:Int)
theorem numW_sgn {l:List UInt8} {m:Int} (h:numW l=some m):m=sgV (decide (l.head?=some 45)) (valG (if l.head?=some 45 then l.tail else l)):=by
  have key:∀ neg d,numP neg d=some m→m=sgV neg (valG d):=by
    intro neg d h
    unfold numP at h
    split at h
    · cases neg with
      | true=>
        rw [if_pos rfl] at h
        split at h
        · injection h with h;exact h.symm
        · cases h
      | false=>
        rw [if_neg (by decide)] at h
        split at h
        · injection h with h;exact h.symm
        · cases h
    · cases h
  unfold numW at h
  split at h
  · rename_i q
    rw [if_pos q,decide_eq_true q];exact key _ _ h
  · rename_i q
    rw [if_neg q,decide_eq_false q];exact key _ _ h
theorem numW_len {l:List UInt8} (h:l.length=0∨20 < l.length∨l=[45]):numW l=none:=by
  cases hn:numW l with
  | none=>rfl
  | some m=>
    obtain⟨h1,h2⟩:=numW_some hn
    have:=dgT_len h1
    rw [← h2] at this
    rcases h with h | h | h
    · omega
    · omega
    · subst h;cases hn
theorem numW_bad {l:List UInt8} {c:UInt8} (f:Nat) (hf:f=if l.head?=some 45 then 1 else 0) (i:Nat) (h:l[i]?=some c) (hi:f≤i) (hc:isG c=false):numW l=none:=by
  have key:∀ neg d,(d.all isG)=false→numP neg d=none:=by
    intro neg d h
    unfold numP
    rw [if_neg]
    intro q
    rw [q.2.2.1] at h;cases h
  unfold numW
  split at hf
  · rename_i q
    rw [if_pos q]
    apply key
    rw [List.all_eq_false]
    refine⟨c,?_,by rw [hc];simp⟩
    cases l with
    | nil=>cases h
    | cons a l=>
      cases i with
      | zero=>omega
      | succ i=>exact List.mem_of_getElem? h
  · rename_i q
    rw [if_neg q]
    apply key
    rw [List.all_eq_false]
    exact⟨c,List.mem_of_getElem? h,by rw [hc];simp⟩
theorem w64_i64 (x:Int):I64 (wrap64 x):=by
  unfold I64
  simp only [wrap64]
  omega
theorem w64_in {x:Int} (h:I64 x):wrap64 x=x:=by
  unfold I64 at h
  simp only [wrap64]
  omega
theorem num_end {l:List UInt8} {f:Nat} {n:Int} (neg:Bool) (hneg:neg=decide (l.head?=some 45)) (hf:f=if l.head?=some 45 then 1 else 0) (hn:n=wrap64 (sgV neg (valG (l.drop f)))):numW l=if decide (dgT n=l) then some n else none:=by
  by_cases h:dgT n=l
  · rw [decide_eq_true h,if_pos rfl,← h]
    exact numW_dgT (by rw [hn];exact w64_i64 _)
  · rw [decide_eq_false h]
    cases hw:numW l with
    | none=>rfl
    | some m=>
      exfalso
      obtain⟨h1,h2⟩:=numW_some hw
      have h3:=numW_sgn hw
      apply h
      rw [h2]
      congr 1
      rw [hn]
      have e:l.drop f=if l.head?=some 45 then l.tail else l:=by
        rw [hf]
        split
        · exact List.drop_one
        · rfl
      rw [e,hneg,← h3]
      exact w64_in h1
theorem beq_txt (l:List UInt8) (s:ByteArray):((toB l).toList==s.toList)=decide (l=s.data.toList):=by
  rw [txt_eq,txt_eq,toList_B,Bool.eq_iff_iff]
  simp
set_option maxHeartbeats 2000000 in
theorem r45Number_go (s:ByteArray) (neg:Bool) (f:Nat) (w:World) (hneg:Hid (neg=decide (s.data.toList.head?=some 45))) (hf:Hid (f=if s.data.toList.head?=some 45 then 1 else 0)) (h0:0 < s.size)
    (hh:neg=true∧f=1∧(((s[0]'h0).toNat:Int)==45)=true∨neg=false∧f=0∧(((s[0]'h0).toNat:Int)==45)=false) (h1:f < s.size) (h2:s.size≤20) :
    Calls Tryz.prog 50 #[.string s] w (NumOut s.data.toList w):=by
  have f0:((s.size:Int)==(f:Int))=false:=by rw [beq_eq_false_iff_ne];omega
  have f1:(0:Int) < (s.size:Int):=by omega
  have f2:(s.size:Int)≤20:=by omega
  have HD:=fun n W (h:I64 n)=>Lib.hid (r45Digits_any n W h)
  rcases hh with ⟨rfl,rfl,h45⟩ | ⟨rfl,rfl,h45⟩
  · have f0:((s.size:Int)==1)=false:=f0
    go_enter Tryz.func50,Tryz.ntmps50
    go_wp2_with fail
    go_loop [6,7] (fun n i=>∃ (k:Nat) (m:Int),1≤k∧k≤s.size∧i=.int .i64 k∧n=.int .i64 m∧Hid (m=wrap64 (sgV true (valG ((s.data.toList.drop 1).take (k - 1)))))∧Hid (I64 m)) (fun _ i=>s.size - (intOf i).toNat)
    case atStart=>exact⟨1,0,by omega,by omega,rfl,rfl,(by show (0:Int)=wrap64 (sgV true (valG (List.take 0 _)));rw [List.take_zero];simp [wrap64,sgV,valG]),⟨by decide,by decide⟩⟩
    case round=>
      obtain⟨k,m,hk,hks,rfl,rfl,HM,HI⟩:=hrel
      by_cases hlt:k < s.size
      · have hu:=s[k].toNat_lt
        have HS:=drop_step s 1 k hk hlt
        cases hc:isG s[k] with
        | true=>
          have hd:=of_decide_eq_true hc
          have hd1:(48:Int)≤(s[k].toNat:Int):=by omega
          have hd2:(s[k].toNat:Int)≤57:=by omega
          have HN:Hid (wrap64 (wrap64 (10 * m)+(-((s[k].toNat:Int) - 48)))=wrap64 (sgV true (valG ((s.data.toList.drop 1).take (k+1 - 1))))):=by
            show _=_
            rw [HS,valG_snoc]
            have:=HM.out
            have h1:=HI.out
            unfold I64 at h1
            unfold sgV at this ⊢
            generalize valG ((s.data.toList.drop 1).take (k - 1))=V at *
            simp only [wrap64,if_true] at this ⊢
            omega
          have HI1:=HI.out
          clear HS hc hd HM HI
          go_wp2_with fail
          go_round
          case rel=>exact⟨k+1,_,by omega,by omega,by go_num,rfl,HN,w64_i64 _⟩
          case measure=>simp [intOf];omega
        | false=>
          have hd:=of_decide_eq_false hc
          have HB:Hid (numW s.data.toList=none):=numW_bad 1 hf.out k (by show s.data.toList[k]?=some s[k];rw [List.getElem?_eq_getElem (by simpa using hlt)];rfl) hk hc
          have hd1:(s[k].toNat:Int) < 48∨(48:Int)≤(s[k].toNat:Int)∧(57:Int) < (s[k].toNat:Int):=by omega
          clear HS hc hd HM HI
          rcases hd1 with hd1 | ⟨hd1,hd2⟩
          all_goals
            go_wp2_with fail
            go_ret2
            exact⟨⟨0,false,rfl,by rw [HB.out];rfl⟩,Below.refl _ _⟩
      · have hm:=HM.out
        rw [List.take_of_length_le (by rw [List.length_drop];simp;omega)] at hm
        have HE:=Lib.hid (num_end true hneg.out hf.out hm)
        have HDD:=fun W=>HD m W HI.out
        have hge:(s.size:Int)≤(k:Int):=by omega
        clear hm HM HD hlt
        go_wp2_with fail
        refine (HDD _).out.mono ?_
        rintro e w1 ⟨rfl,hb⟩
        go_wp2_with fail
        go_ret2
        exact⟨⟨m,_,rfl,by rw [HE.out,← beq_txt]⟩,hb⟩
  · have f0:((s.size:Int)==0)=false:=f0
    go_enter Tryz.func50,Tryz.ntmps50
    go_wp2_with fail
    go_loop [6,7] (fun n i=>∃ (k:Nat) (m:Int),0≤k∧k≤s.size∧i=.int .i64 k∧n=.int .i64 m∧Hid (m=wrap64 (sgV false (valG ((s.data.toList.drop 0).take (k - 0)))))∧Hid (I64 m)) (fun _ i=>s.size - (intOf i).toNat)
    case atStart=>exact⟨0,0,by omega,by omega,rfl,rfl,(by show (0:Int)=wrap64 (sgV false (valG (List.take 0 _)));rw [List.take_zero];simp [wrap64,sgV,valG]),⟨by decide,by decide⟩⟩
    case round=>
      obtain⟨k,m,hk,hks,rfl,rfl,HM,HI⟩:=hrel
      by_cases hlt:k < s.size
      · have hu:=s[k].toNat_lt
        have HS:=drop_step s 0 k hk hlt
        cases hc:isG s[k] with
        | true=>
          have hd:=of_decide_eq_true hc
          have hd1:(48:Int)≤(s[k].toNat:Int):=by omega
          have hd2:(s[k].toNat:Int)≤57:=by omega
          have HN:Hid (wrap64 (wrap64 (10 * m)+((s[k].toNat:Int) - 48))=wrap64 (sgV false (valG ((s.data.toList.drop 0).take (k+1 - 0))))):=by
            show _=_
            rw [HS,valG_snoc]
            have:=HM.out
            have h1:=HI.out
            unfold I64 at h1
            unfold sgV at this ⊢
            generalize valG ((s.data.toList.drop 0).take (k - 0))=V at *
            simp only [wrap64,if_false,Bool.false_eq_true] at this ⊢
            omega
          have HI1:=HI.out
          clear HS hc hd HM HI
          go_wp2_with fail
          go_round
          case rel=>exact⟨k+1,_,by omega,by omega,by go_num,rfl,HN,w64_i64 _⟩
          case measure=>simp [intOf];omega
        | false=>
          have hd:=of_decide_eq_false hc
          have HB:Hid (numW s.data.toList=none):=numW_bad 0 hf.out k (by show s.data.toList[k]?=some s[k];rw [List.getElem?_eq_getElem (by simpa using hlt)];rfl) hk hc
          have hd1:(s[k].toNat:Int) < 48∨(48:Int)≤(s[k].toNat:Int)∧(57:Int) < (s[k].toNat:Int):=by omega
          clear HS hc hd HM HI
          rcases hd1 with hd1 | ⟨hd1,hd2⟩
          all_goals
            go_wp2_with fail
            go_ret2
            exact⟨⟨0,false,rfl,by rw [HB.out];rfl⟩,Below.refl _ _⟩
      · have hm:=HM.out
        rw [List.take_of_length_le (by rw [List.length_drop];simp;omega)] at hm
        have HE:=Lib.hid (num_end false hneg.out hf.out hm)
        have HDD:=fun W=>HD m W HI.out
        have hge:(s.size:Int)≤(k:Int):=by omega
        clear hm HM HD hlt
        go_wp2_with fail
        refine (HDD _).out.mono ?_
        rintro e w1 ⟨rfl,hb⟩
        go_wp2_with fail
        go_ret2
        exact⟨⟨m,_,rfl,by rw [HE.out,← beq_txt]⟩,hb⟩
theorem r45Number_any (s:ByteArray) (w:World):Calls Tryz.prog 50 #[.string s] w (NumOut s.data.toList w):=by
  have hl:s.data.toList.length=s.size:=by simp
  have no:s.data.toList.length=0∨20 < s.data.toList.length∨s.data.toList=[45]→Calls Tryz.prog 50 #[.string s] w (fun e w'=>e=.returned (.tuple #[.int .i64 0,.bool false])∧w=w')→Calls Tryz.prog 50 #[.string s] w (NumOut s.data.toList w):=fun h1 h2=>h2.mono fun e w' q=>⟨⟨0,false,q.1,by rw [numW_len h1];rfl⟩,by rw [← q.2];exact Below.refl _ _⟩
  by_cases h0:s.size=0
  · refine no (.inl (by omega)) ?_
    obtain rfl:s=ByteArray.empty:=by obtain⟨⟨l⟩⟩:=s;cases l with
      | nil=>rfl
      | cons a l=>cases h0
    go_enter Tryz.func50,Tryz.ntmps50
    go_wp2
    go_ret2
    exact⟨rfl,rfl⟩
  have hp:0 < s.size:=by omega
  have hd:s.data.toList.head?=some (s[0]'(by omega)):=by
    obtain⟨⟨l⟩⟩:=s
    cases l with
    | nil=>exact absurd rfl h0
    | cons a l=>rfl
  obtain⟨neg,hneg⟩:∃ neg,neg=decide (s.data.toList.head?=some 45):=⟨_,rfl⟩
  have hh:neg=true∧(((s[0]'(by omega)).toNat:Int)==45)=true∨neg=false∧(((s[0]'(by omega)).toNat:Int)==45)=false:=by
    rw [hneg,hd]
    by_cases q:s[0]=45
    · left
      rw [q]
      exact⟨rfl,rfl⟩
    · right
      refine⟨decide_eq_false fun e=>q (by injection e),?_⟩
      rw [beq_eq_false_iff_ne]
      intro e
      apply q
      apply UInt8.toNat_inj.1
      show _=45
      omega
  by_cases h20:20 < s.size
  · refine no (.inr (.inl (by omega))) ?_
    have f1:(0:Int) < (s.size:Int):=by omega
    have f2:(20:Int) < (s.size:Int):=by omega
    have f3:((s.size:Int)==0)=false:=by rw [beq_eq_false_iff_ne];omega
    have f4:((s.size:Int)==1)=false:=by rw [beq_eq_false_iff_ne];omega
    clear hneg hd hl no
    rcases hh with ⟨-,q⟩ | ⟨-,q⟩
    all_goals
      go_enter Tryz.func50,Tryz.ntmps50
      go_wp2
      go_ret2
      exact⟨rfl,rfl⟩
  rcases hh with ⟨rfl,q⟩ | ⟨rfl,q⟩
  · have hx:=of_decide_eq_true hneg.symm
    by_cases h1:s.size=1
    · have e:s.data.toList=[45]:=by
        match hs:s.data.toList,hl with
        | [a],_=>rw [hs] at hx;simpa using hx
        | [],hl=>rw [List.length_nil] at hl;omega
        | a :: b :: l,hl=>rw [List.length_cons,List.length_cons] at hl;omega
      refine no (.inr (.inr e)) ?_
      obtain rfl:=bytes_of e
      clear hneg hd hl no hx q
      go_enter Tryz.func50,Tryz.ntmps50
      go_wp2
      go_ret2
      exact⟨rfl,rfl⟩
    · exact r45Number_go s true 1 w hneg (by show _=_;rw [if_pos hx]) hp (.inl ⟨rfl,rfl,q⟩) (by omega) (by omega)
  · have hx:=of_decide_eq_false hneg.symm
    exact r45Number_go s false 0 w hneg (by show _=_;rw [if_neg hx]) hp (.inr ⟨rfl,rfl,q⟩) (by omega) (by omega)
theorem i64_infoS:(Tryz.prog.info? 2).map (fun i=>(i.zero,i.size,i.bytes))=some (some (.int .i64 0),1,8):=by kernel_rfl
theorem pushI {w0 w:World} {v:Value} {n:Nat} {xs:List Value} (h:OwnR w0 2 1 v n xs w) (u:Int) (hn:n≤1000000000) (ty:TypeId) :
    ∃ v' w',(Builtin.append_ #[23,23] ty #[v,.slice (some ⟨w.heap.size,0,none⟩) 1 1]).run Tryz.prog (w.alloc (.cells #[.int .i64 u] 2))=.ok v' w'∧OwnR w0 2 1 v' (n+1) (xs++[.int .i64 u]) w':=
  h.push i64_infoS Tryz.underlying23 rfl (by decide) #[.int .i64 u] rfl (fun _ q=>one_cell q rfl) (by unfold maxLen;omega) (by omega)
def intL (n:Int):Value:=.int .i64 n
def NumsOut (ls:List (List UInt8)) (w:World) (e:Ending) (w':World):Prop:=
  (numsW ls=none∧e=.returned (.tuple #[.slice none 0 0,.bool false])∨∃ ns A c,numsW ls=some ns∧e=.returned (.tuple #[.slice A ns.length c,.bool true])∧FlatQ (fun b=>w.heap.size≤b∧b < w'.heap.size) w' A (ns.map intL)∧ns.length≤c)∧Below w.heap.size w w'
theorem NumsOut.own {w0 w:World} {v:Value} {ls:List (List UInt8)} {ns:List Int} {n:Nat} (h:OwnR w0 2 1 v n (ns.map intL) w) (hn:ns.length=n) (hl:numsW ls=some ns):NumsOut ls w0 (.returned (.tuple #[v,.bool true])) w:=by
  obtain⟨A,c,h1,h2,h3⟩:=h.flat
  exact⟨.inr ⟨ns,A,c,hl,by rw [h1,hn],h3,by omega⟩,h.2⟩
theorem nums_step {ls:List (List UInt8)} {ns:List Int} {k:Nat} (hk:k < ls.length) (h:numsW ls=(numsW (ls.drop k)).map (ns++·)):(∀ n,numW ls[k]=some n→numsW ls=(numsW (ls.drop (k+1))).map (ns++[n]++·))∧(numW ls[k]=none→numsW ls=none):=by
  rw [List.drop_eq_getElem_cons hk,numsW] at h
  refine⟨fun n q=>?_,fun q=>?_⟩
  · rw [q] at h
    dsimp only at h
    rw [h,Option.map_map]
    congr 1
    funext x
    simp
  · rw [q] at h
    exact h
theorem nums_end {ls:List (List UInt8)} {ns:List Int} {k:Nat} (hk:ls.length≤k) (h:numsW ls=(numsW (ls.drop k)).map (ns++·)):numsW ls=some ns:=by
  rw [List.drop_of_length_le hk] at h
  rw [h]
  show some (ns++[])=_
  rw [List.append_nil]
theorem toB_data (l:List UInt8):(toB l).data.toList=l:=toList_B l
set_option maxHeartbeats 2000000 in
theorem scrNumbers_any {Q:Nat→Prop} {w:World} (A:Option Addr) (c:Nat) (ls:List (List UInt8)) (h:FlatQ Q w A (ls.map strL)) (hm:ls.length≤200000000):Calls Tryz.prog 99 #[.slice A ls.length c] w (NumsOut ls w):=by
  obtain⟨N,hN⟩:∃ N,ls.length=N:=⟨_,rfl⟩
  have HF:=Lib.hid h.lt
  have HL:=Lib.hid hN
  rw [hN] at hm ⊢
  clear h hN
  go_enter Tryz.func99,Tryz.ntmps99
  go_wp2_with fail
  go_loopg [4,11] N (fun g v iv wr=>∃ (k:Nat) (ns:List Int),iv=.int .i64 k∧k≤N∧N - k≤g∧Hid (OwnR w 2 1 v ns.length (ns.map intL) wr)∧Hid (numsW ls=(numsW (ls.drop k)).map (ns++·))∧ns.length≤k)
  case atStart=>exact⟨0,[],rfl,by omega,by omega,OwnR.nil _ _ _ (Below.refl _ _),(by show _=_;rw [List.drop_zero];cases numsW ls <;> rfl),by simp⟩
  case round=>
    obtain⟨k,ns,rfl,hk,hg,HO,HS,hns⟩:=hrel
    have HB:=Lib.hid HO.out.2
    by_cases hlt:k < N
    · have hkl:k < ls.length:=by rw [HL.out];exact hlt
      obtain⟨b,off,rfl,hq,hc0⟩:=HF.out k (strL ls[k]) (by rw [List.getElem?_map,List.getElem?_eq_getElem hkl];rfl)
      have hc1:=(HB.out.cell (p:=⟨b,off+k,none⟩) hq.2).trans hc0
      obtain⟨h1,h2⟩:=nums_step hkl HS.out
      have HX:=fun W=>Lib.hid (scrNumber_any (toB ls[k]) W)
      unfold strL at hc1
      rw [toB_data] at HX
      have H1:=Lib.hid h1
      have H2:=Lib.hid h2
      generalize ls[k]=x at *
      generalize toB x=X at *
      clear h1 h2 hc0 hq hkl HS
      go_wp2_with fail
      refine (HX _).out.mono ?_
      rintro e w1 ⟨⟨n,b,rfl,hn⟩,hb⟩
      cases b with
      | true=>
        have HO2:=Lib.hid (HO.out.on hb)
        have HN:=Lib.hid (H1.out n hn)
        obtain⟨v',W',hr,ho⟩:=pushI HO2.out n (by omega) 23
        have HR:=Lib.hid hr
        have HO3:Hid (OwnR w 2 1 v' (ns++[n]).length ((ns++[n]).map intL) W'):=by
          show OwnR _ _ _ _ _ _ _
          rw [List.length_append,List.map_append]
          exact ho
        clear hr ho hn hb
        go_wp2_with (at_builtin;refine wpList_append_known rfl _ _ 23 rfl _ _ _ rfl rfl HR.out ?_)
        go_roundg (N - (k+1))
        case rel=>exact⟨k+1,ns++[n],by go_num,by omega,by omega,HO3,HN,by rw [List.length_append,List.length_singleton];omega⟩
        case measure=>omega
      | false=>
        have HN:=Lib.hid (H2.out hn)
        have HB2:=Lib.hid (bthen HB.out hb)
        clear hn hb
        go_wp2_with fail
        go_ret2
        exact⟨.inl ⟨HN.out,rfl⟩,HB2.out⟩
    · have hge:(N:Int)≤(k:Int):=by omega
      have HE:=Lib.hid (nums_end (by rw [HL.out];omega) HS.out)
      clear HS
      go_wp2_with fail
      go_ret2
      exact NumsOut.own HO.out rfl HE.out
set_option maxHeartbeats 2000000 in
theorem r45Rest_any {Q:Nat→Prop} {w:World} (A:Option Addr) (c:Nat) (ls:List (List UInt8)) (h:FlatQ Q w A (ls.map strL)) (hm:ls.length≤200000000):Calls Tryz.prog 51 #[.slice A ls.length c] w (NumsOut ls w):=by
  obtain⟨N,hN⟩:∃ N,ls.length=N:=⟨_,rfl⟩
  have HF:=Lib.hid h.lt
  have HL:=Lib.hid hN
  rw [hN] at hm ⊢
  clear h hN
  go_enter Tryz.func51,Tryz.ntmps51
  go_wp2_with fail
  go_loopg [4,5] N (fun g v iv wr=>∃ (k:Nat) (ns:List Int),iv=.int .i64 k∧k≤N∧N - k≤g∧Hid (OwnR w 2 1 v ns.length (ns.map intL) wr)∧Hid (numsW ls=(numsW (ls.drop k)).map (ns++·))∧ns.length≤k)
  case atStart=>exact⟨0,[],rfl,by omega,by omega,OwnR.nil _ _ _ (Below.refl _ _),(by show _=_;rw [List.drop_zero];cases numsW ls <;> rfl),by simp⟩
  case round=>
    obtain⟨k,ns,rfl,hk,hg,HO,HS,hns⟩:=hrel
    have HB:=Lib.hid HO.out.2
    by_cases hlt:k < N
    · have hkl:k < ls.length:=by rw [HL.out];exact hlt
      obtain⟨b,off,rfl,hq,hc0⟩:=HF.out k (strL ls[k]) (by rw [List.getElem?_map,List.getElem?_eq_getElem hkl];rfl)
      have hc1:=(HB.out.cell (p:=⟨b,off+k,none⟩) hq.2).trans hc0
      obtain⟨h1,h2⟩:=nums_step hkl HS.out
      have HX:=fun W=>Lib.hid (r45Number_any (toB ls[k]) W)
      unfold strL at hc1
      rw [toB_data] at HX
      have H1:=Lib.hid h1
      have H2:=Lib.hid h2
      generalize ls[k]=x at *
      generalize toB x=X at *
      clear h1 h2 hc0 hq hkl HS
      go_wp2_with fail
      refine (HX _).out.mono ?_
      rintro e w1 ⟨⟨n,b,rfl,hn⟩,hb⟩
      cases b with
      | true=>
        have HO2:=Lib.hid (HO.out.on hb)
        have HN:=Lib.hid (H1.out n hn)
        obtain⟨v',W',hr,ho⟩:=pushI HO2.out n (by omega) 23
        have HR:=Lib.hid hr
        have HO3:Hid (OwnR w 2 1 v' (ns++[n]).length ((ns++[n]).map intL) W'):=by
          show OwnR _ _ _ _ _ _ _
          rw [List.length_append,List.map_append]
          exact ho
        clear hr ho hn hb
        go_wp2_with (at_builtin;refine wpList_append_known rfl _ _ 23 rfl _ _ _ rfl rfl HR.out ?_)
        go_roundg (N - (k+1))
        case rel=>exact⟨k+1,ns++[n],by go_num,by omega,by omega,HO3,HN,by rw [List.length_append,List.length_singleton];omega⟩
        case measure=>omega
      | false=>
        have HN:=Lib.hid (H2.out hn)
        have HB2:=Lib.hid (bthen HB.out hb)
        clear hn hb
        go_wp2_with fail
        go_ret2
        exact⟨.inl ⟨HN.out,rfl⟩,HB2.out⟩
    · have hge:(N:Int)≤(k:Int):=by omega
      have HE:=Lib.hid (nums_end (by rw [HL.out];omega) HS.out)
      clear HS
      go_wp2_with fail
      go_ret2
      exact NumsOut.own HO.out rfl HE.out
theorem pair_infoS:(Tryz.prog.info? 151).map (fun i=>(i.zero,i.size,i.bytes))=some (some (.agg #[.int .i64 0,.int .i64 0]),2,16):=by kernel_rfl
theorem pushP {w0 w:World} {v:Value} {n:Nat} {xs:List Value} (h:OwnR w0 151 2 v n xs w) (a b:Int) (hn:n≤1000000000) (ty:TypeId) :
    ∃ v' w',(Builtin.append_ #[26,26] ty #[v,.slice (some ⟨w.heap.size,0,none⟩) 1 1]).run Tryz.prog (w.alloc (.cells #[.int .i64 a,.int .i64 b] 151))=.ok v' w'∧OwnR w0 151 2 v' (n+1) (xs++[.int .i64 a,.int .i64 b]) w':=
  h.push pair_infoS Tryz.underlying26 rfl (by decide) #[.int .i64 a,.int .i64 b] rfl (fun u q=>by simp only [List.mem_cons,List.not_mem_nil,or_false] at q;rcases q with rfl | rfl <;> rfl) (by unfold maxLen;omega) (by omega)
def pairC (ps:List (Int×Int)):List Value:=ps.flatMap fun p=>[.int .i64 p.1,.int .i64 p.2]
theorem pairC_snoc (ps:List (Int×Int)) (p:Int×Int):pairC (ps++[p])=pairC ps++[.int .i64 p.1,.int .i64 p.2]:=by simp [pairC]
def PairsOut (ls:List (List UInt8)) (w:World) (e:Ending) (w':World):Prop:=
  (pairsW ls=none∧e=.returned (.tuple #[.slice none 0 0,.bool false])∨∃ ns A c,pairsW ls=some ns∧e=.returned (.tuple #[.slice A ns.length c,.bool true])∧FlatQ (fun b=>w.heap.size≤b∧b < w'.heap.size) w' A (pairC ns)∧ns.length≤c)∧Below w.heap.size w w'
theorem PairsOut.own {w0 w:World} {v:Value} {ls:List (List UInt8)} {ns:List (Int×Int)} {n:Nat} (h:OwnR w0 151 2 v n (pairC ns) w) (hn:ns.length=n) (hl:pairsW ls=some ns):PairsOut ls w0 (.returned (.tuple #[v,.bool true])) w:=by
  obtain⟨A,c,h1,h2,h3⟩:=h.flat
  exact⟨.inr ⟨ns,A,c,hl,by rw [h1,hn],h3,by omega⟩,h.2⟩
theorem pairs_step {ls:List (List UInt8)} {ns:List (Int×Int)} {k:Nat} (hk:k < ls.length) (h:pairsW ls=(pairsW (ls.drop k)).map (ns++·)):(∀ n,pairW ls[k]=some n→pairsW ls=(pairsW (ls.drop (k+1))).map (ns++[n]++·))∧(pairW ls[k]=none→pairsW ls=none):=by
  rw [List.drop_eq_getElem_cons hk,pairsW] at h
  refine⟨fun n q=>?_,fun q=>?_⟩
  · rw [q] at h
    dsimp only at h
    rw [h,Option.map_map]
    congr 1
    funext x
    simp
  · rw [q] at h
    exact h
theorem pairs_end {ls:List (List UInt8)} {ns:List (Int×Int)} {k:Nat} (hk:ls.length≤k) (h:pairsW ls=(pairsW (ls.drop k)).map (ns++·)):pairsW ls=some ns:=by
  rw [List.drop_of_length_le hk] at h
  rw [h]
  show some (ns++[])=_
  rw [List.append_nil]
theorem pairW_len {l:List UInt8} {ns:List Int} (h:numsW (splitB 61 l)=some ns) (hl:ns.length≠2):pairW l=none:=by
  unfold pairW
  rw [h]
  match ns,hl with
  | [],_=>rfl
  | [_],_=>rfl
  | [a,b],q=>exact absurd rfl q
  | _ :: _ :: _ :: _,_=>rfl
set_option maxHeartbeats 4000000 in
theorem scrPairs_any {Q:Nat→Prop} {w:World} (A:Option Addr) (c:Nat) (ls:List (List UInt8)) (h:FlatQ Q w A (ls.map strL)) (hm:ls.length≤200000000) (hs:∀ l∈ls,l.length≤100000000):Calls Tryz.prog 100 #[.slice A ls.length c] w (PairsOut ls w):=by
  obtain⟨N,hN⟩:∃ N,ls.length=N:=⟨_,rfl⟩
  have HF:=Lib.hid h.lt
  have HL:=Lib.hid hN
  have HSZ:=Lib.hid hs
  rw [hN] at hm ⊢
  clear h hN hs
  go_enter Tryz.func100,Tryz.ntmps100
  go_wp2_with fail
  go_loopg [4,11] N (fun g v iv wr=>∃ (k:Nat) (ns:List (Int×Int)),iv=.int .i64 k∧k≤N∧N - k≤g∧Hid (OwnR w 151 2 v ns.length (pairC ns) wr)∧Hid (pairsW ls=(pairsW (ls.drop k)).map (ns++·))∧ns.length≤k)
  case atStart=>exact⟨0,[],rfl,by omega,by omega,OwnR.nil _ _ _ (Below.refl _ _),(by show _=_;rw [List.drop_zero];cases pairsW ls <;> rfl),by simp⟩
  case round=>
    obtain⟨k,ns,rfl,hk,hg,HO,HS,hns⟩:=hrel
    have HB:=Lib.hid HO.out.2
    by_cases hlt:k < N
    · have hkl:k < ls.length:=by rw [HL.out];exact hlt
      obtain⟨b,off,rfl,hq,hc0⟩:=HF.out k (strL ls[k]) (by rw [List.getElem?_map,List.getElem?_eq_getElem hkl];rfl)
      have hc1:=(HB.out.cell (p:=⟨b,off+k,none⟩) hq.2).trans hc0
      obtain⟨h1,h2⟩:=pairs_step hkl HS.out
      have hxl:=HSZ.out ls[k] (List.getElem_mem hkl)
      have HX:∀ W,Hid (Calls Tryz.prog 45 #[.string (toB ls[k]),.int .u8 61] W (StrsOut (splitB 61 ls[k]) W)):=fun W=>by
        have:=scrList_any (toB ls[k]) 61 W (by rw [size_B];exact hxl)
        rw [toList_B] at this
        exact this
      have HXL:=Lib.hid (split_len 61 ls[k])
      unfold strL at hc1
      have H1:=Lib.hid h1
      have H2:=Lib.hid h2
      generalize ls[k]=x at *
      generalize toB x=X at *
      clear h1 h2 hc0 hq hkl HS
      go_wp2_with fail
      refine (HX _).out.mono ?_
      rintro e w1 ⟨A1,c1,rfl,hf1,hb1,hn1⟩
      have HNX:=Lib.hid (scrNumbers_any A1 c1 (splitB 61 x) hf1 (by have:=HXL.out;omega))
      have HB1:=Lib.hid hb1
      clear hf1 hb1
      go_wp2_with fail
      refine HNX.out.mono ?_
      rintro e w2 ⟨hor,hb2⟩
      have HB12:=Lib.hid (bthen HB1.out hb2)
      have HB2:=Lib.hid (bthen HB.out HB12.out)
      clear HNX hb2 HX
      rcases hor with ⟨hn,rfl⟩ | ⟨vs,A2,c2,hn,rfl,hf2,hc2⟩
      · have HN:Hid (pairsW ls=none):=H2.out (by unfold pairW;rw [hn])
        clear hn
        go_wp2_with fail
        go_ret2
        exact⟨.inl ⟨HN.out,rfl⟩,HB2.out⟩
      · by_cases hl2:vs.length=2
        · match vs,hl2 with
          | [a,b],_=>
            have HN:=Lib.hid (H1.out (a,b) (by unfold pairW;rw [hn]))
            obtain⟨g,o,rfl,-,k0⟩:=hf2 0 (intL a) rfl
            have k1:w2.cell? ⟨g,o+1,none⟩=some (intL b):=by
              obtain⟨g',o',q,-,r⟩:=hf2 1 (intL b) rfl
              injection q with q
              injection q with q1 q2
              subst q1 q2
              exact r
            rw [Nat.add_zero] at k0
            unfold intL at k0 k1
            have HO2:=Lib.hid (HO.out.on (bdrew HB12.out))
            obtain⟨v',W',hr,ho⟩:=pushP HO2.out a b (by omega) 26
            have HR:=Lib.hid hr
            have HO3:Hid (OwnR w 151 2 v' (ns++[(a,b)]).length (pairC (ns++[(a,b)])) W'):=by
              show OwnR _ _ _ _ _ _ _
              rw [List.length_append,pairC_snoc]
              exact ho
            have hc22:2≤c2:=hc2
            have l2:[a,b].length=2:=rfl
            clear hr ho hn hf2 hc2 HO2
            rw [l2]
            go_upto_region 8 with fail
            go_region_law ((refine step_append_known (by rfl) _ _ _ (by rfl) _ _ _ (by rfl) (by rfl) HR.out ?_))
            all_goals
              go_wp2_with fail
              go_roundg (N - (k+1))
              case rel=>exact⟨k+1,ns++[(a,b)],by go_num,by omega,by omega,HO3,HN,by rw [List.length_append,List.length_singleton];omega⟩
              case measure=>omega
        · have HN:Hid (pairsW ls=none):=H2.out (pairW_len hn hl2)
          have hne:((vs.length:Int) != 2)=true:=by rw [bne_iff_ne];omega
          clear hn hf2
          go_wp2_with fail
          go_ret2
          exact⟨.inl ⟨HN.out,rfl⟩,HB2.out⟩
    · have hge:(N:Int)≤(k:Int):=by omega
      have HE:=Lib.hid (pairs_end (by rw [HL.out];omega) HS.out)
      clear HS
      go_wp2_with fail
      go_ret2
      exact PairsOut.own HO.out rfl HE.out
set_option maxHeartbeats 4000000 in
theorem r45Pairs_any {Q:Nat→Prop} {w:World} (A:Option Addr) (c:Nat) (ls:List (List UInt8)) (h:FlatQ Q w A (ls.map strL)) (hm:ls.length≤200000000) (hs:∀ l∈ls,l.length≤100000000):Calls Tryz.prog 52 #[.slice A ls.length c] w (PairsOut ls w):=by
  obtain⟨N,hN⟩:∃ N,ls.length=N:=⟨_,rfl⟩
  have HF:=Lib.hid h.lt
  have HL:=Lib.hid hN
  have HSZ:=Lib.hid hs
  rw [hN] at hm ⊢
  clear h hN hs
  go_enter Tryz.func52,Tryz.ntmps52
  go_wp2_with fail
  go_loopg [4,5] N (fun g v iv wr=>∃ (k:Nat) (ns:List (Int×Int)),iv=.int .i64 k∧k≤N∧N - k≤g∧Hid (OwnR w 151 2 v ns.length (pairC ns) wr)∧Hid (pairsW ls=(pairsW (ls.drop k)).map (ns++·))∧ns.length≤k)
  case atStart=>exact⟨0,[],rfl,by omega,by omega,OwnR.nil _ _ _ (Below.refl _ _),(by show _=_;rw [List.drop_zero];cases pairsW ls <;> rfl),by simp⟩
  case round=>
    obtain⟨k,ns,rfl,hk,hg,HO,HS,hns⟩:=hrel
    have HB:=Lib.hid HO.out.2
    by_cases hlt:k < N
    · have hkl:k < ls.length:=by rw [HL.out];exact hlt
      obtain⟨b,off,rfl,hq,hc0⟩:=HF.out k (strL ls[k]) (by rw [List.getElem?_map,List.getElem?_eq_getElem hkl];rfl)
      have hc1:=(HB.out.cell (p:=⟨b,off+k,none⟩) hq.2).trans hc0
      obtain⟨h1,h2⟩:=pairs_step hkl HS.out
      have hxl:=HSZ.out ls[k] (List.getElem_mem hkl)
      have HX:∀ W,Hid (Calls Tryz.prog 44 #[.string (toB ls[k]),.int .u8 61] W (StrsOut (splitB 61 ls[k]) W)):=fun W=>by
        have:=r45Split_any (toB ls[k]) 61 W (by rw [size_B];exact hxl)
        rw [toList_B] at this
        exact this
      have HXL:=Lib.hid (split_len 61 ls[k])
      unfold strL at hc1
      have H1:=Lib.hid h1
      have H2:=Lib.hid h2
      generalize ls[k]=x at *
      generalize toB x=X at *
      clear h1 h2 hc0 hq hkl HS
      go_wp2_with fail
      refine (HX _).out.mono ?_
      rintro e w1 ⟨A1,c1,rfl,hf1,hb1,hn1⟩
      have HNX:=Lib.hid (r45Rest_any A1 c1 (splitB 61 x) hf1 (by have:=HXL.out;omega))
      have HB1:=Lib.hid hb1
      clear hf1 hb1
      go_wp2_with fail
      refine HNX.out.mono ?_
      rintro e w2 ⟨hor,hb2⟩
      have HB12:=Lib.hid (bthen HB1.out hb2)
      have HB2:=Lib.hid (bthen HB.out HB12.out)
      clear HNX hb2 HX
      rcases hor with ⟨hn,rfl⟩ | ⟨vs,A2,c2,hn,rfl,hf2,hc2⟩
      · have HN:Hid (pairsW ls=none):=H2.out (by unfold pairW;rw [hn])
        clear hn
        go_wp2_with fail
        go_ret2
        exact⟨.inl ⟨HN.out,rfl⟩,HB2.out⟩
      · by_cases hl2:vs.length=2
        · match vs,hl2 with
          | [a,b],_=>
            have HN:=Lib.hid (H1.out (a,b) (by unfold pairW;rw [hn]))
            obtain⟨g,o,rfl,-,k0⟩:=hf2 0 (intL a) rfl
            have k1:w2.cell? ⟨g,o+1,none⟩=some (intL b):=by
              obtain⟨g',o',q,-,r⟩:=hf2 1 (intL b) rfl
              injection q with q
              injection q with q1 q2
              subst q1 q2
              exact r
            rw [Nat.add_zero] at k0
            unfold intL at k0 k1
            have HO2:=Lib.hid (HO.out.on (bdrew HB12.out))
            obtain⟨v',W',hr,ho⟩:=pushP HO2.out a b (by omega) 26
            have HR:=Lib.hid hr
            have HO3:Hid (OwnR w 151 2 v' (ns++[(a,b)]).length (pairC (ns++[(a,b)])) W'):=by
              show OwnR _ _ _ _ _ _ _
              rw [List.length_append,pairC_snoc]
              exact ho
            have hc22:2≤c2:=hc2
            have l2:[a,b].length=2:=rfl
            clear hr ho hn hf2 hc2 HO2
            rw [l2]
            go_upto_region 9 with fail
            go_region_law ((refine step_append_known (by rfl) _ _ _ (by rfl) _ _ _ (by rfl) (by rfl) HR.out ?_))
            all_goals
              go_wp2_with fail
              go_roundg (N - (k+1))
              case rel=>exact⟨k+1,ns++[(a,b)],by go_num,by omega,by omega,HO3,HN,by rw [List.length_append,List.length_singleton];omega⟩
              case measure=>omega
        · have HN:Hid (pairsW ls=none):=H2.out (pairW_len hn hl2)
          have hne:((vs.length:Int) != 2)=true:=by rw [bne_iff_ne];omega
          clear hn hf2
          go_wp2_with fail
          go_ret2
          exact⟨.inl ⟨HN.out,rfl⟩,HB2.out⟩
    · have hge:(N:Int)≤(k:Int):=by omega
      have HE:=Lib.hid (pairs_end (by rw [HL.out];omega) HS.out)
      clear HS
      go_wp2_with fail
      go_ret2
      exact PairsOut.own HO.out rfl HE.out
end Go.Proofs.YtaiepcgfofpmjaaGreat
