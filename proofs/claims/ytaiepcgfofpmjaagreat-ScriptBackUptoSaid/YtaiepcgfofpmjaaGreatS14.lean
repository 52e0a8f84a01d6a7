/- Layer 45: digits of a number, of the program. -/
import Derived.Test.YtaiepcgfofpmjaaGreatS10
namespace Go.Proofs.YtaiepcgfofpmjaaGreat
set_option linter.unusedVariables false
open Go.RowKit
structure DgI (N:Nat) (w:World) (a m:Nat) (suf:List UInt8) (wr:World):Prop where
  h1:a+suf.length=20
  h3:m≤9223372036854775808
  h4:m < 10 ^ (a - 1)
  h5:digF 20 N 0=digF a m 0++suf
  h6:Tail wr w.heap.size suf
  h7:Below w.heap.size w wr
  h8:w.heap.size < wr.heap.size
  h9:∀ o,wr.frozen? ⟨w.heap.size,o,none⟩=false
theorem DgI.next {N:Nat} {w:World} {b m:Nat} {suf:List UInt8} {wr:World} (h:DgI N w (b+1) m suf wr) (hm:0 < m) :
    DgI N w b (m / 10) (UInt8.ofNat (48+m % 10) :: suf) (wr.setCell ⟨w.heap.size,b,none⟩ (.int .u8 (48+(m:Int) % 10))):=by
  obtain⟨hs,hb,hp,hd,ht,h7,h8,h9⟩:=h
  refine⟨by rw [List.length_cons];omega,by omega,?_,?_,ht.put b (by omega) _ _ ?_,h7.setCell (Nat.le_refl _) _,by simpa using h8,fun o=>by simpa using h9 o⟩
  · rw [Nat.add_sub_cancel] at hp
    cases b with
    | zero=>have:m < 1:=hp;show m / 10 < 1;omega
    | succ b=>
      rw [Nat.add_sub_cancel]
      rw [Nat.pow_succ] at hp
      omega
  · rw [hd,digF_step _ _ _ (.inl hm),List.append_assoc]
    rfl
  · have:(UInt8.ofNat (48+m % 10)).toNat=48+m % 10:=by simp;omega
    rw [this]
    omega
theorem dig20 {N:Nat} (h:0 < N):digF 20 N 0=digL N 1:=by
  unfold digL
  rw [digF_step _ _ _ (.inl h),digF_step _ _ _ (.inl h)]
theorem tail_text {P:Program} {g a:Nat} {suf:List UInt8} {wr:World} (h:Tail wr g suf) (ha:a+suf.length=20) (src dst e:TypeId) (hs:P.underlying src=some (.slice e)) (he:P.underlying e=some (.int .u8)) (hd:P.underlying dst=some .string) (cap:Nat) :
    (convert src dst (.slice (some ⟨g,a,none⟩) (20 - a) cap)).run P wr=.ok (.string (toB suf)) wr:=by
  have h4:=run_conv_row (P:=P) wr src dst e ⟨g,a,none⟩ cap (suf.map fun c=>(c.toNat:Int)) hs he hd (fun j hj=>by
    rw [List.length_map] at hj
    have h5:=h.2 j hj
    rw [List.getElem_map]
    rw [show 20 - suf.length=a from by omega] at h5
    rw [show (⟨g,a,none⟩:Addr).add j=⟨g,a+j,none⟩ from by simp [Addr.add]]
    exact h5)
  rw [List.length_map,show suf.length=20 - a from by omega,List.map_map] at h4
  have e:∀ q:List UInt8,List.map ((fun n:Int=>UInt8.ofNat n.toNat) ∘ fun c:UInt8=>(c.toNat:Int)) q=q:=fun q=>(List.map_congr_left (fun c _=>by simp)).trans (List.map_id q)
  rw [e] at h4
  exact h4
set_option maxRecDepth 8000 in
set_option maxHeartbeats 2000000 in
theorem scrDigits_pos (n:Int) (w:World) (h0:0 < n) (n1:n≤9223372036854775807):Calls Tryz.prog 55 #[.int .i64 n] w fun e w'=>e=.returned (.string (toB (digL n.toNat 1)))∧Below w.heap.size w w':=by
  have hb:(n==0)=false:=by rw [beq_eq_false_iff_ne];omega
  obtain⟨N,rfl⟩:∃ N:Nat,n=N:=⟨n.toNat,by omega⟩
  have HD:=Lib.hid (dig20 (show 0 < N by omega))
  have HP:Hid (N < 10 ^ (20 - 1)):=by
    have:(10:Nat) ^ (20 - 1)=10000000000000000000:=by decide
    show N < _
    omega
  rw [Int.toNat_natCast]
  go_enter Tryz.func55,Tryz.ntmps55
  go_wp2
  go_loopw [3,5] (fun v at_ wr=>∃ (m a:Nat) (suf:List UInt8),v=.int .u64 (m:Int)∧at_=.int .i64 (a:Int)∧a≤20∧m≤9223372036854775808∧w.heap.size < wr.heap.size∧Hid (DgI N w a m suf wr)) (fun v at_ _=>(intOf at_).toNat)
  case atStart=>exact⟨N,20,[],rfl,rfl,by omega,by omega,by simp,⟨rfl,by omega,HP.out,by rw [List.append_nil],digits_new w _ _ rfl,below_new w _,by simp,fun o=>by simp⟩⟩
  case round=>
    obtain⟨m,a,suf,rfl,rfl,ha,hm,hz,HI⟩:=hrel
    by_cases hgo:0 < m
    · have ha1:1≤a:=by
        have h2:=HI.out.h4
        rcases Nat.eq_zero_or_pos a with h | h
        · subst h
          have:m < 1:=h2
          omega
        · exact h
      obtain⟨b,rfl⟩:∃ b,a=b+1:=⟨a - 1,by omega⟩
      obtain⟨v,hv⟩:=HI.out.h6.1 b (by omega)
      have hfb:=HI.out.h9 b
      have e1:((b+1:Nat):Int) - 1=(b:Int):=by omega
      have hgo2:0 < (m:Int):=by omega
      have HN:=Lib.hid (HI.out.next hgo)
      clear hgo HI
      go_wp2
      go_round
      case rel=>exact⟨m / 10,b,_,rfl,rfl,by omega,by omega,by simpa using hz,HN⟩
      case measure=>simp [intOf]
    · obtain rfl:m=0:=by omega
      have HR:Hid (digL N 1=suf):=by
        have h3:=HI.out.h5
        rw [digF_stop,HD.out] at h3
        exact h3
      have hk:∀ cap,_:=fun cap=>tail_text (P:=Tryz.prog) HI.out.h6 HI.out.h1 22 9 5 Tryz.underlying22 Tryz.underlying5 Tryz.underlying9 cap
      have i1:(0:Int)≤(a:Int):=Int.natCast_nonneg _
      have i3:a < 20:=by
        have q:=HI.out.h1
        have r:=HI.out.h5
        rcases Nat.lt_or_ge a 20 with x | x
        · exact x
        · obtain rfl:suf=[]:=List.eq_nil_of_length_eq_zero (by omega)
          have h20:=HR.out
          rw [digg_snoc N (by have:=HP.out;omega)] at h20
          simp at h20
      have i2:(a:Int)≤20:=by omega
      have i4:¬ (20 - a=0):=by omega
      clear hgo HD HP
      go_wp2
      go_ret
      exact⟨by rw [HR.out];rfl,HI.out.h7⟩
set_option maxRecDepth 8000 in
set_option maxHeartbeats 2000000 in
theorem scrDigits_neg (n:Int) (w:World) (h0:n < 0) (n1:-9223372036854775808≤n):Calls Tryz.prog 55 #[.int .i64 n] w fun e w'=>e=.returned (.string (toB (45 :: digL (-n).toNat 1)))∧Below w.heap.size w w':=by
  have hb:(n==0)=false:=by rw [beq_eq_false_iff_ne];omega
  obtain⟨N,hN⟩:∃ N:Nat,-n=N:=⟨(-n).toNat,by omega⟩
  have hw1:IntKind.u64.wrap n=n+18446744073709551616:=by rw [IntKind.wrap_u64];omega
  have hw2:IntKind.u64.wrap (-(n+18446744073709551616))=(N:Int):=by rw [IntKind.wrap_u64];omega
  have HD:=Lib.hid (dig20 (show 0 < N by omega))
  have HP:Hid (N < 10 ^ (20 - 1)):=by
    have:(10:Nat) ^ (20 - 1)=10000000000000000000:=by decide
    show N < _
    omega
  rw [show (-n).toNat=N from by omega]
  have hN2:(N:Int)≤9223372036854775808:=by omega
  have HN:=Lib.hid hN
  clear hN
  go_enter Tryz.func55,Tryz.ntmps55
  go_wp2
  go_loopw [3,5] (fun v at_ wr=>∃ (m a:Nat) (suf:List UInt8),v=.int .u64 (m:Int)∧at_=.int .i64 (a:Int)∧a≤20∧m≤9223372036854775808∧w.heap.size < wr.heap.size∧Hid (DgI N w a m suf wr)) (fun v at_ _=>(intOf at_).toNat)
  case atStart=>exact⟨N,20,[],rfl,rfl,by omega,by omega,by simp,⟨rfl,by omega,HP.out,by rw [List.append_nil],digits_new w _ _ rfl,below_new w _,by simp,fun o=>by simp⟩⟩
  case round=>
    obtain⟨m,a,suf,rfl,rfl,ha,hm,hz,HI⟩:=hrel
    by_cases hgo:0 < m
    · have ha1:1≤a:=by
        have h2:=HI.out.h4
        rcases Nat.eq_zero_or_pos a with h | h
        · subst h
          have:m < 1:=h2
          omega
        · exact h
      obtain⟨b,rfl⟩:∃ b,a=b+1:=⟨a - 1,by omega⟩
      obtain⟨v,hv⟩:=HI.out.h6.1 b (by omega)
      have hfb:=HI.out.h9 b
      have e1:((b+1:Nat):Int) - 1=(b:Int):=by omega
      have hgo2:0 < (m:Int):=by omega
      have HN:=Lib.hid (HI.out.next hgo)
      clear hgo HI
      go_wp2
      go_round
      case rel=>exact⟨m / 10,b,_,rfl,rfl,by omega,by omega,by simpa using hz,HN⟩
      case measure=>simp [intOf]
    · obtain rfl:m=0:=by omega
      have HR:Hid (digL N 1=suf):=by
        have h3:=HI.out.h5
        rw [digF_stop,HD.out] at h3
        exact h3
      have ha1:1≤a:=by
        have q:=HI.out.h1
        rcases Nat.eq_zero_or_pos a with h | h
        · exfalso
          subst h
          have h4:=HR.out
          have h5:=digg_le 20 N 1 19 HP.out (by omega)
          have h6:(digL N 1).length≤19:=h5
          rw [h4] at h6
          omega
        · exact h
      obtain⟨b,rfl⟩:∃ b,a=b+1:=⟨a - 1,by omega⟩
      obtain⟨v,hv⟩:=HI.out.h6.1 b (by omega)
      have hfb:=HI.out.h9 b
      have e1:((b+1:Nat):Int) - 1=(b:Int):=by omega
      have HT:=Lib.hid (HI.out.h6.put b (by have:=HI.out.h1;omega) 45 45 rfl)
      have HB:=Lib.hid (HI.out.h7.setCell (p:=⟨w.heap.size,b,none⟩) (Nat.le_refl _) (.int .u8 45))
      have hk:∀ cap,_:=fun cap=>tail_text (P:=Tryz.prog) HT.out (a:=b) (by have:=HI.out.h1;rw [List.length_cons];omega) 22 9 5 Tryz.underlying22 Tryz.underlying5 Tryz.underlying9 cap
      have i1:(0:Int)≤(b:Int):=Int.natCast_nonneg _
      have i3:b < 20:=by omega
      have i2:(b:Int)≤20:=by omega
      have i4:¬ (20 - b=0):=by omega
      clear hgo HD HP HI ha1
      go_wp2
      go_ret
      exact⟨by rw [HR.out];rfl,HB.out⟩
theorem scrDigits_any (n:Int) (w:World) (hn:I64 n):Calls Tryz.prog 55 #[.int .i64 n] w fun e w'=>e=.returned (.string (toB (dgT n)))∧Below w.heap.size w w':=by
  obtain⟨n0,n1⟩:=hn
  unfold dgT
  rcases (by omega:n < 0∨n=0∨0 < n) with h | rfl | h
  · rw [if_pos h]
    exact scrDigits_neg n w h n0
  · go_enter Tryz.func55,Tryz.ntmps55
    go_wp2
    go_ret
    exact⟨rfl,Below.refl _ _⟩
  · rw [if_neg (by omega)]
    exact scrDigits_pos n w h n1
theorem txt_eq (s:ByteArray):s.toList=s.data.toList:=ByteArray.toList_eq s
theorem head_size {s:ByteArray} {c:UInt8} (h:s.data.toList.head?=some c):1≤s.size:=by
  have e:s.data.toList.length=s.size:=by simp
  cases hl:s.data.toList with
  | nil=>rw [hl] at h;cases h
  | cons a l=>rw [hl,List.length_cons] at e;omega
def bareB (s:ByteArray):ByteArray:=if s.data.toList.head?=some 45 then s.extract 1 s.size else s
set_option maxRecDepth 100000 in
theorem hasPre_any (s:ByteArray) (w:World):Calls Tryz.prog 168 #[.string s,.string ⟨#[45]⟩] w fun e w'=>e=.returned (.bool (decide (s.data.toList.head?=some 45)))∧w=w':=by
  by_cases h:1≤s.size
  · have h1:(1:Int)≤(s.size:Int):=by omega
    go_enter Tryz.func168,Tryz.ntmps168
    go_wp2
    go_ret
    refine⟨?_,rfl⟩
    have e:((s.extract 0 1).toList==[45])=decide (s.data.toList.head?=some 45):=by
      rw [txt_eq]
      obtain⟨⟨l⟩⟩:=s
      match l,h with
      | a :: l,_=>simp;rfl
    rw [← e];rfl
  · have h1:(s.size:Int) < 1:=by omega
    go_enter Tryz.func168,Tryz.ntmps168
    go_wp2
    go_ret
    refine⟨?_,rfl⟩
    have e:false=decide (s.data.toList.head?=some 45):=by
      obtain⟨⟨l⟩⟩:=s
      match l,h with
      | [],_=>rfl
      | a :: l,h=>simp [ByteArray.size] at h
    rw [← e];rfl
set_option maxRecDepth 100000 in
theorem trimPre_any (s:ByteArray) (w:World):Calls Tryz.prog 97 #[.string s,.string ⟨#[45]⟩] w fun e w'=>e=.returned (.string (bareB s))∧w=w':=by
  have H:∀ W,Hid (Calls Tryz.prog 131 #[.string s,.string ⟨#[45]⟩] W fun e w'=>e=.returned (.string (bareB s))∧W=w'):=fun W=>by
    have HP:=fun W=>Lib.hid (hasPre_any s W)
    show Calls _ _ _ _ _
    unfold bareB
    by_cases h:s.data.toList.head?=some 45
    · rw [decide_eq_true h] at HP
      rw [if_pos h]
      have h1:(1:Int)≤(s.size:Int):=by have:=head_size h;omega
      clear h
      go_enter Tryz.func131,Tryz.ntmps131
      go_wp2_with (refine (HP _).out.mono ?_;rintro e w' ⟨rfl,rfl⟩)
      go_ret
      exact⟨rfl,rfl⟩
    · rw [decide_eq_false h] at HP
      rw [if_neg h]
      clear h
      go_enter Tryz.func131,Tryz.ntmps131
      go_wp2_with (refine (HP _).out.mono ?_;rintro e w' ⟨rfl,rfl⟩)
      go_ret
      exact⟨rfl,rfl⟩
  go_enter Tryz.func97,Tryz.ntmps97
  go_wp2_with (refine (H _).out.mono ?_;rintro e w' ⟨rfl,rfl⟩)
  go_ret
  exact⟨rfl,rfl⟩
theorem scrDigit_any (c:Int) (w:World):Calls Tryz.prog 98 #[.int .i32 c] w fun e w'=>e=.returned (.tuple #[.int .u64 (if 48≤c∧c≤57 then c - 48 else 0),.bool (decide (48≤c∧c≤57))])∧w=w':=by
  by_cases h:48≤c∧c≤57
  · rw [if_pos h,decide_eq_true h]
    obtain⟨a,b⟩:=h
    go_enter Tryz.func98,Tryz.ntmps98
    go_wp2
    go_ret2
    exact⟨rfl,rfl⟩
  · rw [if_neg h,decide_eq_false h]
    rcases (by omega:c < 48∨48≤c∧57 < c) with a | ⟨a,b⟩
    all_goals
      clear h
      go_enter Tryz.func98,Tryz.ntmps98
      go_wp2
      go_ret2
      exact⟨rfl,rfl⟩
set_option maxHeartbeats 1000000 in
theorem scrNumber_bad (s p:ByteArray) (w:World) (hp:bareB s=p) (h:p.size=0∨19 < p.size∨(p.size≤19∧∃ h:1 < p.size,(p[0]'(by omega)).toNat=48)∨p=⟨#[48]⟩∧s.toList≠[48]) :
    Calls Tryz.prog 47 #[.string s] w fun e w'=>e=.returned (.tuple #[.int .i64 0,.bool false])∧w=w':=by
  have HT:∀ W,Hid (Calls Tryz.prog 97 #[.string s,.string ⟨#[45]⟩] W fun e w'=>e=.returned (.string p)∧W=w'):=fun W=>hp ▸ trimPre_any s W
  clear hp
  rcases h with h | h | ⟨h19,h1,h48⟩ | ⟨rfl,hs⟩
  · obtain rfl:p=ByteArray.empty:=by obtain⟨⟨l⟩⟩:=p;cases l with
      | nil=>rfl
      | cons a l=>cases h
    clear h
    go_enter Tryz.func47,Tryz.ntmps47
    go_wp2_with (refine (HT _).out.mono ?_;rintro e w' ⟨rfl,rfl⟩)
    go_ret2
    exact⟨rfl,rfl⟩
  · have h0:((p.size:Int)==0)=false:=by rw [beq_eq_false_iff_ne];omega
    have h1:(19:Int) < (p.size:Int):=by omega
    clear h
    go_enter Tryz.func47,Tryz.ntmps47
    go_wp2_with (refine (HT _).out.mono ?_;rintro e w' ⟨rfl,rfl⟩)
    go_ret2
    exact⟨rfl,rfl⟩
  · have h0:((p.size:Int)==0)=false:=by rw [beq_eq_false_iff_ne];omega
    have h2:(p.size:Int)≤19:=by omega
    have h3:(1:Int) < (p.size:Int):=by omega
    have h4:0 < p.size:=by omega
    have h5:((p[0].toNat:Int)==48)=true:=by rw [beq_iff_eq];omega
    clear h48 h1 h19
    go_enter Tryz.func47,Tryz.ntmps47
    go_wp2_with (refine (HT _).out.mono ?_;rintro e w' ⟨rfl,rfl⟩)
    go_ret2
    exact⟨rfl,rfl⟩
  · have h5:(s.toList==[48])=false:=by rw [beq_eq_false_iff_ne];exact hs
    clear hs
    go_enter Tryz.func47,Tryz.ntmps47
    go_wp2_with (refine (HT _).out.mono ?_;rintro e w' ⟨rfl,rfl⟩)
    go_ret2
    exact⟨rfl,rfl⟩
theorem valG_step (p:ByteArray) (k:Nat) (h:k < p.size):valG (p.data.toList.take (k+1))=10 * valG (p.data.toList.take k)+(p[k].toNat - 48):=by rw [take_snoc p k h,valG_snoc]
theorem valG_lt:∀ (n:Nat) (l:List UInt8),l.length=n→(∀ c∈l,isG c=true)→valG l < 10 ^ n:=by
  intro n
  induction n with
  | zero=>intro l h _;obtain rfl:=List.eq_nil_of_length_eq_zero h;decide
  | succ n ih=>
    intro l h hd
    obtain⟨r,c,rfl⟩:∃ r c,l=r++[c]:=⟨l.dropLast,l.getLast (by intro q;subst q;simp at h),(List.dropLast_concat_getLast _).symm⟩
    have h1:=ih r (by simpa using h) fun x hx=>hd x (by simp [hx])
    have h2:=of_decide_eq_true (hd c (by simp))
    rw [valG_snoc,Nat.pow_succ]
    omega
theorem dig_rune (p:ByteArray) (k:Nat) (h:k < p.size):(isG p[k]=true→Utf8.decode p k=(p[k].toNat,1))∧(isG p[k]=false→¬ (48≤((Utf8.decode p k).1:Int)∧((Utf8.decode p k).1:Int)≤57)):=by
  refine⟨fun q=>decode_ascii p k h (by have:=of_decide_eq_true q;omega),fun q=>?_⟩
  by_cases ha:p[k].toNat < 128
  · rw [decode_ascii p k h ha]
    have:=of_decide_eq_false q
    omega
  · have:=(decode_high p k h (by omega)).1
    omega
theorem size_ne {a b:ByteArray} (h:a.size≠b.size):(a.toList==b.toList)=false:=by
  rw [beq_eq_false_iff_ne]
  intro q
  apply h
  rw [← toList_len a,← toList_len b,q]
def NumOut (l:List UInt8) (w:World) (e:Ending) (w':World):Prop:=(∃ n b,e=.returned (.tuple #[.int .i64 n,.bool b])∧numW l=(if b then some n else none))∧Below w.heap.size w w'
set_option maxHeartbeats 2000000 in
theorem scrNumber_go (s p:ByteArray) (neg:Bool) (w:World) (hp:bareB s=p) (h0:1≤p.size) (h19:p.size≤19) (hl:p.size=1∨∃ h:1 < p.size,(p[0]'(by omega)).toNat≠48) (hz:p.toList≠[48]) (hn:if neg then s.size=p.size+1 else p=s)
    (HW:Hid (numW s.data.toList=if (p.data.toList.all isG)=true then (if neg then (if valG p.data.toList≤9223372036854775808 then some (-(valG p.data.toList:Int)) else none) else if valG p.data.toList≤9223372036854775807 then some (valG p.data.toList:Int) else none) else none)) :
    Calls Tryz.prog 47 #[.string s] w (NumOut s.data.toList w):=by
  have HT:∀ W,Hid (Calls Tryz.prog 97 #[.string s,.string ⟨#[45]⟩] W fun e w'=>e=.returned (.string p)∧W=w'):=fun W=>hp ▸ trimPre_any s W
  have f0:((p.size:Int)==0)=false:=by rw [beq_eq_false_iff_ne];omega
  have f1:(p.size:Int)≤19:=by omega
  have f3:(p.toList==[48])=false:=by rw [beq_eq_false_iff_ne];exact hz
  have HB:Hid (∀ q,Below w.heap.size w (w.iter p q)):=fun q=>(Below.refl _ _).alloc (Nat.le_refl _) _
  have h2:(p.size:Int)≤1∨(1:Int) < (p.size:Int)∧0 < p.size∧∃ h:0 < p.size,((p[0].toNat:Int)==48)=false:=by
    rcases hl with a | ⟨a,b⟩
    · exact .inl (by omega)
    · exact .inr ⟨by omega,by omega,by omega,by rw [beq_eq_false_iff_ne];omega⟩
  clear hp hl hz
  rcases h2 with h2 | ⟨h2,h3,h4,h5⟩
  all_goals
    go_enter Tryz.func47,Tryz.ntmps47
    go_wp2_with fail
    refine (HT _).out.mono ?_
    rintro e w' ⟨rfl,rfl⟩
    go_wp2_with fail
    go_loopw [5] (fun u w'=>∃ pos:Nat,pos≤p.size∧u=.int .u64 (valG (p.data.toList.take pos):Int)∧w'=w.iter p pos∧Hid (∀ j (hj:j < p.size),j < pos→isG (p[j]'hj)=true)) (fun _ w'=>p.size - w'.iterPos w.heap.size)
    case atStart=>exact⟨0,Nat.zero_le _,rfl,rfl,fun j _ h=>absurd h (Nat.not_lt_zero _)⟩
    case round=>
      obtain⟨pos,hpos,rfl,rfl,HA⟩:=hrel
      by_cases hlt:pos < p.size
      · have hnx:∀ ty,(Instr.next (.pointer (some ⟨w.heap.size,0,none⟩)) true ty).run Tryz.prog (w.iter p pos)=_:=fun ty=>run_next_any w p pos ty hlt
        obtain⟨r1,r2⟩:=dig_rune p pos hlt
        cases hc:isG p[pos] with
        | true=>
          have hd:=of_decide_eq_true hc
          rw [r1 hc] at hnx
          dsimp only at hnx
          have HV:=Lib.hid (valG_step p pos hlt)
          have hu:valG (p.data.toList.take pos) < 10 ^ 18:=by
            have h1:=valG_lt pos (p.data.toList.take pos) (by simp;omega) fun c hc=>by
              obtain⟨j,hj,rfl⟩:=List.getElem_of_mem hc
              have hj2:j < pos:=by simp at hj;omega
              rw [List.getElem_take]
              exact HA.out j (by omega) hj2
            have h2:(10:Nat) ^ pos≤10 ^ 18:=Nat.pow_le_pow_right (by omega) (by omega)
            omega
          have e18:(10:Nat) ^ 18=1000000000000000000:=by decide
          rw [e18] at hu
          have HD:=fun W=>Lib.hid (scrDigit_any (p[pos].toNat:Int) W)
          rw [if_pos (by omega),decide_eq_true (by omega)] at HD
          have HC:=Lib.hid hc
          generalize valG (p.data.toList.take pos)=U at *
          generalize p[pos].toNat=c at *
          clear r1 r2 hc e18
          go_wp2_with fail
          refine (HD _).out.mono ?_
          rintro e w' ⟨rfl,rfl⟩
          go_wp2_with fail
          go_roundw
          case rel=>
            refine⟨pos+1,by omega,?_,rfl,fun j hj hlt=>?_⟩
            · rw [HV.out]
              congr 1
              omega
            · rcases Nat.lt_or_ge j pos with h | h
              · exact HA.out j hj h
              · obtain rfl:j=pos:=by omega
                exact HC.out
          case measure=>simp;omega
        | false=>
          have HD:=fun W=>Lib.hid (scrDigit_any ((Utf8.decode p pos).1:Int) W)
          rw [if_neg (r2 hc),decide_eq_false (r2 hc)] at HD
          have HF:Hid ((p.data.toList.all isG)=false):=by
            show _=_
            rw [List.all_eq_false]
            exact⟨p[pos],by show p.data[pos]∈_;simp,by rw [hc];simp⟩
          clear r1 r2 hc
          generalize ((Utf8.decode p pos).1:Int)=c at *
          go_wp2_with fail
          refine (HD _).out.mono ?_
          rintro e w' ⟨rfl,rfl⟩
          go_wp2_with fail
          go_ret2
          exact⟨⟨0,false,rfl,by rw [HW.out,HF.out];rfl⟩,HB.out _⟩
      · have hnx:∀ ty,(Instr.next (.pointer (some ⟨w.heap.size,0,none⟩)) true ty).run Tryz.prog (w.iter p pos)=_:=fun ty=>run_next_end w p pos ty hlt
        have HF:Hid ((p.data.toList.all isG)=true):=by
          show _=_
          rw [List.all_eq_true]
          intro x hx
          obtain⟨j,hj,rfl⟩:=List.getElem_of_mem hx
          exact HA.out j (by simpa using hj) (by have : j < p.size := by simpa using hj
                                                 omega)
        have hv:valG p.data.toList < 10 ^ 19:=by
          have h1:=valG_lt p.size p.data.toList (by simp) (List.all_eq_true.1 HF.out)
          have h2:(10:Nat) ^ p.size≤10 ^ 19:=Nat.pow_le_pow_right (by omega) h19
          omega
        have e19:(10:Nat) ^ 19=10000000000000000000:=by decide
        rw [e19] at hv
        rw [List.take_of_length_le (by simp;omega)]
        rw [HF.out,if_pos rfl] at HW
        generalize valG p.data.toList=U at *
        clear HA HF hlt e19
        cases neg with
        | true=>
          have hn:s.size=p.size+1:=hn
          have hne:=size_ne (a:=s) (b:=p) (by omega)
          rw [if_pos rfl] at HW
          have hw:U≤9223372036854775808∧wrap64 (-wrap64 (U:Int))=-(U:Int)∨9223372036854775808 < U:=by
            rcases (by omega:U≤9223372036854775808∨9223372036854775808 < U) with a | a
            · refine .inl ⟨a,?_⟩
              simp only [wrap64]
              omega
            · exact .inr a
          clear hn HT h0 h19
          rcases hw with ⟨a,b⟩ | a
          · rw [if_pos a] at HW
            have a2:(U:Int)≤9223372036854775808:=by omega
            go_wp2_with fail
            go_ret2
            exact⟨⟨_,true,rfl,by rw [HW.out,← b];rfl⟩,HB.out _⟩
          · rw [if_neg (by omega)] at HW
            have a2:(9223372036854775808:Int) < (U:Int):=by omega
            go_wp2_with fail
            go_ret2
            exact⟨⟨_,false,by rw [← decide_eq_false (show ¬ ((U:Int)≤9223372036854775808) by omega)];rfl,by rw [HW.out];rfl⟩,HB.out _⟩
        | false=>
          obtain rfl:p=s:=hn
          rw [if_neg (by decide)] at HW
          have hw:U≤9223372036854775807∨9223372036854775807 < U:=by omega
          clear HT h0 h19
          rcases hw with a | a
          · rw [if_pos a] at HW
            have a2:(U:Int)≤9223372036854775807:=by omega
            go_wp2_with fail
            go_ret2
            exact⟨⟨_,true,rfl,by rw [HW.out];rfl⟩,HB.out _⟩
          · rw [if_neg (by omega)] at HW
            have a2:(9223372036854775807:Int) < (U:Int):=by omega
            go_wp2_with fail
            go_ret2
            exact⟨⟨_,false,by rw [← decide_eq_false (show ¬ ((U:Int)≤9223372036854775807) by omega)];rfl,by rw [HW.out];rfl⟩,HB.out _⟩
set_option maxHeartbeats 1000000 in
theorem scrNumber_zero (w:World):Calls Tryz.prog 47 #[.string ⟨#[48]⟩] w (NumOut [48] w):=by
  have HT:∀ W,Hid (Calls Tryz.prog 97 #[.string ⟨#[48]⟩,.string ⟨#[45]⟩] W fun e w'=>e=.returned (.string ⟨#[48]⟩)∧W=w'):=fun W=>trimPre_any ⟨#[48]⟩ W
  have n0:∀ ty,(Instr.next (.pointer (some ⟨w.heap.size,0,none⟩)) true ty).run Tryz.prog (w.iter ⟨#[48]⟩ 0)=.ok (.tuple #[.bool true,.int .i64 0,.int .i32 48]) (w.iter ⟨#[48]⟩ 1):=fun ty=>run_next_any w ⟨#[48]⟩ 0 ty (by decide)
  have n1:∀ ty,(Instr.next (.pointer (some ⟨w.heap.size,0,none⟩)) true ty).run Tryz.prog (w.iter ⟨#[48]⟩ 1)=.ok (.tuple #[.bool false]) (w.iter ⟨#[48]⟩ 1):=fun ty=>run_next_end w ⟨#[48]⟩ 1 ty (by decide)
  have HD:∀ W,Hid (Calls Tryz.prog 98 #[.int .i32 48] W fun e w'=>e=.returned (.tuple #[.int .u64 0,.bool true])∧W=w'):=fun W=>scrDigit_any 48 W
  have HB:Hid (∀ q,Below w.heap.size w (w.iter ⟨#[48]⟩ q)):=fun q=>(Below.refl _ _).alloc (Nat.le_refl _) _
  go_enter Tryz.func47,Tryz.ntmps47
  go_wp2_with fail
  refine (HT _).out.mono ?_
  rintro e w' ⟨rfl,rfl⟩
  go_wp2_with fail
  refine wp_loop_rounds 2 ?_
  rw [rounds_succ]
  go_wp2_with fail
  refine (HD _).out.mono ?_
  rintro e w' ⟨rfl,rfl⟩
  go_wp2_with fail
  rw [rounds_succ]
  go_wp2_with fail
  go_ret2
  exact⟨⟨0,true,rfl,rfl⟩,HB.out _⟩
theorem bare_list (s:ByteArray):(bareB s).data.toList=if s.data.toList.head?=some 45 then s.data.toList.tail else s.data.toList:=by
  unfold bareB
  split
  · obtain⟨⟨l⟩⟩:=s
    cases l with
    | nil=>rfl
    | cons a l=>simp [ByteArray.extract,ByteArray.copySlice,ByteArray.size]
  · rfl
theorem bytes_of {s:ByteArray} {l:List UInt8} (h:s.data.toList=l):s=⟨l.toArray⟩:=by subst h;rfl
theorem scrNumber_any (s:ByteArray) (w:World):Calls Tryz.prog 47 #[.string s] w (NumOut s.data.toList w):=by
  obtain⟨p,hp⟩:∃ p,bareB s=p:=⟨_,rfl⟩
  have hl:=bare_list s
  rw [hp] at hl
  have hz:p.data.toList.length=p.size:=by simp
  obtain⟨neg,hneg⟩:∃ neg,decide (s.data.toList.head?=some 45)=neg:=⟨_,rfl⟩
  have hn:numW s.data.toList=numP neg p.data.toList:=by
    unfold numW
    rw [hl]
    by_cases h:s.data.toList.head?=some 45
    · rw [if_pos h,if_pos h,← hneg,decide_eq_true h]
    · rw [if_neg h,if_neg h,← hneg,decide_eq_false h]
  have bad:(numP neg p.data.toList=none)→(p.size=0∨19 < p.size∨(p.size≤19∧∃ h:1 < p.size,(p[0]'(by omega)).toNat=48)∨p=⟨#[48]⟩∧s.toList≠[48])→Calls Tryz.prog 47 #[.string s] w (NumOut s.data.toList w):=fun h1 h2=>(scrNumber_bad s p w hp h2).mono fun e w' q=>⟨⟨0,false,q.1,by rw [hn,h1];rfl⟩,by rw [← q.2];exact Below.refl _ _⟩
  have no:¬ (1≤p.data.toList.length∧p.data.toList.length≤19∧(p.data.toList.length=1∨p.data.toList.head?≠some 48)∧¬ (neg=true∧p.data.toList=[48]))→numP neg p.data.toList=none:=fun h=>by
    unfold numP
    rw [if_neg fun q=>h ⟨q.1,q.2.1,q.2.2.2.1,q.2.2.2.2⟩]
  by_cases h0:p.size=0
  · exact bad (no (by omega)) (.inl h0)
  by_cases h19:19 < p.size
  · exact bad (no (by omega)) (.inr (.inl h19))
  have hd:p.data.toList.head?=some (p[0]'(by omega)):=by
    obtain⟨⟨l⟩⟩:=p
    cases l with
    | nil=>exact absurd rfl h0
    | cons a l=>rfl
  by_cases h48:∃ h:1 < p.size,(p[0]'(by omega)).toNat=48
  · obtain⟨h1,h2⟩:=h48
    refine bad (no ?_) (.inr (.inr (.inl ⟨by omega,h1,h2⟩)))
    rintro ⟨-,-,q | q,-⟩
    · omega
    · apply q
      rw [hd]
      congr 1
      apply UInt8.toNat_inj.1
      exact h2
  have hhead:p.size=1∨∃ h:1 < p.size,(p[0]'(by omega)).toNat≠48:=by
    rcases (by omega:p.size=1∨1 < p.size) with h | h
    · exact .inl h
    · exact .inr ⟨h,fun q=>h48 ⟨h,q⟩⟩
  have hhead2:p.data.toList.length=1∨p.data.toList.head?≠some 48:=by
    rcases hhead with h | ⟨h,q⟩
    · exact .inl (by omega)
    · refine .inr fun e=>q ?_
      rw [hd] at e
      injection e with e
      rw [e]
      rfl
  by_cases hp48:p.data.toList=[48]
  · have e1:p=⟨#[48]⟩:=bytes_of hp48
    cases neg with
    | true=>
      refine bad (no ?_) (.inr (.inr (.inr ⟨e1,?_⟩)))
      · rintro ⟨-,-,-,q⟩
        exact q ⟨rfl,hp48⟩
      · intro q
        have:=of_decide_eq_true hneg
        rw [← txt_eq,q] at this
        revert this
        decide
    | false=>
      have:=of_decide_eq_false hneg
      rw [if_neg this] at hl
      rw [← hl,hp48,bytes_of (hl.symm.trans hp48)]
      exact scrNumber_zero w
  · refine scrNumber_go s p neg w hp (by omega) (by omega) hhead (by rw [txt_eq];exact hp48) ?_ ?_
    · cases neg with
      | true=>
        have h:=of_decide_eq_true hneg
        rw [if_pos h] at hl
        have h1:=head_size h
        have h2:=congrArg List.length hl
        rw [List.length_tail] at h2
        have h3:s.data.toList.length=s.size:=by simp
        show s.size=p.size+1
        omega
      | false=>
        have h:=of_decide_eq_false hneg
        rw [if_neg h] at hl
        show p=s
        rw [bytes_of hl]
    · show _=_
      rw [hn]
      unfold numP
      by_cases hall:(p.data.toList.all isG)=true
      · rw [if_pos ⟨by omega,by omega,hall,hhead2,fun q=>hp48 q.2⟩,if_pos hall]
      · rw [if_neg fun q=>hall q.2.2.1,if_neg hall]
end Go.Proofs.YtaiepcgfofpmjaaGreat
