/- Contracts of package parity (program): Of, digit, Hex, value, Unhex, Seal, Open. -/
import Derived.Test.YtoabkoniegmkaaaGreatProg
import Derived.Test.YtoabkoniegmkaaaGreatJ00
import Derived.Test.YtoabkoniegmkaaaGreatJ39
import Derived.Deep.QuietTactic
import Derived.BigQuiet
namespace Go.Proofs.YtoabkoniegmkaaaGreat
set_option linter.unusedVariables false
open Go.RowKit
def xorL (l:List UInt8):UInt8:=l.foldl (fun c b=>c ^^^ b) 0
theorem xorL_snoc (l:List UInt8) (b:UInt8):xorL (l++[b])=xorL l ^^^ b:=by simp [xorL]
set_option maxHeartbeats 400000 in
theorem Of_any (s:ByteArray) (w:World) (hs:s.size≤maxLen) :
    Calls Tryz.prog 152 #[.string s] w fun e w'=>e=.returned (.int .u8 ((xorL s.data.toList).toNat:Int))∧w=w':=by
  unfold maxLen at hs
  go_enter Tryz.func152,Tryz.ntmps152
  go_wp2
  go_loop [3,7] (fun c i=>∃ k:Nat,k≤s.size∧i=.int .i64 k∧c=.int .u8 ((xorL (s.data.toList.take k)).toNat:Int)) (fun _ i=>s.size - (intOf i).toNat)
  case atStart=>exact⟨0,Nat.zero_le _,rfl,rfl⟩
  case round=>
    obtain⟨k,hk,rfl,rfl⟩:=hrel
    by_cases hlt:k < s.size
    · go_wp2
      go_round
      case rel=>exact⟨k+1,by omega,by go_num,by rw [take_snoc s k hlt,xorL_snoc,xor_u8]⟩
      case measure=>simp [intOf];omega
    · go_wp2
      go_ret
      exact⟨ret_u8 (by rw [List.take_of_length_le (by simp;omega)]),rfl⟩
def dg (n:Int):Int:=if n < 10 then 48+n else 55+n
theorem digit_any (n:Int) (w:World) (h0:0≤n) (h1:n≤15) :
    Calls Tryz.prog 187 #[.int .u8 n] w fun e w'=>e=.returned (.int .u8 (dg n))∧w=w':=by
  by_cases h:n < 10
  · have hd:dg n=48+n:=by simp [dg,h]
    rw [hd]
    clear hd
    go_enter Tryz.func187,Tryz.ntmps187
    go_wp2
    go_ret
    exact⟨rfl,rfl⟩
  · have hd:dg n=65+n - 10:=by simp [dg,h];omega
    rw [hd]
    clear hd
    go_enter Tryz.func187,Tryz.ntmps187
    go_wp2
    go_ret
    exact⟨rfl,rfl⟩
def hexL (n:Int):List UInt8:=[UInt8.ofNat (dg (n / 16)).toNat,UInt8.ofNat (dg (n % 16)).toNat]
set_option maxHeartbeats 400000 in
theorem Hex_any (n:Int) (w:World) (h0:0≤n) (h1:n≤255) :
    Calls Tryz.prog 161 #[.int .u8 n] w fun e w'=>e=.returned (.string ⟨(hexL n).toArray⟩)∧Below w.heap.size w w':=by
  have kc:=run_conv2 (P:=Tryz.prog) 141 9 5 Tryz.underlying141 Tryz.underlying5 Tryz.underlying9
  go_enter Tryz.func161,Tryz.ntmps161
  go_wp2_with fail
  refine (digit_any (n / 16) _ (by omega) (by omega)).mono ?_
  rintro e w' ⟨rfl,rfl⟩
  go_wp2_with fail
  refine (digit_any (n % 16) _ (by omega) (by omega)).mono ?_
  rintro e w' ⟨rfl,rfl⟩
  go_wp2
  go_ret
  exact⟨rfl,(Below.refl _ _).alloc (Nat.le_refl _) _⟩
def valR (c:Int):Int:=if c≤57 then c - 48 else if c≤70 then c - 55 else c - 87
def isR (c:Int):Bool:=decide (48≤c∧c≤57∨65≤c∧c≤70∨97≤c∧c≤102)
theorem value_yes (c:Int) (w:World) (h:isR c=true) :
    Calls Tryz.prog 184 #[.int .i32 c] w fun e w'=>e=.returned (.tuple #[.int .u8 (valR c),.bool true])∧w=w':=by
  have h':48≤c∧c≤57∨65≤c∧c≤70∨97≤c∧c≤102:=by simpa [isR] using h
  clear h
  rcases h' with ⟨h0,h1⟩ | ⟨h0,h1⟩ | ⟨h0,h1⟩
  · have hd:valR c=c - 48:=by simp [valR,h1]
    rw [hd]
    clear hd
    go_enter Tryz.func184,Tryz.ntmps184
    go_wp2
    go_ret2
    exact⟨rfl,rfl⟩
  · have hd:valR c=c - 65+10:=by unfold valR;split <;> omega
    rw [hd]
    clear hd
    go_enter Tryz.func184,Tryz.ntmps184
    go_wp2
    go_ret2
    exact⟨rfl,rfl⟩
  · have hd:valR c=c - 97+10:=by unfold valR;split;omega;split <;> omega
    rw [hd]
    clear hd
    go_enter Tryz.func184,Tryz.ntmps184
    go_wp2
    go_ret2
    exact⟨rfl,rfl⟩
theorem value_no (c:Int) (w:World) (h:isR c=false) :
    Calls Tryz.prog 184 #[.int .i32 c] w fun e w'=>e=.returned (.tuple #[.int .u8 0,.bool false])∧w=w':=by
  have h':¬ (48≤c∧c≤57∨65≤c∧c≤70∨97≤c∧c≤102):=by simpa [isR] using h
  clear h
  have h2:c < 48∨57 < c∧c < 65∨70 < c∧c < 97∨102 < c:=by omega
  clear h'
  rcases h2 with h0 | ⟨h0,h1⟩ | ⟨h0,h1⟩ | h0
  all_goals
    go_enter Tryz.func184,Tryz.ntmps184
    go_wp2
    go_ret2
    exact⟨rfl,rfl⟩
theorem isR_decode (s:ByteArray) (pos:Nat) (h:pos < s.size):isR ((Utf8.decode s pos).1:Int)=isR (s[pos].toNat:Int):=by
  by_cases ha:s[pos].toNat < 128
  · rw [decode_ascii s pos h ha]
  · have hd:=(decode_high s pos h (by omega)).1
    have e1:isR ((Utf8.decode s pos).1:Int)=false:=by simp [isR];omega
    have e2:isR (s[pos].toNat:Int)=false:=by simp [isR];omega
    rw [e1,e2]
theorem decode_isR (s:ByteArray) (pos:Nat) (h:pos < s.size) (hr:isR (s[pos].toNat:Int)=true):Utf8.decode s pos=(s[pos].toNat,1):=by
  have:48≤(s[pos].toNat:Int)∧(s[pos].toNat:Int)≤57∨65≤(s[pos].toNat:Int)∧(s[pos].toNat:Int)≤70∨97≤(s[pos].toNat:Int)∧(s[pos].toNat:Int)≤102:=by simpa [isR] using hr
  exact decode_ascii s pos h (by omega)
def unhexL:List UInt8→Option Int
  | [a,b]=>if isR (a.toNat:Int) && isR (b.toNat:Int) then some (16 * valR (a.toNat:Int)+valR (b.toNat:Int)) else none
  | _=>none
theorem unhexL_len {l:List UInt8} (h:l.length≠2):unhexL l=none:=by
  unfold unhexL
  split
  · simp at h
  · rfl
theorem Unhex_len (s:ByteArray) (w:World) (h:s.size≠2) :
    Calls Tryz.prog 151 #[.string s] w fun e w'=>e=.returned (.tuple #[.int .u8 0,.bool false])∧w=w':=by
  have hb:((s.size:Int) != 2)=true:=by rw [bne_iff_ne];omega
  go_enter Tryz.func151,Tryz.ntmps151
  go_wp2
  go_ret2
  exact⟨rfl,rfl⟩
theorem or_digits16 (a b:Int) (ha0:0≤a) (ha:a < 16) (hb0:0≤b) (hb:b < 16):bits BinOp.or IntKind.u8 (a * 16) b=16 * a+b:=by
  obtain⟨x,rfl⟩:=Int.eq_ofNat_of_zero_le ha0
  obtain⟨y,rfl⟩:=Int.eq_ofNat_of_zero_le hb0
  have h:∀ x y:Fin 16,bits BinOp.or IntKind.u8 (((x.val:Nat):Int) * 16) ((y.val:Nat):Int)=16 * ((x.val:Nat):Int)+((y.val:Nat):Int):=by decide +kernel
  exact h ⟨x,by omega⟩ ⟨y,by omega⟩
theorem or_digit0 (b:Int) (hb0:0≤b) (hb:b < 16):bits BinOp.or IntKind.u8 0 b=b:=by
  have:=or_digits16 0 b (by omega) (by omega) hb0 hb
  simpa using this
theorem valR_bd (c:Int) (h:isR c=true):0≤valR c∧valR c < 16:=by
  have h':48≤c∧c≤57∨65≤c∧c≤70∨97≤c∧c≤102:=by simpa [isR] using h
  unfold valR
  split
  · omega
  · split <;> omega
set_option maxHeartbeats 400000 in
theorem Unhex_core (s:ByteArray) (x0 x1:Int) (w:World) (hb:((s.size:Int) != 2)=false) (h0:Hid (isR x0=true)) (h1:Hid (isR x1=true))
    (n0:∀ ty,(Instr.next (.pointer (some ⟨w.heap.size,0,none⟩)) true ty).run Tryz.prog (w.iter s 0)=.ok (.tuple #[.bool true,.int .i64 0,.int .i32 x0]) (w.iter s 1))
    (n1:∀ ty,(Instr.next (.pointer (some ⟨w.heap.size,0,none⟩)) true ty).run Tryz.prog (w.iter s 1)=.ok (.tuple #[.bool true,.int .i64 1,.int .i32 x1]) (w.iter s 2))
    (n2:∀ ty,(Instr.next (.pointer (some ⟨w.heap.size,0,none⟩)) true ty).run Tryz.prog (w.iter s 2)=.ok (.tuple #[.bool false]) (w.iter s 2)) :
    Calls Tryz.prog 151 #[.string s] w fun e w'=>e=.returned (.tuple #[.int .u8 (16 * valR x0+valR x1),.bool true])∧Below w.heap.size w w':=by
  obtain⟨v00,v01⟩:=valR_bd _ h0.out
  obtain⟨v10,v11⟩:=valR_bd _ h1.out
  have o0:=or_digit0 (valR x0) v00 v01
  have o1:=or_digits16 _ _ v00 v01 v10 v11
  go_enter Tryz.func151,Tryz.ntmps151
  go_wp2_with fail
  refine wp_loop_rounds 3 ?_
  rw [rounds_succ]
  go_wp2_with fail
  refine (value_yes x0 _ h0.out).mono ?_
  rintro e w' ⟨rfl,rfl⟩
  go_wp2_with fail
  rw [rounds_succ]
  go_wp2_with fail
  refine (value_yes x1 _ h1.out).mono ?_
  rintro e w' ⟨rfl,rfl⟩
  go_wp2_with fail
  rw [rounds_succ]
  go_wp2_with fail
  go_ret2
  exact⟨rfl,(Below.refl _ _).alloc (Nat.le_refl _) _⟩
set_option maxHeartbeats 400000 in
theorem Unhex_no0 (s:ByteArray) (x0:Int) (w1 w:World) (hb:((s.size:Int) != 2)=false) (h0:Hid (isR x0=false)) (hw:Below w.heap.size w w1)
    (n0:∀ ty,(Instr.next (.pointer (some ⟨w.heap.size,0,none⟩)) true ty).run Tryz.prog (w.iter s 0)=.ok (.tuple #[.bool true,.int .i64 0,.int .i32 x0]) w1) :
    Calls Tryz.prog 151 #[.string s] w fun e w'=>e=.returned (.tuple #[.int .u8 0,.bool false])∧Below w.heap.size w w':=by
  go_enter Tryz.func151,Tryz.ntmps151
  go_wp2_with fail
  refine wp_loop_rounds 1 ?_
  rw [rounds_succ]
  go_wp2_with fail
  refine (value_no x0 _ h0.out).mono ?_
  rintro e w' ⟨rfl,rfl⟩
  go_wp2_with fail
  go_ret2
  exact⟨rfl,hw⟩
set_option maxHeartbeats 400000 in
theorem Unhex_no1 (s:ByteArray) (x0 x1:Int) (w1 w:World) (hb:((s.size:Int) != 2)=false) (h0:Hid (isR x0=true)) (h1:Hid (isR x1=false)) (hw:Below w.heap.size w w1)
    (n0:∀ ty,(Instr.next (.pointer (some ⟨w.heap.size,0,none⟩)) true ty).run Tryz.prog (w.iter s 0)=.ok (.tuple #[.bool true,.int .i64 0,.int .i32 x0]) (w.iter s 1))
    (n1:∀ ty,(Instr.next (.pointer (some ⟨w.heap.size,0,none⟩)) true ty).run Tryz.prog (w.iter s 1)=.ok (.tuple #[.bool true,.int .i64 1,.int .i32 x1]) w1) :
    Calls Tryz.prog 151 #[.string s] w fun e w'=>e=.returned (.tuple #[.int .u8 0,.bool false])∧Below w.heap.size w w':=by
  obtain⟨v00,v01⟩:=valR_bd _ h0.out
  have o0:=or_digit0 (valR x0) v00 v01
  go_enter Tryz.func151,Tryz.ntmps151
  go_wp2_with fail
  refine wp_loop_rounds 2 ?_
  rw [rounds_succ]
  go_wp2_with fail
  refine (value_yes x0 _ h0.out).mono ?_
  rintro e w' ⟨rfl,rfl⟩
  go_wp2_with fail
  rw [rounds_succ]
  go_wp2_with fail
  refine (value_no x1 _ h1.out).mono ?_
  rintro e w' ⟨rfl,rfl⟩
  go_wp2_with fail
  go_ret2
  exact⟨rfl,hw⟩
theorem unhexL_two (s:ByteArray) (h:s.size=2):unhexL s.data.toList=if isR ((s[0]'(by omega)).toNat:Int) && isR ((s[1]'(by omega)).toNat:Int) then some (16 * valR ((s[0]'(by omega)).toNat:Int)+valR ((s[1]'(by omega)).toNat:Int)) else none:=by
  obtain⟨⟨l⟩⟩:=s
  match l,h with
  | [a,b],_=>rfl
theorem Unhex_any (s:ByteArray) (w:World) :
    Calls Tryz.prog 151 #[.string s] w fun e w'=>e=.returned (.tuple #[.int .u8 ((unhexL s.data.toList).getD 0),.bool (unhexL s.data.toList).isSome])∧Below w.heap.size w w':=by
  by_cases hs:s.size=2
  · have hb:((s.size:Int) != 2)=false:=by rw [bne_eq_false_iff_eq];omega
    have n0:∀ ty,(Instr.next (.pointer (some ⟨w.heap.size,0,none⟩)) true ty).run Tryz.prog (w.iter s 0)=_:=fun ty=>run_next_any w s 0 ty (by omega)
    have n1:∀ ty,(Instr.next (.pointer (some ⟨w.heap.size,0,none⟩)) true ty).run Tryz.prog (w.iter s 1)=_:=fun ty=>run_next_any w s 1 ty (by omega)
    have n2:∀ ty,(Instr.next (.pointer (some ⟨w.heap.size,0,none⟩)) true ty).run Tryz.prog (w.iter s 2)=_:=fun ty=>run_next_end w s 2 ty (by omega)
    have r0:=isR_decode s 0 (by omega)
    have r1:=isR_decode s 1 (by omega)
    have hB:∀ p,Below w.heap.size w (w.iter s p):=fun p=>(Below.refl _ _).alloc (Nat.le_refl _) _
    rw [unhexL_two s hs]
    by_cases h0:isR ((s[0]'(by omega)).toNat:Int)=true
    · have d0:=decode_isR s 0 (by omega) h0
      simp only [d0] at n0
      by_cases h1:isR ((s[1]'(by omega)).toNat:Int)=true
      · have d1:=decode_isR s 1 (by omega) h1
        simp only [d1] at n1
        rw [h0,h1]
        exact Unhex_core s _ _ w hb h0 h1 n0 n1 n2
      · have h1:isR ((s[1]'(by omega)).toNat:Int)=false:=by simpa using h1
        rw [h0,h1]
        exact Unhex_no1 s _ _ _ w hb h0 (r1.trans h1) (hB _) n0 n1
    · have h0:isR ((s[0]'(by omega)).toNat:Int)=false:=by simpa using h0
      rw [h0]
      exact Unhex_no0 s _ _ w hb (r0.trans h0) (hB _) n0
  · rw [unhexL_len (by simpa using hs)]
    exact (Unhex_len s w hs).mono fun _ _ ⟨he,hw⟩=>⟨he,by subst hw;exact Below.refl _ _⟩
def sumI (s:ByteArray):Int:=((xorL s.data.toList).toNat:Int)
theorem sumI_bd (s:ByteArray):0≤sumI s∧sumI s≤255:=by unfold sumI;have:=(xorL s.data.toList).toNat_lt;omega
theorem Of_sum (s:ByteArray) (w:World) (hs:s.size≤maxLen) :
    Calls Tryz.prog 152 #[.string s] w fun e w'=>e=.returned (.int .u8 (sumI s))∧w=w':=Of_any s w hs
def sealB (s:ByteArray):ByteArray:=s++⟨#[42]⟩++⟨(hexL (sumI s)).toArray⟩
set_option maxHeartbeats 400000 in
theorem Seal_any (s:ByteArray) (w:World) (hs:s.size≤1000000) :
    Calls Tryz.prog 83 #[.string s] w fun e w'=>e=.returned (.string (sealB s))∧Below w.heap.size w w':=by
  have hl:(hexL (sumI s)).length=2:=rfl
  obtain⟨b0,b1⟩:=sumI_bd s
  go_enter Tryz.func83,Tryz.ntmps83
  go_wp2_with fail
  refine (Of_sum s _ (by unfold maxLen;omega)).mono ?_
  rintro e w' ⟨rfl,rfl⟩
  go_wp2_with fail
  refine (Hex_any (sumI s) _ b0 b1).mono ?_
  rintro e w' ⟨rfl,hb⟩
  go_wp2
  go_ret
  exact⟨rfl,hb⟩
theorem Unhex_none (s:ByteArray) (w:World) (h:unhexL s.data.toList=none) :
    Calls Tryz.prog 151 #[.string s] w fun e w'=>e=.returned (.tuple #[.int .u8 0,.bool false])∧Below w.heap.size w w':=
  (Unhex_any s w).mono fun e w' ⟨he,hb⟩=>⟨by rw [he,h];rfl,hb⟩
theorem Unhex_some (s:ByteArray) (v:Int) (w:World) (h:unhexL s.data.toList=some v) :
    Calls Tryz.prog 151 #[.string s] w fun e w'=>e=.returned (.tuple #[.int .u8 v,.bool true])∧Below w.heap.size w w':=
  (Unhex_any s w).mono fun e w' ⟨he,hb⟩=>⟨by rw [he,h];rfl,hb⟩
def openB (s:ByteArray):Option ByteArray:=
  if s.size < 3 then none
  else if s.data.toList[s.size - 3]?=some 42∧unhexL (s.extract (s.size - 3+1) s.size).data.toList=some (sumI (s.extract 0 (s.size - 3))) then some (s.extract 0 (s.size - 3)) else none
def OpenPost (s:ByteArray) (w:World) (e:Ending) (w':World):Prop:=
  e=.returned (.tuple #[.string ((openB s).getD ByteArray.empty),.bool (openB s).isSome])∧Below w.heap.size w w'
theorem Open_short (s:ByteArray) (w:World) (hs:s.size < 3):Calls Tryz.prog 69 #[.string s] w (OpenPost s w):=by
  have hn:openB s=none:=by simp [openB,hs]
  unfold OpenPost
  rw [hn]
  clear hn
  go_enter Tryz.func69,Tryz.ntmps69
  go_wp2
  go_ret2
  exact⟨rfl,Below.refl _ _⟩
set_option maxHeartbeats 400000 in
theorem Open_star (s:ByteArray) (n:Nat) (w:World) (hs:n+3≤s.size) (hs':s.size≤n+3) (hm:s.size≤1000000) (e1:(s.size:Int) - 3=(n:Int))
    (hst:((s[n]'(by omega)).toNat:Int)≠42):Calls Tryz.prog 69 #[.string s] w fun e w'=>e=.returned (.tuple #[.string ByteArray.empty,.bool false])∧Below w.heap.size w w':=by
  have hb:(((s[n]'(by omega)).toNat:Int) != 42)=true:=by rw [bne_iff_ne];exact hst
  go_enter Tryz.func69,Tryz.ntmps69
  go_wp2
  go_ret2
  exact⟨rfl,Below.refl _ _⟩
set_option maxHeartbeats 400000 in
theorem Open_unhex (s:ByteArray) (n:Nat) (w:World) (hs:n+3≤s.size) (hs':s.size≤n+3) (hm:s.size≤1000000) (e1:(s.size:Int) - 3=(n:Int))
    (hst:(((s[n]'(by omega)).toNat:Int) != 42)=false) (hu:Hid (unhexL (s.extract (n+1) s.size).data.toList=none)):Calls Tryz.prog 69 #[.string s] w fun e w'=>e=.returned (.tuple #[.string ByteArray.empty,.bool false])∧Below w.heap.size w w':=by
  go_enter Tryz.func69,Tryz.ntmps69
  go_wp2_with fail
  refine (Unhex_none _ _ hu).mono ?_
  rintro e w1 ⟨rfl,hb1⟩
  go_wp2
  go_ret2
  exact⟨rfl,hb1⟩
set_option maxHeartbeats 400000 in
theorem Open_sum (s:ByteArray) (n:Nat) (v:Int) (w:World) (hs:n+3≤s.size) (hs':s.size≤n+3) (hm:s.size≤1000000) (e1:(s.size:Int) - 3=(n:Int))
    (hst:(((s[n]'(by omega)).toNat:Int) != 42)=false) (hu:Hid (unhexL (s.extract (n+1) s.size).data.toList=some v)) (hv:(v != sumI (s.extract 0 n))=true) :
    Calls Tryz.prog 69 #[.string s] w fun e w'=>e=.returned (.tuple #[.string ByteArray.empty,.bool false])∧Below w.heap.size w w':=by
  go_enter Tryz.func69,Tryz.ntmps69
  go_wp2_with fail
  refine (Unhex_some _ v _ hu).mono ?_
  rintro e w1 ⟨rfl,hb1⟩
  go_wp2_with fail
  refine (Of_sum _ _ (by unfold maxLen;simp only [ByteArray.size_extract];omega)).mono ?_
  rintro e w' ⟨rfl,rfl⟩
  go_wp2
  go_ret2
  exact⟨rfl,hb1⟩
set_option maxHeartbeats 400000 in
theorem Open_yes (s:ByteArray) (n:Nat) (v:Int) (w:World) (hs:n+3≤s.size) (hs':s.size≤n+3) (hm:s.size≤1000000) (e1:(s.size:Int) - 3=(n:Int))
    (hst:(((s[n]'(by omega)).toNat:Int) != 42)=false) (hu:Hid (unhexL (s.extract (n+1) s.size).data.toList=some v)) (hv:(v != sumI (s.extract 0 n))=false) :
    Calls Tryz.prog 69 #[.string s] w fun e w'=>e=.returned (.tuple #[.string (s.extract 0 n),.bool true])∧Below w.heap.size w w':=by
  go_enter Tryz.func69,Tryz.ntmps69
  go_wp2_with fail
  refine (Unhex_some _ v _ hu).mono ?_
  rintro e w1 ⟨rfl,hb1⟩
  go_wp2_with fail
  refine (Of_sum _ _ (by unfold maxLen;simp only [ByteArray.size_extract];omega)).mono ?_
  rintro e w' ⟨rfl,rfl⟩
  go_wp2
  go_ret2
  exact⟨rfl,hb1⟩
theorem at_some (s:ByteArray) (n:Nat) (h:n < s.size):s.data.toList[n]?=some s[n]:=by
  rw [List.getElem?_eq_getElem (by simpa using h)]
  rfl
theorem at_star (s:ByteArray) (n:Nat) (h:n < s.size):(s.data.toList[n]?=some 42)↔(s[n].toNat:Int)=42:=by
  rw [at_some s n h]
  constructor
  · intro h
    injection h with h
    rw [h]
    rfl
  · intro h
    congr 1
    apply UInt8.toNat_inj.1
    have:(42:UInt8).toNat=42:=rfl
    omega
theorem Open_any (s:ByteArray) (w:World) (hm:s.size≤1000000):Calls Tryz.prog 69 #[.string s] w (OpenPost s w):=by
  by_cases hs:s.size < 3
  · exact Open_short s w hs
  · obtain⟨n,hn⟩:∃ n,s.size=n+3:=⟨s.size - 3,by omega⟩
    have e1:(s.size:Int) - 3=(n:Int):=by omega
    have en:s.size - 3=n:=by omega
    have hlt:n < s.size:=by omega
    have hat:=at_star s n hlt
    by_cases hst:((s[n]'hlt).toNat:Int)=42
    · have hst':(((s[n]'hlt).toNat:Int) != 42)=false:=by rw [bne_eq_false_iff_eq];exact hst
      cases hu:unhexL (s.extract (n+1) s.size).data.toList with
      | none=>
        have ho:openB s=none:=by unfold openB;rw [if_neg hs,en,if_neg (fun h=>by rw [hu] at h;exact absurd h.2 (by simp))]
        unfold OpenPost
        rw [ho]
        exact Open_unhex s n w (by omega) (by omega) hm e1 hst' hu
      | some v=>
        by_cases hv:v=sumI (s.extract 0 n)
        · have ho:openB s=some (s.extract 0 n):=by unfold openB;rw [if_neg hs,en,if_pos ⟨hat.2 hst,by rw [hu,hv]⟩]
          unfold OpenPost
          rw [ho]
          exact Open_yes s n v w (by omega) (by omega) hm e1 hst' hu (by rw [bne_eq_false_iff_eq];exact hv)
        · have ho:openB s=none:=by unfold openB;rw [if_neg hs,en,if_neg (fun h=>by rw [hu] at h;exact hv (by simpa using h.2))]
          unfold OpenPost
          rw [ho]
          exact Open_sum s n v w (by omega) (by omega) hm e1 hst' hu (by rw [bne_iff_ne];exact hv)
    · have ho:openB s=none:=by unfold openB;rw [if_neg hs,en,if_neg (fun h=>hst (hat.1 h.1))]
      unfold OpenPost
      rw [ho]
      exact Open_star s n w (by omega) (by omega) hm e1 hst
def letterP (c:Int):Bool:=decide (32≤c∧c≤126∧c≠33∧c≠36∧c≠42∧c≠92∧c≠94∧c≠126)
def signP (c:Int):Bool:=decide (65≤c∧c≤90∨48≤c∧c≤57)
def fieldP (c:Int):Bool:=letterP c && decide (c≠44)
set_option maxHeartbeats 1000000 in
theorem letter_any (c:Int) (w:World) :
    Calls Tryz.prog 149 #[.int .i32 c] w fun e w'=>e=.returned (.bool (letterP c))∧w=w':=by
  cases h:letterP c with
  | true=>
    have h':32≤c∧c≤126∧c≠33∧c≠36∧c≠42∧c≠92∧c≠94∧c≠126:=by simpa [letterP] using h
    clear h
    obtain⟨h0,h1,h2,h3,h4,h5,h6,h7⟩:=h'
    have k2:(c==33)=false:=by rw [beq_eq_false_iff_ne];exact h2
    have k3:(c==36)=false:=by rw [beq_eq_false_iff_ne];exact h3
    have k4:(c==42)=false:=by rw [beq_eq_false_iff_ne];exact h4
    have k5:(c==92)=false:=by rw [beq_eq_false_iff_ne];exact h5
    have k6:(c==94)=false:=by rw [beq_eq_false_iff_ne];exact h6
    have k7:(c==126)=false:=by rw [beq_eq_false_iff_ne];exact h7
    go_enter Tryz.func149,Tryz.ntmps149
    go_wp2
    go_ret
    exact⟨rfl,rfl⟩
  | false=>
    have h':c < 32∨126 < c∨c=33∨c=36∨c=42∨c=92∨c=94∨c=126:=by
      have:¬ (32≤c∧c≤126∧c≠33∧c≠36∧c≠42∧c≠92∧c≠94∧c≠126):=by simpa [letterP] using h
      omega
    clear h
    rcases h' with h | h | rfl | rfl | rfl | rfl | rfl | rfl
    all_goals
      go_enter Tryz.func149,Tryz.ntmps149
      go_wp2
      go_ret
      first | exact⟨rfl,rfl⟩ | exact⟨ret_bool (by simp;omega),rfl⟩
set_option maxHeartbeats 1000000 in
theorem sign_any22 (c:Int) (w:World) :
    Calls Tryz.prog 158 #[.int .i32 c] w fun e w'=>e=.returned (.bool (signP c))∧w=w':=by
  cases h:signP c with
  | true=>
    have h':65≤c∧c≤90∨48≤c∧c≤57:=by simpa [signP] using h
    clear h
    rcases h' with ⟨h0,h1⟩ | ⟨h0,h1⟩
    all_goals
      go_enter Tryz.func158,Tryz.ntmps158
      go_wp2
      go_ret
      first | exact⟨rfl,rfl⟩ | exact⟨ret_bool (by simp;omega),rfl⟩
  | false=>
    have h':c < 48∨57 < c∧c < 65∨90 < c:=by
      have:¬ (65≤c∧c≤90∨48≤c∧c≤57):=by simpa [signP] using h
      omega
    clear h
    rcases h' with h | ⟨h,h1⟩ | h
    all_goals
      go_enter Tryz.func158,Tryz.ntmps158
      go_wp2
      go_ret
      first | exact⟨rfl,rfl⟩ | exact⟨ret_bool (by simp;omega),rfl⟩
set_option maxHeartbeats 1000000 in
theorem field1_any (c:Int) (w:World) :
    Calls Tryz.prog 160 #[.int .i32 c] w fun e w'=>e=.returned (.bool (fieldP c))∧w=w':=by
  cases h:letterP c with
  | false=>
    have hf:fieldP c=false:=by simp [fieldP,h]
    rw [hf]
    clear hf
    go_enter Tryz.func160,Tryz.ntmps160
    go_wp2_with fail
    refine (letter_any c _).mono ?_
    rintro e w' ⟨rfl,rfl⟩
    rw [h]
    clear h
    go_wp2_with fail
    go_ret
    exact⟨rfl,rfl⟩
  | true=>
    by_cases hc:c=44
    · have hf:fieldP c=false:=by simp [fieldP,hc]
      rw [hf]
      have hb:(c != 44)=false:=by rw [bne_eq_false_iff_eq];exact hc
      clear hf hc
      go_enter Tryz.func160,Tryz.ntmps160
      go_wp2_with fail
      refine (letter_any c _).mono ?_
      rintro e w' ⟨rfl,rfl⟩
      rw [h]
      clear h
      go_wp2_with fail
      go_ret
      exact⟨rfl,rfl⟩
    · have hf:fieldP c=true:=by simp [fieldP,hc,h]
      rw [hf]
      have hb:(c != 44)=true:=by rw [bne_iff_ne];exact hc
      clear hf hc
      go_enter Tryz.func160,Tryz.ntmps160
      go_wp2_with fail
      refine (letter_any c _).mono ?_
      rintro e w' ⟨rfl,rfl⟩
      rw [h]
      clear h
      go_wp2_with fail
      go_ret
      exact⟨rfl,rfl⟩
def allB (p:Int→Bool) (s:ByteArray):Bool:=s.data.toList.all fun c=>p (c.toNat:Int)
theorem allB_no {p:Int→Bool} {s:ByteArray} {k:Nat} (h:k < s.size) (hp:p (s[k].toNat:Int)=false):allB p s=false:=by
  unfold allB
  rw [List.all_eq_false]
  exact⟨s[k],by show s.data[k]∈_;simp,by rw [hp];simp⟩
theorem allB_yes {p:Int→Bool} {s:ByteArray} (h:∀ j (hj:j < s.size),p ((s[j]'hj).toNat:Int)=true):allB p s=true:=by
  unfold allB
  rw [List.all_eq_true]
  intro x hx
  obtain⟨j,hj,rfl⟩:=List.getElem_of_mem hx
  exact h j (by simpa using hj)
theorem signP_high (c:Int) (h:128≤c):signP c=false:=by simp [signP];omega
set_option maxHeartbeats 1000000 in
theorem all_sign (s:ByteArray) (w:World) :
    Calls Tryz.prog 157 #[.string s,.func (.func 158) #[] #[]] w fun e w'=>e=.returned (.bool (allB signP s))∧Below w.heap.size w w':=by
  have hB:∀ p,Below w.heap.size w (w.iter s p):=fun p=>(Below.refl _ _).alloc (Nat.le_refl _) _
  have HB:=Lib.hid hB
  clear hB
  go_enter Tryz.func157,Tryz.ntmps157
  go_wp2_with fail
  go_loopw [] (fun w'=>∃ pos:Nat,pos≤s.size∧w'=w.iter s pos∧∀ j (hj:j < s.size),j < pos→signP ((s[j]'hj).toNat:Int)=true) (fun w'=>s.size - w'.iterPos w.heap.size)
  case atStart=>exact⟨0,Nat.zero_le _,rfl,fun j _ h=>absurd h (Nat.not_lt_zero _)⟩
  case round=>
    obtain⟨pos,hpos,rfl,hall⟩:=hrel
    have HA:=Lib.hid hall
    clear hall
    by_cases hp:pos < s.size
    · have hnx:∀ ty,(Instr.next (.pointer (some ⟨w.heap.size,0,none⟩)) true ty).run Tryz.prog (w.iter s pos)=_:=fun ty=>run_next_any w s pos ty hp
      cases hc:signP (s[pos].toNat:Int) with
      | true=>
        have hlow:s[pos].toNat < 128:=by
          rcases Nat.lt_or_ge s[pos].toNat 128 with h | h
          · exact h
          · rw [signP_high _ (by omega)] at hc;cases hc
        simp only [decode_ascii s pos hp hlow] at hnx
        have HC:=Lib.hid hc
        clear hc hlow
        go_wp2_with fail
        refine (sign_any22 _ _).mono ?_
        rintro e w' ⟨rfl,rfl⟩
        rw [HC.out]
        go_wp2_with fail
        go_roundw
        case rel=>
          refine⟨pos+1,by omega,rfl,fun j hj hlt=>?_⟩
          rcases Nat.lt_or_ge j pos with h | h
          · exact HA.out j hj h
          · obtain rfl:j=pos:=by omega
            exact HC.out
        case measure=>simp;omega
      | false=>
        have HN:=Lib.hid (allB_no hp hc)
        have hr:signP ((Utf8.decode s pos).1:Int)=false:=by
          by_cases ha:s[pos].toNat < 128
          · rw [decode_ascii s pos hp ha];exact hc
          · exact signP_high _ (by have:=(decode_high s pos hp (by omega)).1;omega)
        have HR:=Lib.hid hr
        clear hc hr
        go_wp2_with fail
        refine (sign_any22 _ _).mono ?_
        rintro e w' ⟨rfl,rfl⟩
        rw [HR.out]
        go_wp2_with fail
        go_ret
        exact⟨by rw [HN.out];rfl,HB.out _⟩
    · have hnx:∀ ty,(Instr.next (.pointer (some ⟨w.heap.size,0,none⟩)) true ty).run Tryz.prog (w.iter s pos)=_:=fun ty=>run_next_end w s pos ty hp
      have HY:=Lib.hid (allB_yes (p:=signP) (s:=s) (fun j hj=>HA.out j hj (by omega)))
      go_wp2_with fail
      go_ret
      exact⟨by rw [HY.out];rfl,HB.out _⟩
theorem fieldP_high (c:Int) (h:128≤c):fieldP c=false:=by simp [fieldP,letterP];omega
set_option maxHeartbeats 1000000 in
theorem all_field (s:ByteArray) (w:World) :
    Calls Tryz.prog 157 #[.string s,.func (.func 160) #[] #[]] w fun e w'=>e=.returned (.bool (allB fieldP s))∧Below w.heap.size w w':=by
  have hB:∀ p,Below w.heap.size w (w.iter s p):=fun p=>(Below.refl _ _).alloc (Nat.le_refl _) _
  have HB:=Lib.hid hB
  clear hB
  go_enter Tryz.func157,Tryz.ntmps157
  go_wp2_with fail
  go_loopw [] (fun w'=>∃ pos:Nat,pos≤s.size∧w'=w.iter s pos∧∀ j (hj:j < s.size),j < pos→fieldP ((s[j]'hj).toNat:Int)=true) (fun w'=>s.size - w'.iterPos w.heap.size)
  case atStart=>exact⟨0,Nat.zero_le _,rfl,fun j _ h=>absurd h (Nat.not_lt_zero _)⟩
  case round=>
    obtain⟨pos,hpos,rfl,hall⟩:=hrel
    have HA:=Lib.hid hall
    clear hall
    by_cases hp:pos < s.size
    · have hnx:∀ ty,(Instr.next (.pointer (some ⟨w.heap.size,0,none⟩)) true ty).run Tryz.prog (w.iter s pos)=_:=fun ty=>run_next_any w s pos ty hp
      cases hc:fieldP (s[pos].toNat:Int) with
      | true=>
        have hlow:s[pos].toNat < 128:=by
          rcases Nat.lt_or_ge s[pos].toNat 128 with h | h
          · exact h
          · rw [fieldP_high _ (by omega)] at hc;cases hc
        simp only [decode_ascii s pos hp hlow] at hnx
        have HC:=Lib.hid hc
        clear hc hlow
        go_wp2_with fail
        refine (field1_any _ _).mono ?_
        rintro e w' ⟨rfl,rfl⟩
        rw [HC.out]
        go_wp2_with fail
        go_roundw
        case rel=>
          refine⟨pos+1,by omega,rfl,fun j hj hlt=>?_⟩
          rcases Nat.lt_or_ge j pos with h | h
          · exact HA.out j hj h
          · obtain rfl:j=pos:=by omega
            exact HC.out
        case measure=>simp;omega
      | false=>
        have HN:=Lib.hid (allB_no hp hc)
        have hr:fieldP ((Utf8.decode s pos).1:Int)=false:=by
          by_cases ha:s[pos].toNat < 128
          · rw [decode_ascii s pos hp ha];exact hc
          · exact fieldP_high _ (by have:=(decode_high s pos hp (by omega)).1;omega)
        have HR:=Lib.hid hr
        clear hc hr
        go_wp2_with fail
        refine (field1_any _ _).mono ?_
        rintro e w' ⟨rfl,rfl⟩
        rw [HR.out]
        go_wp2_with fail
        go_ret
        exact⟨by rw [HN.out];rfl,HB.out _⟩
    · have hnx:∀ ty,(Instr.next (.pointer (some ⟨w.heap.size,0,none⟩)) true ty).run Tryz.prog (w.iter s pos)=_:=fun ty=>run_next_end w s pos ty hp
      have HY:=Lib.hid (allB_yes (p:=fieldP) (s:=s) (fun j hj=>HA.out j hj (by omega)))
      go_wp2_with fail
      go_ret
      exact⟨by rw [HY.out];rfl,HB.out _⟩
def signsP (s:ByteArray) (n:Nat):Bool:=decide (s.size=n) && allB signP s
set_option maxHeartbeats 1000000 in
theorem signs_any (s:ByteArray) (n:Nat) (w:World) :
    Calls Tryz.prog 79 #[.string s,.int .i64 (n:Int)] w fun e w'=>e=.returned (.bool (signsP s n))∧Below w.heap.size w w':=by
  by_cases h:s.size=n
  · have hb:((s.size:Int)==(n:Int))=true:=by rw [beq_iff_eq];omega
    have hs:signsP s n=allB signP s:=by simp [signsP,h]
    rw [hs]
    clear hs h
    go_enter Tryz.func79,Tryz.ntmps79
    go_wp2_with fail
    refine (all_sign s _).mono ?_
    rintro e w1 ⟨rfl,hb1⟩
    go_wp2_with fail
    go_ret
    exact⟨rfl,hb1⟩
  · have hb:((s.size:Int)==(n:Int))=false:=by rw [beq_eq_false_iff_ne];omega
    have hs:signsP s n=false:=by simp [signsP,h]
    rw [hs]
    clear hs h
    go_enter Tryz.func79,Tryz.ntmps79
    go_wp2_with fail
    go_ret
    exact⟨rfl,Below.refl _ _⟩
set_option maxHeartbeats 1000000 in
theorem field_any (s:ByteArray) (w:World) :
    Calls Tryz.prog 81 #[.string s] w fun e w'=>e=.returned (.bool (allB fieldP s))∧Below w.heap.size w w':=by
  go_enter Tryz.func81,Tryz.ntmps81
  go_wp2_with fail
  refine (all_field s _).mono ?_
  rintro e w1 ⟨rfl,hb1⟩
  go_wp2_with fail
  go_ret
  exact⟨rfl,hb1⟩
set_option maxHeartbeats 1000000 in
theorem r22letter_any (c:Int) (w:World) :
    Calls Tryz.prog 154 #[.int .u8 c] w fun e w'=>e=.returned (.bool (letterP c))∧w=w':=by
  cases h:letterP c with
  | true=>
    have h':32≤c∧c≤126∧c≠33∧c≠36∧c≠42∧c≠92∧c≠94∧c≠126:=by simpa [letterP] using h
    clear h
    obtain⟨h0,h1,h2,h3,h4,h5,h6,h7⟩:=h'
    have k2:(c != 33)=true:=by rw [bne_iff_ne];exact h2
    have k3:(c != 36)=true:=by rw [bne_iff_ne];exact h3
    have k4:(c != 42)=true:=by rw [bne_iff_ne];exact h4
    have k5:(c != 92)=true:=by rw [bne_iff_ne];exact h5
    have k6:(c != 94)=true:=by rw [bne_iff_ne];exact h6
    have k7:(c != 126)=true:=by rw [bne_iff_ne];exact h7
    go_enter Tryz.func154,Tryz.ntmps154
    go_wp2
    go_ret
    exact⟨rfl,rfl⟩
  | false=>
    have h':c < 32∨126 < c∨c=33∨c=36∨c=42∨c=92∨c=94∨c=126:=by
      have:¬ (32≤c∧c≤126∧c≠33∧c≠36∧c≠42∧c≠92∧c≠94∧c≠126):=by simpa [letterP] using h
      omega
    clear h
    rcases h' with h | h | rfl | rfl | rfl | rfl | rfl | rfl
    · have k:decide (32≤c)=false:=by simp;omega
      go_enter Tryz.func154,Tryz.ntmps154
      go_wp2
      go_ret
      exact⟨rfl,rfl⟩
    · have k:decide (c≤126)=false:=by simp;omega
      have k0:32≤c:=by omega
      go_enter Tryz.func154,Tryz.ntmps154
      go_wp2
      go_ret
      exact⟨rfl,rfl⟩
    all_goals
      go_enter Tryz.func154,Tryz.ntmps154
      go_wp2
      go_ret
      exact⟨rfl,rfl⟩
def bodyL22 (t y:ByteArray) (fs:List ByteArray):List UInt8:=t.data.toList++y.data.toList++fs.flatMap fun f=>44 :: f.data.toList
theorem bodyL_snoc (t y:ByteArray) (fs:List ByteArray) (f:ByteArray):bodyL22 t y (fs++[f])=bodyL22 t y fs++(44 :: f.data.toList):=by simp [bodyL22]
theorem bodyL_take (t y:ByteArray) (fs:List ByteArray) (k:Nat):(bodyL22 t y (fs.take k)).length≤(bodyL22 t y fs).length:=by
  have:bodyL22 t y fs=bodyL22 t y (fs.take k)++(fs.drop k).flatMap fun f=>44 :: f.data.toList:=by
    simp only [bodyL22,List.append_assoc]
    rw [← List.flatMap_append,List.take_append_drop]
  rw [this,List.length_append]
  omega
theorem bodyL_succ (t y:ByteArray) (fs:List ByteArray) (k:Nat) (h:k < fs.length):bodyL22 t y (fs.take (k+1))=bodyL22 t y (fs.take k)++(44 :: fs[k].data.toList):=by
  rw [List.take_succ_eq_append_getElem h,bodyL_snoc]
def textS (t y:ByteArray) (fs:List ByteArray):ByteArray:=⟨#[36]⟩++sealB ⟨(bodyL22 t y fs).toArray⟩++⟨#[13,10]⟩
def putS (t y:ByteArray) (fs:List ByteArray):ByteArray×Int:=
  if (signsP t 2 && signsP y 3 && fs.all (allB fieldP))=false then (ByteArray.empty,1)
  else if 82 < (textS t y fs).size then (ByteArray.empty,7) else (textS t y fs,0)
theorem putS_t {t y:ByteArray} {fs:List ByteArray} (h:signsP t 2=false):putS t y fs=(ByteArray.empty,1):=by simp [putS,h]
theorem putS_y {t y:ByteArray} {fs:List ByteArray} (h:signsP y 3=false):putS t y fs=(ByteArray.empty,1):=by simp [putS,h]
theorem putS_f {t y:ByteArray} {fs:List ByteArray} (k:Nat) (hk:k < fs.length) (h:allB fieldP fs[k]=false):putS t y fs=(ByteArray.empty,1):=by
  have:fs.all (allB fieldP)=false:=by rw [List.all_eq_false];exact⟨fs[k],List.getElem_mem hk,by rw [h];simp⟩
  simp [putS,this]
theorem putS_ok {t y:ByteArray} {fs:List ByteArray} (h1:signsP t 2=true) (h2:signsP y 3=true) (h3:∀ k (hk:k < fs.length),allB fieldP (fs[k]'hk)=true) :
    putS t y fs=if 82 < (textS t y fs).size then (ByteArray.empty,7) else (textS t y fs,0):=by
  have:fs.all (allB fieldP)=true:=by
    rw [List.all_eq_true]
    intro x hx
    obtain⟨j,hj,rfl⟩:=List.getElem_of_mem hx
    exact h3 j hj
  simp [putS,h1,h2,this]
theorem textS_size (t y:ByteArray) (fs:List ByteArray):(textS t y fs).size=(bodyL22 t y fs).length+6:=by
  unfold textS sealB
  simp only [ByteArray.size_append]
  have h1:(ByteArray.mk #[36]).size=1:=rfl
  have h2:(ByteArray.mk #[13,10]).size=2:=rfl
  have h3:(ByteArray.mk #[42]).size=1:=rfl
  have h4:∀ x,(ByteArray.mk (hexL x).toArray).size=2:=fun x=>rfl
  have h5:(ByteArray.mk (bodyL22 t y fs).toArray).size=(bodyL22 t y fs).length:=by show (bodyL22 t y fs).toArray.size=_;simp
  rw [h1,h2,h3,h4,h5]
  omega
def PutPost22 (t y:ByteArray) (fs:List ByteArray) (w:World) (e:Ending) (w':World):Prop:=
  e=.returned (.tuple #[.string (putS t y fs).1,.int .i64 (putS t y fs).2])∧Below w.heap.size w w'
set_option maxHeartbeats 1000000 in
theorem Put_t (t y:ByteArray) (A:Option Addr) (n c:Nat) (w:World) (h:Hid (signsP t 2=false)) :
    Calls Tryz.prog 34 #[.agg #[.string t,.string y,.slice A n c]] w fun e w'=>e=.returned (.tuple #[.string ByteArray.empty,.int .i64 1])∧Below w.heap.size w w':=by
  go_enter Tryz.func34,Tryz.ntmps34
  go_wp2_with fail
  refine (signs_any t 2 _).mono ?_
  rintro e w1 ⟨rfl,hb1⟩
  rw [h.out]
  go_wp2_with fail
  go_ret2
  exact⟨rfl,bthen (below_new _ _) hb1⟩
set_option maxHeartbeats 1000000 in
theorem Put_y (t y:ByteArray) (A:Option Addr) (n c:Nat) (w:World) (h:Hid (signsP t 2=true)) (h2:Hid (signsP y 3=false)) :
    Calls Tryz.prog 34 #[.agg #[.string t,.string y,.slice A n c]] w fun e w'=>e=.returned (.tuple #[.string ByteArray.empty,.int .i64 1])∧Below w.heap.size w w':=by
  go_enter Tryz.func34,Tryz.ntmps34
  go_wp2_with fail
  refine (signs_any t 2 _).mono ?_
  rintro e w1 ⟨rfl,hb1⟩
  rw [h.out]
  obtain⟨c1,_⟩:=bcell hb1
  have hz:=hb1.size
  simp at hz
  go_wp2_with fail
  refine (signs_any y 3 _).mono ?_
  rintro e w2 ⟨rfl,hb2⟩
  rw [h2.out]
  go_wp2_with fail
  go_ret2
  exact⟨rfl,bthen (bthen (below_new _ _) hb1) hb2⟩
set_option maxHeartbeats 2000000 in
theorem Put_loop (t y:ByteArray) (fs:List ByteArray) (A:Option Addr) (n c:Nat) (w:World) (hn:Hid (n=fs.length)) (hn1:n≤1000) (hlen:(bodyL22 t y fs).length≤100000) (hne:Hid (bodyL22 t y []≠[]))
    (hs:Hid (Strs w w.heap.size A fs)) (h:Hid (signsP t 2=true)) (h2:Hid (signsP y 3=true)) (ht:t.size≤2) (hy:y.size≤3) :
    Calls Tryz.prog 34 #[.agg #[.string t,.string y,.slice A n c]] w (PutPost22 t y fs w):=by
  go_enter Tryz.func34,Tryz.ntmps34
  go_wp2_with fail
  refine (signs_any t 2 _).mono ?_
  rintro e w1 ⟨rfl,hb1⟩
  rw [h.out]
  obtain⟨c1,_⟩:=bcell hb1
  have hz:=hb1.size
  simp at hz
  go_wp2_with fail
  refine (signs_any y 3 _).mono ?_
  rintro e w2 ⟨rfl,hb2⟩
  rw [h2.out]
  clear c1
  have hb12:Below (w.alloc (.cells #[.string t,.string y,.slice A n c] 24)).heap.size (w.alloc (.cells #[.string t,.string y,.slice A n c] 24)) w2:=bthen hb1 hb2
  obtain⟨c2,_⟩:=bcell hb12
  have hz2:=hb12.size
  simp at hz2
  have hz2':w.heap.size < w2.heap.size:=by omega
  go_wp2_with fail
  obtain⟨w2',hw2'⟩:∃ W,W=w2.alloc (.cells #[.pointer none,.slice none 0 0] 143):=⟨_,rfl⟩
  have hbld:Lib.IsBuilder 143 5 (w.heap.size+1) w2.heap.size [] w2':=by
    rw [hw2']
    exact .inl ⟨by omega,.slice none 0 0,heap_alloc_new w2 _,World.ownsRow_nil _ _ _ _,by simp [Value.ownBlock]⟩
  have hbw:Below (w.heap.size+1) (w.alloc (.cells #[.string t,.string y,.slice A n c] 24)) w2':=by
    rw [hw2']
    exact (hb12.mono (by simp)).alloc (by omega) _
  rw [← hw2']
  have hz3:w2.heap.size < w2'.heap.size:=by rw [hw2'];simp
  clear hw2' c2
  have hsz:(t++y).size≤5:=by rw [ByteArray.size_append];omega
  refine (WriteString_any (w.heap.size+1) w2.heap.size [] (t++y) _ hbld (by simp;omega) (by omega)).mono ?_
  rintro e w3 ⟨rfl,hbl3,hb3⟩
  have hb13:=hbw.trans hb3
  obtain⟨c3,_⟩:=bcell hb13
  go_wp2_with fail
  clear c3 hbw hb3 hbld hb12 hb1 hb2 hsz
  obtain⟨W0,hW0⟩:∃ W,W=w.alloc (.cells #[.string t,.string y,.slice A n c] 24):=⟨_,rfl⟩
  have hbl3':Hid (Lib.BuilderAt 143 5 (w.heap.size+1) w2.heap.size (.pointer (some ⟨w2.heap.size,0,none⟩)) (Lib.byteCells (bodyL22 t y (fs.take 0))) w3):=by
    have:[]++Lib.strCells (t++y)=Lib.byteCells (bodyL22 t y (fs.take 0)):=by simp [Lib.strCells,Lib.byteCells,bodyL22,ByteArray.data_append]
    rw [← this]
    exact hbl3
  clear hbl3
  have hs0:Hid (Strs W0 w.heap.size A fs):=by rw [hW0];exact hs.out.below (below_new w _) (Nat.le_refl _)
  have hfin:Hid (Below w.heap.size w W0):=by rw [hW0];exact below_new w _
  rw [← hW0] at hb13
  clear hW0
  go_loopw [27] (fun i wr=>∃ k:Nat,k≤n∧i=.int .i64 k∧Hid (Lib.BuilderAt 143 5 (w.heap.size+1) w2.heap.size (.pointer (some ⟨w2.heap.size,0,none⟩)) (Lib.byteCells (bodyL22 t y (fs.take k))) wr)∧Below (w.heap.size+1) W0 wr ∧
      Hid (∀ j (hj:j < fs.length),j < k→allB fieldP (fs[j]'hj)=true)) (fun i _=>n - (intOf i).toNat)
  case atStart=>exact⟨0,Nat.zero_le _,rfl,hbl3',hb13,fun j _ h=>absurd h (Nat.not_lt_zero _)⟩
  case round=>
    obtain⟨k,hk,rfl,hbl,hbr,hall⟩:=hrel
    by_cases hlt:k < n
    · have hkf:k < fs.length:=by rw [← hn.out];exact hlt
      obtain⟨ab,ao,hA,hab,hcell⟩:=hs0.out k hkf
      subst hA
      have hc:=(hbr.cell (p:=⟨ab,ao+k,none⟩) (by show ab < _;omega)).trans hcell
      clear hcell
      have HK:=Lib.hid (bodyL_succ t y fs k hkf)
      have HL:=Lib.hid (bodyL_take t y fs (k+1))
      have hfs:fs[k].size+(bodyL22 t y (fs.take k)).length+1≤100000:=by
        have h1:=HK.out
        have h2:=HL.out
        rw [h1,List.length_append,List.length_cons] at h2
        have h3:fs[k].data.toList.length=fs[k].size:=by simp
        omega
      obtain⟨f,hf⟩:∃ f,f=fs[k]:=⟨_,rfl⟩
      rw [← hf] at hc hfs HK
      cases hfp:allB fieldP f with
      | false=>
        have HN:=Lib.hid (putS_f (t:=t) (y:=y) k hkf (by rw [← hf];exact hfp))
        have HF:=Lib.hid hfp
        clear hfp hf
        go_wp2_with fail
        refine (field_any f _).mono ?_
        rintro e w4 ⟨rfl,hb4⟩
        rw [HF.out]
        go_wp2_with fail
        go_ret2
        exact⟨by rw [HN.out];rfl,hfin.out.trans ((hbr.mono (by omega)).trans (hb4.mono (by have:=hbr.size;have:=hfin.out.size;omega)))⟩
      | true=>
        have HF:=Lib.hid hfp
        have HFK:=Lib.hid hf
        clear hfp hf
        go_wp2_with fail
        refine (field_any f _).mono ?_
        rintro e w4 ⟨rfl,hb4⟩
        rw [HF.out]
        have hbl4:=bld_below hbl.out hb4
        have hz4:=hb4.size
        have hzr:=hbr.size
        have hz0:=hfin.out.size
        have hl4:(Lib.byteCells (bodyL22 t y (fs.take k))).length≤100000:=by rw [Lib.byteCells_length];omega
        go_wp2_with fail
        refine (WriteByte_any (w.heap.size+1) w2.heap.size _ 44 _ (.inr hbl4) (by omega) (by have:=hbl.out.lt;omega)).mono ?_
        rintro e w5 ⟨rfl,hbl5,hb5⟩
        clear hbl4
        have hz5:=hb5.size
        have hlw:w2.heap.size < wr.heap.size:=hbl.out.lt
        have hbs:w.heap.size+1≤wr.heap.size:=by omega
        go_wp2_with fail
        refine (WriteString_any (w.heap.size+1) w2.heap.size _ f _ (.inr hbl5) (by rw [List.length_append];simp;omega) (by omega)).mono ?_
        rintro e w6 ⟨rfl,hbl6,hb6⟩
        clear hbl5
        have HB6:=Lib.hid hbl6
        clear hbl6
        go_wp2_with fail
        go_roundw
        case rel=>
          refine⟨k+1,by omega,by go_num,?_,((hbr.trans (hb4.mono (by omega))).trans hb5).trans hb6,?_⟩
          · have e1:Lib.byteCells (bodyL22 t y (fs.take (k+1)))=Lib.byteCells (bodyL22 t y (fs.take k))++[.int .u8 44]++Lib.strCells f:=by
              rw [HK.out,Lib.byteCells_append,Lib.strCells_eq]
              simp [Lib.byteCells]
            rw [e1]
            exact HB6.out
          · intro j hj hjk
            rcases Nat.lt_or_ge j k with h | h
            · exact hall.out j hj h
            · obtain rfl:j=k:=by omega
              rw [← HFK.out]
              exact HF.out
        case measure=>simp [intOf];omega
    · have hkn:k=fs.length:=by have:=hn.out;omega
      have hall':∀ j (hj:j < fs.length),allB fieldP (fs[j]'hj)=true:=fun j hj=>hall.out j hj (by omega)
      have HP:=Lib.hid (putS_ok h.out h2.out hall')
      have hbl':Hid (Lib.IsBuilder 143 5 (w.heap.size+1) w2.heap.size (Lib.byteCells (bodyL22 t y fs)) wr):=by
        have e1:fs.take k=fs:=List.take_of_length_le (by omega)
        have:=hbl.out
        rw [e1] at this
        exact .inr this
      have hne':Hid (bodyL22 t y fs≠[]):=by
        intro h0
        have h1:=hne.out
        apply h1
        have h2:bodyL22 t y fs=bodyL22 t y []++fs.flatMap fun f=>44 :: f.data.toList:=by simp [bodyL22]
        rw [h2] at h0
        exact (List.append_eq_nil_iff.1 h0).1
      clear hkn hall' hbl hall
      have hzr:=hbr.size
      have hz0:=hfin.out.size
      obtain⟨S,hS⟩:∃ S:ByteArray,S=⟨(bodyL22 t y fs).toArray⟩:=⟨_,rfl⟩
      have hSz:S.size≤100000:=by rw [hS];show (bodyL22 t y fs).toArray.size≤_;simpa using hlen
      have HS:=Lib.hid hS
      clear hS
      have hT:Hid (textS t y fs=⟨#[36]⟩++sealB S++⟨#[13,10]⟩):=by unfold textS;rw [HS.out];exact rfl
      have hszT:(sealB S).size=S.size+3:=by
        unfold sealB
        simp only [ByteArray.size_append]
        rfl
      go_wp2_with fail
      refine (String_any (w.heap.size+1) w2.heap.size (bodyL22 t y fs) _ hbl'.out hne'.out).mono ?_
      rintro e w4 ⟨rfl,hb4⟩
      rw [← HS.out]
      have hz4:=hb4.size
      go_wp2_with fail
      refine (Seal_any S _ (by omega)).mono ?_
      rintro e w5 ⟨rfl,hb5⟩
      have hbb:Hid (Below w.heap.size w w5):=hfin.out.trans (((hbr.mono (by omega)).trans (hb4.mono (by omega))).trans (hb5.mono (by omega)))
      obtain⟨Q,hQ⟩:∃ Q,Q=sealB S:=⟨_,rfl⟩
      rw [← hQ] at hszT hT ⊢
      clear hQ
      have hq0:Q.size≤S.size+3:=by omega
      have hq1:S.size+3≤Q.size:=by omega
      clear hszT
      have hU:(textS t y fs).size=Q.size+3:=by
        rw [hT.out]
        simp only [ByteArray.size_append]
        have h1:(ByteArray.mk #[36]).size=1:=rfl
        have h2:(ByteArray.mk #[13,10]).size=2:=rfl
        rw [h1,h2]
        omega
      by_cases h82:82 < (textS t y fs).size
      · have HP2:Hid (putS t y fs=(ByteArray.empty,7)):=by rw [HP.out,if_pos h82];exact rfl
        have h82':(79:Int) < (Q.size:Int):=by omega
        clear h82 hU HP
        go_wp2_with fail
        go_ret2
        exact⟨by rw [HP2.out];rfl,hbb.out⟩
      · have HP2:Hid (putS t y fs=(textS t y fs,0)):=by rw [HP.out,if_neg h82];exact rfl
        have h82':(Q.size:Int)≤79:=by omega
        clear h82 hU HP
        go_wp2_with fail
        go_ret2
        exact⟨by rw [HP2.out,hT.out];rfl,hbb.out⟩
theorem signsP_size {s:ByteArray} {n:Nat} (h:signsP s n=true):s.size=n:=by
  have:=h
  simp [signsP] at this
  exact this.1
theorem Put_any (t y:ByteArray) (fs:List ByteArray) (A:Option Addr) (c:Nat) (w:World) (hn1:fs.length≤1000) (hlen:(bodyL22 t y fs).length≤100000)
    (hs:Strs w w.heap.size A fs):Calls Tryz.prog 34 #[.agg #[.string t,.string y,.slice A fs.length c]] w (PutPost22 t y fs w):=by
  cases h1:signsP t 2 with
  | false=>
    unfold PutPost22
    rw [putS_t h1]
    exact Put_t t y A _ c w h1
  | true=>
    cases h2:signsP y 3 with
    | false=>
      unfold PutPost22
      rw [putS_y h2]
      exact Put_y t y A _ c w h1 h2
    | true=>
      have ht:=signsP_size h1
      have hy:=signsP_size h2
      refine Put_loop t y fs A _ c w rfl hn1 hlen ?_ hs h1 h2 (by omega) (by omega)
      intro h0
      have:(bodyL22 t y []).length=5:=by simp [bodyL22];omega
      rw [h0] at this
      simp at this
def bitN (b i:Nat):Bool:=b.testBit i
theorem bitN_eq (b i:Nat):bitN b i=(((b / 2 ^ i:Nat):Int) % 2==1):=by
  unfold bitN
  rw [Nat.testBit_eq_decide_div_mod_eq]
  generalize b / 2 ^ i=q
  rw [Bool.eq_iff_iff,decide_eq_true_eq,beq_iff_eq]
  omega
theorem bitN_xor (a b i:Nat):bitN (a ^^^ b) i=(bitN a i != bitN b i):=by unfold bitN;rw [Nat.testBit_xor]
set_option maxHeartbeats 400000 in
theorem r07bit_any (b i:Nat) (w:World) (hb:b < 256) (hi:i≤8) :
    Calls Tryz.prog 156 #[.int .u8 (b:Int),.int .i64 (i:Int)] w fun e w'=>e=.returned (.bool (bitN b i))∧w=w':=by
  go_enter Tryz.func156,Tryz.ntmps156
  go_wp2
  go_loop [0,5] (fun x k=>∃ j:Nat,j≤i∧k=.int .i64 j∧x=.int .u8 ((b / 2 ^ j:Nat):Int)) (fun _ k=>i - (intOf k).toNat)
  case atStart=>exact⟨0,Nat.zero_le _,rfl,by simp⟩
  case round=>
    obtain⟨j,hj,rfl,rfl⟩:=hrel
    have hle:b / 2 ^ j < 256:=Nat.lt_of_le_of_lt (Nat.div_le_self _ _) hb
    have H:=Lib.hid (Nat.div_div_eq_div_mul b (2 ^ j) 2)
    obtain⟨q,hq⟩:∃ q,b / 2 ^ j=q:=⟨_,rfl⟩
    rw [hq] at hle ⊢
    have HQ:=Lib.hid hq
    clear hq
    by_cases hlt:j < i
    · go_wp2
      go_round
      case rel=>exact⟨j+1,by omega,by go_num,by have h1:=H.out;have h2:=HQ.out;rw [h2] at h1;rw [Nat.pow_succ,← h1];rfl⟩
      case measure=>simp [intOf];omega
    · go_wp2
      go_ret
      refine⟨ret_bool ?_,rfl⟩
      have:j=i:=by omega
      subst this
      rw [bitN_eq,HQ.out]
theorem mod_step (n i:Nat):n % 2 ^ (i+1)=n % 2 ^ i+(if bitN n i then 2 ^ i else 0):=by
  unfold bitN
  rw [Nat.testBit_eq_decide_div_mod_eq,Nat.pow_succ,Nat.mod_mul]
  have h:n / 2 ^ i % 2=0∨n / 2 ^ i % 2=1:=by omega
  rcases h with h | h <;> simp [h]
def OfRel (S j:Nat) (A B:Int):Prop:=A=((S % 2 ^ j:Nat):Int)∧(j < 8→B=((2 ^ j:Nat):Int))
theorem OfRel.out_ {S j:Nat} {A B:Int} (h:OfRel S j A B) (hS:S < 256) (hj:j < 8):0≤A∧0≤B∧(bitN S j=true→A+B≤255)∧A≤255∧B≤128:=by
  obtain⟨rfl,hB⟩:=h
  rw [hB hj]
  have h1:=mod_step S j
  have h2:S % 2 ^ (j+1)≤S:=Nat.mod_le _ _
  have h3:S % 2 ^ j≤S:=Nat.mod_le _ _
  have h4:2 ^ j≤2 ^ 7:=Nat.pow_le_pow_right (by omega) (by omega)
  refine⟨by omega,by omega,fun hb=>?_,by omega,by omega⟩
  rw [hb,if_pos rfl] at h1
  omega
theorem OfRel.yes {S j:Nat} {A B B':Int} (h:OfRel S j A B) (hj:j < 8) (hb:bitN S j=true) (hB:j+1 < 8→B'=2 * B):OfRel S (j+1) (A+B) B':=by
  obtain⟨rfl,h2⟩:=h
  refine⟨?_,fun hj1=>?_⟩
  · rw [h2 hj,mod_step,hb,if_pos rfl]
    omega
  · rw [hB hj1,h2 hj,Nat.pow_succ]
    omega
theorem OfRel.no {S j:Nat} {A B B':Int} (h:OfRel S j A B) (hj:j < 8) (hb:bitN S j=false) (hB:j+1 < 8→B'=2 * B):OfRel S (j+1) A B':=by
  obtain⟨rfl,h2⟩:=h
  refine⟨?_,fun hj1=>?_⟩
  · rw [mod_step,hb]
    simp
  · rw [hB hj1,h2 hj,Nat.pow_succ]
    omega
theorem OfRel.dbl {S j:Nat} {A B:Int} (h:OfRel S j A B) (hj:j+1 < 8):2 * B≤255:=by
  rw [h.2 (by omega)]
  have h4:2 ^ j≤2 ^ 6:=Nat.pow_le_pow_right (by omega) (by omega)
  omega
def oddAt (s:ByteArray) (m j:Nat):Bool:=bitN (xorL (s.data.toList.take m)).toNat j
theorem oddAt_succ (s:ByteArray) (m j:Nat) (h:m < s.size):oddAt s (m+1) j=(oddAt s m j != bitN s[m].toNat j):=by
  unfold oddAt
  rw [take_snoc s m h,xorL_snoc,UInt8.toNat_xor,bitN_xor]
theorem oddAt_zero (s:ByteArray) (j:Nat):oddAt s 0 j=false:=by simp [oddAt,xorL,bitN]
theorem oddAt_end (s:ByteArray) (m j:Nat) (h:¬ m < s.size):oddAt s m j=bitN (xorL s.data.toList).toNat j:=by
  unfold oddAt
  rw [List.take_of_length_le (by simp;omega)]
set_option maxHeartbeats 1000000 in
theorem r07Of_any (s:ByteArray) (w:World) (hs:s.size≤1000000) :
    Calls Tryz.prog 75 #[.string s] w fun e w'=>e=.returned (.int .u8 (sumI s))∧w=w':=by
  obtain⟨S,hS,hSe⟩:∃ S:Nat,S < 256∧(xorL s.data.toList).toNat=S:=⟨_,(xorL s.data.toList).toNat_lt,rfl⟩
  have HS:=Lib.hid hSe
  clear hSe
  go_enter Tryz.func75,Tryz.ntmps75
  go_wp2
  go_loop [3,4,5,6,7] (fun out by' i _ _=>∃ (j:Nat) (A B:Int),j≤8∧i=.int .i64 j∧out=.int .u8 A∧by'=.int .u8 B∧OfRel S j A B) (fun _ _ i _ _=>8 - (intOf i).toNat)
  case atStart=>exact⟨0,0,1,Nat.zero_le _,rfl,rfl,rfl,by simp [Nat.mod_one],fun _=>rfl⟩
  case round=>
    obtain⟨j,A,B,hj,rfl,rfl,rfl,hr⟩:=hrel
    have HR:=Lib.hid hr
    clear hr
    by_cases hlt:j < 8
    · go_wp2
      go_loop [6,7] (fun odd k=>∃ m:Nat,m≤s.size∧k=.int .i64 m∧odd=.bool (oddAt s m j)) (fun _ k=>s.size - (intOf k).toNat)
      case atStart=>exact⟨0,Nat.zero_le _,rfl,by rw [oddAt_zero]⟩
      case round=>
        obtain⟨m,hm,rfl,rfl⟩:=hrel
        by_cases hmt:m < s.size
        · have hb:s[m].toNat < 256:=s[m].toNat_lt
          go_wp2_with fail
          refine (r07bit_any s[m].toNat j _ hb (by omega)).mono ?_
          rintro e w' ⟨rfl,rfl⟩
          go_wp2_with fail
          go_round
          case rel=>exact⟨m+1,by omega,by go_num,by rw [oddAt_succ s m j hmt];rfl⟩
          case measure=>simp [intOf];omega
        · rw [oddAt_end s m j hmt,HS.out]
          obtain⟨a0,b0,hsum,a1,b1⟩:=HR.out.out_ hS hlt
          cases hbit:bitN S j with
          | true=>
            have hs2:=hsum hbit
            have Hb:=Lib.hid hbit
            clear hbit hsum
            by_cases h7:j+1 < 8
            · have hd:=HR.out.dbl h7
              go_wp2_with fail
              go_round
              case rel=>exact⟨j+1,A+B,2 * B,by omega,by go_num,rfl,rfl,HR.out.yes hlt Hb.out fun _=>rfl⟩
              case measure=>simp [intOf];omega
            · go_wp2_with fail
              go_round
              case rel=>exact⟨j+1,A+B,_,by omega,by go_num,rfl,rfl,HR.out.yes hlt Hb.out fun h=>absurd h h7⟩
              case measure=>simp [intOf];omega
          | false=>
            have Hb:=Lib.hid hbit
            clear hbit hsum
            by_cases h7:j+1 < 8
            · have hd:=HR.out.dbl h7
              go_wp2_with fail
              go_round
              case rel=>exact⟨j+1,A,2 * B,by omega,by go_num,rfl,rfl,HR.out.no hlt Hb.out fun _=>rfl⟩
              case measure=>simp [intOf];omega
            · go_wp2_with fail
              go_round
              case rel=>exact⟨j+1,A,_,by omega,by go_num,rfl,rfl,HR.out.no hlt Hb.out fun h=>absurd h h7⟩
              case measure=>simp [intOf];omega
    · go_wp2
      go_ret
      refine⟨ret_u8 ?_,rfl⟩
      have e8:j=8:=by omega
      have h1:=HR.out.1
      rw [e8] at h1
      show A=sumI s
      unfold sumI
      rw [HS.out,h1,Nat.mod_eq_of_lt hS]
theorem hexL_dig (n:Int) (h0:0≤n) (h1:n≤255) :
    ((ByteArray.mk #[48,49,50,51,52,53,54,55,56,57,65,66,67,68,69,70]).extract (n / 16).toNat (n / 16+1).toNat ++
      (ByteArray.mk #[48,49,50,51,52,53,54,55,56,57,65,66,67,68,69,70]).extract (n % 16).toNat (n % 16+1).toNat)=⟨(hexL n).toArray⟩:=by
  obtain⟨k,rfl⟩:=Int.eq_ofNat_of_zero_le h0
  have h:∀ k:Fin 256,((ByteArray.mk #[48,49,50,51,52,53,54,55,56,57,65,66,67,68,69,70]).extract (((k.val:Nat):Int) / 16).toNat (((k.val:Nat):Int) / 16+1).toNat ++
      (ByteArray.mk #[48,49,50,51,52,53,54,55,56,57,65,66,67,68,69,70]).extract (((k.val:Nat):Int) % 16).toNat (((k.val:Nat):Int) % 16+1).toNat)=⟨(hexL ((k.val:Nat):Int)).toArray⟩:=by decide +kernel
  exact h ⟨k,by omega⟩
set_option maxHeartbeats 400000 in
theorem r07Hex_any (n:Int) (w:World) (h0:0≤n) (h1:n≤255) :
    Calls Tryz.prog 167 #[.int .u8 n] w fun e w'=>e=.returned (.string ⟨(hexL n).toArray⟩)∧Below w.heap.size w w':=by
  have hd:=Lib.hid (hexL_dig n h0 h1)
  go_enter Tryz.func167,Tryz.ntmps167
  go_wp2_with fail
  go_quiet (fail)
  go_wp2_with fail
  go_ret
  exact⟨ret_str hd.out,bdrewN (Below.refl _ _) _⟩
set_option maxHeartbeats 400000 in
theorem r07Seal_any (s:ByteArray) (w:World) (hs:s.size≤1000000) :
    Calls Tryz.prog 94 #[.string s] w fun e w'=>e=.returned (.string (sealB s))∧Below w.heap.size w w':=by
  have hl:(hexL (sumI s)).length=2:=rfl
  obtain⟨b0,b1⟩:=sumI_bd s
  go_enter Tryz.func94,Tryz.ntmps94
  go_wp2_with fail
  refine (r07Of_any s _ hs).mono ?_
  rintro e w' ⟨rfl,rfl⟩
  go_wp2_with fail
  refine (r07Hex_any (sumI s) _ b0 b1).mono ?_
  rintro e w' ⟨rfl,hb⟩
  go_wp2
  go_ret
  exact⟨rfl,hb⟩
set_option maxHeartbeats 1000000 in
theorem r22Letters_any (s:ByteArray) (w:World) (hm:s.size≤1000000) :
    Calls Tryz.prog 93 #[.string s] w fun e w'=>e=.returned (.bool (allB fieldP s))∧w=w':=by
  go_enter Tryz.func93,Tryz.ntmps93
  go_wp2
  go_loop [3] (fun i=>∃ k:Nat,k≤s.size∧i=.int .i64 k∧Hid (∀ j (hj:j < s.size),j < k→fieldP ((s[j]'hj).toNat:Int)=true)) (fun i=>s.size - (intOf i).toNat)
  case atStart=>exact⟨0,Nat.zero_le _,rfl,fun j _ h=>absurd h (Nat.not_lt_zero _)⟩
  case round=>
    obtain⟨k,hk,rfl,hall⟩:=hrel
    by_cases hlt:k < s.size
    · cases hc:letterP (s[k].toNat:Int) with
      | false=>
        have HN:=Lib.hid (allB_no (p:=fieldP) hlt (by simp [fieldP,hc]))
        have HC:=Lib.hid hc
        clear hc
        go_wp2_with fail
        refine (r22letter_any _ _).mono ?_
        rintro e w' ⟨rfl,rfl⟩
        rw [HC.out]
        go_wp2_with fail
        go_ret
        exact⟨by rw [HN.out];rfl,rfl⟩
      | true=>
        by_cases h44:(s[k].toNat:Int)=44
        · have HN:=Lib.hid (allB_no (p:=fieldP) hlt (by simp [fieldP,h44]))
          have HC:=Lib.hid hc
          have hb:((s[k].toNat:Int)==44)=true:=by rw [beq_iff_eq];exact h44
          clear hc h44
          go_wp2_with fail
          refine (r22letter_any _ _).mono ?_
          rintro e w' ⟨rfl,rfl⟩
          rw [HC.out]
          go_wp2_with fail
          go_ret
          exact⟨by rw [HN.out];rfl,rfl⟩
        · have HY:Hid (fieldP (s[k].toNat:Int)=true):=by
            show fieldP (s[k].toNat:Int)=true
            unfold fieldP
            rw [hc]
            simpa using h44
          have HC:=Lib.hid hc
          have hb:((s[k].toNat:Int)==44)=false:=by rw [beq_eq_false_iff_ne];exact h44
          clear hc h44
          go_wp2_with fail
          refine (r22letter_any _ _).mono ?_
          rintro e w' ⟨rfl,rfl⟩
          rw [HC.out]
          go_wp2_with fail
          go_round
          case rel=>
            refine⟨k+1,by omega,by go_num,fun j hj hjk=>?_⟩
            rcases Nat.lt_or_ge j k with h | h
            · exact hall.out j hj h
            · obtain rfl:j=k:=by omega
              exact HY.out
          case measure=>simp [intOf];omega
    · have HY:=Lib.hid (allB_yes (p:=fieldP) (s:=s) (fun j hj=>hall.out j hj (by omega)))
      go_wp2_with fail
      go_ret
      exact⟨by rw [HY.out];rfl,rfl⟩
set_option maxHeartbeats 1000000 in
theorem r22Signs_any (s:ByteArray) (n:Nat) (w:World) (hm:s.size≤1000000) :
    Calls Tryz.prog 73 #[.string s,.int .i64 (n:Int)] w fun e w'=>e=.returned (.bool (signsP s n))∧w=w':=by
  go_enter Tryz.func73,Tryz.ntmps73
  go_wp2
  go_loop [5] (fun i=>∃ k:Nat,k≤s.size∧i=.int .i64 k∧Hid (∀ j (hj:j < s.size),j < k→signP ((s[j]'hj).toNat:Int)=true)) (fun i=>s.size - (intOf i).toNat)
  case atStart=>exact⟨0,Nat.zero_le _,rfl,fun j _ h=>absurd h (Nat.not_lt_zero _)⟩
  case round=>
    obtain⟨k,hk,rfl,hall⟩:=hrel
    by_cases hlt:k < s.size
    · cases hc:signP (s[k].toNat:Int) with
      | false=>
        have HN:Hid (signsP s n=false):=by
          show signsP s n=false
          unfold signsP
          rw [allB_no (p:=signP) hlt hc]
          simp
        have h':(s[k].toNat:Int) < 48∨57 < (s[k].toNat:Int)∧(s[k].toNat:Int) < 65∨90 < (s[k].toNat:Int):=by
          have:¬ (65≤(s[k].toNat:Int)∧(s[k].toNat:Int)≤90∨48≤(s[k].toNat:Int)∧(s[k].toNat:Int)≤57):=by
            intro h
            have:signP (s[k].toNat:Int)=true:=by unfold signP;exact decide_eq_true h
            rw [hc] at this
            cases this
          omega
        clear hc
        rcases h' with h | ⟨h,h1⟩ | h
        · go_wp2_with fail
          go_ret
          exact⟨by rw [HN.out];rfl,rfl⟩
        · have d1:decide ((s[k].toNat:Int)≤57)=false:=by simp;omega
          go_wp2_with fail
          go_ret
          exact⟨by rw [HN.out];rfl,rfl⟩
        · have d1:decide ((s[k].toNat:Int)≤57)=false:=by simp;omega
          have d2:decide ((s[k].toNat:Int)≤90)=false:=by simp;omega
          go_wp2_with fail
          go_ret
          exact⟨by rw [HN.out];rfl,rfl⟩
      | true=>
        have HY:=Lib.hid hc
        have h':65≤(s[k].toNat:Int)∧(s[k].toNat:Int)≤90∨48≤(s[k].toNat:Int)∧(s[k].toNat:Int)≤57:=by
          unfold signP at hc
          exact of_decide_eq_true hc
        clear hc
        rcases h' with ⟨h0,h1⟩ | ⟨h0,h1⟩
        all_goals
          go_wp2_with fail
          go_round
          case rel=>
            refine⟨k+1,by omega,by go_num,fun j hj hjk=>?_⟩
            rcases Nat.lt_or_ge j k with h | h
            · exact hall.out j hj h
            · obtain rfl:j=k:=by omega
              exact HY.out
          case measure=>simp [intOf];omega
    · have hY:=allB_yes (p:=signP) (s:=s) (fun j hj=>hall.out j hj (by omega))
      by_cases hn:s.size=n
      · have HY:Hid (signsP s n=true):=by show signsP s n=true;simp [signsP,hn,hY]
        have hb:((s.size:Int)==(n:Int))=true:=by rw [beq_iff_eq];omega
        clear hn hY
        go_wp2_with fail
        go_ret
        exact⟨by rw [HY.out];rfl,rfl⟩
      · have HY:Hid (signsP s n=false):=by show signsP s n=false;simp [signsP,hn]
        have hb:((s.size:Int)==(n:Int))=false:=by rw [beq_eq_false_iff_ne];omega
        clear hn hY
        go_wp2_with fail
        go_ret
        exact⟨by rw [HY.out];rfl,rfl⟩
def stepR (p:Nat×List UInt8) (f:ByteArray):Nat×List UInt8:=
  if min (p.1+1+min f.size 100) 1000≤100 then (min (p.1+1+min f.size 100) 1000,p.2++(44 :: f.data.toList)) else (min (p.1+1+min f.size 100) 1000,p.2)
def stR (t y:ByteArray) (fs:List ByteArray):Nat×List UInt8:=fs.foldl stepR (10,t.data.toList++y.data.toList)
theorem stR_snoc (t y:ByteArray) (fs:List ByteArray) (f:ByteArray):stR t y (fs++[f])=stepR (stR t y fs) f:=by simp [stR]
theorem stR_inv (t y:ByteArray) (h5:t.size+y.size=5) (fs:List ByteArray) :
    ((stR t y fs).1≤100∧(stR t y fs).2=bodyL22 t y fs∧(stR t y fs).1=(bodyL22 t y fs).length+5∨100 < (stR t y fs).1∧95 < (bodyL22 t y fs).length)∧(stR t y fs).1≤1000∧(stR t y fs).2.length≤95:=by
  obtain⟨gs,hg⟩:∃ gs,fs=gs.reverse:=⟨fs.reverse,by simp⟩
  subst hg
  induction gs with
  | nil=>
    have:(bodyL22 t y []).length=5:=by simp [bodyL22];omega
    have h2:t.data.toList.length=t.size:=by simp
    have h3:y.data.toList.length=y.size:=by simp
    refine⟨.inl ⟨by simp [stR],by simp [stR,bodyL22],by simp [stR];omega⟩,by simp [stR],?_⟩
    show (t.data.toList++y.data.toList).length≤95
    rw [List.length_append]
    omega
  | cons f gs ih=>
    rw [List.reverse_cons,stR_snoc,bodyL_snoc,List.length_append,List.length_cons]
    have hf:f.data.toList.length=f.size:=by simp
    rw [hf]
    obtain⟨h1,h2,h3⟩:=ih
    obtain⟨L,hL⟩:∃ L,L=(stR t y gs.reverse).1:=⟨_,rfl⟩
    obtain⟨B,hB⟩:∃ B,B=(stR t y gs.reverse).2:=⟨_,rfl⟩
    rw [← hL,← hB] at h1
    rw [← hL] at h2
    rw [← hB] at h3
    unfold stepR
    rw [← hL,← hB]
    by_cases hc:min (L+1+min f.size 100) 1000≤100
    · rw [if_pos hc]
      rcases h1 with ⟨a,b,c⟩ | ⟨a,b⟩
      · refine⟨.inl ⟨hc,by rw [b],?_⟩,by show min _ _≤1000;omega,?_⟩
        · show min (L+1+min f.size 100) 1000=_
          omega
        · show (B++(44 :: f.data.toList)).length≤95
          rw [List.length_append,List.length_cons,hf,b]
          omega
      · omega
    · rw [if_neg hc]
      refine⟨.inr ⟨by show 100 < min _ _;omega,?_⟩,by show min _ _≤1000;omega,h3⟩
      rcases h1 with ⟨a,b,c⟩ | ⟨a,b⟩
      · omega
      · omega
theorem stR_end (t y:ByteArray) (fs:List ByteArray) (h5:t.size+y.size=5) :
    (82 < (textS t y fs).size↔81 < (stR t y fs).1∨76 < (stR t y fs).2.length)∧(¬ 82 < (textS t y fs).size→(stR t y fs).2=bodyL22 t y fs):=by
  have hz:=textS_size t y fs
  obtain⟨h1,h2,h3⟩:=stR_inv t y h5 fs
  rw [hz]
  rcases h1 with ⟨a,b,c⟩ | ⟨a,b⟩
  · rw [b]
    exact⟨by omega,fun _=>rfl⟩
  · exact⟨by omega,fun h=>by omega⟩
theorem min_if (L z:Nat):(if (1000:Int) < (L:Int)+1+(if (100:Int) < (z:Int) then 100 else (z:Int)) then 1000 else (L:Int)+1+(if (100:Int) < (z:Int) then 100 else (z:Int)))=((min (L+1+min z 100) 1000:Nat):Int):=by
  split <;> split <;> omega
theorem sealB_len (S:ByteArray):(sealB S).size=S.size+3:=by
  unfold sealB
  simp only [ByteArray.size_append]
  rfl
set_option maxHeartbeats 1000000 in
theorem r22Put_t (t y:ByteArray) (A:Option Addr) (n c:Nat) (w:World) (ht:t.size≤1000000) (h:Hid (signsP t 2=false)) :
    Calls Tryz.prog 41 #[.agg #[.string t,.string y,.slice A n c]] w fun e w'=>e=.returned (.tuple #[.string ByteArray.empty,.int .i64 1])∧Below w.heap.size w w':=by
  go_enter Tryz.func41,Tryz.ntmps41
  go_wp2_with fail
  refine (r22Signs_any t 2 _ ht).mono ?_
  rintro e w1 ⟨rfl,rfl⟩
  rw [h.out]
  go_wp2_with fail
  go_ret2
  exact⟨rfl,below_new _ _⟩
set_option maxHeartbeats 1000000 in
theorem r22Put_y (t y:ByteArray) (A:Option Addr) (n c:Nat) (w:World) (ht:t.size≤1000000) (hy:y.size≤1000000) (h:Hid (signsP t 2=true)) (h2:Hid (signsP y 3=false)) :
    Calls Tryz.prog 41 #[.agg #[.string t,.string y,.slice A n c]] w fun e w'=>e=.returned (.tuple #[.string ByteArray.empty,.int .i64 1])∧Below w.heap.size w w':=by
  go_enter Tryz.func41,Tryz.ntmps41
  go_wp2_with fail
  refine (r22Signs_any t 2 _ ht).mono ?_
  rintro e w1 ⟨rfl,rfl⟩
  rw [h.out]
  go_wp2_with fail
  refine (r22Signs_any y 3 _ hy).mono ?_
  rintro e w1 ⟨rfl,rfl⟩
  rw [h2.out]
  go_wp2_with fail
  go_ret2
  exact⟨rfl,below_new _ _⟩
set_option maxHeartbeats 2000000 in
theorem r22Put_loop (t y:ByteArray) (fs:List ByteArray) (A:Option Addr) (n c:Nat) (w:World) (hn:Hid (n=fs.length)) (hn1:n≤1000) (hfsz:Hid (∀ f∈fs,f.size≤100000))
    (hs:Hid (Strs w w.heap.size A fs)) (h:Hid (signsP t 2=true)) (h2:Hid (signsP y 3=true)) (ht:t.size≤2) (hy:y.size≤3) (h5:Hid (t.size+y.size=5)) :
    Calls Tryz.prog 41 #[.agg #[.string t,.string y,.slice A n c]] w (PutPost22 t y fs w):=by
  go_enter Tryz.func41,Tryz.ntmps41
  go_wp2_with fail
  refine (r22Signs_any t 2 _ (by omega)).mono ?_
  rintro e w1 ⟨rfl,rfl⟩
  rw [h.out]
  go_wp2_with fail
  refine (r22Signs_any y 3 _ (by omega)).mono ?_
  rintro e w1 ⟨rfl,rfl⟩
  rw [h2.out]
  have hst0:Hid (stR t y (fs.take 0)=(10,t.data.toList++y.data.toList)):=rfl
  go_wp2_with fail
  go_loop [4,5,6] (fun body long i=>∃ k:Nat,k≤n∧i=.int .i64 k∧long=.int .i64 ((stR t y (fs.take k)).1:Int)∧body=.string ⟨(stR t y (fs.take k)).2.toArray⟩ ∧
      Hid (∀ j (hj:j < fs.length),j < k→allB fieldP (fs[j]'hj)=true)) (fun _ _ i=>n - (intOf i).toNat)
  case atStart=>
    refine⟨0,Nat.zero_le _,rfl,by rw [hst0.out];rfl,?_,fun j _ h=>absurd h (Nat.not_lt_zero _)⟩
    rw [hst0.out]
    obtain⟨⟨lt⟩⟩:=t
    obtain⟨⟨ly⟩⟩:=y
    exact congrArg Value.string (ByteArray.mk_append_mk lt ly)
  case round=>
    obtain⟨k,hk,rfl,rfl,rfl,hall⟩:=hrel
    obtain⟨hi1,hi2,hi3⟩:=stR_inv t y h5.out (fs.take k)
    have HI:=Lib.hid hi1
    clear hi1
    by_cases hlt:k < n
    · have hkf:k < fs.length:=by rw [← hn.out];exact hlt
      obtain⟨ab,ao,hA,hab,hc⟩:=hs.out k hkf
      subst hA
      have hfz:=hfsz.out fs[k] (List.getElem_mem hkf)
      have HS:Hid (stR t y (fs.take (k+1))=stepR (stR t y (fs.take k)) fs[k]):=by show _=_;rw [List.take_succ_eq_append_getElem hkf,stR_snoc]
      obtain⟨f,hf⟩:∃ f,f=fs[k]:=⟨_,rfl⟩
      rw [← hf] at hc hfz HS
      obtain⟨L,hL⟩:∃ L,L=(stR t y (fs.take k)).1:=⟨_,rfl⟩
      obtain⟨B,hB⟩:∃ B,B=(stR t y (fs.take k)).2:=⟨_,rfl⟩
      have HS2:Hid (stR t y (fs.take (k+1))=stepR (L,B) f):=by rw [hL,hB];exact HS.out
      rw [← hL] at hi2 ⊢
      rw [← hB] at hi3 ⊢
      clear hL hB HS HI
      cases hfp:allB fieldP f with
      | false=>
        have HN:=Lib.hid (putS_f (t:=t) (y:=y) k hkf (by rw [← hf];exact hfp))
        have HF:=Lib.hid hfp
        clear hfp hf
        go_wp2_with fail
        refine (r22Letters_any f _ (by omega)).mono ?_
        rintro e w4 ⟨rfl,rfl⟩
        rw [HF.out]
        go_wp2_with fail
        go_ret2
        exact⟨by rw [HN.out];rfl,below_new _ _⟩
      | true=>
        have HF:=Lib.hid hfp
        have HFK:=Lib.hid hf
        clear hfp hf
        have hall':Hid (∀ j (hj:j < fs.length),j < k+1→allB fieldP (fs[j]'hj)=true):=by
          intro j hj hjk
          rcases Nat.lt_or_ge j k with h | h
          · exact hall.out j hj h
          · obtain rfl:j=k:=by omega
            rw [← HFK.out]
            exact HF.out
        obtain⟨M,hM⟩:∃ M,M=min (L+1+min f.size 100) 1000:=⟨_,rfl⟩
        have eM:=min_if L f.size
        rw [← hM] at eM
        have HM:=Lib.hid hM
        clear hM
        by_cases hM1:M≤100
        · have HS3:Hid (stR t y (fs.take (k+1))=(M,B++(44 :: f.data.toList))):=by
            show _=_
            rw [HS2.out]
            unfold stepR
            rw [← HM.out,if_pos hM1]
          go_wp2_with fail
          refine (r22Letters_any f _ (by omega)).mono ?_
          rintro e w4 ⟨rfl,rfl⟩
          rw [HF.out]
          go_wp2_with fail
          go_round
          case rel=>
            refine⟨k+1,by omega,by go_num,?_,?_,hall'⟩
            · rw [HS3.out]
              have hm:=HM.out
              exact congrArg (Value.int IntKind.i64) (by show _=((M:Nat):Int);omega)
            rw [HS3.out]
            obtain⟨⟨lf⟩⟩:=f
            refine congrArg Value.string ?_
            apply ByteArray.ext
            simp [ByteArray.data_append]
          case measure=>simp [intOf];omega
        · have HS3:Hid (stR t y (fs.take (k+1))=(M,B)):=by
            show _=_
            rw [HS2.out]
            unfold stepR
            rw [← HM.out,if_neg hM1]
          go_wp2_with fail
          refine (r22Letters_any f _ (by omega)).mono ?_
          rintro e w4 ⟨rfl,rfl⟩
          rw [HF.out]
          go_wp2_with fail
          go_round
          case rel=>exact⟨k+1,by omega,by go_num,by rw [HS3.out],by rw [HS3.out],hall'⟩
          case measure=>simp [intOf];omega
    · have hkn:k=fs.length:=by have:=hn.out;omega
      have hall':∀ j (hj:j < fs.length),allB fieldP (fs[j]'hj)=true:=fun j hj=>hall.out j hj (by omega)
      have HP:=Lib.hid (putS_ok h.out h2.out hall')
      have e1:fs.take k=fs:=List.take_of_length_le (by omega)
      obtain⟨hE1,hE2⟩:=stR_end t y fs h5.out
      rw [e1] at hi2 hi3 ⊢
      clear hkn hall' hall e1 HI
      have HE2:=Lib.hid hE2
      clear hE2
      obtain⟨L,hL⟩:∃ L,L=(stR t y fs).1:=⟨_,rfl⟩
      obtain⟨B,hB⟩:∃ B,B=(stR t y fs).2:=⟨_,rfl⟩
      rw [← hL] at hi2 hE1 ⊢
      have hE3:Hid (¬ 82 < (textS t y fs).size→B=bodyL22 t y fs):=by rw [hB];exact HE2.out
      rw [← hB] at hi3 hE1 ⊢
      clear hL hB HE2
      have HE1:=Lib.hid hE1
      clear hE1
      by_cases hL1:81 < L
      · have HP2:Hid (putS t y fs=(ByteArray.empty,7)):=by rw [HP.out,if_pos (HE1.out.2 (.inl hL1))];exact rfl
        go_wp2_with fail
        go_ret2
        exact⟨by rw [HP2.out];rfl,below_new _ _⟩
      · by_cases hB1:76 < B.length
        · have HP2:Hid (putS t y fs=(ByteArray.empty,7)):=by rw [HP.out,if_pos (HE1.out.2 (.inr hB1))];exact rfl
          go_wp2_with fail
          go_ret2
          exact⟨by rw [HP2.out];rfl,below_new _ _⟩
        · have hno:¬ 82 < (textS t y fs).size:=fun h=>(HE1.out.1 h).elim hL1 hB1
          have HP2:Hid (putS t y fs=(textS t y fs,0)):=by rw [HP.out,if_neg hno];exact rfl
          have HB:=Lib.hid (hE3.out hno)
          clear hno hE3
          obtain⟨S,hS⟩:∃ S:ByteArray,S=⟨B.toArray⟩:=⟨_,rfl⟩
          have hSz:S.size≤100:=by rw [hS];show B.toArray.size≤_;simp;omega
          have HSS:=Lib.hid hS
          have hT:Hid (textS t y fs=⟨#[36]⟩++sealB S++⟨#[13,10]⟩):=by unfold textS;rw [hS,HB.out];exact rfl
          have hszT:=sealB_len S
          clear hS
          go_wp2_with fail
          rw [← HSS.out]
          refine (r07Seal_any S _ (by omega)).mono ?_
          rintro e w5 ⟨rfl,hb5⟩
          obtain⟨Q,hQ⟩:∃ Q,Q=sealB S:=⟨_,rfl⟩
          rw [← hQ] at hszT hT ⊢
          clear hQ
          have hq0:Q.size≤S.size+3:=by omega
          clear hszT
          go_wp2_with fail
          go_ret2
          exact⟨by rw [HP2.out,hT.out];rfl,bthen (below_new _ _) hb5⟩
theorem r22Put_any (t y:ByteArray) (fs:List ByteArray) (A:Option Addr) (c:Nat) (w:World) (hn1:fs.length≤1000) (hfsz:∀ f∈fs,f.size≤100000) (ht:t.size≤1000000) (hy:y.size≤1000000)
    (hs:Strs w w.heap.size A fs):Calls Tryz.prog 41 #[.agg #[.string t,.string y,.slice A fs.length c]] w (PutPost22 t y fs w):=by
  cases h1:signsP t 2 with
  | false=>
    unfold PutPost22
    rw [putS_t h1]
    exact r22Put_t t y A _ c w ht h1
  | true=>
    cases h2:signsP y 3 with
    | false=>
      unfold PutPost22
      rw [putS_y h2]
      exact r22Put_y t y A _ c w ht hy h1 h2
    | true=>
      have ht':=signsP_size h1
      have hy':=signsP_size h2
      exact r22Put_loop t y fs A _ c w rfl hn1 hfsz hs h1 h2 (by omega) (by omega) (by show _=_;omega)
theorem unhex_hexL (n:Int) (h0:0≤n) (h1:n≤255):unhexL (hexL n)=some n:=by
  obtain⟨k,rfl⟩:=Int.eq_ofNat_of_zero_le h0
  have h:∀ k:Fin 256,unhexL (hexL ((k.val:Nat):Int))=some ((k.val:Nat):Int):=by decide +kernel
  exact h ⟨k,by omega⟩
theorem openB_form (p:List UInt8) (x y:UInt8) :
    openB ⟨(p++[42,x,y]).toArray⟩=if unhexL [x,y]=some ((xorL p).toNat:Int) then some ⟨p.toArray⟩ else none:=by
  have hs:(ByteArray.mk (p++[42,x,y]).toArray).size=p.length+3:=by
    show (p++[42,x,y]).toArray.size=_
    simp
  have he:(ByteArray.mk (p++[42,x,y]).toArray).extract 0 p.length=⟨p.toArray⟩:=by
    rw [ByteArray.extract_mk]
    simp
  have hf:(ByteArray.mk (p++[42,x,y]).toArray).extract (p.length+1) (p.length+3)=⟨[x,y].toArray⟩:=by
    rw [ByteArray.extract_mk]
    simp [List.drop_append,List.drop_eq_nil_of_le]
  have h42:(ByteArray.mk (p++[42,x,y]).toArray).data.toList[p.length]?=some 42:=by simp
  unfold openB
  rw [hs,if_neg (by omega),show p.length+3 - 3=p.length from by omega,he,hf]
  have hsum:sumI ⟨p.toArray⟩=((xorL p).toNat:Int):=by simp [sumI]
  rw [hsum]
  by_cases hu:unhexL [x,y]=some ((xorL p).toNat:Int)
  · rw [if_pos ⟨h42,hu⟩,if_pos hu]
  · rw [if_neg (fun h=>hu h.2),if_neg hu]
theorem sealB_form (s:ByteArray):sealB s=⟨(s.data.toList++[42,UInt8.ofNat (dg (sumI s / 16)).toNat,UInt8.ofNat (dg (sumI s % 16)).toNat]).toArray⟩:=by
  obtain⟨⟨l⟩⟩:=s
  unfold sealB hexL
  apply ByteArray.ext
  simp [ByteArray.data_append]
end Go.Proofs.YtoabkoniegmkaaaGreat
