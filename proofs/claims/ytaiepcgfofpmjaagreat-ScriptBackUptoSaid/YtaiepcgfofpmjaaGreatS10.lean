/- Contracts of package parity (program): Of, digit, Hex, value, Unhex, Seal, Open. -/
import Derived.Test.YtaiepcgfofpmjaaGreatProg
import Derived.Test.YtaiepcgfofpmjaaGreatS00
import Derived.Test.YtaiepcgfofpmjaaGreatS09
namespace Go.Proofs.YtaiepcgfofpmjaaGreat
set_option linter.unusedVariables false
open Go.RowKit
def dg (n:Int):Int:=if n < 10 then 48+n else 55+n
theorem digit_any (n:Int) (w:World) (h0:0≤n) (h1:n≤15) :
    Calls Tryz.prog 130 #[.int .u8 n] w fun e w'=>e=.returned (.int .u8 (dg n))∧w=w':=by
  by_cases h:n < 10
  · have hd:dg n=48+n:=by simp [dg,h]
    rw [hd]
    clear hd
    go_enter Tryz.func130,Tryz.ntmps130
    go_wp2
    go_ret
    exact⟨rfl,rfl⟩
  · have hd:dg n=65+n - 10:=by simp [dg,h];omega
    rw [hd]
    clear hd
    go_enter Tryz.func130,Tryz.ntmps130
    go_wp2
    go_ret
    exact⟨rfl,rfl⟩
def hexL (n:Int):List UInt8:=[UInt8.ofNat (dg (n / 16)).toNat,UInt8.ofNat (dg (n % 16)).toNat]
set_option maxHeartbeats 400000 in
theorem Hex_any (n:Int) (w:World) (h0:0≤n) (h1:n≤255) :
    Calls Tryz.prog 96 #[.int .u8 n] w fun e w'=>e=.returned (.string ⟨(hexL n).toArray⟩)∧Below w.heap.size w w':=by
  have kc:=run_conv2 (P:=Tryz.prog) 22 9 5 Tryz.underlying22 Tryz.underlying5 Tryz.underlying9
  go_enter Tryz.func96,Tryz.ntmps96
  go_wp2_with fail
  refine (digit_any (n / 16) _ (by omega) (by omega)).mono ?_
  rintro e w' ⟨rfl,rfl⟩
  go_wp2_with fail
  refine (digit_any (n % 16) _ (by omega) (by omega)).mono ?_
  rintro e w' ⟨rfl,rfl⟩
  go_wp2
  go_ret
  exact⟨rfl,(Below.refl _ _).alloc (Nat.le_refl _) _⟩
def valR (c:Int):Int:=if c≤57 then c - 48 else if c≤70 then c - 55 else c - 87
def isR (c:Int):Bool:=decide (48≤c∧c≤57∨65≤c∧c≤70∨97≤c∧c≤102)
theorem value_yes (c:Int) (w:World) (h:isR c=true) :
    Calls Tryz.prog 129 #[.int .i32 c] w fun e w'=>e=.returned (.tuple #[.int .u8 (valR c),.bool true])∧w=w':=by
  have h':48≤c∧c≤57∨65≤c∧c≤70∨97≤c∧c≤102:=by simpa [isR] using h
  clear h
  rcases h' with ⟨h0,h1⟩ | ⟨h0,h1⟩ | ⟨h0,h1⟩
  · have hd:valR c=c - 48:=by simp [valR,h1]
    rw [hd]
    clear hd
    go_enter Tryz.func129,Tryz.ntmps129
    go_wp2
    go_ret2
    exact⟨rfl,rfl⟩
  · have hd:valR c=c - 65+10:=by unfold valR;split <;> omega
    rw [hd]
    clear hd
    go_enter Tryz.func129,Tryz.ntmps129
    go_wp2
    go_ret2
    exact⟨rfl,rfl⟩
  · have hd:valR c=c - 97+10:=by unfold valR;split;omega;split <;> omega
    rw [hd]
    clear hd
    go_enter Tryz.func129,Tryz.ntmps129
    go_wp2
    go_ret2
    exact⟨rfl,rfl⟩
theorem value_no (c:Int) (w:World) (h:isR c=false) :
    Calls Tryz.prog 129 #[.int .i32 c] w fun e w'=>e=.returned (.tuple #[.int .u8 0,.bool false])∧w=w':=by
  have h':¬ (48≤c∧c≤57∨65≤c∧c≤70∨97≤c∧c≤102):=by simpa [isR] using h
  clear h
  have h2:c < 48∨57 < c∧c < 65∨70 < c∧c < 97∨102 < c:=by omega
  clear h'
  rcases h2 with h0 | ⟨h0,h1⟩ | ⟨h0,h1⟩ | h0
  all_goals
    go_enter Tryz.func129,Tryz.ntmps129
    go_wp2
    go_ret2
    exact⟨rfl,rfl⟩
theorem isR_decode (s:ByteArray) (pos:Nat) (h:pos < s.size):isR ((Utf8.decode s pos).1:Int)=isR (s[pos].toNat:Int):=by
  by_cases ha:s[pos].toNat < 128
  · rw [decode_ascii s pos h ha]
  · have hd:=(decode_high s pos h (by omega)).1
    have e1:isR ((Utf8.decode s pos).1:Int)=false:=by simp [isR];omega
    have e2:isR (s[pos].toNat:Int)=false:=by simp [isR];omega
    rw [e1,e2]
theorem decode_isR (s:ByteArray) (pos:Nat) (h:pos < s.size) (hr:isR (s[pos].toNat:Int)=true):Utf8.decode s pos=(s[pos].toNat,1):=by
  have:48≤(s[pos].toNat:Int)∧(s[pos].toNat:Int)≤57∨65≤(s[pos].toNat:Int)∧(s[pos].toNat:Int)≤70∨97≤(s[pos].toNat:Int)∧(s[pos].toNat:Int)≤102:=by simpa [isR] using hr
  exact decode_ascii s pos h (by omega)
def unhexL:List UInt8→Option Int
  | [a,b]=>if isR (a.toNat:Int) && isR (b.toNat:Int) then some (16 * valR (a.toNat:Int)+valR (b.toNat:Int)) else none
  | _=>none
theorem unhexL_len {l:List UInt8} (h:l.length≠2):unhexL l=none:=by
  unfold unhexL
  split
  · simp at h
  · rfl
theorem Unhex_len (s:ByteArray) (w:World) (h:s.size≠2) :
    Calls Tryz.prog 95 #[.string s] w fun e w'=>e=.returned (.tuple #[.int .u8 0,.bool false])∧w=w':=by
  have hb:((s.size:Int) != 2)=true:=by rw [bne_iff_ne];omega
  go_enter Tryz.func95,Tryz.ntmps95
  go_wp2
  go_ret2
  exact⟨rfl,rfl⟩
theorem or_digits16 (a b:Int) (ha0:0≤a) (ha:a < 16) (hb0:0≤b) (hb:b < 16):bits BinOp.or IntKind.u8 (a * 16) b=16 * a+b:=by
  obtain⟨x,rfl⟩:=Int.eq_ofNat_of_zero_le ha0
  obtain⟨y,rfl⟩:=Int.eq_ofNat_of_zero_le hb0
  have h:∀ x y:Fin 16,bits BinOp.or IntKind.u8 (((x.val:Nat):Int) * 16) ((y.val:Nat):Int)=16 * ((x.val:Nat):Int)+((y.val:Nat):Int):=by decide +kernel
  exact h ⟨x,by omega⟩ ⟨y,by omega⟩
theorem or_digit0 (b:Int) (hb0:0≤b) (hb:b < 16):bits BinOp.or IntKind.u8 0 b=b:=by
  have:=or_digits16 0 b (by omega) (by omega) hb0 hb
  simpa using this
theorem valR_bd (c:Int) (h:isR c=true):0≤valR c∧valR c < 16:=by
  have h':48≤c∧c≤57∨65≤c∧c≤70∨97≤c∧c≤102:=by simpa [isR] using h
  unfold valR
  split
  · omega
  · split <;> omega
set_option maxHeartbeats 400000 in
theorem Unhex_core (s:ByteArray) (x0 x1:Int) (w:World) (hb:((s.size:Int) != 2)=false) (h0:Hid (isR x0=true)) (h1:Hid (isR x1=true))
    (n0:∀ ty,(Instr.next (.pointer (some ⟨w.heap.size,0,none⟩)) true ty).run Tryz.prog (w.iter s 0)=.ok (.tuple #[.bool true,.int .i64 0,.int .i32 x0]) (w.iter s 1))
    (n1:∀ ty,(Instr.next (.pointer (some ⟨w.heap.size,0,none⟩)) true ty).run Tryz.prog (w.iter s 1)=.ok (.tuple #[.bool true,.int .i64 1,.int .i32 x1]) (w.iter s 2))
    (n2:∀ ty,(Instr.next (.pointer (some ⟨w.heap.size,0,none⟩)) true ty).run Tryz.prog (w.iter s 2)=.ok (.tuple #[.bool false]) (w.iter s 2)) :
    Calls Tryz.prog 95 #[.string s] w fun e w'=>e=.returned (.tuple #[.int .u8 (16 * valR x0+valR x1),.bool true])∧Below w.heap.size w w':=by
  obtain⟨v00,v01⟩:=valR_bd _ h0.out
  obtain⟨v10,v11⟩:=valR_bd _ h1.out
  have o0:=or_digit0 (valR x0) v00 v01
  have o1:=or_digits16 _ _ v00 v01 v10 v11
  go_enter Tryz.func95,Tryz.ntmps95
  go_wp2_with fail
  refine wp_loop_rounds 3 ?_
  rw [rounds_succ]
  go_wp2_with fail
  refine (value_yes x0 _ h0.out).mono ?_
  rintro e w' ⟨rfl,rfl⟩
  go_wp2_with fail
  rw [rounds_succ]
  go_wp2_with fail
  refine (value_yes x1 _ h1.out).mono ?_
  rintro e w' ⟨rfl,rfl⟩
  go_wp2_with fail
  rw [rounds_succ]
  go_wp2_with fail
  go_ret2
  exact⟨rfl,(Below.refl _ _).alloc (Nat.le_refl _) _⟩
set_option maxHeartbeats 400000 in
theorem Unhex_no0 (s:ByteArray) (x0:Int) (w1 w:World) (hb:((s.size:Int) != 2)=false) (h0:Hid (isR x0=false)) (hw:Below w.heap.size w w1)
    (n0:∀ ty,(Instr.next (.pointer (some ⟨w.heap.size,0,none⟩)) true ty).run Tryz.prog (w.iter s 0)=.ok (.tuple #[.bool true,.int .i64 0,.int .i32 x0]) w1) :
    Calls Tryz.prog 95 #[.string s] w fun e w'=>e=.returned (.tuple #[.int .u8 0,.bool false])∧Below w.heap.size w w':=by
  go_enter Tryz.func95,Tryz.ntmps95
  go_wp2_with fail
  refine wp_loop_rounds 1 ?_
  rw [rounds_succ]
  go_wp2_with fail
  refine (value_no x0 _ h0.out).mono ?_
  rintro e w' ⟨rfl,rfl⟩
  go_wp2_with fail
  go_ret2
  exact⟨rfl,hw⟩
set_option maxHeartbeats 400000 in
theorem Unhex_no1 (s:ByteArray) (x0 x1:Int) (w1 w:World) (hb:((s.size:Int) != 2)=false) (h0:Hid (isR x0=true)) (h1:Hid (isR x1=false)) (hw:Below w.heap.size w w1)
    (n0:∀ ty,(Instr.next (.pointer (some ⟨w.heap.size,0,none⟩)) true ty).run Tryz.prog (w.iter s 0)=.ok (.tuple #[.bool true,.int .i64 0,.int .i32 x0]) (w.iter s 1))
    (n1:∀ ty,(Instr.next (.pointer (some ⟨w.heap.size,0,none⟩)) true ty).run Tryz.prog (w.iter s 1)=.ok (.tuple #[.bool true,.int .i64 1,.int .i32 x1]) w1) :
    Calls Tryz.prog 95 #[.string s] w fun e w'=>e=.returned (.tuple #[.int .u8 0,.bool false])∧Below w.heap.size w w':=by
  obtain⟨v00,v01⟩:=valR_bd _ h0.out
  have o0:=or_digit0 (valR x0) v00 v01
  go_enter Tryz.func95,Tryz.ntmps95
  go_wp2_with fail
  refine wp_loop_rounds 2 ?_
  rw [rounds_succ]
  go_wp2_with fail
  refine (value_yes x0 _ h0.out).mono ?_
  rintro e w' ⟨rfl,rfl⟩
  go_wp2_with fail
  rw [rounds_succ]
  go_wp2_with fail
  refine (value_no x1 _ h1.out).mono ?_
  rintro e w' ⟨rfl,rfl⟩
  go_wp2_with fail
  go_ret2
  exact⟨rfl,hw⟩
theorem unhexL_two (s:ByteArray) (h:s.size=2):unhexL s.data.toList=if isR ((s[0]'(by omega)).toNat:Int) && isR ((s[1]'(by omega)).toNat:Int) then some (16 * valR ((s[0]'(by omega)).toNat:Int)+valR ((s[1]'(by omega)).toNat:Int)) else none:=by
  obtain⟨⟨l⟩⟩:=s
  match l,h with
  | [a,b],_=>rfl
theorem Unhex_any (s:ByteArray) (w:World) :
    Calls Tryz.prog 95 #[.string s] w fun e w'=>e=.returned (.tuple #[.int .u8 ((unhexL s.data.toList).getD 0),.bool (unhexL s.data.toList).isSome])∧Below w.heap.size w w':=by
  by_cases hs:s.size=2
  · have hb:((s.size:Int) != 2)=false:=by rw [bne_eq_false_iff_eq];omega
    have n0:∀ ty,(Instr.next (.pointer (some ⟨w.heap.size,0,none⟩)) true ty).run Tryz.prog (w.iter s 0)=_:=fun ty=>run_next_any w s 0 ty (by omega)
    have n1:∀ ty,(Instr.next (.pointer (some ⟨w.heap.size,0,none⟩)) true ty).run Tryz.prog (w.iter s 1)=_:=fun ty=>run_next_any w s 1 ty (by omega)
    have n2:∀ ty,(Instr.next (.pointer (some ⟨w.heap.size,0,none⟩)) true ty).run Tryz.prog (w.iter s 2)=_:=fun ty=>run_next_end w s 2 ty (by omega)
    have r0:=isR_decode s 0 (by omega)
    have r1:=isR_decode s 1 (by omega)
    have hB:∀ p,Below w.heap.size w (w.iter s p):=fun p=>(Below.refl _ _).alloc (Nat.le_refl _) _
    rw [unhexL_two s hs]
    by_cases h0:isR ((s[0]'(by omega)).toNat:Int)=true
    · have d0:=decode_isR s 0 (by omega) h0
      simp only [d0] at n0
      by_cases h1:isR ((s[1]'(by omega)).toNat:Int)=true
      · have d1:=decode_isR s 1 (by omega) h1
        simp only [d1] at n1
        rw [h0,h1]
        exact Unhex_core s _ _ w hb h0 h1 n0 n1 n2
      · have h1:isR ((s[1]'(by omega)).toNat:Int)=false:=by simpa using h1
        rw [h0,h1]
        exact Unhex_no1 s _ _ _ w hb h0 (r1.trans h1) (hB _) n0 n1
    · have h0:isR ((s[0]'(by omega)).toNat:Int)=false:=by simpa using h0
      rw [h0]
      exact Unhex_no0 s _ _ w hb (r0.trans h0) (hB _) n0
  · rw [unhexL_len (by simpa using hs)]
    exact (Unhex_len s w hs).mono fun _ _ ⟨he,hw⟩=>⟨he,by subst hw;exact Below.refl _ _⟩
def isG (c:UInt8):Bool:=decide (48≤c.toNat∧c.toNat≤57)
def valG (l:List UInt8):Nat:=l.foldl (fun n c=>10 * n+(c.toNat - 48)) 0
theorem valG_snoc (l:List UInt8) (c:UInt8):valG (l++[c])=10 * valG l+(c.toNat - 48):=by simp [valG]
theorem digg_isG (f:Nat):∀ n l,∀ c∈digF f n l,isG c=true:=by
  induction f with
  | zero=>intro n l c h;simp [digF] at h
  | succ f ih=>
    intro n l c h
    unfold digF at h
    split at h
    · rcases List.mem_append.1 h with h | h
      · exact ih _ _ c h
      · have:c=UInt8.ofNat (48+n % 10):=by simpa using h
        subst this
        refine decide_eq_true ?_
        simp
        omega
    · simp at h
theorem digg_val (f:Nat):∀ n l,n < 10 ^ f→valG (digF f n l)=n:=by
  induction f with
  | zero => intro n l h; have : n < 1 := h; have : n = 0 := by omega
            subst this;rfl
  | succ f ih=>
    intro n l h
    unfold digF
    split
    · rw [valG_snoc,ih _ _ (by rw [Nat.pow_succ] at h;omega)]
      simp
      omega
    · have:n=0:=by omega
      subst this;rfl
theorem digg_le (f:Nat):∀ n l k,n < 10 ^ k→l≤k→(digF f n l).length≤k:=by
  induction f with
  | zero=>intro n l k _ _;simp [digF]
  | succ f ih=>
    intro n l k h1 h2
    unfold digF
    split
    · rename_i h
      cases k with
      | zero=>have:n < 1:=h1;omega
      | succ k=>
        have:=ih (n / 10) (l - 1) k (by rw [Nat.pow_succ] at h1;omega) (by omega)
        simp
        omega
    · simp
theorem digg_snoc (n:Nat) (h:n < 10 ^ 20):digL n 1=(if n < 10 then [] else digL (n / 10) 1)++[UInt8.ofNat (48+n % 10)]:=by
  have e:∀ f m,m < 10 ^ f→0 < m→digF (f+1) m 0=digF (f+1) m 1:=by
    intro f m _ hm
    rw [digF_step _ _ _ (.inl hm),digF_step _ _ _ (.inl hm)]
  have k:∀ f m l,m < 10 ^ f→l≤f→digF (f+1) m l=digF f m l:=by
    intro f
    induction f with
    | zero => intro m l h1 h2; have : m < 1 := h1; have : m = 0 := by omega
              have:l=0:=by omega
              subst m l;rfl
    | succ f ih=>
      intro m l h1 h2
      unfold digF
      split
      · rw [ih _ _ (by rw [Nat.pow_succ] at h1;omega) (by omega)]
      · rfl
  unfold digL
  rw [digF_step 19 n 1 (.inr (by omega))]
  congr 1
  have hp:n / 10 < 10 ^ 19:=by rw [Nat.pow_succ] at h;omega
  split
  · rw [show n / 10=0 from by omega];rfl
  · rw [show (1:Nat) - 1=0 from rfl,← k 19 _ _ hp (by omega),e 19 _ hp (by omega)]
theorem digg_back:∀ (n:Nat) (d:List UInt8),d.length=n→1≤n→n≤19→(∀ c∈d,isG c=true)→(n=1∨d.head?≠some 48)→digL (valG d) 1=d∧valG d < 10 ^ n∧(d.head?≠some 48→0 < valG d):=by
  intro n
  induction n with
  | zero=>intro d _ h;omega
  | succ n ih=>
    intro d hl _ h19 hd hh
    obtain⟨r,c,rfl⟩:∃ r c,d=r++[c]:=⟨d.dropLast,d.getLast (by intro q;subst q;simp at hl),(List.dropLast_concat_getLast _).symm⟩
    rw [List.length_append,List.length_singleton] at hl
    have hc:=of_decide_eq_true (hd c (by simp))
    have hcu:UInt8.ofNat (48+(c.toNat - 48))=c:=by
      apply UInt8.toNat_inj.1
      rw [UInt8.toNat_ofNat']
      omega
    have hb:(10:Nat) ^ (n+1)≤10 ^ 20:=Nat.pow_le_pow_right (by omega) (by omega)
    rw [valG_snoc]
    by_cases h0:n=0
    · subst h0
      obtain rfl:r=[]:=List.eq_nil_of_length_eq_zero (by omega)
      have e0:valG []=0:=rfl
      rw [e0]
      have hv:10 * 0+(c.toNat - 48) < 10:=by omega
      refine⟨?_,by omega,fun q=>?_⟩
      · rw [digg_snoc _ (by omega),if_pos hv,Nat.mod_eq_of_lt hv,show 10 * 0+(c.toNat - 48)=c.toNat - 48 from by omega,hcu]
      · rcases Nat.eq_zero_or_pos (c.toNat - 48) with z | z
        · exfalso
          apply q
          have:c=48:=by apply UInt8.toNat_inj.1;show c.toNat=48;omega
          rw [this];rfl
        · omega
    · have hr:r.head?=(r++[c]).head?:=by
        cases r with
        | nil=>simp at hl;omega
        | cons a r=>rfl
      have hne:r.head?≠some 48:=by rw [hr];exact hh.resolve_left (by omega)
      obtain⟨i1,i2,i3⟩:=ih r (by omega) (by omega) (by omega) (fun x hx=>hd x (by simp [hx])) (.inr hne)
      have hp:=i3 hne
      have hlt:10 * valG r+(c.toNat - 48) < 10 ^ (n+1):=by rw [Nat.pow_succ];omega
      refine⟨?_,hlt,fun _=>by omega⟩
      rw [digg_snoc _ (by omega),if_neg (by omega),show (10 * valG r+(c.toNat - 48)) / 10=valG r from by omega,show (10 * valG r+(c.toNat - 48)) % 10=c.toNat - 48 from by omega,hcu,i1]
theorem digg_head:∀ (k n:Nat),n < 10 ^ k→k≤20→n≠0→(digL n 1).head?≠some 48∧digL n 1≠[]:=by
  intro k
  induction k with
  | zero=>intro n h _ h0;have:n < 1:=h;omega
  | succ k ih=>
    intro n h hk h0
    have hb:(10:Nat) ^ (k+1)≤10 ^ 20:=Nat.pow_le_pow_right (by omega) (by omega)
    rw [digg_snoc n (by omega)]
    by_cases h9:n < 10
    · rw [if_pos h9]
      refine⟨fun q=>?_,by simp⟩
      have q:UInt8.ofNat (48+n % 10)=48:=by simpa using q
      have:=congrArg UInt8.toNat q
      rw [UInt8.toNat_ofNat',Nat.mod_eq_of_lt h9,Nat.mod_eq_of_lt (by omega)] at this
      have:48+n=48:=this
      omega
    · rw [if_neg h9]
      obtain⟨a,b⟩:=ih (n / 10) (by rw [Nat.pow_succ] at h;omega) (by omega) (by omega)
      cases hd:digL (n / 10) 1 with
      | nil=>exact absurd hd b
      | cons x r=>rw [hd] at a;exact⟨a,by simp⟩
def dgT (n:Int):List UInt8:=if n < 0 then 45 :: digL (-n).toNat 1 else digL n.toNat 1
def I64 (n:Int):Prop:=-9223372036854775808≤n∧n≤9223372036854775807
def numP (neg:Bool) (d:List UInt8):Option Int:=
  if 1≤d.length∧d.length≤19∧(d.all isG)=true∧(d.length=1∨d.head?≠some 48)∧¬ (neg=true∧d=[48]) then
    (if neg then (if valG d≤9223372036854775808 then some (-(valG d:Int)) else none) else if valG d≤9223372036854775807 then some (valG d:Int) else none)
  else none
def numW (w:List UInt8):Option Int:=if w.head?=some 45 then numP true w.tail else numP false w
theorem dig_bound {n:Nat} (h:n≤9223372036854775808):n < 10 ^ 19:=by
  have:(10:Nat) ^ 19=10000000000000000000:=by decide
  omega
theorem digg_all {n:Nat} (h:n≤9223372036854775808):1≤(digL n 1).length∧(digL n 1).length≤19∧((digL n 1).all isG)=true∧((digL n 1).length=1∨(digL n 1).head?≠some 48)∧valG (digL n 1)=n:=by
  have h19:=dig_bound h
  have h20:n < 10 ^ 20:=Nat.lt_trans h19 (by decide)
  refine⟨?_,digg_le 20 n 1 19 h19 (by omega),?_,?_,digg_val 20 n 1 h20⟩
  · rw [digg_snoc n h20,List.length_append,List.length_singleton];omega
  · rw [List.all_eq_true];exact digg_isG 20 n 1
  · by_cases h0:n=0
    · subst h0;exact .inl rfl
    · exact .inr (digg_head 20 n h20 (by omega) h0).1
theorem isG_head {d:List UInt8} (h:(d.all isG)=true):d.head?≠some 45:=by
  cases d with
  | nil=>simp
  | cons a r=>
    intro q
    have q:a=45:=by simpa using q
    subst q
    simp [isG] at h
theorem numW_dgT {n:Int} (h:I64 n):numW (dgT n)=some n:=by
  unfold I64 at h
  unfold dgT
  split
  · rename_i hn
    unfold numW
    rw [List.head?_cons,if_pos rfl,List.tail_cons]
    obtain⟨a1,a2,a3,a4,a5⟩:=digg_all (n:=(-n).toNat) (by omega)
    unfold numP
    have hq:¬ (true=true∧digL (-n).toNat 1=[48]):=fun q=>by
      have:=congrArg valG q.2
      rw [a5] at this
      have:(-n).toNat=0:=this
      omega
    rw [if_pos ⟨a1,a2,a3,a4,hq⟩,a5,if_pos rfl,if_pos (by omega)]
    congr 1
    omega
  · rename_i hn
    unfold numW
    obtain⟨a1,a2,a3,a4,a5⟩:=digg_all (n:=n.toNat) (by omega)
    rw [if_neg (isG_head a3)]
    unfold numP
    rw [if_pos ⟨a1,a2,a3,a4,fun q=>absurd q.1 (by decide)⟩,a5,if_neg (by decide),if_pos (by omega)]
    congr 1;omega
theorem numP_some {neg:Bool} {d:List UInt8} {n:Int} (h:numP neg d=some n):I64 n∧(if neg then 45 :: d else d)=dgT n:=by
  unfold numP at h
  split at h
  · rename_i hc
    obtain⟨h1,h2,h3,h4,h5⟩:=hc
    rw [List.all_eq_true] at h3
    obtain⟨b1,b2,b3⟩:=digg_back d.length d rfl h1 h2 h3 h4
    cases neg with
    | true=>
      rw [if_pos rfl] at h
      split at h
      · rename_i hv
        injection h with h
        subst h
        refine⟨⟨by omega,by omega⟩,?_⟩
        have hp:0 < valG d:=by
          rcases h4 with q | q
          · by_cases e:d.head?=some 48
            · exfalso
              apply h5
              refine⟨rfl,?_⟩
              match d,q,e with
              | [x],_,e=>simpa using e
            · exact b3 e
          · exact b3 q
        rw [if_pos rfl]
        unfold dgT
        rw [if_pos (by omega),show (-(-(valG d:Int))).toNat=valG d from by omega,b1]
      · cases h
    | false=>
      rw [if_neg (by decide)] at h
      split at h
      · rename_i hv
        injection h with h
        subst h
        refine⟨⟨by omega,by omega⟩,?_⟩
        rw [if_neg (by decide)]
        unfold dgT
        rw [if_neg (by omega),Int.toNat_natCast,b1]
      · cases h
  · cases h
theorem numW_some {w:List UInt8} {n:Int} (h:numW w=some n):I64 n∧w=dgT n:=by
  unfold numW at h
  split at h
  · rename_i hh
    obtain⟨h1,h2⟩:=numP_some h
    refine⟨h1,?_⟩
    rw [← h2,if_pos rfl]
    cases w with
    | nil=>simp at hh
    | cons a r => have : a = 45 := by simpa using hh
                  subst this;rfl
  · obtain⟨h1,h2⟩:=numP_some h
    exact⟨h1,by rw [← h2,if_neg (by decide)]⟩
theorem dgT_mem {n:Int} (h:I64 n):∀ c∈dgT n,c=45∨48≤c.toNat∧c.toNat≤57:=by
  intro c hc
  unfold dgT at hc
  split at hc
  · rcases List.mem_cons.1 hc with q | q
    · exact .inl q
    · exact .inr (of_decide_eq_true (digg_isG 20 _ 1 c q))
  · exact .inr (of_decide_eq_true (digg_isG 20 _ 1 c hc))
theorem dgT_len {n:Int} (h:I64 n):1≤(dgT n).length∧(dgT n).length≤20:=by
  unfold I64 at h
  unfold dgT
  split
  · obtain⟨a1,a2,-⟩:=digg_all (n:=(-n).toNat) (by omega)
    rw [List.length_cons];omega
  · obtain⟨a1,a2,-⟩:=digg_all (n:=n.toNat) (by omega)
    omega
def splitB (c:UInt8):List UInt8→List (List UInt8)
  | []=>[[]]
  | x :: r=>if x=c then [] :: splitB c r else
    match splitB c r with
    | []=>[[x]]
    | p :: q=>(x :: p) :: q
theorem splitB_ne (c:UInt8) (l:List UInt8):splitB c l≠[]:=by
  cases l with
  | nil=>simp [splitB]
  | cons x r=>
    unfold splitB
    split
    · simp
    · split <;> simp
theorem splitB_free (c:UInt8):∀ l:List UInt8,(∀ x∈l,x≠c)→splitB c l=[l]:=by
  intro l
  induction l with
  | nil=>intro _;rfl
  | cons x r ih=>
    intro h
    rw [splitB,if_neg (h x (by simp)),ih fun y hy=>h y (by simp [hy])]
theorem splitB_at (c:UInt8):∀ (p r:List UInt8),(∀ x∈p,x≠c)→splitB c (p++c :: r)=p :: splitB c r:=by
  intro p
  induction p with
  | nil=>intro r _;rw [List.nil_append,splitB,if_pos rfl]
  | cons x p ih=>
    intro r h
    rw [List.cons_append,splitB,if_neg (h x (by simp)),ih r fun y hy=>h y (by simp [hy])]
def joinB (c:UInt8):List (List UInt8)→List UInt8
  | []=>[]
  | [p]=>p
  | p :: q :: r=>p++c :: joinB c (q :: r)
theorem split_join (c:UInt8):∀ ws:List (List UInt8),ws≠[]→(∀ w∈ws,∀ x∈w,x≠c)→splitB c (joinB c ws)=ws
  | [],h,_=>absurd rfl h
  | [p],_,h=>splitB_free c p (h p (by simp))
  | p :: q :: r,_,h=>by
    rw [joinB,splitB_at c p _ (h p (by simp)),split_join c (q :: r) (by simp) fun w hw=>h w (List.mem_cons_of_mem _ hw)]
inductive Stp
  | bytes (b:List UInt8)
  | tick (n:Int)
  | send (id:Int) (v:List Int)
  | log (n:Int)
  | ask (layers:Int) (l:List (Int×Int))
def hexT (b:List UInt8):List UInt8:=if b=[] then [45] else b.flatMap fun c=>hexL (c.toNat:Int)
def pairT (p:Int×Int):List UInt8:=dgT p.1++61 :: dgT p.2
def wBytes:List UInt8:=[98,121,116,101,115]
def wTick:List UInt8:=[116,105,99,107]
def wSend:List UInt8:=[115,101,110,100]
def wLog:List UInt8:=[108,111,103]
def wAsk:List UInt8:=[97,115,107]
def wordsT:Stp→List (List UInt8)
  | .bytes b=>[wBytes,hexT b]
  | .tick n=>[wTick,dgT n]
  | .send id v=>wSend :: dgT id :: v.map dgT
  | .log n=>[wLog,dgT n]
  | .ask y l=>wAsk :: dgT y :: l.map pairT
def lineT (s:Stp):List UInt8:=joinB 32 (wordsT s)
def hexQ:List UInt8→Option (List UInt8)
  | []=>some []
  | [_]=>none
  | a :: b :: r=>match unhexL [a,b] with
    | none=>none
    | some n=>if hexL n=[a,b] then (hexQ r).map (UInt8.ofNat n.toNat :: ·) else none
def hexW (w:List UInt8):Option (List UInt8):=if w=[45] then some [] else if w=[] then none else hexQ w
def numsW:List (List UInt8)→Option (List Int)
  | []=>some []
  | w :: r=>match numW w with
    | none=>none
    | some n=>(numsW r).map (n :: ·)
def pairW (w:List UInt8):Option (Int×Int):=match numsW (splitB 61 w) with
  | some [a,b]=>some (a,b)
  | _=>none
def pairsW:List (List UInt8)→Option (List (Int×Int))
  | []=>some []
  | w :: r=>match pairW w with
    | none=>none
    | some n=>(pairsW r).map (n :: ·)
def stepW (ws:List (List UInt8)):Option Stp:=match ws with
  | w0 :: w1 :: more=>
    if w0=wBytes then (match hexW w1 with
      | some b=>if more=[] then some (.bytes b) else none
      | none=>none)
    else match numW w1 with
      | none=>none
      | some n=>
        if w0=wTick then (if more=[] then some (.tick n) else none)
        else if w0=wLog then (if more=[] then some (.log n) else none)
        else if w0=wSend then (numsW more).map (.send n)
        else if w0=wAsk then (pairsW more).map (.ask n)
        else none
  | _=>none
def lineW (l:List UInt8):Option Stp:=stepW (splitB 32 l)
def readW:Nat→List (List UInt8)→List Stp→Option (List Stp)×Nat
  | _,[],out=>(some out,0)
  | at_,w :: r,out=>if w=[] then readW (at_+1) r out else match lineW w with
    | none=>(none,at_+1)
    | some s=>readW (at_+1) r (out++[s])
theorem unhex_hexL (n:Int) (h0:0≤n) (h1:n≤255):unhexL (hexL n)=some n:=by
  obtain⟨k,rfl⟩:=Int.eq_ofNat_of_zero_le h0
  have h:∀ k:Fin 256,unhexL (hexL ((k.val:Nat):Int))=some ((k.val:Nat):Int):=by decide +kernel
  exact h ⟨k,by omega⟩
end Go.Proofs.YtaiepcgfofpmjaaGreat
