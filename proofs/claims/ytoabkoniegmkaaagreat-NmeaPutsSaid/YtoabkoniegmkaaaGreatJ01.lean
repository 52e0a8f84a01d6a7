/- Layer 23: the program's Put. -/
import Derived.Test.YtoabkoniegmkaaaGreatJ00
import Derived.IntWalk
import Derived.Deep.RegionHeld3
import Derived.Deep.QuietTactic
namespace Go.Proofs.YtoabkoniegmkaaaGreat
set_option linter.unusedVariables false
open Go.RowKit
def putN (b:Bool) (n W M F L H:Int):ByteArray×Int:=
  if rightB W M F L H=false then (ByteArray.empty,1)
  else if fitsB b n L H=false then (ByteArray.empty,5)
  else if b=false then (ByteArray.empty,0)
  else if n < 0 then (toB (45 :: pointL (-n).toNat W.toNat F.toNat),0) else (toB (pointL n.toNat W.toNat F.toNat),0)
theorem right_bounds {W M F L H:Int} (h:rightB W M F L H=true):1≤W∧W≤12∧0≤F∧F≤6∧-1000000000000000000 < L∧H < 1000000000000000000:=by
  have h:=of_decide_eq_true h
  have t:=tenI_le (show (M+F).toNat≤18 by omega)
  rw [tenI_18] at t
  omega
theorem digL_len (n l:Nat):(digL n l).length≤20:=digF_len 20 n l
theorem trimR_len (l:List UInt8) (c:UInt8):(Lib.trimRightB l c).length≤l.length:=by
  unfold Lib.trimRightB
  rw [List.length_reverse]
  have h2:=(List.dropWhile_suffix (fun x=>x==c) (l:=l.reverse)).length_le
  rw [List.length_reverse] at h2
  exact h2
theorem pointL_len (n w f:Nat):(pointL n w f).length≤41:=by
  unfold pointL tailB
  rw [List.length_append]
  have h1:=digL_len (n / 10 ^ f) w
  split
  · simp;omega
  · have h2:=trimR_len (46 :: digL (n % 10 ^ f) f) 48
    have h3:=digL_len (n % 10 ^ f) f
    rw [List.length_cons] at h2
    omega
set_option maxHeartbeats 2000000 in
theorem Put23_arg (b:Bool) (n W M F L H:Int) (w:World) (h:rightB W M F L H=false) :
    Calls Tryz.prog 235 #[numV b n,colV W M F L H] w fun e w'=>e=.returned (.tuple #[.string ByteArray.empty,.int .i64 1])∧Below w.heap.size w w':=by
  have HR:=fun W'=>Lib.hid (Right_any W M F L H W')
  rw [h] at HR
  clear h
  go_enter Tryz.func235,Tryz.ntmps235
  go_wp2_with fail
  refine (HR _).out.mono ?_
  rintro e w1 ⟨rfl,hb1⟩
  go_wp2_with fail
  go_ret2
  exact⟨rfl,bthen (bthen (below_new _ _) (below_new _ _)) hb1⟩
set_option maxHeartbeats 2000000 in
theorem Put23_range (b:Bool) (n W M F L H:Int) (w:World) (h:rightB W M F L H=true) (h2:fitsB b n L H=false) :
    Calls Tryz.prog 235 #[numV b n,colV W M F L H] w fun e w'=>e=.returned (.tuple #[.string ByteArray.empty,.int .i64 5])∧Below w.heap.size w w':=by
  have HR:=fun W'=>Lib.hid (Right_any W M F L H W')
  have HF:=fun W'=>Lib.hid (fits_any b n L H W')
  rw [h] at HR
  rw [h2] at HF
  clear h h2
  go_enter Tryz.func235,Tryz.ntmps235
  go_wp2_with fail
  refine (HR _).out.mono ?_
  rintro e w1 ⟨rfl,hb1⟩
  obtain⟨c1,f1⟩:=bcell hb1
  have hz:=hb1.size
  simp at hz
  have hz1:w.heap.size < w1.heap.size:=by omega
  have hz4:w.heap.size+1 < w1.heap.size:=by omega
  go_wp2_with fail
  refine (HF _).out.mono ?_
  rintro e w2 ⟨rfl,hb2⟩
  go_wp2_with fail
  go_ret2
  exact⟨rfl,bthen (bthen (bthen (below_new _ _) (below_new _ _)) hb1) hb2⟩
set_option maxHeartbeats 2000000 in
theorem Put23_none (n W M F L H:Int) (w:World) (h:rightB W M F L H=true) (h2:fitsB false n L H=true) :
    Calls Tryz.prog 235 #[numV false n,colV W M F L H] w fun e w'=>e=.returned (.tuple #[.string ByteArray.empty,.int .i64 0])∧Below w.heap.size w w':=by
  have HR:=fun W'=>Lib.hid (Right_any W M F L H W')
  have HF:=fun W'=>Lib.hid (fits_any false n L H W')
  rw [h] at HR
  rw [h2] at HF
  clear h h2
  go_enter Tryz.func235,Tryz.ntmps235
  go_wp2_with fail
  refine (HR _).out.mono ?_
  rintro e w1 ⟨rfl,hb1⟩
  obtain⟨c1,f1⟩:=bcell hb1
  have hz:=hb1.size
  simp at hz
  have hz1:w.heap.size < w1.heap.size:=by omega
  have hz4:w.heap.size+1 < w1.heap.size:=by omega
  go_wp2_with fail
  refine (HF _).out.mono ?_
  rintro e w2 ⟨rfl,hb2⟩
  obtain⟨c2,f2⟩:=bcell hb2
  have hz2:=hb2.size
  have hz3:w.heap.size < w2.heap.size:=by omega
  go_wp2_with fail
  go_ret2
  exact⟨rfl,bthen (bthen (bthen (below_new _ _) (below_new _ _)) hb1) hb2⟩
set_option maxHeartbeats 2000000 in
theorem Put23_pos (n:Nat) (W F:Nat) (M L H:Int) (w:World) (h:rightB W M F L H=true) (h2:fitsB true n L H=true) (hn:n≤1000000000000000000) (hW:W≤12) (hF:F≤6) :
    Calls Tryz.prog 235 #[numV true n,colV W M F L H] w fun e w'=>e=.returned (.tuple #[.string (toB (pointL n W F)),.int .i64 0])∧Below w.heap.size w w':=by
  have HR:=fun W'=>Lib.hid (Right_any W M F L H W')
  have HF:=fun W'=>Lib.hid (fits_any true n L H W')
  have HP:=fun W'=>Lib.hid (pointed_any n W F W' hn (by omega) (by omega))
  rw [h] at HR
  rw [h2] at HF
  generalize toB (pointL n W F)=S at *
  clear h h2
  go_enter Tryz.func235,Tryz.ntmps235
  go_wp2_with fail
  refine (HR _).out.mono ?_
  rintro e w1 ⟨rfl,hb1⟩
  obtain⟨c1,f1⟩:=bcell hb1
  have hz:=hb1.size
  simp at hz
  have hz1:w.heap.size < w1.heap.size:=by omega
  have hz4:w.heap.size+1 < w1.heap.size:=by omega
  go_wp2_with fail
  refine (HF _).out.mono ?_
  rintro e w2 ⟨rfl,hb2⟩
  obtain⟨c2,f2⟩:=bcell hb2
  have hz2:=hb2.size
  have hz3:w.heap.size < w2.heap.size:=by omega
  go_wp2_with fail
  refine (HP _).out.mono ?_
  rintro e w3 ⟨rfl,hb3⟩
  go_wp2_with fail
  go_ret2
  exact⟨rfl,bthen (bthen (bthen (bthen (below_new _ _) (below_new _ _)) hb1) hb2) hb3⟩
set_option maxHeartbeats 2000000 in
theorem Put23_neg (n:Nat) (W F:Nat) (M L H:Int) (w:World) (h:rightB W M F L H=true) (h2:fitsB true (-(n:Int)) L H=true) (hn0:0 < n) (hn:n≤1000000000000000000) (hW:W≤12) (hF:F≤6) :
    Calls Tryz.prog 235 #[numV true (-(n:Int)),colV W M F L H] w fun e w'=>e=.returned (.tuple #[.string (toB (45 :: pointL n W F)),.int .i64 0])∧Below w.heap.size w w':=by
  have HR:=fun W'=>Lib.hid (Right_any W M F L H W')
  have HF:=fun W'=>Lib.hid (fits_any true (-(n:Int)) L H W')
  have HP:=fun W'=>Lib.hid (pointed_any n W F W' hn (by omega) (by omega))
  rw [h] at HR
  rw [h2] at HF
  have hS:(toB (pointL n W F)).size≤41:=by rw [size_B];exact pointL_len n W F
  have hT:Hid (toB (45 :: pointL n W F)=⟨#[45]⟩++toB (pointL n W F)):=(toB_append [45] (pointL n W F)).symm
  generalize toB (45 :: pointL n W F)=T at *
  generalize toB (pointL n W F)=S at *
  clear h h2
  go_enter Tryz.func235,Tryz.ntmps235
  go_wp2_with fail
  refine (HR _).out.mono ?_
  rintro e w1 ⟨rfl,hb1⟩
  obtain⟨c1,f1⟩:=bcell hb1
  have hz:=hb1.size
  simp at hz
  have hz1:w.heap.size < w1.heap.size:=by omega
  have hz4:w.heap.size+1 < w1.heap.size:=by omega
  go_wp2_with fail
  refine (HF _).out.mono ?_
  rintro e w2 ⟨rfl,hb2⟩
  obtain⟨c2,f2⟩:=bcell hb2
  have hz2:=hb2.size
  have hz3:w.heap.size < w2.heap.size:=by omega
  go_wp2_with fail
  refine (HP _).out.mono ?_
  rintro e w3 ⟨rfl,hb3⟩
  go_wp2_with fail
  go_ret2
  exact⟨by rw [hT.out];rfl,bthen (bthen (bthen (bthen (below_new _ _) (below_new _ _)) hb1) hb2) hb3⟩
theorem Put23_any (b:Bool) (n W M F L H:Int) (w:World) :
    Calls Tryz.prog 235 #[numV b n,colV W M F L H] w fun e w'=>e=.returned (.tuple #[.string (putN b n W M F L H).1,.int .i64 (putN b n W M F L H).2])∧Below w.heap.size w w':=by
  unfold putN
  cases h:rightB W M F L H with
  | false=>rw [if_pos rfl];exact Put23_arg b n W M F L H w h
  | true=>
    rw [if_neg (by decide)]
    cases h2:fitsB b n L H with
    | false=>rw [if_pos rfl];exact Put23_range b n W M F L H w h h2
    | true=>
      rw [if_neg (by decide)]
      cases b with
      | false=>rw [if_pos rfl];exact Put23_none n W M F L H w h h2
      | true=>
        rw [if_neg (by decide)]
        obtain⟨b1,b2,b3,b4,b5,b6⟩:=right_bounds h
        have hr:L≤n∧n≤H:=by have:=h2;unfold fitsB at this;rw [if_pos rfl] at this;exact of_decide_eq_true this
        obtain⟨W',rfl⟩:=Int.eq_ofNat_of_zero_le (show 0≤W by omega)
        obtain⟨F',rfl⟩:=Int.eq_ofNat_of_zero_le b3
        by_cases hn:n < 0
        · rw [if_pos hn]
          obtain⟨k,hk⟩:=Int.eq_ofNat_of_zero_le (show 0≤-n by omega)
          obtain rfl:n=-(k:Int):=by omega
          rw [show (-(-(k:Int))).toNat=k from by omega]
          exact Put23_neg k W' F' M L H w h h2 (by omega) (by omega) (by omega) (by omega)
        · rw [if_neg hn]
          obtain⟨k,rfl⟩:=Int.eq_ofNat_of_zero_le (show 0≤n by omega)
          exact Put23_pos k W' F' M L H w h h2 (by omega) (by omega) (by omega)
def isD (c:UInt8):Bool:=decide (48≤c.toNat∧c.toNat≤57)
def cntD (l:List UInt8):Nat:=(l.takeWhile isD).length
theorem cntD_is:∀ (l:List UInt8) (k:Nat),(∀ j (h:j < l.length),j < k→isD l[j]=true)→k≤l.length→(∀ h:k < l.length,isD l[k]=false)→cntD l=k:=by
  intro l
  induction l with
  | nil=>intro k _ h _;simp at h;subst h;rfl
  | cons c l ih=>
    intro k h1 h2 h3
    cases k with
    | zero=>
      have:=h3 (by simp)
      unfold cntD
      rw [List.takeWhile_cons,if_neg (by simpa using this)]
      rfl
    | succ k=>
      have hc:=h1 0 (by simp) (by omega)
      unfold cntD
      rw [List.takeWhile_cons,if_pos (by simpa using hc),List.length_cons]
      have:=ih k (fun j hj hk=>h1 (j+1) (by simpa using hj) (by omega)) (by simpa using h2) (fun hk=>h3 (by simpa using hk))
      unfold cntD at this
      rw [this]
def valD (l:List UInt8):Nat:=l.foldl (fun n c=>10 * n+(c.toNat - 48)) 0
theorem valD_snoc (l:List UInt8) (c:UInt8):valD (l++[c])=10 * valD l+(c.toNat - 48):=by simp [valD]
theorem valD_lt (l:List UInt8) (h:∀ c∈l,isD c=true):valD l < 10 ^ l.length:=by
  have key:∀ r:List UInt8,(∀ c∈r,isD c=true)→valD r.reverse < 10 ^ r.length:=by
    intro r
    induction r with
    | nil=>intro _;decide
    | cons c r ih=>
      intro hr
      have h1:=ih (fun x hx=>hr x (by simp [hx]))
      have h2:=of_decide_eq_true (hr c (by simp))
      rw [List.reverse_cons,valD_snoc,List.length_cons,Nat.pow_succ]
      omega
  have:=key l.reverse (fun c hc=>h c (by simpa using hc))
  rw [List.reverse_reverse,List.length_reverse] at this
  exact this
def parseN (l:List UInt8) (least most frac:Nat):Option Nat:=
  if cntD l < least∨most < cntD l then none
  else if cntD l=l.length then some (valD l * 10 ^ frac)
  else if l[cntD l]?≠some 46∨cntD (l.drop (cntD l+1)) < 1∨frac < cntD (l.drop (cntD l+1))∨cntD l+1+cntD (l.drop (cntD l+1))≠l.length then none
  else some (valD (l.take (cntD l)) * 10 ^ frac+valD (l.drop (cntD l+1)) * 10 ^ (frac - cntD (l.drop (cntD l+1))))
theorem cntD_le (l:List UInt8):cntD l≤l.length:=by
  unfold cntD
  exact (List.takeWhile_prefix isD).length_le
theorem while_all:∀ l:List UInt8,∀ c∈l.takeWhile isD,isD c=true:=by
  intro l
  induction l with
  | nil=>intro c h;simp at h
  | cons x l ih=>
    intro c h
    rw [List.takeWhile_cons] at h
    split at h
    · rename_i hx
      rcases List.mem_cons.1 h with rfl | h
      · exact hx
      · exact ih c h
    · simp at h
theorem cntD_take (l:List UInt8):∀ c∈l.take (cntD l),isD c=true:=by
  intro c hc
  have:l.take (cntD l)=l.takeWhile isD:=by
    unfold cntD
    exact (List.prefix_iff_eq_take.1 (List.takeWhile_prefix isD)).symm
  rw [this] at hc
  exact while_all l c hc
theorem tenI_cast (k:Nat):tenI k=((10 ^ k:Nat):Int):=rfl
theorem val_le {l:List UInt8} {n:Nat} (h:∀ c∈l,isD c=true) (hn:l.length+n≤18):(valD l:Int) * tenI n≤1000000000000000000∧0≤(valD l:Int) * tenI n:=by
  have h1:=valD_lt l h
  have h2:valD l * 10 ^ n < 10 ^ l.length * 10 ^ n:=Nat.mul_lt_mul_of_pos_right h1 (Nat.pow_pos (by decide))
  rw [← Nat.pow_add] at h2
  have h3:(10:Nat) ^ (l.length+n)≤10 ^ 18:=Nat.pow_le_pow_right (by decide) hn
  have e:(10:Nat) ^ 18=1000000000000000000:=by decide
  rw [tenI_cast,← Int.natCast_mul]
  omega
def NextSt (W:World) (gs gn ga:Nat) (s:ByteArray) (nv:Int) (a:Nat):Prop:=
  W.cell? ⟨gs,0,none⟩=some (.string s)∧W.cell? ⟨gn,0,none⟩=some (.int .i64 nv)∧W.cell? ⟨ga,0,none⟩=some (.int .i64 (a:Int))∧W.frozen? ⟨gn,0,none⟩=false∧W.frozen? ⟨ga,0,none⟩=false
def sumV (s:ByteArray) (a:Nat) (nv:Int) (k:Nat):Int:=nv * tenI k+(valD ((s.data.toList.drop a).take k):Int)
theorem sumV_zero (s:ByteArray) (a:Nat) (nv:Int):sumV s a nv 0=nv:=by
  unfold sumV
  rw [tenI_zero,List.take_zero]
  show nv * 1+0=nv
  omega
theorem sumV_succ (s:ByteArray) (a:Nat) (nv:Int) (k:Nat) (h:a+k < s.size) (hd:isD s[a+k]=true):sumV s a nv (k+1)=10 * sumV s a nv k+((s[a+k].toNat:Int) - 48):=by
  unfold sumV
  have hl : k < (s.data.toList.drop a).length := by rw [List.length_drop]; have : s.data.toList.length = s.size := by simp
                                                    omega
  have he:(s.data.toList.drop a)[k]=s[a+k]:=by rw [List.getElem_drop];rfl
  have h2:=of_decide_eq_true hd
  rw [List.take_succ_eq_append_getElem hl,valD_snoc,he,tenI_succ,← Int.mul_assoc]
  omega
def NextPost (s:ByteArray) (a most:Nat) (nv:Int) (gs gn ga B:Nat) (W:World) (e:Ending) (w':World):Prop:=
  ∃ (K:Nat) (nv2:Int),K=min (cntD (s.data.toList.drop a)) (most+1)∧e=.returned (.int .i64 (K:Int))∧NextSt w' gs gn ga s nv2 (a+K)∧Below B W w'∧w'.heap.size=W.heap.size∧(K≤most→nv2=sumV s a nv K)
def NextRel (s:ByteArray) (a most:Nat) (nv:Int) (gs gn ga B:Nat) (W:World) (v:Value) (wr:World):Prop:=
  ∃ (k:Nat) (nv2:Int),v=.int .i64 (k:Int)∧k≤most+1∧a+k≤s.size∧Hid (∀ j,j < k→∃ h:a+j < s.size,isD s[a+j]=true)∧Hid (NextSt wr gs gn ga s nv2 (a+k))∧Hid (Below B W wr)∧Hid (wr.heap.size=W.heap.size)∧Hid (k≤most→nv2=sumV s a nv k)
theorem next_round {s:ByteArray} {a most:Nat} {nv:Int} {gs gn ga B:Nat} {W wr:World} {k:Nat} {nv2:Int}
    (hm:most≤12) (hd1:gs≠gn) (hd2:gs≠ga) (hd3:gn≠ga) (hB1:B≤gn) (hB2:B≤ga)
    (HB:∀ k,k≤most→0≤sumV s a nv k∧sumV s a nv k≤9000000000000000000)
    (hkm:k≤most) (hlt:a+k < s.size) (hd:isD s[a+k]=true) (hall:∀ j,j < k→∃ h:a+j < s.size,isD s[a+j]=true)
    (hst:NextSt wr gs gn ga s nv2 (a+k)) (hb:Below B W wr) (hz:wr.heap.size=W.heap.size) (hex:k≤most→nv2=sumV s a nv k) :
    NextRel s a most nv gs gn ga B W (.int .i64 ((k:Int)+1)) ((wr.setCell ⟨gn,0,none⟩ (.int .i64 (wrap64 (wrap64 (10 * nv2)+(((s[a+k]'hlt).toNat:Int) - 48))))).setCell ⟨ga,0,none⟩ (.int .i64 (((a+k:Nat):Int)+1))).drew:=by
  obtain⟨c1,c2,c3,z1,z2⟩:=hst
  refine⟨k+1,wrap64 (wrap64 (10 * nv2)+(((s[a+k]'hlt).toNat:Int) - 48)),by rw [Int.natCast_add];rfl,by omega,by omega,Lib.hid ?_,Lib.hid ⟨?_,?_,?_,?_,?_⟩,Lib.hid ?_,Lib.hid ?_,Lib.hid ?_⟩
  · intro j hj
    rcases Nat.lt_or_ge j k with h | h
    · exact hall j h
    · obtain rfl:j=k:=by omega
      exact⟨hlt,hd⟩
  · show ((wr.setCell _ _).setCell _ _).cell? _=_
    rw [World.cell?_setCell_other _ _ _ _ (fun e=>by injection e with e;exact hd2 e.symm),World.cell?_setCell_other _ _ _ _ (fun e=>by injection e with e;exact hd1 e.symm)]
    exact c1
  · show ((wr.setCell _ _).setCell _ _).cell? _=_
    rw [World.cell?_setCell_other _ _ _ _ (fun e=>by injection e with e;exact hd3 e.symm),World.cell?_setCell_same _ _ _ c2]
  · show ((wr.setCell _ _).setCell _ _).cell? _=_
    have h0:(wr.setCell ⟨gn,0,none⟩ (.int .i64 (wrap64 (wrap64 (10 * nv2)+(((s[a+k]'hlt).toNat:Int) - 48))))).cell? ⟨ga,0,none⟩=_:=(World.cell?_setCell_other _ _ _ _ (fun e=>by injection e with e;exact hd3 e)).trans c3
    rw [World.cell?_setCell_same _ _ _ h0]
    rw [show ((a+(k+1):Nat):Int)=((a+k:Nat):Int)+1 from by omega]
  · show ((wr.setCell _ _).setCell _ _).frozen? _=_
    simpa using z1
  · show ((wr.setCell _ _).setCell _ _).frozen? _=_
    simpa using z2
  · exact bdrew ((hb.setCell hB1 _).setCell hB2 _)
  · show ((wr.setCell _ _).setCell _ _).heap.size=_
    simpa using hz
  · intro hk1
    have e1:=hex (by omega)
    have b1:=HB k (by omega)
    have b2:=HB (k+1) hk1
    have e2:=sumV_succ s a nv k hlt hd
    have e3:=of_decide_eq_true hd
    subst e1
    rw [e2] at b2 ⊢
    have q1:wrap64 (10 * sumV s a nv k)=10 * sumV s a nv k:=IntWalk.wrap64_in _ (by omega)
    rw [q1,IntWalk.wrap64_in _ (by omega)]
theorem cntD_ge:∀ (l:List UInt8) (k:Nat),(∀ j (h:j < l.length),j < k→isD l[j]=true)→k≤l.length→k≤cntD l:=by
  intro l
  induction l with
  | nil=>intro k _ h;exact Nat.le_trans h (Nat.zero_le _)
  | cons c l ih=>
    intro k h1 h2
    cases k with
    | zero=>exact Nat.zero_le _
    | succ k=>
      have h0:isD c=true:=h1 0 (by simp) (by omega)
      have h3:=ih k (fun j hj hk=>h1 (j+1) (by simpa using hj) (by omega)) (by simpa using h2)
      unfold cntD at h3 ⊢
      rw [List.takeWhile_cons_of_pos h0,List.length_cons]
      omega
theorem next_out {s:ByteArray} {a most:Nat} {nv:Int} {gs gn ga B:Nat} {W wr:World} {k:Nat} {nv2:Int}
    (hak:a+k≤s.size) (hstop:k=most+1∨¬ a+k < s.size∨∃ h:a+k < s.size,isD s[a+k]=false) (hk:k≤most+1) (hall:∀ j,j < k→∃ h:a+j < s.size,isD s[a+j]=true)
    (hst:NextSt wr gs gn ga s nv2 (a+k)) (hb:Below B W wr) (hz:wr.heap.size=W.heap.size) (hex:k≤most→nv2=sumV s a nv k) :
    NextPost s a most nv gs gn ga B W (.returned (.int .i64 (k:Int))) wr:=by
  refine⟨k,nv2,?_,rfl,hst,hb,hz,hex⟩
  have hsz:s.data.toList.length=s.size:=by simp
  have hlen:(s.data.toList.drop a).length=s.size - a:=by rw [List.length_drop,hsz]
  have hg:∀ j (h:j < (s.data.toList.drop a).length) (h2:a+j < s.size),(s.data.toList.drop a)[j]=s[a+j]:=fun j h h2=>by rw [List.getElem_drop];rfl
  have hle:k≤cntD (s.data.toList.drop a):=cntD_ge _ _ (fun j hj hk=>by
    obtain⟨h,e⟩:=hall j hk
    rw [hg j hj h]
    exact e) (by omega)
  rcases hstop with h | h | ⟨h,e⟩
  · omega
  · have:=cntD_le (s.data.toList.drop a)
    omega
  · have:cntD (s.data.toList.drop a)=k:=cntD_is _ k (fun j hj hk=>by
      obtain⟨h,e⟩:=hall j hk
      rw [hg j hj h]
      exact e) (by omega) (fun h'=>by rw [hg k h' h];exact e)
    omega
set_option maxHeartbeats 2000000 in
theorem next_any (s:ByteArray) (a most:Nat) (nv:Int) (gs gn ga B:Nat) (W:World) (hs:s.size≤1000000) (ha:a≤s.size) (hm:most≤12)
    (hst:NextSt W gs gn ga s nv a) (hd1:gs≠gn) (hd2:gs≠ga) (hd3:gn≠ga) (hB1:B≤gn) (hB2:B≤ga)
    (HB:Hid (∀ k,k≤most→0≤sumV s a nv k∧sumV s a nv k≤9000000000000000000)) :
    Calls Tryz.prog 202 #[.int .i64 (most:Int),.pointer (some ⟨ga,0,none⟩),.pointer (some ⟨gs,0,none⟩),.pointer (some ⟨gn,0,none⟩)] W (NextPost s a most nv gs gn ga B W):=by
  have HST:=Lib.hid hst
  clear hst
  go_enter Tryz.func202,Tryz.ntmps202
  go_wp2
  go_loopw [6] (fun v wr=>NextRel s a most nv gs gn ga B W v wr) (fun v _=>most+1 - (intOf v).toNat)
  case atStart=>exact⟨0,nv,rfl,Nat.zero_le _,ha,fun j h=>absurd h (Nat.not_lt_zero _),HST,Lib.hid (Below.refl _ _),rfl,fun _=>(sumV_zero s a nv).symm⟩
  case round=>
    obtain⟨k,nv2,rfl,hk,hak,hall,hst,hb,hz,hex⟩:=hrel
    obtain⟨c1,c2,c3,z1,z2⟩:=hst.out
    by_cases hlt:a+k < s.size
    · have i1:((a+k:Nat):Int) < (s.size:Int):=by omega
      have i2:(0:Int)≤((a+k:Nat):Int):=Int.natCast_nonneg _
      have i3:((a+k:Nat):Int).toNat=a+k:=by omega
      by_cases hd:isD s[a+k]=true
      · have hdd:=of_decide_eq_true hd
        have h48:(48:Int)≤((s[a+k]'hlt).toNat:Int):=by omega
        have h57:((s[a+k]'hlt).toNat:Int)≤57:=by omega
        by_cases hkm:k≤most
        · have HN:=Lib.hid (next_round hm hd1 hd2 hd3 hB1 hB2 HB.out hkm hlt hd hall.out hst.out hb.out hz.out hex.out)
          clear hall hst hb hz hex
          generalize hA:a+k=A at *
          go_wp2
          go_region_with (fail)
          all_goals go_wp2
          all_goals go_roundw
          all_goals first | exact HN.out | (show most+1 - ((k:Int)+1).toNat < most+1 - (k:Int).toNat;omega)
        · have HO:=Lib.hid (next_out hak (.inl (by omega)) hk hall.out hst.out hb.out hz.out hex.out)
          have hkm2:(most:Int) < (k:Int):=by omega
          clear hall hst hb hz hex hkm
          generalize hA:a+k=A at *
          go_wp2
          go_ret
          exact HO.out
      · have HO:=Lib.hid (next_out hak (.inr (.inr ⟨hlt,by simpa using hd⟩)) hk hall.out hst.out hb.out hz.out hex.out)
        have hdd:¬ (48≤(s[a+k]'hlt).toNat∧(s[a+k]'hlt).toNat≤57):=fun h=>hd (decide_eq_true h)
        clear hall hst hb hz hex hd
        by_cases h1:48≤(s[a+k]'hlt).toNat
        · have h48:(48:Int)≤((s[a+k]'hlt).toNat:Int):=by omega
          have h57:(57:Int) < ((s[a+k]'hlt).toNat:Int):=by omega
          generalize hA:a+k=A at *
          go_wp2
          go_ret
          exact HO.out
        · have h48:((s[a+k]'hlt).toNat:Int) < (48:Int):=by omega
          generalize hA:a+k=A at *
          go_wp2
          go_ret
          exact HO.out
    · have HO:=Lib.hid (next_out hak (.inr (.inl hlt)) hk hall.out hst.out hb.out hz.out hex.out)
      have i1:(s.size:Int)≤((a+k:Nat):Int):=by omega
      clear hall hst hb hz hex
      generalize hA:a+k=A at *
      go_wp2
      go_ret
      exact HO.out
theorem valD_any (l:List UInt8):valD l+29≤29 * 10 ^ l.length:=by
  have key:∀ r:List UInt8,valD r.reverse+29≤29 * 10 ^ r.length:=by
    intro r
    induction r with
    | nil=>decide
    | cons c r ih=>
      have h2:=c.toNat_lt
      rw [List.reverse_cons,valD_snoc,List.length_cons,Nat.pow_succ]
      omega
  have:=key l.reverse
  rw [List.reverse_reverse,List.length_reverse] at this
  exact this
theorem sumV_bound (s:ByteArray) (a:Nat) (nv:Int) (most n:Nat) (h0:0≤nv) (h1:nv < tenI n) (h2:n+most≤18) (h3:most≤12):∀ k,k≤most→0≤sumV s a nv k∧sumV s a nv k≤9000000000000000000:=by
  intro k hk
  unfold sumV
  have e1:=tenI_pos k
  have e2:nv * tenI k≤tenI n * tenI k:=Int.mul_le_mul_of_nonneg_right (by omega) (by omega)
  have e3:tenI n * tenI k≤1000000000000000000:=by
    rw [tenI_cast,tenI_cast,← Int.natCast_mul,← Nat.pow_add]
    have:(10:Nat) ^ (n+k)≤10 ^ 18:=Nat.pow_le_pow_right (by decide) (by omega)
    have e:(10:Nat) ^ 18=1000000000000000000:=by decide
    omega
  have e4:0≤nv * tenI k:=Int.mul_nonneg h0 (by omega)
  have e5:=valD_any ((s.data.toList.drop a).take k)
  have e6:(10:Nat) ^ ((s.data.toList.drop a).take k).length≤10 ^ 12:=Nat.pow_le_pow_right (by decide) (by rw [List.length_take];omega)
  have e:(10:Nat) ^ 12=1000000000000:=by decide
  omega
theorem quiet_eq {P:Program} {f:FuncId} {args:Array Value} {w:World} {n:Nat} {v:Value}
    (h:Calls P f args (w.drewN n) fun e w'=>e=.returned v∧w.drewN n=w'):Calls P f args (w.drewN n) fun e w''=>e=.returned v∧∃ m,w''=w.drewN m:=
  h.mono fun _ _ ⟨he,hm⟩=>⟨he,n,hm.symm⟩
theorem frozen_past (w:World) (n o:Nat) (h:w.heap.size≤n):w.frozen? ⟨n,o,none⟩=false:=by
  unfold World.frozen?
  rw [Array.getElem?_eq_none h]
theorem next_start (s:ByteArray) (w:World):NextSt (((w.alloc (.cells #[.string s] 9)).alloc (.cells #[.int .i64 0] 2)).alloc (.cells #[.int .i64 0] 3)) w.heap.size (w.heap.size+1) (w.heap.size+1+1) s 0 0:=by
  have n1:(w.alloc (.cells #[.string s] 9)).heap.size=w.heap.size+1:=by simp
  have n2:((w.alloc (.cells #[.string s] 9)).alloc (.cells #[.int .i64 0] 2)).heap.size=w.heap.size+1+1:=by simp
  refine⟨?_,?_,?_,?_,?_⟩
  · rw [World.cell?_alloc_past _ _ _ (by omega),World.cell?_alloc_past _ _ _ (by omega),World.cell?_alloc_at _ _ _ _ rfl];rfl
  · rw [World.cell?_alloc_past _ _ _ (by omega),World.cell?_alloc_at _ _ _ _ n1.symm];rfl
  · rw [World.cell?_alloc_at _ _ _ _ n2.symm];rfl
  · rw [frozen?_alloc_cells,frozen?_alloc_cells,frozen?_alloc_cells];exact frozen_past _ _ _ (by omega)
  · rw [frozen?_alloc_cells,frozen?_alloc_cells,frozen?_alloc_cells];exact frozen_past _ _ _ (by omega)
set_option maxHeartbeats 2000000 in
theorem parse_head (s:ByteArray) (l m f:Nat) (w:World) (hs:s.size≤1000000) (hm:m≤12) (hf:f≤6) (g:cntD s.data.toList < l∨m < cntD s.data.toList) :
    Calls Tryz.prog 191 #[.string s,.int .i64 (l:Int),.int .i64 (m:Int),.int .i64 (f:Int)] w fun e w'=>e=.returned (.tuple #[.int .i64 0,.bool false])∧Below w.heap.size w w':=by
  have HB:Hid (∀ k,k≤m→0≤sumV s 0 0 k∧sumV s 0 0 k≤9000000000000000000):=sumV_bound s 0 0 m 0 (by decide) (by decide) (by omega) hm
  have HX:=fun W gs gn ga B h1 h2 h3 h4 h5 h6=>next_any s 0 m 0 gs gn ga B W hs (Nat.zero_le _) hm h1 h2 h3 h4 h5 h6 HB
  go_enter Tryz.func191,Tryz.ntmps191
  go_wp2_with fail
  refine (HX _ w.heap.size (w.heap.size+1) (w.heap.size+1+1) w.heap.size (next_start s w) (by omega) (by omega) (by omega) (by omega) (by omega)).mono ?_
  rintro e w1 ⟨K,nv2,hK,rfl,hst,hb,hz,hex⟩
  have b1:=Lib.hid (((((Below.refl w.heap.size w).alloc (Nat.le_refl _) _).alloc (by simp) _).alloc (by simp;omega) _).trans hb)
  rw [List.drop_zero] at hK
  clear hst hb hz hex HX HB
  by_cases h:(K:Int) < (l:Int)
  · go_wp2_with fail
    go_ret2
    exact⟨rfl,b1.out⟩
  · have h2:(m:Int) < (K:Int):=by omega
    have h1:(l:Int)≤(K:Int):=by omega
    clear hK g h
    go_wp2_with fail
    go_ret2
    exact⟨rfl,b1.out⟩
set_option maxRecDepth 8000 in
set_option maxHeartbeats 2000000 in
theorem parse_all (s:ByteArray) (l m f:Nat) (w:World) (hs:s.size≤1000000) (hm:m≤12) (hf:f≤6) (g:¬ (cntD s.data.toList < l∨m < cntD s.data.toList)) (g2:cntD s.data.toList=s.data.toList.length) :
    Calls Tryz.prog 191 #[.string s,.int .i64 (l:Int),.int .i64 (m:Int),.int .i64 (f:Int)] w fun e w'=>e=.returned (.tuple #[.int .i64 ((valD s.data.toList:Int) * tenI f),.bool true])∧Below w.heap.size w w':=by
  have HB:Hid (∀ k,k≤m→0≤sumV s 0 0 k∧sumV s 0 0 k≤9000000000000000000):=sumV_bound s 0 0 m 0 (by decide) (by decide) (by omega) hm
  have HX:=fun W gs gn ga B h1 h2 h3 h4 h5 h6=>next_any s 0 m 0 gs gn ga B W hs (Nat.zero_le _) hm h1 h2 h3 h4 h5 h6 HB
  have hA:=cntD_take s.data.toList
  rw [g2,List.take_length] at hA
  have hz:s.data.toList.length=s.size:=by simp
  have HT:=fun W=>Lib.hid (ten_any f W (by omega))
  have hv:=val_le hA (n:=f) (by omega)
  have hv0:(0:Int)≤(valD s.data.toList:Int):=by omega
  have hv1:(valD s.data.toList:Int) < tenI 12:=by
    have h1:=valD_lt s.data.toList hA
    have h2:(10:Nat) ^ s.data.toList.length≤10 ^ 12:=Nat.pow_le_pow_right (by decide) (by omega)
    rw [tenI_cast]
    omega
  rw [show tenI 12=1000000000000 from by decide] at hv1
  have hsum:sumV s 0 0 s.size=(valD s.data.toList:Int):=by
    unfold sumV
    rw [List.drop_zero,← hz,List.take_length]
    omega
  obtain⟨V,hVe⟩:∃ V,(valD s.data.toList:Int)=V:=⟨_,rfl⟩
  have t1:=tenI_pos f
  obtain⟨T,hTe⟩:∃ T,tenI f=T:=⟨_,rfl⟩
  rw [hVe] at hv0 hv1 hsum
  rw [hVe,hTe] at hv
  rw [hTe] at t1
  simp only [hTe] at HT
  rw [hVe,hTe]
  clear hVe hTe
  go_enter Tryz.func191,Tryz.ntmps191
  go_wp2_with fail
  refine (HX _ w.heap.size (w.heap.size+1) (w.heap.size+1+1) w.heap.size (next_start s w) (by omega) (by omega) (by omega) (by omega) (by omega)).mono ?_
  rintro e w1 ⟨K,nv2,hK,rfl,hst,hb,hz1,hex⟩
  have b1:=Lib.hid (((((Below.refl w.heap.size w).alloc (Nat.le_refl _) _).alloc (by simp) _).alloc (by simp;omega) _).trans hb)
  rw [List.drop_zero] at hK
  obtain rfl:K=s.size:=by omega
  obtain rfl:V=nv2:=by rw [hex (by omega),hsum]
  obtain⟨c1,c2,c3,-,-⟩:=hst
  have h1:(l:Int)≤(s.size:Int):=by omega
  have h2:(s.size:Int)≤(m:Int):=by omega
  rw [Nat.zero_add] at c3
  clear hK hex hsum HX HB hA g g2 hz hb hz1
  have hw:IntKind.i64.wrap (V * T)=V * T:=IntWalk.i64_in _ (by omega)
  have hw2:wrap64 (V * T)=V * T:=IntWalk.wrap64_in _ (by omega)
  have hf0:(0:Int)≤(f:Int):=by omega
  have hf6:(f:Int)≤6:=by omega
  have hw3:IntKind.i64.wrap ((f:Int) - 0)=(f:Int):=by rw [IntWalk.i64_in _ (by omega)];omega
  have hw4:IntKind.i64.wrap (f:Int)=(f:Int):=by rw [IntWalk.i64_in _ (by omega)]
  go_wp2_with fail
  go_quiet ((go_at_call 201;exact quiet_eq (HT _).out))
  go_wp2_with fail
  go_ret2
  exact⟨rfl,bdrewN b1.out _⟩
set_option maxRecDepth 8000 in
set_option maxHeartbeats 2000000 in
theorem parse_point (s:ByteArray) (a l m f:Nat) (w:World) (hs:s.size≤1000000) (hm:m≤12) (hf:f≤6) (ha:cntD s.data.toList=a) (h1:(l:Int)≤(a:Int)) (h2:(a:Int)≤(m:Int)) (hlt:a < s.size) (hc:(((s[a]'hlt).toNat:Int) != 46)=true) :
    Calls Tryz.prog 191 #[.string s,.int .i64 (l:Int),.int .i64 (m:Int),.int .i64 (f:Int)] w fun e w'=>e=.returned (.tuple #[.int .i64 0,.bool false])∧Below w.heap.size w w':=by
  have HB:Hid (∀ k,k≤m→0≤sumV s 0 0 k∧sumV s 0 0 k≤9000000000000000000):=sumV_bound s 0 0 m 0 (by decide) (by decide) (by omega) hm
  have HX:=fun W gs gn ga B h1 h2 h3 h4 h5 h6=>next_any s 0 m 0 gs gn ga B W hs (Nat.zero_le _) hm h1 h2 h3 h4 h5 h6 HB
  go_enter Tryz.func191,Tryz.ntmps191
  go_wp2_with fail
  refine (HX _ w.heap.size (w.heap.size+1) (w.heap.size+1+1) w.heap.size (next_start s w) (by omega) (by omega) (by omega) (by omega) (by omega)).mono ?_
  rintro e w1 ⟨K,nv2,hK,rfl,hst,hb,hz1,hex⟩
  have b1:=Lib.hid (((((Below.refl w.heap.size w).alloc (Nat.le_refl _) _).alloc (by simp) _).alloc (by simp;omega) _).trans hb)
  rw [List.drop_zero,ha] at hK
  obtain rfl:K=a:=by omega
  obtain⟨c1,c2,c3,-,-⟩:=hst
  rw [Nat.zero_add] at c3
  have i1:(K:Int) < (s.size:Int):=by omega
  have i2:(0:Int)≤(K:Int):=Int.natCast_nonneg _
  have i3:(K:Int).toNat=K:=by omega
  clear hK hex HX HB ha hb hz1
  go_wp2_with fail
  go_ret2
  exact⟨rfl,b1.out⟩
theorem next_again {s:ByteArray} {gs gn ga:Nat} {w1:World} {nv:Int} {a:Nat} (h:NextSt w1 gs gn ga s nv a) (hd2:gs≠ga) (hd3:gn≠ga):NextSt (w1.setCell ⟨ga,0,none⟩ (.int .i64 ((a:Int)+1))) gs gn ga s nv (a+1):=by
  obtain⟨c1,c2,c3,z1,z2⟩:=h
  refine⟨?_,?_,?_,?_,?_⟩
  · rw [World.cell?_setCell_other _ _ _ _ (fun e=>by injection e with e;exact hd2 e.symm)];exact c1
  · rw [World.cell?_setCell_other _ _ _ _ (fun e=>by injection e with e;exact hd3 e.symm)];exact c2
  · rw [World.cell?_setCell_same _ _ _ c3]
    rw [show ((a+1:Nat):Int)=(a:Int)+1 from by omega]
  · simpa using z1
  · simpa using z2
set_option maxRecDepth 8000 in
set_option maxHeartbeats 2000000 in
theorem parse_behind (s:ByteArray) (a b l m f:Nat) (w:World) (hs:s.size≤1000000) (hm:m≤12) (hf:f≤6) (ha:cntD s.data.toList=a) (h1:(l:Int)≤(a:Int)) (h2:(a:Int)≤(m:Int)) (hlt:a < s.size) (hc:(((s[a]'hlt).toNat:Int) != 46)=false) (hbe:cntD (s.data.toList.drop (a+1))=b)
    (g:b < 1∨f < b∨a+1+b≠s.size) :
    Calls Tryz.prog 191 #[.string s,.int .i64 (l:Int),.int .i64 (m:Int),.int .i64 (f:Int)] w fun e w'=>e=.returned (.tuple #[.int .i64 0,.bool false])∧Below w.heap.size w w':=by
  have HB:Hid (∀ k,k≤m→0≤sumV s 0 0 k∧sumV s 0 0 k≤9000000000000000000):=sumV_bound s 0 0 m 0 (by decide) (by decide) (by omega) hm
  have HX:=fun W gs gn ga B h1 h2 h3 h4 h5 h6=>next_any s 0 m 0 gs gn ga B W hs (Nat.zero_le _) hm h1 h2 h3 h4 h5 h6 HB
  have hA:=cntD_take s.data.toList
  rw [ha] at hA
  have hV:sumV s 0 0 a=(valD (s.data.toList.take a):Int):=by
    unfold sumV
    rw [List.drop_zero]
    omega
  have hV0:0≤sumV s 0 0 a:=by rw [hV];omega
  have hV1:sumV s 0 0 a < tenI 12:=by
    have e1:=valD_lt _ hA
    have e2:(10:Nat) ^ (s.data.toList.take a).length≤10 ^ 12:=Nat.pow_le_pow_right (by decide) (by rw [List.length_take];omega)
    rw [hV,tenI_cast]
    omega
  have HB2:Hid (∀ k,k≤f→0≤sumV s (a+1) (sumV s 0 0 a) k∧sumV s (a+1) (sumV s 0 0 a) k≤9000000000000000000):=sumV_bound s (a+1) _ f 12 hV0 hV1 (by omega) (by omega)
  have hblen:=cntD_le (s.data.toList.drop (a+1))
  rw [hbe,List.length_drop,show s.data.toList.length=s.size from by simp] at hblen
  obtain⟨V,hVe⟩:∃ V,sumV s 0 0 a=V:=⟨_,rfl⟩
  rw [hVe] at HB2
  have HVE:=Lib.hid hVe
  clear hV hV0 hV1 hA hVe
  have HX2:=fun W gs gn ga B h1 h2 h3 h4 h5 h6=>next_any s (a+1) f V gs gn ga B W hs (by omega) (by omega) h1 h2 h3 h4 h5 h6 HB2
  go_enter Tryz.func191,Tryz.ntmps191
  go_wp2_with fail
  refine (HX _ w.heap.size (w.heap.size+1) (w.heap.size+1+1) w.heap.size (next_start s w) (by omega) (by omega) (by omega) (by omega) (by omega)).mono ?_
  rintro e w1 ⟨K,nv2,hK,rfl,hst,hb,hz1,hex⟩
  have b1:=Lib.hid (((((Below.refl w.heap.size w).alloc (Nat.le_refl _) _).alloc (by simp) _).alloc (by simp;omega) _).trans hb)
  rw [List.drop_zero,ha] at hK
  obtain rfl:K=a:=by omega
  obtain rfl:nv2=V:=(hex (by omega)).trans HVE.out
  rw [Nat.zero_add] at hst
  have hst2:=Lib.hid (next_again hst (by omega) (by omega))
  obtain⟨c1,c2,c3,-,z3⟩:=hst
  have i1:(K:Int) < (s.size:Int):=by omega
  have i2:(0:Int)≤(K:Int):=Int.natCast_nonneg _
  have i3:(K:Int).toNat=K:=by omega
  clear hK hex HX HB ha hb hz1
  go_wp2_with fail
  refine (HX2 _ w.heap.size (w.heap.size+1) (w.heap.size+1+1) w.heap.size hst2.out (by omega) (by omega) (by omega) (by omega) (by omega)).mono ?_
  rintro e w2 ⟨K2,nv3,hK2,rfl,hst3,hb2,hz2,hex2⟩
  have b2:=Lib.hid ((b1.out.setCell (show w.heap.size≤w.heap.size+1+1 by omega) _).trans hb2)
  obtain⟨d1,d2,d3,-,-⟩:=hst3
  rw [hbe] at hK2
  clear hex2 HX2 HB2 hb2 hz2 hst2 hbe c1 c2 c3 z3
  by_cases k1:(K2:Int) < 1
  · go_wp2_with fail
    go_ret2
    exact⟨rfl,b2.out⟩
  · by_cases k2:(f:Int) < (K2:Int)
    · have k3:(1:Int)≤(K2:Int):=by omega
      clear hK2 g k1
      go_wp2_with fail
      go_ret2
      exact⟨rfl,b2.out⟩
    · have k3:(1:Int)≤(K2:Int):=by omega
      have k4:(K2:Int)≤(f:Int):=by omega
      have k5:((K+1+K2:Nat):Int) < (s.size:Int):=by omega
      clear hK2 g k1 k2
      generalize K+1+K2=Z at *
      go_wp2_with fail
      go_ret2
      exact⟨rfl,b2.out⟩
set_option maxRecDepth 8000 in
set_option maxHeartbeats 2000000 in
theorem parse_good (s:ByteArray) (a b l m f:Nat) (w:World) (hs:s.size≤1000000) (hm:m≤12) (hf:f≤6) (ha:cntD s.data.toList=a) (h1:(l:Int)≤(a:Int)) (h2:(a:Int)≤(m:Int)) (hlt:a < s.size) (hc:(((s[a]'hlt).toNat:Int) != 46)=false) (hbe:cntD (s.data.toList.drop (a+1))=b)
    (g1:(1:Int)≤(b:Int)) (g2:b≤f) (g3:a+1+b=s.size) :
    Calls Tryz.prog 191 #[.string s,.int .i64 (l:Int),.int .i64 (m:Int),.int .i64 (f:Int)] w fun e w'=>e=.returned (.tuple #[.int .i64 ((valD (s.data.toList.take a):Int) * tenI f+(valD (s.data.toList.drop (a+1)):Int) * tenI (f - b)),.bool true])∧Below w.heap.size w w':=by
  have HB:Hid (∀ k,k≤m→0≤sumV s 0 0 k∧sumV s 0 0 k≤9000000000000000000):=sumV_bound s 0 0 m 0 (by decide) (by decide) (by omega) hm
  have HX:=fun W gs gn ga B h1 h2 h3 h4 h5 h6=>next_any s 0 m 0 gs gn ga B W hs (Nat.zero_le _) hm h1 h2 h3 h4 h5 h6 HB
  have HT:=fun W=>Lib.hid (ten_any (f - b) W (by omega))
  have hA:=cntD_take s.data.toList
  rw [ha] at hA
  have hV:sumV s 0 0 a=(valD (s.data.toList.take a):Int):=by
    unfold sumV
    rw [List.drop_zero]
    omega
  have hV0:0≤sumV s 0 0 a:=by rw [hV];omega
  have hV1:sumV s 0 0 a < tenI 12:=by
    have e1:=valD_lt _ hA
    have e2:(10:Nat) ^ (s.data.toList.take a).length≤10 ^ 12:=Nat.pow_le_pow_right (by decide) (by rw [List.length_take];omega)
    rw [hV,tenI_cast]
    omega
  have HB2:Hid (∀ k,k≤f→0≤sumV s (a+1) (sumV s 0 0 a) k∧sumV s (a+1) (sumV s 0 0 a) k≤9000000000000000000):=sumV_bound s (a+1) _ f 12 hV0 hV1 (by omega) (by omega)
  have hB:=cntD_take (s.data.toList.drop (a+1))
  have hlen:(s.data.toList.drop (a+1)).length=b:=by rw [List.length_drop,show s.data.toList.length=s.size from by simp];omega
  rw [hbe,← hlen,List.take_length] at hB
  have hsum:sumV s (a+1) (sumV s 0 0 a) b * tenI (f - b)=(valD (s.data.toList.take a):Int) * tenI f+(valD (s.data.toList.drop (a+1)):Int) * tenI (f - b):=by
    rw [show sumV s (a+1) (sumV s 0 0 a) b=sumV s 0 0 a * tenI b+(valD (s.data.toList.drop (a+1)):Int) from by
      unfold sumV
      rw [show (s.data.toList.drop (a+1)).take b=s.data.toList.drop (a+1) from by rw [← hlen,List.take_length]],hV,Int.add_mul,Int.mul_assoc]
    rw [show tenI b * tenI (f - b)=tenI f from by
      rw [tenI_cast,tenI_cast,tenI_cast,← Int.natCast_mul,← Nat.pow_add,show b+(f - b)=f from by omega]]
  have v1:=val_le hA (n:=f) (by rw [List.length_take];omega)
  have v2:=val_le hB (n:=f - b) (by omega)
  have hR:0≤sumV s (a+1) (sumV s 0 0 a) b * tenI (f - b)∧sumV s (a+1) (sumV s 0 0 a) b * tenI (f - b)≤2000000000000000000:=by rw [hsum];omega
  rw [← hsum]
  have hS0:=(HB2.out b g2)
  obtain⟨S,hSe⟩:∃ S,sumV s (a+1) (sumV s 0 0 a) b=S:=⟨_,rfl⟩
  rw [hSe] at hR hS0 ⊢
  have HSE:=Lib.hid hSe
  obtain⟨V,hVe⟩:∃ V,sumV s 0 0 a=V:=⟨_,rfl⟩
  rw [hVe] at HB2 HSE
  have HVE:=Lib.hid hVe
  obtain⟨T,hTe⟩:∃ T,tenI (f - b)=T:=⟨_,rfl⟩
  have t1:=tenI_pos (f - b)
  simp only [hTe,show ((f - b:Nat):Int)=(f:Int) - (b:Int) from by omega] at HT
  rw [hTe] at hR t1 ⊢
  clear hV hV0 hV1 hA hVe hSe hTe v1 v2 hsum hB hlen
  have HX2:=fun W gs gn ga B h1 h2 h3 h4 h5 h6=>next_any s (a+1) f V gs gn ga B W hs (by omega) (by omega) h1 h2 h3 h4 h5 h6 HB2
  go_enter Tryz.func191,Tryz.ntmps191
  go_wp2_with fail
  refine (HX _ w.heap.size (w.heap.size+1) (w.heap.size+1+1) w.heap.size (next_start s w) (by omega) (by omega) (by omega) (by omega) (by omega)).mono ?_
  rintro e w1 ⟨K,nv2,hK,rfl,hst,hb,hz1,hex⟩
  have b1:=Lib.hid (((((Below.refl w.heap.size w).alloc (Nat.le_refl _) _).alloc (by simp) _).alloc (by simp;omega) _).trans hb)
  rw [List.drop_zero,ha] at hK
  obtain rfl:a=K:=by omega
  obtain rfl:V=nv2:=((hex (by omega)).trans HVE.out).symm
  rw [Nat.zero_add] at hst
  have hst2:=Lib.hid (next_again hst (by omega) (by omega))
  obtain⟨c1,c2,c3,-,z3⟩:=hst
  have i1:(a:Int) < (s.size:Int):=by omega
  have i2:(0:Int)≤(a:Int):=Int.natCast_nonneg _
  have i3:(a:Int).toNat=a:=by omega
  clear hK hex HX HB ha hb hz1
  go_wp2_with fail
  refine (HX2 _ w.heap.size (w.heap.size+1) (w.heap.size+1+1) w.heap.size hst2.out (by omega) (by omega) (by omega) (by omega) (by omega)).mono ?_
  rintro e w2 ⟨K2,nv3,hK2,rfl,hst3,hb2,hz2,hex2⟩
  have b2:=Lib.hid ((b1.out.setCell (show w.heap.size≤w.heap.size+1+1 by omega) _).trans hb2)
  rw [hbe] at hK2
  obtain rfl:b=K2:=by omega
  obtain rfl:S=nv3:=((hex2 (by omega)).trans HSE.out).symm
  obtain⟨d1,d2,d3,-,-⟩:=hst3
  have k4:(b:Int)≤(f:Int):=by omega
  rw [g3] at d3
  clear hex2 HX2 HB2 hb2 hz2 hst2 hbe c1 c2 c3 z3 hK2 HSE HVE
  have hf6:(f:Int)≤6:=by omega
  have hw:IntKind.i64.wrap (S * T)=S * T:=IntWalk.i64_in _ (by omega)
  have hw2:wrap64 (S * T)=S * T:=IntWalk.wrap64_in _ (by omega)
  have hw3:IntKind.i64.wrap ((f:Int) - (b:Int))=(f:Int) - (b:Int):=IntWalk.i64_in _ (by omega)
  go_wp2_with fail
  go_quiet ((go_at_call 201;exact quiet_eq (HT _).out))
  go_wp2_with fail
  go_ret2
  exact⟨rfl,bdrewN b2.out _⟩
theorem parse_any (s:ByteArray) (l m f:Nat) (w:World) (hs:s.size≤1000000) (hm:m≤12) (hf:f≤6) :
    Calls Tryz.prog 191 #[.string s,.int .i64 (l:Int),.int .i64 (m:Int),.int .i64 (f:Int)] w fun e w'=>e=.returned (.tuple #[.int .i64 (((parseN s.data.toList l m f).getD 0:Nat):Int),.bool (parseN s.data.toList l m f).isSome])∧Below w.heap.size w w':=by
  have hz:s.data.toList.length=s.size:=by simp
  unfold parseN
  by_cases g1:cntD s.data.toList < l∨m < cntD s.data.toList
  · rw [if_pos g1]
    exact parse_head s l m f w hs hm hf g1
  rw [if_neg g1]
  by_cases g2:cntD s.data.toList=s.data.toList.length
  · rw [if_pos g2]
    have h:=parse_all s l m f w hs hm hf g1 g2
    rw [tenI_cast,← Int.natCast_mul] at h
    exact h
  rw [if_neg g2]
  have hle:=cntD_le s.data.toList
  obtain⟨a,ha⟩:∃ a,cntD s.data.toList=a:=⟨_,rfl⟩
  rw [ha] at g1 g2 hle ⊢
  have hlt:a < s.size:=by omega
  obtain⟨b,hbe⟩:∃ b,cntD (s.data.toList.drop (a+1))=b:=⟨_,rfl⟩
  rw [hbe]
  have h46:s.data.toList[a]?=some 46↔((s[a]'hlt).toNat:Int)=46:=by
    rw [List.getElem?_eq_getElem (by omega)]
    constructor
    · intro k;injection k with k
      have k2:s[a]=46:=k
      rw [k2];rfl
    · intro k
      have k2:s[a]=46:=UInt8.toNat_inj.1 (by have e:(46:UInt8).toNat=46:=rfl;omega)
      exact congrArg some k2
  by_cases g3:s.data.toList[a]?≠some 46∨b < 1∨f < b∨a+1+b≠s.data.toList.length
  · rw [if_pos g3]
    by_cases k46:((s[a]'hlt).toNat:Int)=46
    · refine parse_behind s a b l m f w hs hm hf ha (by omega) (by omega) hlt (by rw [bne_eq_false_iff_eq];exact k46) hbe ?_
      rcases g3 with g | g | g | g
      · exact absurd (h46.2 k46) g
      · exact .inl g
      · exact .inr (.inl g)
      · exact .inr (.inr (by omega))
    · exact parse_point s a l m f w hs hm hf ha (by omega) (by omega) hlt (by rw [bne_iff_ne];exact k46)
  · rw [if_neg g3]
    have g4:s.data.toList[a]?=some 46:=Classical.not_not.1 fun k=>g3 (.inl k)
    have h:=parse_good s a b l m f w hs hm hf ha (by omega) (by omega) hlt (by rw [bne_eq_false_iff_eq];exact h46.1 g4) hbe (by omega) (by omega) (by omega)
    rw [tenI_cast,tenI_cast,← Int.natCast_mul,← Int.natCast_mul,← Int.natCast_add] at h
    exact h
end Go.Proofs.YtoabkoniegmkaaaGreat
