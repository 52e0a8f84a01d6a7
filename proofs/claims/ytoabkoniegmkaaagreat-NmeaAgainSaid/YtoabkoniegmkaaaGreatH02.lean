/- Layer 23: the program's parse. -/
import Derived.Test.YtoabkoniegmkaaaGreatH01
import Derived.Deep.QuietTactic
namespace Go.Proofs.YtoabkoniegmkaaaGreat
set_option linter.unusedVariables false
open Go.RowKit
theorem valD_any (l:List UInt8):valD l+29≤29 * 10 ^ l.length:=by
  have key:∀ r:List UInt8,valD r.reverse+29≤29 * 10 ^ r.length:=by
    intro r
    induction r with
    | nil=>decide
    | cons c r ih=>
      have h2:=c.toNat_lt
      rw [List.reverse_cons,valD_snoc,List.length_cons,Nat.pow_succ]
      omega
  have:=key l.reverse
  rw [List.reverse_reverse,List.length_reverse] at this
  exact this
theorem sumV_bound (s:ByteArray) (a:Nat) (nv:Int) (most n:Nat) (h0:0≤nv) (h1:nv < tenI n) (h2:n+most≤18) (h3:most≤12):∀ k,k≤most→0≤sumV s a nv k∧sumV s a nv k≤9000000000000000000:=by
  intro k hk
  unfold sumV
  have e1:=tenI_pos k
  have e2:nv * tenI k≤tenI n * tenI k:=Int.mul_le_mul_of_nonneg_right (by omega) (by omega)
  have e3:tenI n * tenI k≤1000000000000000000:=by
    rw [tenI_cast,tenI_cast,← Int.natCast_mul,← Nat.pow_add]
    have:(10:Nat) ^ (n+k)≤10 ^ 18:=Nat.pow_le_pow_right (by decide) (by omega)
    have e:(10:Nat) ^ 18=1000000000000000000:=by decide
    omega
  have e4:0≤nv * tenI k:=Int.mul_nonneg h0 (by omega)
  have e5:=valD_any ((s.data.toList.drop a).take k)
  have e6:(10:Nat) ^ ((s.data.toList.drop a).take k).length≤10 ^ 12:=Nat.pow_le_pow_right (by decide) (by rw [List.length_take];omega)
  have e:(10:Nat) ^ 12=1000000000000:=by decide
  omega
theorem quiet_eq {P:Program} {f:FuncId} {args:Array Value} {w:World} {n:Nat} {v:Value}
    (h:Calls P f args (w.drewN n) fun e w'=>e=.returned v∧w.drewN n=w'):Calls P f args (w.drewN n) fun e w''=>e=.returned v∧∃ m,w''=w.drewN m:=
  h.mono fun _ _ ⟨he,hm⟩=>⟨he,n,hm.symm⟩
theorem frozen_past (w:World) (n o:Nat) (h:w.heap.size≤n):w.frozen? ⟨n,o,none⟩=false:=by
  unfold World.frozen?
  rw [Array.getElem?_eq_none h]
theorem next_start (s:ByteArray) (w:World):NextSt (((w.alloc (.cells #[.string s] 9)).alloc (.cells #[.int .i64 0] 2)).alloc (.cells #[.int .i64 0] 3)) w.heap.size (w.heap.size+1) (w.heap.size+1+1) s 0 0:=by
  have n1:(w.alloc (.cells #[.string s] 9)).heap.size=w.heap.size+1:=by simp
  have n2:((w.alloc (.cells #[.string s] 9)).alloc (.cells #[.int .i64 0] 2)).heap.size=w.heap.size+1+1:=by simp
  refine⟨?_,?_,?_,?_,?_⟩
  · rw [World.cell?_alloc_past _ _ _ (by omega),World.cell?_alloc_past _ _ _ (by omega),World.cell?_alloc_at _ _ _ _ rfl];rfl
  · rw [World.cell?_alloc_past _ _ _ (by omega),World.cell?_alloc_at _ _ _ _ n1.symm];rfl
  · rw [World.cell?_alloc_at _ _ _ _ n2.symm];rfl
  · rw [frozen?_alloc_cells,frozen?_alloc_cells,frozen?_alloc_cells];exact frozen_past _ _ _ (by omega)
  · rw [frozen?_alloc_cells,frozen?_alloc_cells,frozen?_alloc_cells];exact frozen_past _ _ _ (by omega)
set_option maxHeartbeats 2000000 in
theorem parse_head (s:ByteArray) (l m f:Nat) (w:World) (hs:s.size≤1000000) (hm:m≤12) (hf:f≤6) (g:cntD s.data.toList < l∨m < cntD s.data.toList) :
    Calls Tryz.prog 191 #[.string s,.int .i64 (l:Int),.int .i64 (m:Int),.int .i64 (f:Int)] w fun e w'=>e=.returned (.tuple #[.int .i64 0,.bool false])∧Below w.heap.size w w':=by
  have HB:Hid (∀ k,k≤m→0≤sumV s 0 0 k∧sumV s 0 0 k≤9000000000000000000):=sumV_bound s 0 0 m 0 (by decide) (by decide) (by omega) hm
  have HX:=fun W gs gn ga B h1 h2 h3 h4 h5 h6=>next_any s 0 m 0 gs gn ga B W hs (Nat.zero_le _) hm h1 h2 h3 h4 h5 h6 HB
  go_enter Tryz.func191,Tryz.ntmps191
  go_wp2_with fail
  refine (HX _ w.heap.size (w.heap.size+1) (w.heap.size+1+1) w.heap.size (next_start s w) (by omega) (by omega) (by omega) (by omega) (by omega)).mono ?_
  rintro e w1 ⟨K,nv2,hK,rfl,hst,hb,hz,hex⟩
  have b1:=Lib.hid (((((Below.refl w.heap.size w).alloc (Nat.le_refl _) _).alloc (by simp) _).alloc (by simp;omega) _).trans hb)
  rw [List.drop_zero] at hK
  clear hst hb hz hex HX HB
  by_cases h:(K:Int) < (l:Int)
  · go_wp2_with fail
    go_ret2
    exact⟨rfl,b1.out⟩
  · have h2:(m:Int) < (K:Int):=by omega
    have h1:(l:Int)≤(K:Int):=by omega
    clear hK g h
    go_wp2_with fail
    go_ret2
    exact⟨rfl,b1.out⟩
set_option maxRecDepth 8000 in
set_option maxHeartbeats 2000000 in
theorem parse_all (s:ByteArray) (l m f:Nat) (w:World) (hs:s.size≤1000000) (hm:m≤12) (hf:f≤6) (g:¬ (cntD s.data.toList < l∨m < cntD s.data.toList)) (g2:cntD s.data.toList=s.data.toList.length) :
    Calls Tryz.prog 191 #[.string s,.int .i64 (l:Int),.int .i64 (m:Int),.int .i64 (f:Int)] w fun e w'=>e=.returned (.tuple #[.int .i64 ((valD s.data.toList:Int) * tenI f),.bool true])∧Below w.heap.size w w':=by
  have HB:Hid (∀ k,k≤m→0≤sumV s 0 0 k∧sumV s 0 0 k≤9000000000000000000):=sumV_bound s 0 0 m 0 (by decide) (by decide) (by omega) hm
  have HX:=fun W gs gn ga B h1 h2 h3 h4 h5 h6=>next_any s 0 m 0 gs gn ga B W hs (Nat.zero_le _) hm h1 h2 h3 h4 h5 h6 HB
  have hA:=cntD_take s.data.toList
  rw [g2,List.take_length] at hA
  have hz:s.data.toList.length=s.size:=by simp
  have HT:=fun W=>Lib.hid (ten_any f W (by omega))
  have hv:=val_le hA (n:=f) (by omega)
  have hv0:(0:Int)≤(valD s.data.toList:Int):=by omega
  have hv1:(valD s.data.toList:Int) < tenI 12:=by
    have h1:=valD_lt s.data.toList hA
    have h2:(10:Nat) ^ s.data.toList.length≤10 ^ 12:=Nat.pow_le_pow_right (by decide) (by omega)
    rw [tenI_cast]
    omega
  rw [show tenI 12=1000000000000 from by decide] at hv1
  have hsum:sumV s 0 0 s.size=(valD s.data.toList:Int):=by
    unfold sumV
    rw [List.drop_zero,← hz,List.take_length]
    omega
  obtain⟨V,hVe⟩:∃ V,(valD s.data.toList:Int)=V:=⟨_,rfl⟩
  have t1:=tenI_pos f
  obtain⟨T,hTe⟩:∃ T,tenI f=T:=⟨_,rfl⟩
  rw [hVe] at hv0 hv1 hsum
  rw [hVe,hTe] at hv
  rw [hTe] at t1
  simp only [hTe] at HT
  rw [hVe,hTe]
  clear hVe hTe
  go_enter Tryz.func191,Tryz.ntmps191
  go_wp2_with fail
  refine (HX _ w.heap.size (w.heap.size+1) (w.heap.size+1+1) w.heap.size (next_start s w) (by omega) (by omega) (by omega) (by omega) (by omega)).mono ?_
  rintro e w1 ⟨K,nv2,hK,rfl,hst,hb,hz1,hex⟩
  have b1:=Lib.hid (((((Below.refl w.heap.size w).alloc (Nat.le_refl _) _).alloc (by simp) _).alloc (by simp;omega) _).trans hb)
  rw [List.drop_zero] at hK
  obtain rfl:K=s.size:=by omega
  obtain rfl:V=nv2:=by rw [hex (by omega),hsum]
  obtain⟨c1,c2,c3,-,-⟩:=hst
  have h1:(l:Int)≤(s.size:Int):=by omega
  have h2:(s.size:Int)≤(m:Int):=by omega
  rw [Nat.zero_add] at c3
  clear hK hex hsum HX HB hA g g2 hz hb hz1
  have hw:IntKind.i64.wrap (V * T)=V * T:=IntWalk.i64_in _ (by omega)
  have hw2:wrap64 (V * T)=V * T:=IntWalk.wrap64_in _ (by omega)
  have hf0:(0:Int)≤(f:Int):=by omega
  have hf6:(f:Int)≤6:=by omega
  have hw3:IntKind.i64.wrap ((f:Int) - 0)=(f:Int):=by rw [IntWalk.i64_in _ (by omega)];omega
  have hw4:IntKind.i64.wrap (f:Int)=(f:Int):=by rw [IntWalk.i64_in _ (by omega)]
  go_wp2_with fail
  go_quiet ((go_at_call 201;exact quiet_eq (HT _).out))
  go_wp2_with fail
  go_ret2
  exact⟨rfl,bdrewN b1.out _⟩
set_option maxRecDepth 8000 in
set_option maxHeartbeats 2000000 in
theorem parse_point (s:ByteArray) (a l m f:Nat) (w:World) (hs:s.size≤1000000) (hm:m≤12) (hf:f≤6) (ha:cntD s.data.toList=a) (h1:(l:Int)≤(a:Int)) (h2:(a:Int)≤(m:Int)) (hlt:a < s.size) (hc:(((s[a]'hlt).toNat:Int) != 46)=true) :
    Calls Tryz.prog 191 #[.string s,.int .i64 (l:Int),.int .i64 (m:Int),.int .i64 (f:Int)] w fun e w'=>e=.returned (.tuple #[.int .i64 0,.bool false])∧Below w.heap.size w w':=by
  have HB:Hid (∀ k,k≤m→0≤sumV s 0 0 k∧sumV s 0 0 k≤9000000000000000000):=sumV_bound s 0 0 m 0 (by decide) (by decide) (by omega) hm
  have HX:=fun W gs gn ga B h1 h2 h3 h4 h5 h6=>next_any s 0 m 0 gs gn ga B W hs (Nat.zero_le _) hm h1 h2 h3 h4 h5 h6 HB
  go_enter Tryz.func191,Tryz.ntmps191
  go_wp2_with fail
  refine (HX _ w.heap.size (w.heap.size+1) (w.heap.size+1+1) w.heap.size (next_start s w) (by omega) (by omega) (by omega) (by omega) (by omega)).mono ?_
  rintro e w1 ⟨K,nv2,hK,rfl,hst,hb,hz1,hex⟩
  have b1:=Lib.hid (((((Below.refl w.heap.size w).alloc (Nat.le_refl _) _).alloc (by simp) _).alloc (by simp;omega) _).trans hb)
  rw [List.drop_zero,ha] at hK
  obtain rfl:K=a:=by omega
  obtain⟨c1,c2,c3,-,-⟩:=hst
  rw [Nat.zero_add] at c3
  have i1:(K:Int) < (s.size:Int):=by omega
  have i2:(0:Int)≤(K:Int):=Int.natCast_nonneg _
  have i3:(K:Int).toNat=K:=by omega
  clear hK hex HX HB ha hb hz1
  go_wp2_with fail
  go_ret2
  exact⟨rfl,b1.out⟩
theorem next_again {s:ByteArray} {gs gn ga:Nat} {w1:World} {nv:Int} {a:Nat} (h:NextSt w1 gs gn ga s nv a) (hd2:gs≠ga) (hd3:gn≠ga):NextSt (w1.setCell ⟨ga,0,none⟩ (.int .i64 ((a:Int)+1))) gs gn ga s nv (a+1):=by
  obtain⟨c1,c2,c3,z1,z2⟩:=h
  refine⟨?_,?_,?_,?_,?_⟩
  · rw [World.cell?_setCell_other _ _ _ _ (fun e=>by injection e with e;exact hd2 e.symm)];exact c1
  · rw [World.cell?_setCell_other _ _ _ _ (fun e=>by injection e with e;exact hd3 e.symm)];exact c2
  · rw [World.cell?_setCell_same _ _ _ c3]
    rw [show ((a+1:Nat):Int)=(a:Int)+1 from by omega]
  · simpa using z1
  · simpa using z2
set_option maxRecDepth 8000 in
set_option maxHeartbeats 2000000 in
theorem parse_behind (s:ByteArray) (a b l m f:Nat) (w:World) (hs:s.size≤1000000) (hm:m≤12) (hf:f≤6) (ha:cntD s.data.toList=a) (h1:(l:Int)≤(a:Int)) (h2:(a:Int)≤(m:Int)) (hlt:a < s.size) (hc:(((s[a]'hlt).toNat:Int) != 46)=false) (hbe:cntD (s.data.toList.drop (a+1))=b)
    (g:b < 1∨f < b∨a+1+b≠s.size) :
    Calls Tryz.prog 191 #[.string s,.int .i64 (l:Int),.int .i64 (m:Int),.int .i64 (f:Int)] w fun e w'=>e=.returned (.tuple #[.int .i64 0,.bool false])∧Below w.heap.size w w':=by
  have HB:Hid (∀ k,k≤m→0≤sumV s 0 0 k∧sumV s 0 0 k≤9000000000000000000):=sumV_bound s 0 0 m 0 (by decide) (by decide) (by omega) hm
  have HX:=fun W gs gn ga B h1 h2 h3 h4 h5 h6=>next_any s 0 m 0 gs gn ga B W hs (Nat.zero_le _) hm h1 h2 h3 h4 h5 h6 HB
  have hA:=cntD_take s.data.toList
  rw [ha] at hA
  have hV:sumV s 0 0 a=(valD (s.data.toList.take a):Int):=by
    unfold sumV
    rw [List.drop_zero]
    omega
  have hV0:0≤sumV s 0 0 a:=by rw [hV];omega
  have hV1:sumV s 0 0 a < tenI 12:=by
    have e1:=valD_lt _ hA
    have e2:(10:Nat) ^ (s.data.toList.take a).length≤10 ^ 12:=Nat.pow_le_pow_right (by decide) (by rw [List.length_take];omega)
    rw [hV,tenI_cast]
    omega
  have HB2:Hid (∀ k,k≤f→0≤sumV s (a+1) (sumV s 0 0 a) k∧sumV s (a+1) (sumV s 0 0 a) k≤9000000000000000000):=sumV_bound s (a+1) _ f 12 hV0 hV1 (by omega) (by omega)
  have hblen:=cntD_le (s.data.toList.drop (a+1))
  rw [hbe,List.length_drop,show s.data.toList.length=s.size from by simp] at hblen
  obtain⟨V,hVe⟩:∃ V,sumV s 0 0 a=V:=⟨_,rfl⟩
  rw [hVe] at HB2
  have HVE:=Lib.hid hVe
  clear hV hV0 hV1 hA hVe
  have HX2:=fun W gs gn ga B h1 h2 h3 h4 h5 h6=>next_any s (a+1) f V gs gn ga B W hs (by omega) (by omega) h1 h2 h3 h4 h5 h6 HB2
  go_enter Tryz.func191,Tryz.ntmps191
  go_wp2_with fail
  refine (HX _ w.heap.size (w.heap.size+1) (w.heap.size+1+1) w.heap.size (next_start s w) (by omega) (by omega) (by omega) (by omega) (by omega)).mono ?_
  rintro e w1 ⟨K,nv2,hK,rfl,hst,hb,hz1,hex⟩
  have b1:=Lib.hid (((((Below.refl w.heap.size w).alloc (Nat.le_refl _) _).alloc (by simp) _).alloc (by simp;omega) _).trans hb)
  rw [List.drop_zero,ha] at hK
  obtain rfl:K=a:=by omega
  obtain rfl:nv2=V:=(hex (by omega)).trans HVE.out
  rw [Nat.zero_add] at hst
  have hst2:=Lib.hid (next_again hst (by omega) (by omega))
  obtain⟨c1,c2,c3,-,z3⟩:=hst
  have i1:(K:Int) < (s.size:Int):=by omega
  have i2:(0:Int)≤(K:Int):=Int.natCast_nonneg _
  have i3:(K:Int).toNat=K:=by omega
  clear hK hex HX HB ha hb hz1
  go_wp2_with fail
  refine (HX2 _ w.heap.size (w.heap.size+1) (w.heap.size+1+1) w.heap.size hst2.out (by omega) (by omega) (by omega) (by omega) (by omega)).mono ?_
  rintro e w2 ⟨K2,nv3,hK2,rfl,hst3,hb2,hz2,hex2⟩
  have b2:=Lib.hid ((b1.out.setCell (show w.heap.size≤w.heap.size+1+1 by omega) _).trans hb2)
  obtain⟨d1,d2,d3,-,-⟩:=hst3
  rw [hbe] at hK2
  clear hex2 HX2 HB2 hb2 hz2 hst2 hbe c1 c2 c3 z3
  by_cases k1:(K2:Int) < 1
  · go_wp2_with fail
    go_ret2
    exact⟨rfl,b2.out⟩
  · by_cases k2:(f:Int) < (K2:Int)
    · have k3:(1:Int)≤(K2:Int):=by omega
      clear hK2 g k1
      go_wp2_with fail
      go_ret2
      exact⟨rfl,b2.out⟩
    · have k3:(1:Int)≤(K2:Int):=by omega
      have k4:(K2:Int)≤(f:Int):=by omega
      have k5:((K+1+K2:Nat):Int) < (s.size:Int):=by omega
      clear hK2 g k1 k2
      generalize K+1+K2=Z at *
      go_wp2_with fail
      go_ret2
      exact⟨rfl,b2.out⟩
set_option maxRecDepth 8000 in
set_option maxHeartbeats 2000000 in
theorem parse_good (s:ByteArray) (a b l m f:Nat) (w:World) (hs:s.size≤1000000) (hm:m≤12) (hf:f≤6) (ha:cntD s.data.toList=a) (h1:(l:Int)≤(a:Int)) (h2:(a:Int)≤(m:Int)) (hlt:a < s.size) (hc:(((s[a]'hlt).toNat:Int) != 46)=false) (hbe:cntD (s.data.toList.drop (a+1))=b)
    (g1:(1:Int)≤(b:Int)) (g2:b≤f) (g3:a+1+b=s.size) :
    Calls Tryz.prog 191 #[.string s,.int .i64 (l:Int),.int .i64 (m:Int),.int .i64 (f:Int)] w fun e w'=>e=.returned (.tuple #[.int .i64 ((valD (s.data.toList.take a):Int) * tenI f+(valD (s.data.toList.drop (a+1)):Int) * tenI (f - b)),.bool true])∧Below w.heap.size w w':=by
  have HB:Hid (∀ k,k≤m→0≤sumV s 0 0 k∧sumV s 0 0 k≤9000000000000000000):=sumV_bound s 0 0 m 0 (by decide) (by decide) (by omega) hm
  have HX:=fun W gs gn ga B h1 h2 h3 h4 h5 h6=>next_any s 0 m 0 gs gn ga B W hs (Nat.zero_le _) hm h1 h2 h3 h4 h5 h6 HB
  have HT:=fun W=>Lib.hid (ten_any (f - b) W (by omega))
  have hA:=cntD_take s.data.toList
  rw [ha] at hA
  have hV:sumV s 0 0 a=(valD (s.data.toList.take a):Int):=by
    unfold sumV
    rw [List.drop_zero]
    omega
  have hV0:0≤sumV s 0 0 a:=by rw [hV];omega
  have hV1:sumV s 0 0 a < tenI 12:=by
    have e1:=valD_lt _ hA
    have e2:(10:Nat) ^ (s.data.toList.take a).length≤10 ^ 12:=Nat.pow_le_pow_right (by decide) (by rw [List.length_take];omega)
    rw [hV,tenI_cast]
    omega
  have HB2:Hid (∀ k,k≤f→0≤sumV s (a+1) (sumV s 0 0 a) k∧sumV s (a+1) (sumV s 0 0 a) k≤9000000000000000000):=sumV_bound s (a+1) _ f 12 hV0 hV1 (by omega) (by omega)
  have hB:=cntD_take (s.data.toList.drop (a+1))
  have hlen:(s.data.toList.drop (a+1)).length=b:=by rw [List.length_drop,show s.data.toList.length=s.size from by simp];omega
  rw [hbe,← hlen,List.take_length] at hB
  have hsum:sumV s (a+1) (sumV s 0 0 a) b * tenI (f - b)=(valD (s.data.toList.take a):Int) * tenI f+(valD (s.data.toList.drop (a+1)):Int) * tenI (f - b):=by
    rw [show sumV s (a+1) (sumV s 0 0 a) b=sumV s 0 0 a * tenI b+(valD (s.data.toList.drop (a+1)):Int) from by
      unfold sumV
      rw [show (s.data.toList.drop (a+1)).take b=s.data.toList.drop (a+1) from by rw [← hlen,List.take_length]],hV,Int.add_mul,Int.mul_assoc]
    rw [show tenI b * tenI (f - b)=tenI f from by
      rw [tenI_cast,tenI_cast,tenI_cast,← Int.natCast_mul,← Nat.pow_add,show b+(f - b)=f from by omega]]
  have v1:=val_le hA (n:=f) (by rw [List.length_take];omega)
  have v2:=val_le hB (n:=f - b) (by omega)
  have hR:0≤sumV s (a+1) (sumV s 0 0 a) b * tenI (f - b)∧sumV s (a+1) (sumV s 0 0 a) b * tenI (f - b)≤2000000000000000000:=by rw [hsum];omega
  rw [← hsum]
  have hS0:=(HB2.out b g2)
  obtain⟨S,hSe⟩:∃ S,sumV s (a+1) (sumV s 0 0 a) b=S:=⟨_,rfl⟩
  rw [hSe] at hR hS0 ⊢
  have HSE:=Lib.hid hSe
  obtain⟨V,hVe⟩:∃ V,sumV s 0 0 a=V:=⟨_,rfl⟩
  rw [hVe] at HB2 HSE
  have HVE:=Lib.hid hVe
  obtain⟨T,hTe⟩:∃ T,tenI (f - b)=T:=⟨_,rfl⟩
  have t1:=tenI_pos (f - b)
  simp only [hTe,show ((f - b:Nat):Int)=(f:Int) - (b:Int) from by omega] at HT
  rw [hTe] at hR t1 ⊢
  clear hV hV0 hV1 hA hVe hSe hTe v1 v2 hsum hB hlen
  have HX2:=fun W gs gn ga B h1 h2 h3 h4 h5 h6=>next_any s (a+1) f V gs gn ga B W hs (by omega) (by omega) h1 h2 h3 h4 h5 h6 HB2
  go_enter Tryz.func191,Tryz.ntmps191
  go_wp2_with fail
  refine (HX _ w.heap.size (w.heap.size+1) (w.heap.size+1+1) w.heap.size (next_start s w) (by omega) (by omega) (by omega) (by omega) (by omega)).mono ?_
  rintro e w1 ⟨K,nv2,hK,rfl,hst,hb,hz1,hex⟩
  have b1:=Lib.hid (((((Below.refl w.heap.size w).alloc (Nat.le_refl _) _).alloc (by simp) _).alloc (by simp;omega) _).trans hb)
  rw [List.drop_zero,ha] at hK
  obtain rfl:a=K:=by omega
  obtain rfl:V=nv2:=((hex (by omega)).trans HVE.out).symm
  rw [Nat.zero_add] at hst
  have hst2:=Lib.hid (next_again hst (by omega) (by omega))
  obtain⟨c1,c2,c3,-,z3⟩:=hst
  have i1:(a:Int) < (s.size:Int):=by omega
  have i2:(0:Int)≤(a:Int):=Int.natCast_nonneg _
  have i3:(a:Int).toNat=a:=by omega
  clear hK hex HX HB ha hb hz1
  go_wp2_with fail
  refine (HX2 _ w.heap.size (w.heap.size+1) (w.heap.size+1+1) w.heap.size hst2.out (by omega) (by omega) (by omega) (by omega) (by omega)).mono ?_
  rintro e w2 ⟨K2,nv3,hK2,rfl,hst3,hb2,hz2,hex2⟩
  have b2:=Lib.hid ((b1.out.setCell (show w.heap.size≤w.heap.size+1+1 by omega) _).trans hb2)
  rw [hbe] at hK2
  obtain rfl:b=K2:=by omega
  obtain rfl:S=nv3:=((hex2 (by omega)).trans HSE.out).symm
  obtain⟨d1,d2,d3,-,-⟩:=hst3
  have k4:(b:Int)≤(f:Int):=by omega
  rw [g3] at d3
  clear hex2 HX2 HB2 hb2 hz2 hst2 hbe c1 c2 c3 z3 hK2 HSE HVE
  have hf6:(f:Int)≤6:=by omega
  have hw:IntKind.i64.wrap (S * T)=S * T:=IntWalk.i64_in _ (by omega)
  have hw2:wrap64 (S * T)=S * T:=IntWalk.wrap64_in _ (by omega)
  have hw3:IntKind.i64.wrap ((f:Int) - (b:Int))=(f:Int) - (b:Int):=IntWalk.i64_in _ (by omega)
  go_wp2_with fail
  go_quiet ((go_at_call 201;exact quiet_eq (HT _).out))
  go_wp2_with fail
  go_ret2
  exact⟨rfl,bdrewN b2.out _⟩
theorem parse_any (s:ByteArray) (l m f:Nat) (w:World) (hs:s.size≤1000000) (hm:m≤12) (hf:f≤6) :
    Calls Tryz.prog 191 #[.string s,.int .i64 (l:Int),.int .i64 (m:Int),.int .i64 (f:Int)] w fun e w'=>e=.returned (.tuple #[.int .i64 (((parseN s.data.toList l m f).getD 0:Nat):Int),.bool (parseN s.data.toList l m f).isSome])∧Below w.heap.size w w':=by
  have hz:s.data.toList.length=s.size:=by simp
  unfold parseN
  by_cases g1:cntD s.data.toList < l∨m < cntD s.data.toList
  · rw [if_pos g1]
    exact parse_head s l m f w hs hm hf g1
  rw [if_neg g1]
  by_cases g2:cntD s.data.toList=s.data.toList.length
  · rw [if_pos g2]
    have h:=parse_all s l m f w hs hm hf g1 g2
    rw [tenI_cast,← Int.natCast_mul] at h
    exact h
  rw [if_neg g2]
  have hle:=cntD_le s.data.toList
  obtain⟨a,ha⟩:∃ a,cntD s.data.toList=a:=⟨_,rfl⟩
  rw [ha] at g1 g2 hle ⊢
  have hlt:a < s.size:=by omega
  obtain⟨b,hbe⟩:∃ b,cntD (s.data.toList.drop (a+1))=b:=⟨_,rfl⟩
  rw [hbe]
  have h46:s.data.toList[a]?=some 46↔((s[a]'hlt).toNat:Int)=46:=by
    rw [List.getElem?_eq_getElem (by omega)]
    constructor
    · intro k;injection k with k
      have k2:s[a]=46:=k
      rw [k2];rfl
    · intro k
      have k2:s[a]=46:=UInt8.toNat_inj.1 (by have e:(46:UInt8).toNat=46:=rfl;omega)
      exact congrArg some k2
  by_cases g3:s.data.toList[a]?≠some 46∨b < 1∨f < b∨a+1+b≠s.data.toList.length
  · rw [if_pos g3]
    by_cases k46:((s[a]'hlt).toNat:Int)=46
    · refine parse_behind s a b l m f w hs hm hf ha (by omega) (by omega) hlt (by rw [bne_eq_false_iff_eq];exact k46) hbe ?_
      rcases g3 with g | g | g | g
      · exact absurd (h46.2 k46) g
      · exact .inl g
      · exact .inr (.inl g)
      · exact .inr (.inr (by omega))
    · exact parse_point s a l m f w hs hm hf ha (by omega) (by omega) hlt (by rw [bne_iff_ne];exact k46)
  · rw [if_neg g3]
    have g4:s.data.toList[a]?=some 46:=Classical.not_not.1 fun k=>g3 (.inl k)
    have h:=parse_good s a b l m f w hs hm hf ha (by omega) (by omega) hlt (by rw [bne_eq_false_iff_eq];exact h46.1 g4) hbe (by omega) (by omega) (by omega)
    rw [tenI_cast,tenI_cast,← Int.natCast_mul,← Int.natCast_mul,← Int.natCast_add] at h
    exact h
theorem undrewN {w w':World} {n:Nat} (h:Below (w.drewN n).heap.size (w.drewN n) w'):Below w.heap.size w w':=⟨h.os,h.tape,h.output,h.size,h.block⟩
theorem two_cells (w:World) (g:Nat) (v0 v1 o0 o1:Value) (h0:w.cell? ⟨g,0,none⟩=some o0) (h1:w.cell? ⟨g,1,none⟩=some o1) :
    ((w.setCell ⟨g,0,none⟩ v0).setCell ⟨g,1,none⟩ v1).cell? ⟨g,0,none⟩=some v0∧((w.setCell ⟨g,0,none⟩ v0).setCell ⟨g,1,none⟩ v1).cell? ⟨g,1,none⟩=some v1:=by
  have n01:(⟨g,1,none⟩:Addr)≠⟨g,0,none⟩:=by simp
  refine⟨?_,?_⟩
  · rw [World.cell?_setCell_other _ _ _ _ n01]
    exact World.cell?_setCell_same _ _ _ h0
  · exact World.cell?_setCell_same _ _ _ ((World.cell?_setCell_other _ _ _ _ (fun e=>n01 e.symm)).trans h1)
set_option maxRecDepth 8000 in
set_option maxHeartbeats 2000000 in
theorem Take_arg (s:ByteArray) (W M F L H:Int) (w:World) (hs:s.size≤1000000) (HR:∀ W',Hid (Calls Tryz.prog 190 #[colV W M F L H] W' fun e w'=>e=.returned (.bool false)∧Below W'.heap.size W' w')) :
    Calls Tryz.prog 169 #[.string s,colV W M F L H] w fun e w'=>e=.returned (.tuple #[numV false 0,.int .i64 1])∧Below w.heap.size w w':=by
  go_enter Tryz.func169,Tryz.ntmps169
  go_wp2_with fail
  refine ((HR _).out).mono ?_
  rintro e w1 ⟨rfl,hb1⟩
  obtain⟨c1,f1⟩:=bcell hb1
  have hz:=hb1.size
  simp at hz
  have hz1:w.heap.size < w1.heap.size:=by omega
  have hz4:w.heap.size+1 < w1.heap.size:=by omega
  have b1:=Lib.hid (bthen (bthen (below_new w _) (below_new _ _)) hb1)
  have q0:w1.cell? ⟨w.heap.size+1,0,none⟩=some (.bool false):=(c1 (w.heap.size+1) 0 (by simp)).trans (by simp [World.cell?_alloc_at])
  have q1:w1.cell? ⟨w.heap.size+1,1,none⟩=some (.int .i64 0):=(c1 (w.heap.size+1) 1 (by simp)).trans (by simp [World.cell?_alloc_at])
  go_wp2_with fail
  obtain⟨p0,p1⟩:=two_cells w1 (w.heap.size+1) (.bool false) (.int .i64 0) _ _ q0 q1
  refine bodyPost_ret (v:=.tuple #[numV false 0,.int .i64 1]) (by simp [results,Tryz.results169,go_sem,p0,p1]) rfl ⟨rfl,?_⟩
  exact (Below.setCell (Below.setCell b1.out (p:=⟨w.heap.size+1,0,none⟩) (by show w.heap.size≤w.heap.size+1;omega) _) (p:=⟨w.heap.size+1,1,none⟩) (by show w.heap.size≤w.heap.size+1;omega) _)
set_option maxRecDepth 8000 in
set_option maxHeartbeats 2000000 in
theorem Take_empty (s:ByteArray) (W M F L H:Int) (w:World) (hs:s.size≤1000000) (HR:∀ W',Hid (Calls Tryz.prog 190 #[colV W M F L H] W' fun e w'=>e=.returned (.bool true)∧Below W'.heap.size W' w')) (h0:s.size=0) :
    Calls Tryz.prog 169 #[.string s,colV W M F L H] w fun e w'=>e=.returned (.tuple #[numV false 0,.int .i64 0])∧Below w.heap.size w w':=by
  obtain rfl:s=⟨#[]⟩:=ByteArray.ext (Array.eq_empty_of_size_eq_zero h0)
  go_enter Tryz.func169,Tryz.ntmps169
  go_wp2_with fail
  refine ((HR _).out).mono ?_
  rintro e w1 ⟨rfl,hb1⟩
  obtain⟨c1,f1⟩:=bcell hb1
  have hz:=hb1.size
  simp at hz
  have hz1:w.heap.size < w1.heap.size:=by omega
  have hz4:w.heap.size+1 < w1.heap.size:=by omega
  have b1:=Lib.hid (bthen (bthen (below_new w _) (below_new _ _)) hb1)
  have q0:w1.cell? ⟨w.heap.size+1,0,none⟩=some (.bool false):=(c1 (w.heap.size+1) 0 (by simp)).trans (by simp [World.cell?_alloc_at])
  have q1:w1.cell? ⟨w.heap.size+1,1,none⟩=some (.int .i64 0):=(c1 (w.heap.size+1) 1 (by simp)).trans (by simp [World.cell?_alloc_at])
  go_wp2_with fail
  obtain⟨p0,p1⟩:=two_cells w1 (w.heap.size+1) (.bool false) (.int .i64 0) _ _ q0 q1
  refine bodyPost_ret (v:=.tuple #[numV false 0,.int .i64 0]) (by simp [results,Tryz.results169,go_sem,p0,p1]) rfl ⟨rfl,?_⟩
  exact (Below.setCell (Below.setCell b1.out (p:=⟨w.heap.size+1,0,none⟩) (by show w.heap.size≤w.heap.size+1;omega) _) (p:=⟨w.heap.size+1,1,none⟩) (by show w.heap.size≤w.heap.size+1;omega) _)
set_option maxRecDepth 8000 in
set_option maxHeartbeats 2000000 in
theorem Take_form_pos (s:ByteArray) (W M F L H:Int) (n:Int) (w:World) (hs:s.size≤1000000) (h0:0 < s.size) (hc:(((s[0]'h0).toNat:Int)==45)=false) (HR:∀ W',Hid (Calls Tryz.prog 190 #[colV W M F L H] W' fun e w'=>e=.returned (.bool true)∧Below W'.heap.size W' w')) (HP:∀ W',Hid (Calls Tryz.prog 191 #[.string s,.int .i64 1,.int .i64 M,.int .i64 F] W' fun e w'=>e=.returned (.tuple #[.int .i64 n,.bool false])∧Below W'.heap.size W' w')) :
    Calls Tryz.prog 169 #[.string s,colV W M F L H] w fun e w'=>e=.returned (.tuple #[numV false 0,.int .i64 3])∧Below w.heap.size w w':=by
  have i1:(0:Int) < (s.size:Int):=by omega
  have i2:(1:Int)≤(s.size:Int):=by omega
  obtain⟨hne1,hne2⟩:=nonempty_forms h0
  go_enter Tryz.func169,Tryz.ntmps169
  go_wp2_with fail
  refine ((HR _).out).mono ?_
  rintro e w1 ⟨rfl,hb1⟩
  obtain⟨c1,f1⟩:=bcell hb1
  have hz:=hb1.size
  simp at hz
  have hz1:w.heap.size < w1.heap.size:=by omega
  have hz4:w.heap.size+1 < w1.heap.size:=by omega
  have b1:=Lib.hid (bthen (bthen (below_new w _) (below_new _ _)) hb1)
  have q0:w1.cell? ⟨w.heap.size+1,0,none⟩=some (.bool false):=(c1 (w.heap.size+1) 0 (by simp)).trans (by simp [World.cell?_alloc_at])
  have q1:w1.cell? ⟨w.heap.size+1,1,none⟩=some (.int .i64 0):=(c1 (w.heap.size+1) 1 (by simp)).trans (by simp [World.cell?_alloc_at])
  go_wp2_with fail
  refine ((HP _).out).mono ?_
  rintro e w2 ⟨rfl,hb2⟩
  obtain⟨c2,f2⟩:=bcell hb2
  have hz5:=hb2.size
  have hz6:w.heap.size < w2.heap.size:=by omega
  have hz7:w.heap.size+1 < w2.heap.size:=by omega
  have b2:=Lib.hid (bthen b1.out hb2)
  replace q0:=(c2 _ 0 hz4).trans q0
  replace q1:=(c2 _ 1 hz4).trans q1
  go_wp2_with fail
  obtain⟨p0,p1⟩:=two_cells w2 (w.heap.size+1) (.bool false) (.int .i64 0) _ _ q0 q1
  refine bodyPost_ret (v:=.tuple #[numV false 0,.int .i64 3]) (by simp [results,Tryz.results169,go_sem,p0,p1]) rfl ⟨rfl,?_⟩
  exact (Below.setCell (Below.setCell b2.out (p:=⟨w.heap.size+1,0,none⟩) (by show w.heap.size≤w.heap.size+1;omega) _) (p:=⟨w.heap.size+1,1,none⟩) (by show w.heap.size≤w.heap.size+1;omega) _)
set_option maxRecDepth 8000 in
set_option maxHeartbeats 2000000 in
theorem Take_range_pos (s:ByteArray) (W M F L H:Int) (n:Int) (w:World) (hs:s.size≤1000000) (h0:0 < s.size) (hc:(((s[0]'h0).toNat:Int)==45)=false) (HR:∀ W',Hid (Calls Tryz.prog 190 #[colV W M F L H] W' fun e w'=>e=.returned (.bool true)∧Below W'.heap.size W' w')) (HP:∀ W',Hid (Calls Tryz.prog 191 #[.string s,.int .i64 1,.int .i64 M,.int .i64 F] W' fun e w'=>e=.returned (.tuple #[.int .i64 n,.bool true])∧Below W'.heap.size W' w')) (hn0:0≤n) (hn:n≤2000000000000000000) (HF:∀ W',Hid (Calls Tryz.prog 192 #[numV true n,.int .i64 L,.int .i64 H] W' fun e w'=>e=.returned (.bool false)∧Below W'.heap.size W' w')) :
    Calls Tryz.prog 169 #[.string s,colV W M F L H] w fun e w'=>e=.returned (.tuple #[numV false 0,.int .i64 5])∧Below w.heap.size w w':=by
  have i1:(0:Int) < (s.size:Int):=by omega
  have i2:(1:Int)≤(s.size:Int):=by omega
  obtain⟨hne1,hne2⟩:=nonempty_forms h0
  have e1:(1:Int) * n=n:=Int.one_mul n
  have e2:(-1:Int) * n=-n:=by rw [Int.neg_mul,Int.one_mul]
  go_enter Tryz.func169,Tryz.ntmps169
  go_wp2_with fail
  refine ((HR _).out).mono ?_
  rintro e w1 ⟨rfl,hb1⟩
  obtain⟨c1,f1⟩:=bcell hb1
  have hz:=hb1.size
  simp at hz
  have hz1:w.heap.size < w1.heap.size:=by omega
  have hz4:w.heap.size+1 < w1.heap.size:=by omega
  have b1:=Lib.hid (bthen (bthen (below_new w _) (below_new _ _)) hb1)
  have q0:w1.cell? ⟨w.heap.size+1,0,none⟩=some (.bool false):=(c1 (w.heap.size+1) 0 (by simp)).trans (by simp [World.cell?_alloc_at])
  have q1:w1.cell? ⟨w.heap.size+1,1,none⟩=some (.int .i64 0):=(c1 (w.heap.size+1) 1 (by simp)).trans (by simp [World.cell?_alloc_at])
  go_wp2_with fail
  refine ((HP _).out).mono ?_
  rintro e w2 ⟨rfl,hb2⟩
  obtain⟨c2,f2⟩:=bcell hb2
  have hz5:=hb2.size
  have hz6:w.heap.size < w2.heap.size:=by omega
  have hz7:w.heap.size+1 < w2.heap.size:=by omega
  have b2:=Lib.hid (bthen b1.out hb2)
  replace q0:=(c2 _ 0 hz4).trans q0
  replace q1:=(c2 _ 1 hz4).trans q1
  go_wp2_with fail
  refine ((HF _).out).mono ?_
  rintro e w3 ⟨rfl,hb3⟩
  obtain⟨c3,f3⟩:=bcell hb3
  have hz8:=hb3.size
  simp at hz8
  have hz9:w2.heap.size < w3.heap.size:=by omega
  have hz10:w.heap.size+1 < w3.heap.size:=by omega
  have b3:=Lib.hid (bthen (bthen b2.out (below_new _ _)) hb3)
  replace q0:=(c3 (w.heap.size+1) 0 (by simp;omega)).trans ((World.cell?_alloc_past _ _ _ (by omega)).trans q0)
  replace q1:=(c3 (w.heap.size+1) 1 (by simp;omega)).trans ((World.cell?_alloc_past _ _ _ (by omega)).trans q1)
  go_wp2_with fail
  obtain⟨p0,p1⟩:=two_cells w3 (w.heap.size+1) (.bool false) (.int .i64 0) _ _ q0 q1
  refine bodyPost_ret (v:=.tuple #[numV false 0,.int .i64 5]) (by simp [results,Tryz.results169,go_sem,p0,p1]) rfl ⟨rfl,?_⟩
  exact (Below.setCell (Below.setCell b3.out (p:=⟨w.heap.size+1,0,none⟩) (by show w.heap.size≤w.heap.size+1;omega) _) (p:=⟨w.heap.size+1,1,none⟩) (by show w.heap.size≤w.heap.size+1;omega) _)
set_option maxRecDepth 8000 in
set_option maxHeartbeats 2000000 in
theorem Take_ok_pos (s:ByteArray) (W M F L H:Int) (n:Int) (w:World) (hs:s.size≤1000000) (h0:0 < s.size) (hc:(((s[0]'h0).toNat:Int)==45)=false) (HR:∀ W',Hid (Calls Tryz.prog 190 #[colV W M F L H] W' fun e w'=>e=.returned (.bool true)∧Below W'.heap.size W' w')) (HP:∀ W',Hid (Calls Tryz.prog 191 #[.string s,.int .i64 1,.int .i64 M,.int .i64 F] W' fun e w'=>e=.returned (.tuple #[.int .i64 n,.bool true])∧Below W'.heap.size W' w')) (hn0:0≤n) (hn:n≤2000000000000000000) (HF:∀ W',Hid (Calls Tryz.prog 192 #[numV true n,.int .i64 L,.int .i64 H] W' fun e w'=>e=.returned (.bool true)∧Below W'.heap.size W' w')) :
    Calls Tryz.prog 169 #[.string s,colV W M F L H] w fun e w'=>e=.returned (.tuple #[numV true n,.int .i64 0])∧Below w.heap.size w w':=by
  have i1:(0:Int) < (s.size:Int):=by omega
  have i2:(1:Int)≤(s.size:Int):=by omega
  obtain⟨hne1,hne2⟩:=nonempty_forms h0
  have e1:(1:Int) * n=n:=Int.one_mul n
  have e2:(-1:Int) * n=-n:=by rw [Int.neg_mul,Int.one_mul]
  go_enter Tryz.func169,Tryz.ntmps169
  go_wp2_with fail
  refine ((HR _).out).mono ?_
  rintro e w1 ⟨rfl,hb1⟩
  obtain⟨c1,f1⟩:=bcell hb1
  have hz:=hb1.size
  simp at hz
  have hz1:w.heap.size < w1.heap.size:=by omega
  have hz4:w.heap.size+1 < w1.heap.size:=by omega
  have b1:=Lib.hid (bthen (bthen (below_new w _) (below_new _ _)) hb1)
  have q0:w1.cell? ⟨w.heap.size+1,0,none⟩=some (.bool false):=(c1 (w.heap.size+1) 0 (by simp)).trans (by simp [World.cell?_alloc_at])
  have q1:w1.cell? ⟨w.heap.size+1,1,none⟩=some (.int .i64 0):=(c1 (w.heap.size+1) 1 (by simp)).trans (by simp [World.cell?_alloc_at])
  go_wp2_with fail
  refine ((HP _).out).mono ?_
  rintro e w2 ⟨rfl,hb2⟩
  obtain⟨c2,f2⟩:=bcell hb2
  have hz5:=hb2.size
  have hz6:w.heap.size < w2.heap.size:=by omega
  have hz7:w.heap.size+1 < w2.heap.size:=by omega
  have b2:=Lib.hid (bthen b1.out hb2)
  replace q0:=(c2 _ 0 hz4).trans q0
  replace q1:=(c2 _ 1 hz4).trans q1
  go_wp2_with fail
  refine ((HF _).out).mono ?_
  rintro e w3 ⟨rfl,hb3⟩
  obtain⟨c3,f3⟩:=bcell hb3
  have hz8:=hb3.size
  simp at hz8
  have hz9:w2.heap.size < w3.heap.size:=by omega
  have hz10:w.heap.size+1 < w3.heap.size:=by omega
  have b3:=Lib.hid (bthen (bthen b2.out (below_new _ _)) hb3)
  replace q0:=(c3 (w.heap.size+1) 0 (by simp;omega)).trans ((World.cell?_alloc_past _ _ _ (by omega)).trans q0)
  replace q1:=(c3 (w.heap.size+1) 1 (by simp;omega)).trans ((World.cell?_alloc_past _ _ _ (by omega)).trans q1)
  go_wp2_with fail
  obtain⟨p0,p1⟩:=two_cells w3 (w.heap.size+1) (.bool true) (.int .i64 n) _ _ q0 q1
  refine bodyPost_ret (v:=.tuple #[numV true n,.int .i64 0]) (by simp [results,Tryz.results169,go_sem,p0,p1]) rfl ⟨rfl,?_⟩
  exact (Below.setCell (Below.setCell b3.out (p:=⟨w.heap.size+1,0,none⟩) (by show w.heap.size≤w.heap.size+1;omega) _) (p:=⟨w.heap.size+1,1,none⟩) (by show w.heap.size≤w.heap.size+1;omega) _)
set_option maxRecDepth 8000 in
set_option maxHeartbeats 2000000 in
theorem Take_form_neg (s:ByteArray) (W M F L H:Int) (n:Int) (w:World) (hs:s.size≤1000000) (h0:0 < s.size) (hc:(((s[0]'h0).toNat:Int)==45)=true) (HR:∀ W',Hid (Calls Tryz.prog 190 #[colV W M F L H] W' fun e w'=>e=.returned (.bool true)∧Below W'.heap.size W' w')) (HP:∀ W',Hid (Calls Tryz.prog 191 #[.string (s.extract 1 s.size),.int .i64 1,.int .i64 M,.int .i64 F] W' fun e w'=>e=.returned (.tuple #[.int .i64 n,.bool false])∧Below W'.heap.size W' w')) :
    Calls Tryz.prog 169 #[.string s,colV W M F L H] w fun e w'=>e=.returned (.tuple #[numV false 0,.int .i64 3])∧Below w.heap.size w w':=by
  have i1:(0:Int) < (s.size:Int):=by omega
  have i2:(1:Int)≤(s.size:Int):=by omega
  obtain⟨hne1,hne2⟩:=nonempty_forms h0
  go_enter Tryz.func169,Tryz.ntmps169
  go_wp2_with fail
  refine ((HR _).out).mono ?_
  rintro e w1 ⟨rfl,hb1⟩
  obtain⟨c1,f1⟩:=bcell hb1
  have hz:=hb1.size
  simp at hz
  have hz1:w.heap.size < w1.heap.size:=by omega
  have hz4:w.heap.size+1 < w1.heap.size:=by omega
  have b1:=Lib.hid (bthen (bthen (below_new w _) (below_new _ _)) hb1)
  have q0:w1.cell? ⟨w.heap.size+1,0,none⟩=some (.bool false):=(c1 (w.heap.size+1) 0 (by simp)).trans (by simp [World.cell?_alloc_at])
  have q1:w1.cell? ⟨w.heap.size+1,1,none⟩=some (.int .i64 0):=(c1 (w.heap.size+1) 1 (by simp)).trans (by simp [World.cell?_alloc_at])
  go_wp2_with fail
  go_quiet (fail)
  go_wp2_with fail
  refine (HP _).out.mono ?_
  rintro e w2 ⟨rfl,hb2⟩
  replace hb2:=undrewN hb2
  obtain⟨c2,f2⟩:=bcell hb2
  have hz5:=hb2.size
  have hz6:w.heap.size < w2.heap.size:=by omega
  have hz7:w.heap.size+1 < w2.heap.size:=by omega
  have b2:=Lib.hid (bthen b1.out hb2)
  replace q0:=(c2 _ 0 hz4).trans q0
  replace q1:=(c2 _ 1 hz4).trans q1
  go_wp2_with fail
  obtain⟨p0,p1⟩:=two_cells w2 (w.heap.size+1) (.bool false) (.int .i64 0) _ _ q0 q1
  refine bodyPost_ret (v:=.tuple #[numV false 0,.int .i64 3]) (by simp [results,Tryz.results169,go_sem,p0,p1]) rfl ⟨rfl,?_⟩
  exact (Below.setCell (Below.setCell b2.out (p:=⟨w.heap.size+1,0,none⟩) (by show w.heap.size≤w.heap.size+1;omega) _) (p:=⟨w.heap.size+1,1,none⟩) (by show w.heap.size≤w.heap.size+1;omega) _)
set_option maxRecDepth 8000 in
set_option maxHeartbeats 2000000 in
theorem Take_range_neg (s:ByteArray) (W M F L H:Int) (n:Int) (w:World) (hs:s.size≤1000000) (h0:0 < s.size) (hc:(((s[0]'h0).toNat:Int)==45)=true) (HR:∀ W',Hid (Calls Tryz.prog 190 #[colV W M F L H] W' fun e w'=>e=.returned (.bool true)∧Below W'.heap.size W' w')) (HP:∀ W',Hid (Calls Tryz.prog 191 #[.string (s.extract 1 s.size),.int .i64 1,.int .i64 M,.int .i64 F] W' fun e w'=>e=.returned (.tuple #[.int .i64 n,.bool true])∧Below W'.heap.size W' w')) (hn0:0≤n) (hn:n≤2000000000000000000) (HF:∀ W',Hid (Calls Tryz.prog 192 #[numV true (-n),.int .i64 L,.int .i64 H] W' fun e w'=>e=.returned (.bool false)∧Below W'.heap.size W' w')) :
    Calls Tryz.prog 169 #[.string s,colV W M F L H] w fun e w'=>e=.returned (.tuple #[numV false 0,.int .i64 5])∧Below w.heap.size w w':=by
  have i1:(0:Int) < (s.size:Int):=by omega
  have i2:(1:Int)≤(s.size:Int):=by omega
  obtain⟨hne1,hne2⟩:=nonempty_forms h0
  have e1:(1:Int) * n=n:=Int.one_mul n
  have e2:(-1:Int) * n=-n:=by rw [Int.neg_mul,Int.one_mul]
  go_enter Tryz.func169,Tryz.ntmps169
  go_wp2_with fail
  refine ((HR _).out).mono ?_
  rintro e w1 ⟨rfl,hb1⟩
  obtain⟨c1,f1⟩:=bcell hb1
  have hz:=hb1.size
  simp at hz
  have hz1:w.heap.size < w1.heap.size:=by omega
  have hz4:w.heap.size+1 < w1.heap.size:=by omega
  have b1:=Lib.hid (bthen (bthen (below_new w _) (below_new _ _)) hb1)
  have q0:w1.cell? ⟨w.heap.size+1,0,none⟩=some (.bool false):=(c1 (w.heap.size+1) 0 (by simp)).trans (by simp [World.cell?_alloc_at])
  have q1:w1.cell? ⟨w.heap.size+1,1,none⟩=some (.int .i64 0):=(c1 (w.heap.size+1) 1 (by simp)).trans (by simp [World.cell?_alloc_at])
  go_wp2_with fail
  go_quiet (fail)
  go_wp2_with fail
  refine (HP _).out.mono ?_
  rintro e w2 ⟨rfl,hb2⟩
  replace hb2:=undrewN hb2
  obtain⟨c2,f2⟩:=bcell hb2
  have hz5:=hb2.size
  have hz6:w.heap.size < w2.heap.size:=by omega
  have hz7:w.heap.size+1 < w2.heap.size:=by omega
  have b2:=Lib.hid (bthen b1.out hb2)
  replace q0:=(c2 _ 0 hz4).trans q0
  replace q1:=(c2 _ 1 hz4).trans q1
  go_wp2_with fail
  refine ((HF _).out).mono ?_
  rintro e w3 ⟨rfl,hb3⟩
  obtain⟨c3,f3⟩:=bcell hb3
  have hz8:=hb3.size
  simp at hz8
  have hz9:w2.heap.size < w3.heap.size:=by omega
  have hz10:w.heap.size+1 < w3.heap.size:=by omega
  have b3:=Lib.hid (bthen (bthen b2.out (below_new _ _)) hb3)
  replace q0:=(c3 (w.heap.size+1) 0 (by simp;omega)).trans ((World.cell?_alloc_past _ _ _ (by omega)).trans q0)
  replace q1:=(c3 (w.heap.size+1) 1 (by simp;omega)).trans ((World.cell?_alloc_past _ _ _ (by omega)).trans q1)
  go_wp2_with fail
  obtain⟨p0,p1⟩:=two_cells w3 (w.heap.size+1) (.bool false) (.int .i64 0) _ _ q0 q1
  refine bodyPost_ret (v:=.tuple #[numV false 0,.int .i64 5]) (by simp [results,Tryz.results169,go_sem,p0,p1]) rfl ⟨rfl,?_⟩
  exact (Below.setCell (Below.setCell b3.out (p:=⟨w.heap.size+1,0,none⟩) (by show w.heap.size≤w.heap.size+1;omega) _) (p:=⟨w.heap.size+1,1,none⟩) (by show w.heap.size≤w.heap.size+1;omega) _)
set_option maxRecDepth 8000 in
set_option maxHeartbeats 2000000 in
theorem Take_ok_neg (s:ByteArray) (W M F L H:Int) (n:Int) (w:World) (hs:s.size≤1000000) (h0:0 < s.size) (hc:(((s[0]'h0).toNat:Int)==45)=true) (HR:∀ W',Hid (Calls Tryz.prog 190 #[colV W M F L H] W' fun e w'=>e=.returned (.bool true)∧Below W'.heap.size W' w')) (HP:∀ W',Hid (Calls Tryz.prog 191 #[.string (s.extract 1 s.size),.int .i64 1,.int .i64 M,.int .i64 F] W' fun e w'=>e=.returned (.tuple #[.int .i64 n,.bool true])∧Below W'.heap.size W' w')) (hn0:0≤n) (hn:n≤2000000000000000000) (HF:∀ W',Hid (Calls Tryz.prog 192 #[numV true (-n),.int .i64 L,.int .i64 H] W' fun e w'=>e=.returned (.bool true)∧Below W'.heap.size W' w')) :
    Calls Tryz.prog 169 #[.string s,colV W M F L H] w fun e w'=>e=.returned (.tuple #[numV true (-n),.int .i64 0])∧Below w.heap.size w w':=by
  have i1:(0:Int) < (s.size:Int):=by omega
  have i2:(1:Int)≤(s.size:Int):=by omega
  obtain⟨hne1,hne2⟩:=nonempty_forms h0
  have e1:(1:Int) * n=n:=Int.one_mul n
  have e2:(-1:Int) * n=-n:=by rw [Int.neg_mul,Int.one_mul]
  go_enter Tryz.func169,Tryz.ntmps169
  go_wp2_with fail
  refine ((HR _).out).mono ?_
  rintro e w1 ⟨rfl,hb1⟩
  obtain⟨c1,f1⟩:=bcell hb1
  have hz:=hb1.size
  simp at hz
  have hz1:w.heap.size < w1.heap.size:=by omega
  have hz4:w.heap.size+1 < w1.heap.size:=by omega
  have b1:=Lib.hid (bthen (bthen (below_new w _) (below_new _ _)) hb1)
  have q0:w1.cell? ⟨w.heap.size+1,0,none⟩=some (.bool false):=(c1 (w.heap.size+1) 0 (by simp)).trans (by simp [World.cell?_alloc_at])
  have q1:w1.cell? ⟨w.heap.size+1,1,none⟩=some (.int .i64 0):=(c1 (w.heap.size+1) 1 (by simp)).trans (by simp [World.cell?_alloc_at])
  go_wp2_with fail
  go_quiet (fail)
  go_wp2_with fail
  refine (HP _).out.mono ?_
  rintro e w2 ⟨rfl,hb2⟩
  replace hb2:=undrewN hb2
  obtain⟨c2,f2⟩:=bcell hb2
  have hz5:=hb2.size
  have hz6:w.heap.size < w2.heap.size:=by omega
  have hz7:w.heap.size+1 < w2.heap.size:=by omega
  have b2:=Lib.hid (bthen b1.out hb2)
  replace q0:=(c2 _ 0 hz4).trans q0
  replace q1:=(c2 _ 1 hz4).trans q1
  go_wp2_with fail
  refine ((HF _).out).mono ?_
  rintro e w3 ⟨rfl,hb3⟩
  obtain⟨c3,f3⟩:=bcell hb3
  have hz8:=hb3.size
  simp at hz8
  have hz9:w2.heap.size < w3.heap.size:=by omega
  have hz10:w.heap.size+1 < w3.heap.size:=by omega
  have b3:=Lib.hid (bthen (bthen b2.out (below_new _ _)) hb3)
  replace q0:=(c3 (w.heap.size+1) 0 (by simp;omega)).trans ((World.cell?_alloc_past _ _ _ (by omega)).trans q0)
  replace q1:=(c3 (w.heap.size+1) 1 (by simp;omega)).trans ((World.cell?_alloc_past _ _ _ (by omega)).trans q1)
  go_wp2_with fail
  obtain⟨p0,p1⟩:=two_cells w3 (w.heap.size+1) (.bool true) (.int .i64 (-n)) _ _ q0 q1
  refine bodyPost_ret (v:=.tuple #[numV true (-n),.int .i64 0]) (by simp [results,Tryz.results169,go_sem,p0,p1]) rfl ⟨rfl,?_⟩
  exact (Below.setCell (Below.setCell b3.out (p:=⟨w.heap.size+1,0,none⟩) (by show w.heap.size≤w.heap.size+1;omega) _) (p:=⟨w.heap.size+1,1,none⟩) (by show w.heap.size≤w.heap.size+1;omega) _)
def negL (l:List UInt8):Bool:=l.head?==some 45
def bodyL (l:List UInt8):List UInt8:=if negL l then l.drop 1 else l
def takeN (l:List UInt8) (W M F L H:Int):Bool×Int×Int:=
  if rightB W M F L H=false then (false,0,1)
  else if l=[] then (false,0,0)
  else match parseN (bodyL l) 1 M.toNat F.toNat with
  | none=>(false,0,3)
  | some n=>if fitsB true (if negL l then -(n:Int) else (n:Int)) L H then (true,(if negL l then -(n:Int) else (n:Int)),0) else (false,0,5)
theorem parseN_le {l:List UInt8} {a m f n:Nat} (h:parseN l a m f=some n) (hm:m+f≤18):n≤2000000000000000000:=by
  unfold parseN at h
  have hA:=cntD_take l
  split at h
  · cases h
  rename_i g1
  split at h
  · rename_i g2
    injection h with h
    rw [g2,List.take_length] at hA
    have v:=val_le hA (n:=f) (by omega)
    rw [tenI_cast,← Int.natCast_mul] at v
    omega
  split at h
  · cases h
  rename_i g3
  injection h with h
  have hB:=cntD_take (l.drop (cntD l+1))
  have e1:cntD (l.drop (cntD l+1))=(l.drop (cntD l+1)).length:=by rw [List.length_drop];omega
  rw [e1,List.take_length] at hB
  have v1:=val_le hA (n:=f) (by rw [List.length_take];omega)
  have v2:=val_le hB (n:=f - cntD (l.drop (cntD l+1))) (by omega)
  rw [tenI_cast,← Int.natCast_mul] at v1 v2
  omega
theorem size_pos {s:ByteArray} (h:s.data.toList≠[]):0 < s.size:=by
  rcases Nat.eq_zero_or_pos s.size with h0 | h0
  · exact absurd (List.eq_nil_of_length_eq_zero (by simpa using h0)) h
  · exact h0
theorem size_nil {s:ByteArray} (h:s.data.toList=[]):s.size=0:=by
  have:s.data.toList.length=0:=by rw [h];rfl
  simpa using this
theorem negL_true {s:ByteArray} (h0:0 < s.size) (h:negL s.data.toList=true):(((s[0]'h0).toNat:Int)==45)=true:=by
  unfold negL at h
  have e:s.data.toList.head?=some s[0]:=by rw [List.head?_eq_getElem?,List.getElem?_eq_getElem (by simpa using h0)];rfl
  rw [e] at h
  have h2:s[0]=45:=by simpa using h
  rw [h2]
  rfl
theorem negL_false {s:ByteArray} (h0:0 < s.size) (h:negL s.data.toList=false):(((s[0]'h0).toNat:Int)==45)=false:=by
  unfold negL at h
  have e:s.data.toList.head?=some s[0]:=by rw [List.head?_eq_getElem?,List.getElem?_eq_getElem (by simpa using h0)];rfl
  rw [e] at h
  have h2:s[0]≠45:=by simpa using h
  rw [beq_eq_false_iff_ne]
  intro k
  exact h2 (UInt8.toNat_inj.1 (by have e:(45:UInt8).toNat=45:=rfl;omega))
theorem Take23_any (s:ByteArray) (W M F L H:Int) (w:World) (hs:s.size≤1000000) :
    Calls Tryz.prog 169 #[.string s,colV W M F L H] w fun e w'=>e=.returned (.tuple #[numV (takeN s.data.toList W M F L H).1 (takeN s.data.toList W M F L H).2.1,.int .i64 (takeN s.data.toList W M F L H).2.2])∧Below w.heap.size w w':=by
  unfold takeN
  have HR:=fun W'=>Lib.hid (Right_any W M F L H W')
  by_cases hr:rightB W M F L H=false
  · rw [if_pos hr]
    rw [hr] at HR
    exact Take_arg s W M F L H w hs HR
  rw [if_neg hr]
  have hr':rightB W M F L H=true:=by simpa using hr
  rw [hr'] at HR
  have hb:=of_decide_eq_true hr'
  by_cases h0:s.data.toList=[]
  · rw [if_pos h0]
    exact Take_empty s W M F L H w hs HR (size_nil h0)
  rw [if_neg h0]
  have hp:=size_pos h0
  obtain⟨m,rfl⟩:=Int.eq_ofNat_of_zero_le (show 0≤M by omega)
  obtain⟨f,rfl⟩:=Int.eq_ofNat_of_zero_le (show 0≤F by omega)
  rw [Int.toNat_natCast,Int.toNat_natCast]
  cases hn:negL s.data.toList with
  | false=>
    have hc:=negL_false hp hn
    have hbody:bodyL s.data.toList=s.data.toList:=by unfold bodyL;rw [hn];rfl
    have HP:=fun W'=>Lib.hid (parse_any s 1 m f W' hs (by omega) (by omega))
    rw [hbody]
    cases hq:parseN s.data.toList 1 m f with
    | none=>
      simp only [hq] at HP
      exact Take_form_pos s W m f L H 0 w hs hp hc HR HP
    | some n=>
      simp only [hq] at HP
      have hle:=parseN_le hq (by omega)
      have HF:=fun W'=>Lib.hid (fits_any true (n:Int) L H W')
      cases hf:fitsB true (n:Int) L H with
      | false=>rw [hf] at HF;simp only [Bool.false_eq_true,if_false,hf];exact Take_range_pos s W m f L H n w hs hp hc HR HP (by omega) (by omega) HF
      | true=>rw [hf] at HF;simp only [Bool.false_eq_true,if_false,hf,if_true];exact Take_ok_pos s W m f L H n w hs hp hc HR HP (by omega) (by omega) HF
  | true=>
    have hc:=negL_true hp hn
    have hbody:bodyL s.data.toList=(s.extract 1 s.size).data.toList:=by unfold bodyL;rw [hn,if_pos rfl,Lib.extract_from]
    have HP:=fun W'=>Lib.hid (parse_any (s.extract 1 s.size) 1 m f W' (by rw [ByteArray.size_extract];omega) (by omega) (by omega))
    rw [hbody]
    cases hq:parseN (s.extract 1 s.size).data.toList 1 m f with
    | none=>
      simp only [hq] at HP
      exact Take_form_neg s W m f L H 0 w hs hp hc HR HP
    | some n=>
      simp only [hq] at HP
      have hle:=parseN_le hq (by omega)
      have HF:=fun W'=>Lib.hid (fits_any true (-(n:Int)) L H W')
      cases hf:fitsB true (-(n:Int)) L H with
      | false=>rw [hf] at HF;simp only [Bool.false_eq_true,if_false,hf,if_true];exact Take_range_neg s W m f L H n w hs hp hc HR HP (by omega) (by omega) HF
      | true=>rw [hf] at HF;simp only [hf,if_true];exact Take_ok_neg s W m f L H n w hs hp hc HR HP (by omega) (by omega) HF
theorem fitsB_true {v L H:Int} (h:fitsB true v L H=true):L≤v∧v≤H:=by
  unfold fitsB at h
  rw [if_pos rfl] at h
  exact of_decide_eq_true h
end Go.Proofs.YtoabkoniegmkaaaGreat
