/- Layer 23: Angle of an eye, of a row that is read. -/
import Derived.Test.YtoabkoniegmkaaaGreatJ06
namespace Go.Proofs.YtoabkoniegmkaaaGreat
set_option linter.unusedVariables false
open Go.RowKit
variable {Q : Nat → Prop}
set_option maxRecDepth 8000 in
set_option maxHeartbeats 4000000 in
theorem EyeAngle_any (g:Nat) (e:Int) (R:List ByteArray) (lat:Bool) (w:World) (h:EyeR Q w g e R) (hBw:∀ b,Q b→b < w.heap.size) (hgw:g < w.heap.size) (hsz:(R.headD ByteArray.empty).size≤1000000) :
    Calls Tryz.prog 97 #[.pointer (some ⟨g,0,none⟩),.bool lat] w (EyePost Q g (numV (takeAng (R.headD ByteArray.empty).data.toList (R.tail.headD ByteArray.empty) lat).1 (takeAng (R.headD ByteArray.empty).data.toList (R.tail.headD ByteArray.empty) lat).2.1) (firstE (textE (textE e R) R.tail) (takeAng (R.headD ByteArray.empty).data.toList (R.tail.headD ByteArray.empty) lat).2.2) R.tail.tail w):=by
  have HT:=fun W' hb=>Lib.hid (EyeText_any (Q:=Q) g e R W' (h.keep (w':=W') hb))
  have HU:=fun W' hr=>Lib.hid (EyeText_any (Q:=Q) g (textE e R) R.tail W' hr)
  have HA:=fun W'=>Lib.hid (TakeAngle23_any (R.headD ByteArray.empty) (R.tail.headD ByteArray.empty) lat W' hsz)
  generalize (takeAng (R.headD ByteArray.empty).data.toList (R.tail.headD ByteArray.empty) lat).1=X1 at *
  generalize (takeAng (R.headD ByteArray.empty).data.toList (R.tail.headD ByteArray.empty) lat).2.1=X2 at *
  generalize (takeAng (R.headD ByteArray.empty).data.toList (R.tail.headD ByteArray.empty) lat).2.2=E at *
  generalize R.tail.headD ByteArray.empty=d at *
  generalize R.headD ByteArray.empty=s at *
  generalize textE (textE e R) R.tail=e2 at *
  generalize R.tail.tail=R2 at *
  generalize textE e R=e1 at *
  generalize R.tail=R1 at *
  have HFL:=fun W' hr=>Lib.hid (EyeFail_any (Q:=Q) g e2 E R2 W' hr)
  clear h hsz
  have HS:Hid (∀ o,(w.alloc (numO false 0)).cell? ⟨w.heap.size,o,none⟩=(#[Value.bool false,.int .i64 0]:Array Value)[o]?):=fun o=>by rw [World.cell?_alloc_at _ _ _ _ rfl]
  have HZ:Hid (∀ o,(w.alloc (numO false 0)).frozen? ⟨w.heap.size,o,none⟩=false):=fun o=>by rw [frozen?_alloc_cells];exact frozen_past _ _ _ (by omega)
  have HBl:Hid (Below w.heap.size w (w.alloc (numO false 0))):=below_new w _
  have hs0:(w.alloc (numO false 0)).heap.size=w.heap.size+1:=by simp
  have HS0:=Lib.hid hs0
  clear hs0
  go_enter Tryz.func97,Tryz.ntmps97
  go_wp2_with fail
  refine (HT _ HBl.out).out.mono ?_
  rintro r w1 ⟨rfl,hr1,hf1⟩
  have z1:w.heap.size+1≤w1.heap.size:=by have:=hf1.size;have:=HS0.out;omega
  have HQ1:Hid (∀ o,w1.cell? ⟨w.heap.size,o,none⟩=(#[Value.bool false,.int .i64 0]:Array Value)[o]?):=fun o=>(frm_cells hf1 (by have:=HS0.out;omega) (by omega) o).trans (HS.out o)
  have HZ1:Hid (∀ o,w1.frozen? ⟨w.heap.size,o,none⟩=false):=fun o=>(frm_frozen hf1 (by have:=HS0.out;omega) (by omega) o).trans (HZ.out o)
  have HF1:=Lib.hid ((Frm.of_below (g:=g) HBl.out).step hf1)
  have HR1:=Lib.hid hr1
  clear hr1 hf1 HS HZ HBl HS0 HT
  go_wp2_with fail
  refine (HU _ HR1.out).out.mono ?_
  rintro r w2 ⟨rfl,hr2,hf2⟩
  have z2:w.heap.size+1≤w2.heap.size:=Nat.le_trans z1 hf2.size
  have HQ2:Hid (∀ o,w2.cell? ⟨w.heap.size,o,none⟩=(#[Value.bool false,.int .i64 0]:Array Value)[o]?):=fun o=>(frm_cells hf2 (by omega) (by omega) o).trans (HQ1.out o)
  have HZ2:Hid (∀ o,w2.frozen? ⟨w.heap.size,o,none⟩=false):=fun o=>(frm_frozen hf2 (by omega) (by omega) o).trans (HZ1.out o)
  have HF2:=Lib.hid (HF1.out.step hf2)
  have HR2:=Lib.hid hr2
  clear hr2 hf2 HQ1 HZ1 HF1 HR1 HU
  go_wp2_with fail
  refine ((HA _).out).mono ?_
  rintro e w3 ⟨rfl,hb3⟩
  have z3:w.heap.size+1≤w3.heap.size:=Nat.le_trans z2 hb3.size
  have HB3:=Lib.hid (bthen hb3 (below_new w3 (numO X1 X2)))
  have HR3:=Lib.hid (HR2.out.keep HB3.out)
  have HF3:=Lib.hid (HF2.out.then_below HB3.out)
  have hq3:∀ o,(w3.alloc (numO X1 X2)).cell? ⟨w.heap.size,o,none⟩=(#[Value.bool false,.int .i64 0]:Array Value)[o]?:=fun o=>((bcell HB3.out).1 w.heap.size o (by omega)).trans (HQ2.out o)
  have hz3:∀ o,(w3.alloc (numO X1 X2)).frozen? ⟨w.heap.size,o,none⟩=false:=fun o=>((bcell HB3.out).2 w.heap.size o (by omega)).trans (HZ2.out o)
  have HQ3:=Lib.hid hq3
  have HZ3:=Lib.hid hz3
  clear hb3 hq3 hz3 HQ2 HZ2 HF2 HR2 HA HB3
  go_wp2_with fail
  refine (HFL _ HR3.out).out.mono ?_
  rintro r w4 ⟨rfl,hr4,hf4⟩
  have hs3:(w3.alloc (numO X1 X2)).heap.size=w3.heap.size+1:=by simp
  have z4:w3.heap.size+1≤w4.heap.size:=by have:=hf4.size;omega
  have p0:w4.cell? ⟨w.heap.size,0,none⟩=some (.bool false):=(frm_cells hf4 (by omega) (by omega) 0).trans (HQ3.out 0)
  have p1:w4.cell? ⟨w.heap.size,1,none⟩=some (.int .i64 0):=(frm_cells hf4 (by omega) (by omega) 1).trans (HQ3.out 1)
  have y0:=(frm_frozen hf4 (b:=w.heap.size) (by omega) (by omega) 0).trans (HZ3.out 0)
  have y1:=(frm_frozen hf4 (b:=w.heap.size) (by omega) (by omega) 1).trans (HZ3.out 1)
  have x0:w4.cell? ⟨w3.heap.size,0,none⟩=some (.bool X1):=(frm_cells hf4 (by omega) (by omega) 0).trans (by simp [World.cell?_alloc_at])
  have x1:w4.cell? ⟨w3.heap.size,1,none⟩=some (.int .i64 X2):=(frm_cells hf4 (by omega) (by omega) 1).trans (by simp [World.cell?_alloc_at])
  have HR4:=Lib.hid hr4
  have HF4:=Lib.hid (HF3.out.step hf4)
  clear hr4 hf4 hs3 HQ3 HZ3 HF3 HR3 HFL
  go_wp2_with fail
  obtain⟨k0,k1⟩:=two_cells w4 w.heap.size (.bool X1) (.int .i64 X2) _ _ p0 p1
  refine bodyPost_ret (v:=numV X1 X2) (by simp [results,Tryz.results97,go_sem,k0,k1]) rfl ⟨rfl,?_,?_⟩
  · exact (HR4.out.far (fun q=>by have:=hBw _ q;omega) (by omega)).far (fun q=>by have:=hBw _ q;omega) (by omega)
  · exact (HF4.out.put (Nat.le_refl _)).put (Nat.le_refl _)
def TextsPost2 (fs:List ByteArray) (w:World) (v:Value) (w':World):Prop:=
  ∃ A c,v=.slice A fs.length c∧fs.length≤c∧(∀ a,A=some a→a.block < w'.heap.size)∧(A=none→c=0)∧Strs w' w'.heap.size A fs∧FreshA w.heap.size A∧Below w.heap.size w w'
set_option maxRecDepth 8000 in
set_option maxHeartbeats 2000000 in
theorem Clone2_any (A:Option Addr) (fs:List ByteArray) (c:Nat) (w:World) (hA:A=none→c=0) (hs:Strs w w.heap.size A fs) (hn:fs.length≤1000000) :
    Calls Tryz.prog 168 #[.slice A fs.length c] w fun e w'=>∃ v,e=.returned v∧TextsPost2 fs w v w':=by
  cases A with
  | none=>
    obtain rfl:=hA rfl
    have hl:fs=[]:=by
      cases fs with
      | nil=>rfl
      | cons a l=>obtain⟨b,off,hA,-⟩:=hs 0 (by simp);cases hA
    subst hl
    clear hs hA
    change Calls Tryz.prog 168 #[.slice none 0 0] w _
    have EQ:∀ W:World,(binOp .eql 22 (.slice none 0 0) (.slice none 0 0)).run Tryz.prog W=.ok (.bool true) W:=fun W=>Lib.run_eql_slice_nil W 22 9 none 0 0 0 0 Tryz.underlying22
    go_enter Tryz.func168,Tryz.ntmps168
    go_wp2
    go_ret
    exact⟨_,rfl,none,0,rfl,Nat.le_refl _,(fun a h=>by cases h),fun _=>rfl,fun k hk=>absurd hk (by simp),FreshA.none_,Below.refl _ _⟩
  | some a=>
    obtain⟨i0,hi,hz0,hz1,hz2⟩:=info_partsP str_infoP
    obtain⟨n,hln⟩:∃ n,fs.length=n:=⟨_,rfl⟩
    have HLN:=Lib.hid hln
    have HS:=Lib.hid hs
    rw [hln] at hn ⊢
    clear hs hA hln
    have hown:(w.alloc (.cells #[] 9)).ownsRow w.heap.size 9 1 (.slice (some ⟨w.heap.size,0,none⟩) 0 0) 0 []:=World.ownsRow_made w #[] 0 (Nat.le_refl _) (by decide) rfl
    have HO:=Lib.hid hown
    clear hown
    have EQ:∀ W:World,(binOp .eql 22 (.slice (some a) n c) (.slice none 0 0)).run Tryz.prog W=.ok (.bool false) W:=fun W=>Lib.run_eql_slice_nil W 22 9 (some a) n c 0 0 Tryz.underlying22
    go_enter Tryz.func168,Tryz.ntmps168
    go_wp2_with (at_builtin;refine wpList_append_own _ rfl _ _ 22 rfl w.heap.size 9 i0 (.string ByteArray.empty) 1 16 Tryz.underlying22 hi hz0 hz1 hz2 rfl (by decide) _ _ _ rfl HO.out a n c (fs.map Value.string) rfl (by simp [HLN.out]) ?c1 ?c2 ?c3 ?c4 ?c5 ?_)
    case c1=>
      intro j u hu
      rw [List.getElem?_map] at hu
      have hj:j < fs.length:=by
        rcases Nat.lt_or_ge j fs.length with k | k
        · exact k
        · rw [List.getElem?_eq_none k] at hu;cases hu
      rw [List.getElem?_eq_getElem hj] at hu
      injection hu with hu
      obtain⟨b,off,hA,hb,hc⟩:=HS.out j hj
      injection hA with hA
      subst hA
      have e1:(⟨b,off,none⟩:Addr).add j=⟨b,off+j,none⟩:=by unfold Addr.add;split <;> simp_all
      rw [e1,World.cell?_alloc_past _ _ _ hb,hc,← hu]
    case c2=>intro u hu;obtain⟨s,-,rfl⟩:=List.mem_map.1 hu;rfl
    case c3=>unfold maxLen;omega
    case c4=>omega
    case c5=>simp
    intro v' w2 hown' hgrow _
    have HPOST:Hid (TextsPost2 fs w v' w2):=by
      obtain⟨A,c',rfl⟩:=own_formP hown'
      obtain⟨h1,h2,h3⟩:=strs_of_ownP hown'
      have hcap:fs.length≤c':=by
        rw [h1]
        rcases hown'.2 with ⟨_,h0⟩ | ⟨g,cap,cur,hv,_,_,hn,_⟩
        · omega
        · injection hv with _ _ hv;omega
      have hblk:∀ a,A=some a→a.block < w2.heap.size:=fun a ha=>by
        subst ha
        rcases hown'.2 with ⟨hv,_⟩ | ⟨g,cap,cur,hv,_,hg,_⟩
        · injection hv with hv;cases hv
        · injection hv with hv
          injection hv with hv
          rw [hv]
          exact (Array.getElem?_eq_some_iff.1 hg).1
      refine⟨A,c',by rw [h1],hcap,hblk,fun hA=>?_,h2,h3,((below_new w _).grown hgrow (by simp) (fun k hk=>(HO.out.lt k hk).1))⟩
      subst hA
      rcases hown'.2 with ⟨hv,_⟩ | ⟨g,cap,cur,hv,_⟩
      · injection hv
      · cases hv
    clear hown' hgrow HO HS
    go_wp2_with fail
    go_ret
    exact⟨_,rfl,HPOST.out⟩
def LookPost (fs:List ByteArray) (w:World) (r:Ending) (w':World):Prop:=
  ∃ g,r=.returned (.pointer (some ⟨g,0,none⟩))∧EyeR (fun b=>w.heap.size≤b∧b < g) w' g 0 fs∧w.heap.size≤g∧w'.heap.size=g+1∧Below w.heap.size w w'
set_option maxHeartbeats 1000000 in
theorem Look_any (A:Option Addr) (fs:List ByteArray) (c:Nat) (w:World) (hA:A=none→c=0) (hs:Strs w w.heap.size A fs) (hn:fs.length≤1000000) :
    Calls Tryz.prog 95 #[.slice A fs.length c] w (LookPost fs w):=by
  have HC:=Lib.hid (Clone2_any A fs c w hA hs hn)
  have HN:=Lib.hid hn
  clear hs hA hn
  obtain⟨n,hln⟩:∃ n,fs.length=n:=⟨_,rfl⟩
  rw [hln] at HC ⊢
  have HLN:=Lib.hid hln
  clear hln
  go_enter Tryz.func95,Tryz.ntmps95
  go_wp2_with fail
  refine HC.out.mono ?_
  rintro r w1 ⟨v,rfl,ht⟩
  obtain⟨A',c',rfl,h1,hblk,h2,h3,h4,h5⟩:=ht
  have HPO:Hid (LookPost fs w (.returned (.pointer (some ⟨w1.heap.size,0,none⟩))) (w1.alloc (.cells #[.bool true,.int .i64 0,.slice A' fs.length c'] 208))):=by
    have hb:Below w1.heap.size w1 (w1.alloc (.cells #[.bool true,.int .i64 0,.slice A' fs.length c'] 208)):=below_new _ _
    refine⟨w1.heap.size,rfl,⟨A',c',by simp [World.cell?_alloc_at],by simp [World.cell?_alloc_at],by simp [World.cell?_alloc_at],fun o=>?_,by simp,fun k hk=>?_,(fun b q=>by have:=q.2;simp;omega),(fun b q=>by have:=q.2;omega),HN.out,h1⟩,h5.size,by simp,bthen h5 (below_new _ _)⟩
    · rw [frozen?_alloc_cells];exact frozen_past _ _ _ (Nat.le_refl _)
    · obtain⟨b,off,e1,e2,e3⟩:=h3 k hk
      exact⟨b,off,e1,⟨h4 _ e1,e2⟩,(hb.cell (p:=⟨b,off+k,none⟩) e2).trans e3⟩
  rw [HLN.out] at HPO
  clear h1 h2 h3 h4 h5 hblk
  rw [HLN.out]
  go_wp2_with fail
  go_ret
  exact HPO.out
variable {Q : Nat → Prop}
theorem EyeR.other {w w':World} {g g':Nat} {e:Int} {R:List ByteArray} {v:Value} (h:EyeR Q w g e R) (hf:Frm g' v w w') (h1:g≠g') (h2:v.ownBlock≠some g) (h3:∀ b,Q b→b≠g'∧v.ownBlock≠some b):EyeR Q w' g e R:=by
  obtain⟨A,c,p0,p1,p2,p3,p4,p5,hB,p6,p7,p8⟩:=h
  refine⟨A,c,(hf.cell p4 h1 h2).trans p0,(hf.cell p4 h1 h2).trans p1,(hf.cell p4 h1 h2).trans p2,fun o=>(World.frozen?_of_block (a:=⟨g,o,none⟩) (hf.block g p4 h1 h2)).trans (p3 o),Nat.lt_of_lt_of_le p4 hf.size,fun k hk=>?_,fun b q=>Nat.lt_of_lt_of_le (hB b q) hf.size,p6,p7,p8⟩
  obtain⟨b,off,e1,e2,e3⟩:=p5 k hk
  exact⟨b,off,e1,e2,(hf.cell (hB b e2) (h3 b e2).1 (h3 b e2).2).trans e3⟩
section
variable {w wx w' : World} {Qr Qs : Nat → Prop} {gp gr gq gs base : Nat} {ep eq er es : Int} {vp vq : Value} {Lp Lq R S : List ByteArray}
end
end Go.Proofs.YtoabkoniegmkaaaGreat
