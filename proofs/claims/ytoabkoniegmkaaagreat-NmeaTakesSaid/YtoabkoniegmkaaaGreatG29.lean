/- Layer 27: the reference's Take. Printed by gengsar.py. -/
import Derived.Test.YtoabkoniegmkaaaGreatG24
namespace Go.Proofs.YtoabkoniegmkaaaGreat
set_option linter.unusedVariables false
open Go.RowKit
theorem int_infoG:(Tryz.prog.info? 2).map (fun i=>(i.zero,i.size,i.bytes))=some (some (.int .i64 0),1,8):=by kernel_rfl
theorem ints_of_own {w:World} {B:Nat} {e:TypeId} {v:Value} {D:List Int} (h:w.ownsRow B e 1 v D.length (D.map (Value.int .i64))):∃ A c,v=.slice A D.length c∧Ints w w.heap.size A D∧FreshA B A:=by
  rcases h.2 with ⟨hv,h0⟩ | ⟨g,cap,cur,hv,hb,hg,-⟩
  · exact⟨none,0,by rw [hv,h0],fun k hk=>by omega,FreshA.none_⟩
  · subst hv
    refine⟨some ⟨g,0,none⟩,cap,rfl,fun k hk=>⟨g,0,rfl,(Array.getElem?_eq_some_iff.1 hg).1,?_⟩,fun a ha=>by injection ha with ha;rw [← ha];exact hb⟩
    have hc:=h.cells (g:=g) rfl k (.int .i64 D[k]) (by simp [hk])
    have:(⟨g,0,none⟩:Addr).add k=⟨g,0+k,none⟩:=by unfold Addr.add;split <;> simp_all
    rw [← this]
    exact hc
def GsaPostF (x:GsaD×Int) (w:World) (r:Ending) (w':World):Prop:=
  ∃ A n c,r=.returned (.tuple #[gsaV x.1.a x.1.f A n c x.1.p0.1 x.1.p0.2 x.1.p1.1 x.1.p1.2 x.1.p2.1 x.1.p2.2,.int .i64 x.2])∧x.1.ids.length=n∧Ints w' w'.heap.size A x.1.ids∧(∀ b off,A=some ⟨b,off,none⟩→w.heap.size≤b)∧Below w.heap.size w w'
set_option maxRecDepth 8000 in
theorem r27Take_bad (A:Option Addr) (n c:Nat) (w:World) (h:((n:Int) != 17)=true):Calls Tryz.prog 27 #[.slice A n c] w (GsaPost (zeroS,3) w):=by
  go_enter Tryz.func27,Tryz.ntmps27
  go_wp2
  exact bodyPost_ret (v:=.tuple #[gsaV false 0 none 0 0 false 0 false 0 false 0,.int .i64 3]) (by simp [results,Tryz.results27,go_sem]) rfl ⟨none,0,0,rfl,rfl,fun k hk=>absurd hk (Nat.not_lt_zero _),below_new _ _⟩
set_option maxRecDepth 8000 in
set_option maxHeartbeats 8000000 in
theorem r27Take_ok (A:Option Addr) (n c:Nat) (R:List ByteArray) (w:World) (hl:R.length=n) (hs:Strs w w.heap.size A R) (hz:∀ t∈R,t.size≤1000000) (hkn:Hid (n=17)) :
    Calls Tryz.prog 27 #[.slice A n c] w (GsaPostF (takeGsa R) w):=by
  obtain⟨a,r1,h1⟩:∃ n u,Hid (rdOne (0,R)=(n,u)):=⟨_,_,rfl⟩
  obtain⟨f,r2,h2⟩:∃ n u,Hid (rdDig 1 3 r1=(n,u)):=⟨_,_,rfl⟩
  obtain⟨ids,r3,h3⟩:∃ n u,Hid (rdIds 12 r2=(n,u)):=⟨_,_,rfl⟩
  obtain⟨b0,n0,r4,h4⟩:∃ b n u,Hid (rdNum 1 3 2 0 99999 r3=((b,n),u)):=⟨_,_,_,rfl⟩
  obtain⟨b1,n1,r5,h5⟩:∃ b n u,Hid (rdNum 1 3 2 0 99999 r4=((b,n),u)):=⟨_,_,_,rfl⟩
  obtain⟨b2,n2,r6,h6⟩:∃ b n u,Hid (rdNum 1 3 2 0 99999 r5=((b,n),u)):=⟨_,_,_,rfl⟩
  obtain⟨X,hX⟩:∃ X,takeGsa R=X:=⟨_,rfl⟩
  have HT:Hid (X=if r6.1=0 then (⟨a,f,ids,(b0,n0),(b1,n1),(b2,n2)⟩,0) else (zeroS,r6.1)):=hX.symm.trans (gsa_taken (by rw [hl];exact hkn.out) h1 h2 h3 h4 h5 h6)
  rw [hX]
  clear hX
  have hb0:=below_new w (.cells (gsaC false 0 none 0 0 false 0 false 0 false 0) 39)
  have hz0:(w.alloc (.cells (gsaC false 0 none 0 0 false 0 false 0 false 0) 39)).heap.size=w.heap.size+1:=by simp
  have hrow:=rowRNew (c:=c) ((hs.below hb0 (Nat.le_refl _)).more hb0.size) (by have:=hkn.out;omega) hz
  rw [hl,hz0] at hrow
  have hz1:((w.alloc (.cells (gsaC false 0 none 0 0 false 0 false 0 false 0) 39)).alloc (.cells #[.slice A n c,.int .i64 0,.int .i64 0] 112)).heap.size=w.heap.size+2:=by simp
  have hb1:=bthen hb0 (below_new (w.alloc (.cells (gsaC false 0 none 0 0 false 0 false 0 false 0) 39)) (.cells #[.slice A n c,.int .i64 0,.int .i64 0] 112))
  have hbm:=below_new ((w.alloc (.cells (gsaC false 0 none 0 0 false 0 false 0 false 0) 39)).alloc (.cells #[.slice A n c,.int .i64 0,.int .i64 0] 112)) (.cells (gsaC false 0 none 0 0 false 0 false 0 false 0) 39)
  have T0:TkI (RowRI (w.heap.size+1) (0,R)) (w.heap.size+1) (w.heap.size+2) (gsaC false 0 none 0 0 false 0 false 0 false 0) (((w.alloc (.cells (gsaC false 0 none 0 0 false 0 false 0 false 0) 39)).alloc (.cells #[.slice A n c,.int .i64 0,.int .i64 0] 112)).alloc (.cells (gsaC false 0 none 0 0 false 0 false 0 false 0) 39)) (((w.alloc (.cells (gsaC false 0 none 0 0 false 0 false 0 false 0) 39)).alloc (.cells #[.slice A n c,.int .i64 0,.int .i64 0] 112)).alloc (.cells (gsaC false 0 none 0 0 false 0 false 0 false 0) 39)):=
    ⟨hrow.keep hbm,fun j=>World.cell?_alloc_at _ _ _ _ hz1.symm,fun j=>by rw [frozen?_alloc_cells];exact frozen_past _ _ _ (by omega),by omega,by simp,rfl,rfl,rfl,Nat.le_refl _,fun _ _ _ _=>rfl⟩
  have HT0:=Lib.hid T0
  have HRW:Hid ((∀ o,(((w.alloc (.cells (gsaC false 0 none 0 0 false 0 false 0 false 0) 39)).alloc (.cells #[.slice A n c,.int .i64 0,.int .i64 0] 112)).alloc (.cells (gsaC false 0 none 0 0 false 0 false 0 false 0) 39)).cell? ⟨w.heap.size,o,none⟩=(gsaC false 0 none 0 0 false 0 false 0 false 0)[o]?)∧(∀ o,(((w.alloc (.cells (gsaC false 0 none 0 0 false 0 false 0 false 0) 39)).alloc (.cells #[.slice A n c,.int .i64 0,.int .i64 0] 112)).alloc (.cells (gsaC false 0 none 0 0 false 0 false 0 false 0) 39)).frozen? ⟨w.heap.size,o,none⟩=false)∧Below w.heap.size w (((w.alloc (.cells (gsaC false 0 none 0 0 false 0 false 0 false 0) 39)).alloc (.cells #[.slice A n c,.int .i64 0,.int .i64 0] 112)).alloc (.cells (gsaC false 0 none 0 0 false 0 false 0 false 0) 39))∧(((w.alloc (.cells (gsaC false 0 none 0 0 false 0 false 0 false 0) 39)).alloc (.cells #[.slice A n c,.int .i64 0,.int .i64 0] 112)).alloc (.cells (gsaC false 0 none 0 0 false 0 false 0 false 0) 39)).heap.size=w.heap.size+3):=
    ⟨fun o=>(World.cell?_alloc_past _ _ _ (by simp;omega)).trans ((World.cell?_alloc_past _ _ _ (by simp)).trans (World.cell?_alloc_at _ _ _ _ rfl)),fun o=>by rw [frozen?_alloc_cells,frozen?_alloc_cells,frozen?_alloc_cells];exact frozen_past _ _ _ (Nat.le_refl _),bthen hb1 hbm,by simp⟩
  have i17:((n:Int) != 17)=false:=by have:=hkn.out;rw [bne_eq_false_iff_eq];omega
  clear hs hz hl hb0 hb1 hbm hz0 hz1 hrow T0
  go_enter Tryz.func27,Tryz.ntmps27
  try dsimp only
  repeat (fail_if_success (show Code.wp _ (Code.seq (Code.region 1 _ _) _) _ _ _)
          first | go_values | go_skip | go_guarded | go_step | go_upon | go_back | (simp only [Int.not_lt,Int.not_le] at *;go_simp) | (go_ite <;> go_prune <;> (try go_simp)))
  go_cut [] (fun wx=>wx=w.alloc (.cells (gsaC false 0 none 0 0 false 0 false 0 false 0) 39))
  case first=>
    go_wp2_with fail
    go_meet
    rfl
  case rest=>
  subst hcut
  go_upto_region 5 with fail
  generalize hW:((w.alloc (.cells (gsaC false 0 none 0 0 false 0 false 0 false 0) 39)).alloc (.cells #[.slice A n c,.int .i64 0,.int .i64 0] 112)).alloc (.cells (gsaC false 0 none 0 0 false 0 false 0 false 0) 39)=W at *
  clear hW
  have HG:Hid (w.heap.size+1+1=w.heap.size+2):=rfl
  go_wp2_with fail
  refine (r25One_any h1 HT0.out.x).mono ?_
  rintro r x0 ⟨rfl,hx,hf⟩
  have hT:=HT0.out.frm hx hf
  have m0:=hT.c 0
  have z0:=hT.z 0
  have HT1:=Lib.hid hT
  clear hT hx hf HT0
  go_wp2_with fail
  have hp:=HT1.out.put (o:=0) (u:=.bool a) (by simp) (HT1.out.x.far (by omega))
  have HT0:=Lib.hid (show TkI (RowRI (w.heap.size+1) r1) (w.heap.size+1) (w.heap.size+2) (gsaC a 0 none 0 0 false 0 false 0 false 0) W (x0.setCell ⟨w.heap.size+2,0,none⟩ (.bool a)) from hp)
  clear hp m0 z0 HT1
  generalize x0.setCell ⟨w.heap.size+2,0,none⟩ (.bool a)=y0 at *
  refine (r25Digit_any h2 HT0.out.x).mono ?_
  rintro r x1 ⟨rfl,hx,hf⟩
  have hT:=HT0.out.frm hx hf
  have m1:=hT.c 1
  have z1:=hT.z 1
  have HT1:=Lib.hid hT
  clear hT hx hf HT0
  go_wp2_with fail
  have hp:=HT1.out.put (o:=1) (u:=.int .i64 f) (by simp) (HT1.out.x.far (by omega))
  have HT0:=Lib.hid (show TkI (RowRI (w.heap.size+1) r2) (w.heap.size+1) (w.heap.size+2) (gsaC a f none 0 0 false 0 false 0 false 0) W (x1.setCell ⟨w.heap.size+2,1,none⟩ (.int .i64 f)) from hp)
  clear hp m1 z1 HT1
  generalize x1.setCell ⟨w.heap.size+2,1,none⟩ (.int .i64 f)=y1 at *
  have HI0:Hid ([]++(rdIds 12 r2).1=ids∧(rdIds 12 r2).2=r3∧TkI (RowRI (w.heap.size+1) r2) (w.heap.size+1) (w.heap.size+2) #[.bool a,.int .i64 f,.slice none 0 0,.bool false,.int .i64 0,.bool false,.int .i64 0,.bool false,.int .i64 0] W y1∧y1.ownsRow W.heap.size 2 1 (.slice none 0 0) ([]:List Int).length (([]:List Int).map (Value.int .i64))):=⟨by rw [h3.out];rfl,by rw [h3.out],HT0.out,World.ownsRow_nil _ _ _ _⟩
  clear HT0
  go_loopw [6] (fun iv wr=>∃ (i:Nat) (D:List Int) (s:Rd) (v:Value),iv=.int .i64 (i:Int)∧i≤12∧D.length≤i∧Hid (D++(rdIds (12 - i) s).1=ids∧(rdIds (12 - i) s).2=r3∧TkI (RowRI (w.heap.size+1) s) (w.heap.size+1) (w.heap.size+2) #[.bool a,.int .i64 f,v,.bool false,.int .i64 0,.bool false,.int .i64 0,.bool false,.int .i64 0] W wr∧wr.ownsRow W.heap.size 2 1 v D.length (D.map (Value.int .i64)))) (fun iv _=>12 - (intOf iv).toNat)
  case atStart=>exact⟨0,[],r2,_,rfl,by omega,Nat.zero_le _,HI0⟩
  case round=>
    clear HI0
    obtain⟨i,D,s,v,rfl,hi,hDi,hI⟩:=hrel
    have HWZ:=Lib.hid HRW.out.2.2.2
    by_cases hlt:i < 12
    · obtain⟨b,n,s',e0⟩:∃ b n u,Hid (rdNum 1 3 0 1 255 s=((b,n),u)):=⟨_,_,_,rfl⟩
      have hst:=rdIds_step (k:=11 - i) e0.out
      rw [show 11 - i+1=12 - i from by omega,show 11 - i=12 - (i+1) from by omega] at hst
      have HST:=Lib.hid hst
      clear hst
      have i1:(i:Int) < 12:=by omega
      have i2:(0:Int)≤(i:Int):=by omega
      go_wp2_with fail
      refine (r27Id_any _).mono ?_
      rintro r x1 ⟨rfl,hb⟩
      have HT1:=Lib.hid (hI.out.2.2.1.keep (Y:=RowRI (w.heap.size+1) s) (hI.out.2.2.1.x.keep hb) hb)
      have HFb:=Lib.hid (Frm.of_below (g:=w.heap.size+1) (v:=nilV) hb)
      clear hb
      go_wp2_with fail
      refine (rowTNum e0 HT1.out.x).mono ?_
      rintro r x2 ⟨rfl,hx,hf⟩
      have HT2:=Lib.hid (HT1.out.frm (Y:=RowRI (w.heap.size+1) s') hx hf)
      have HFc:=Lib.hid (HFb.out.step hf)
      clear hx hf HT1 HFb
      have hbn:=below_new x2 (.cells #[.bool b,.int .i64 n] 30)
      have hT3:=HT2.out.keep (Y:=RowRI (w.heap.size+1) s') (HT2.out.x.keep hbn) hbn
      have HFd:=Lib.hid (HFc.out.then_below hbn)
      have hn0:(x2.alloc (.cells #[.bool b,.int .i64 n] 30)).cell? ⟨x2.heap.size,0,none⟩=some (.bool b):=World.cell?_alloc_at _ _ _ _ rfl
      have hn1:(x2.alloc (.cells #[.bool b,.int .i64 n] 30)).cell? ⟨x2.heap.size,1,none⟩=some (.int .i64 n):=World.cell?_alloc_at _ _ _ _ rfl
      have m2:=hT3.c 2
      have HT3:=Lib.hid hT3
      have HVO:Hid (∀ k,v.ownBlock=some k→W.heap.size≤k):=fun k hk=>(hI.out.2.2.2.lt k hk).1
      have HO3:=Lib.hid (own_after hI.out.2.2.2 HFd.out (fun q=>by have:=HVO.out _ q;have:=HWZ.out;omega))
      clear hbn hT3 HT2 HFc
      cases b with
      | false=>
        have HNX:Hid (D++(rdIds (12 - (i+1)) s').1=ids∧(rdIds (12 - (i+1)) s').2=r3∧TkI (RowRI (w.heap.size+1) s') (w.heap.size+1) (w.heap.size+2) #[.bool a,.int .i64 f,v,.bool false,.int .i64 0,.bool false,.int .i64 0,.bool false,.int .i64 0] W (x2.alloc (.cells #[.bool false,.int .i64 n] 30))∧(x2.alloc (.cells #[.bool false,.int .i64 n] 30)).ownsRow W.heap.size 2 1 v D.length (D.map (Value.int .i64))):=by
          have q1:=hI.out.1
          have q2:=hI.out.2.1
          rw [HST.out] at q1 q2
          exact⟨q1,q2,HT3.out,HO3.out⟩
        go_wp2_with fail
        go_roundw
        case rel=>exact⟨i+1,D,s',v,by go_num,by omega,by omega,HNX⟩
        case measure=>simp [intOf];omega
      | true=>
        have hFN:=HFd.out.then_below (below_new (x2.alloc (.cells #[.bool true,.int .i64 n] 30)) (.cells #[.int .i64 n] 2))
        have HO5:=Lib.hid (own_after hI.out.2.2.2 hFN (fun q=>by have:=HVO.out _ q;have:=HWZ.out;omega))
        have HNW:Hid (∀ j u,([Value.int .i64 n])[j]?=some u→((x2.alloc (.cells #[.bool true,.int .i64 n] 30)).alloc (.cells #[.int .i64 n] 2)).cell? ((⟨(x2.alloc (.cells #[.bool true,.int .i64 n] 30)).heap.size,0,none⟩:Addr).add j)=some u):=fun j u hu=>by
          have e1:(⟨(x2.alloc (.cells #[.bool true,.int .i64 n] 30)).heap.size,0,none⟩:Addr).add j=⟨(x2.alloc (.cells #[.bool true,.int .i64 n] 30)).heap.size,j,none⟩:=by unfold Addr.add;split <;> simp_all
          rw [e1,World.cell?_alloc_at _ _ _ _ rfl,← hu]
          simp only [List.getElem?_toArray]
        have HWV:Hid (W.heap.size≤((x2.alloc (.cells #[.bool true,.int .i64 n] 30)).alloc (.cells #[.int .i64 n] 2)).heap.size):=by show _≤_;exact Nat.le_trans hI.out.2.2.1.size hFN.size
        have hxz:(x2.alloc (.cells #[.bool true,.int .i64 n] 30)).heap.size=x2.heap.size+1:=by simp
        rw [hxz] at HNW
        obtain⟨i0,hi0,hz0',hz1',hz2'⟩:=info_partsP int_infoG
        clear hFN hxz
        go_wp2_with (at_builtin;refine wpList_append_lies _ rfl _ _ 37 rfl W.heap.size 2 i0 (.int .i64 0) 1 8 Tryz.underlying37 hi0 hz0' hz1' hz2' rfl (by decide) _ _ _ rfl HO5.out ⟨x2.heap.size+1,0,none⟩ 1 1 [.int .i64 n] rfl rfl HNW.out ?c2 (by decide) ?c3 ?c4 HWV.out _ rfl ?_)
        case c2=>intro u hu;simp at hu;subst hu;rfl
        case c3=>unfold maxLen;omega
        case c4=>omega
        intro g2 cap w6 hown' hgrow hlies hg2
        have hbs:=below_new (x2.alloc (.cells #[.bool true,.int .i64 n] 30)) (.cells #[.int .i64 n] 2)
        have hFG:Frm (w.heap.size+1) v (x2.alloc (.cells #[.bool true,.int .i64 n] 30)) w6:=(Frm.of_below (g:=w.heap.size+1) (v:=v) hbs).trans (frm_grown hgrow) (.inl rfl)
        have hx6:RowRI (w.heap.size+1) s' w6:=(HT3.out.x.keep hbs).grow (g':=w.heap.size+2) (frm_grown hgrow) (by omega) (fun k hk=>by have:=HVO.out k hk;have:=HWZ.out;omega)
        have hT6:=HT3.out.grow (Y:=RowRI (w.heap.size+1) s') (by have:=HWZ.out;omega) hFG HVO.out hx6
        have m6:=hT6.c 2
        have z6:=hT6.z 2
        have hp:=hT6.put (o:=2) (u:=.slice (some ⟨g2,0,none⟩) (D.length+1) cap) (by simp) (hx6.far (by omega))
        have hown7:(w6.setCell ⟨w.heap.size+2,2,none⟩ (.slice (some ⟨g2,0,none⟩) (D.length+1) cap)).ownsRow W.heap.size 2 1 (.slice (some ⟨g2,0,none⟩) (D.length+1) cap) (D++[n]).length ((D++[n]).map (Value.int .i64)):=by
          rw [List.length_append,List.map_append]
          exact own_after hown' (g:=w.heap.size+2) ((Frm.of_below (Below.refl _ _)).set _ _) (fun q=>by have:=(hown'.lt _ q).1;have:=HWZ.out;omega)
        have HNX:Hid ((D++[n])++(rdIds (12 - (i+1)) s').1=ids∧(rdIds (12 - (i+1)) s').2=r3∧TkI (RowRI (w.heap.size+1) s') (w.heap.size+1) (w.heap.size+2) #[.bool a,.int .i64 f,(.slice (some ⟨g2,0,none⟩) (D.length+1) cap),.bool false,.int .i64 0,.bool false,.int .i64 0,.bool false,.int .i64 0] W (w6.setCell ⟨w.heap.size+2,2,none⟩ (.slice (some ⟨g2,0,none⟩) (D.length+1) cap))∧(w6.setCell ⟨w.heap.size+2,2,none⟩ (.slice (some ⟨g2,0,none⟩) (D.length+1) cap)).ownsRow W.heap.size 2 1 (.slice (some ⟨g2,0,none⟩) (D.length+1) cap) (D++[n]).length ((D++[n]).map (Value.int .i64))):=by
          have q1:=hI.out.1
          have q2:=hI.out.2.1
          rw [HST.out] at q1 q2
          refine⟨?_,q2,hp,hown7⟩
          rw [← q1]
          simp
        clear hp hown7 hT6 hx6 hFG hbs hown' hgrow hlies hg2 m2
        go_wp2_with fail
        go_roundw
        case rel=>exact⟨i+1,D++[n],s',_,by go_num,by omega,by simp;omega,HNX⟩
        case measure=>simp [intOf];omega
    · obtain rfl:i=12:=by omega
      have hD:D=ids:=by have:=hI.out.1;simpa [rdIds] using this
      have hs3:s=r3:=by have:=hI.out.2.1;simpa [rdIds] using this
      subst hD hs3
      obtain⟨A2,c2,rfl,hints,hfr⟩:=ints_of_own hI.out.2.2.2
      have HTI:=Lib.hid hI.out.2.2.1
      have HINT:=Lib.hid hints
      have HFR:Hid (∀ b off,A2=some ⟨b,off,none⟩→w.heap.size+3≤b):=fun b off e=>by have h9:=hfr _ e;have:=HWZ.out;simp only at h9;omega
      have hT0:TkI (RowRI (w.heap.size+1) s) (w.heap.size+1) (w.heap.size+2) (gsaC a f A2 D.length c2 false 0 false 0 false 0) wr wr:=⟨HTI.out.x,HTI.out.c,HTI.out.z,HTI.out.gm,HTI.out.mz,rfl,rfl,rfl,Nat.le_refl _,fun _ _ _ _=>rfl⟩
      have HRWx:Hid ((∀ o,wr.cell? ⟨w.heap.size,o,none⟩=(gsaC false 0 none 0 0 false 0 false 0 false 0)[o]?)∧(∀ o,wr.frozen? ⟨w.heap.size,o,none⟩=false)∧Below w.heap.size w wr):=
        have q:=HRW.out.2.2.2
        ⟨fun o=>(HTI.out.cell (by omega) (by omega) (by omega)).trans (HRW.out.1 o),fun o=>(HTI.out.frozen (by omega) (by omega) (by omega)).trans (HRW.out.2.1 o),Below.trans HRW.out.2.2.1 (HTI.out.below (by omega) (by omega))⟩
      have HT1:=Lib.hid hT0
      have HSZ:Hid (w.heap.size+3≤wr.heap.size):=by show _≤_;have:=HTI.out.size;have:=HWZ.out;omega
      clear hT0 hI HRW hints hfr HTI
      go_wp2_with fail
      refine (r27Dop_any _).mono ?_
      rintro r x0 ⟨rfl,hb⟩
      have HT2:=Lib.hid (HT1.out.keep (Y:=RowRI (w.heap.size+1) s) (HT1.out.x.keep hb) hb)
      clear hb HT1
      go_wp2_with fail
      refine (rowTNum h4 HT2.out.x).mono ?_
      rintro r y1 ⟨rfl,hx,hf⟩
      have hT3:=HT2.out.frm (Y:=RowRI (w.heap.size+1) r4) hx hf
      have m0:=hT3.c 3
      have m1:=hT3.c 4
      have z0:=hT3.z 3
      have z1:=hT3.z 4
      have HT3:=Lib.hid hT3
      clear hx hf HT2 hT3
      go_upto_region 14 with fail
      have hx2:=((HT3.out.x.far (G:=w.heap.size+2) (o:=3) (u:=.bool b0) (by omega)).far (G:=w.heap.size+2) (o:=4) (u:=.int .i64 n0) (by omega))
      have hT4:=HT3.out.store (C':=gsaC a f A2 D.length c2 b0 n0 false 0 false 0) (o:=3) rfl rfl (fun j=>by rcases j with _ | _ | _ | _ | _ | _ | _ | _ | _ | j <;> simp) hx2
      have HT1:=Lib.hid hT4
      clear hT4 hx2 m0 m1 z0 z1 HT3
      generalize ((y1.setCell ⟨w.heap.size+2,3,none⟩ (.bool b0)).setCell ⟨w.heap.size+2,4,none⟩ (.int .i64 n0))=v0 at *
      go_wp2_with fail
      refine (r27Dop_any _).mono ?_
      rintro r x1 ⟨rfl,hb⟩
      have HT2:=Lib.hid (HT1.out.keep (Y:=RowRI (w.heap.size+1) r4) (HT1.out.x.keep hb) hb)
      clear hb HT1
      go_wp2_with fail
      refine (rowTNum h5 HT2.out.x).mono ?_
      rintro r y2 ⟨rfl,hx,hf⟩
      have hT3:=HT2.out.frm (Y:=RowRI (w.heap.size+1) r5) hx hf
      have m0:=hT3.c 5
      have m1:=hT3.c 6
      have z0:=hT3.z 5
      have z1:=hT3.z 6
      have HT3:=Lib.hid hT3
      clear hx hf HT2 hT3
      go_upto_region 15 with fail
      have hx2:=((HT3.out.x.far (G:=w.heap.size+2) (o:=5) (u:=.bool b1) (by omega)).far (G:=w.heap.size+2) (o:=6) (u:=.int .i64 n1) (by omega))
      have hT4:=HT3.out.store (C':=gsaC a f A2 D.length c2 b0 n0 b1 n1 false 0) (o:=5) rfl rfl (fun j=>by rcases j with _ | _ | _ | _ | _ | _ | _ | _ | _ | j <;> simp) hx2
      have HT1:=Lib.hid hT4
      clear hT4 hx2 m0 m1 z0 z1 HT3
      generalize ((y2.setCell ⟨w.heap.size+2,5,none⟩ (.bool b1)).setCell ⟨w.heap.size+2,6,none⟩ (.int .i64 n1))=v1 at *
      go_wp2_with fail
      refine (r27Dop_any _).mono ?_
      rintro r x2 ⟨rfl,hb⟩
      have HT2:=Lib.hid (HT1.out.keep (Y:=RowRI (w.heap.size+1) r5) (HT1.out.x.keep hb) hb)
      clear hb HT1
      go_wp2_with fail
      refine (rowTNum h6 HT2.out.x).mono ?_
      rintro r y3 ⟨rfl,hx,hf⟩
      have hT3:=HT2.out.frm (Y:=RowRI (w.heap.size+1) r6) hx hf
      have m0:=hT3.c 7
      have m1:=hT3.c 8
      have z0:=hT3.z 7
      have z1:=hT3.z 8
      have HT3:=Lib.hid hT3
      clear hx hf HT2 hT3
      go_upto_region 16 with fail
      have hx2:=((HT3.out.x.far (G:=w.heap.size+2) (o:=7) (u:=.bool b2) (by omega)).far (G:=w.heap.size+2) (o:=8) (u:=.int .i64 n2) (by omega))
      have hT4:=HT3.out.store (C':=gsaC a f A2 D.length c2 b0 n0 b1 n1 b2 n2) (o:=7) rfl rfl (fun j=>by rcases j with _ | _ | _ | _ | _ | _ | _ | _ | _ | j <;> simp) hx2
      have HT1:=Lib.hid hT4
      clear hT4 hx2 m0 m1 z0 z1 HT3
      generalize ((y3.setCell ⟨w.heap.size+2,7,none⟩ (.bool b2)).setCell ⟨w.heap.size+2,8,none⟩ (.int .i64 n2))=v2 at *
      have he:=HT1.out.x.err
      obtain⟨E,hE⟩:∃ E,r6.1=E:=⟨_,rfl⟩
      rw [hE] at he HT
      clear hE
      have HINT9:Hid (Ints v2 v2.heap.size A2 D):=fun k hk=>by
        obtain⟨b,off,e1,e2,e3⟩:=HINT.out k hk
        have q:=HFR.out b off e1
        exact⟨b,off,e1,Nat.lt_of_lt_of_le e2 HT1.out.size,(HT1.out.cell e2 (by omega) (by omega)).trans e3⟩
      have hr:∀ j,v2.cell? ⟨w.heap.size,j,none⟩=(gsaC false 0 none 0 0 false 0 false 0 false 0)[j]?:=fun j=>(HT1.out.cell (by have:=HSZ.out;omega) (by omega) (by omega)).trans (HRWx.out.1 j)
      have hf:∀ j,v2.frozen? ⟨w.heap.size,j,none⟩=false:=fun j=>(HT1.out.frozen (by have:=HSZ.out;omega) (by omega) (by omega)).trans (HRWx.out.2.1 j)
      have HB9:Hid (Below w.heap.size w v2):=Below.trans HRWx.out.2.2 (HT1.out.below (by omega) (by have:=HSZ.out;omega))
      have hm:=HT1.out.c
      have HR:=Lib.hid (show AtC v2 w.heap.size (gsaC false 0 none 0 0 false 0 false 0 false 0) from hr)
      have r_0:=hr 0
      have r_1:=hr 1
      have r_2:=hr 2
      have r_3:=hr 3
      have r_4:=hr 4
      have r_5:=hr 5
      have r_6:=hr 6
      have r_7:=hr 7
      have r_8:=hr 8
      have f_0:=hf 0
      have f_1:=hf 1
      have f_2:=hf 2
      have f_3:=hf 3
      have f_4:=hf 4
      have f_5:=hf 5
      have f_6:=hf 6
      have f_7:=hf 7
      have f_8:=hf 8
      have m_0:=hm 0
      have m_1:=hm 1
      have m_2:=hm 2
      have m_3:=hm 3
      have m_4:=hm 4
      have m_5:=hm 5
      have m_6:=hm 6
      have m_7:=hm 7
      have m_8:=hm 8
      clear hr hf hm HT1 HRWx HINT
      by_cases hE:E=0
      · subst hE
        have HX2:Hid (X=(⟨a,f,D,(b0,n0),(b1,n1),(b2,n2)⟩,0)):=HT.out.trans (if_pos rfl)
        clear HT
        have K:=(((((((((HR.out.set 0 (.bool a) (by simp)).set 1 (.int .i64 f) (by simp)).set 2 (.slice A2 D.length c2) (by simp)).set 3 (.bool b0) (by simp)).set 4 (.int .i64 n0) (by simp)).set 5 (.bool b1) (by simp)).set 6 (.int .i64 n1) (by simp)).set 7 (.bool b2) (by simp)).set 8 (.int .i64 n2) (by simp))
        have k0:=K 0
        have k1:=K 1
        have k2:=K 2
        have k3:=K 3
        have k4:=K 4
        have k5:=K 5
        have k6:=K 6
        have k7:=K 7
        have k8:=K 8
        simp at k0 k1 k2 k3 k4 k5 k6 k7 k8
        go_wp2_with fail
        refine bodyPost_ret (v:=.tuple #[gsaV a f A2 D.length c2 b0 n0 b1 n1 b2 n2,.int .i64 0]) (by simp [results,Tryz.results27,go_sem,k0,k1,k2,k3,k4,k5,k6,k7,k8]) rfl ?_
        rw [HX2.out]
        refine⟨A2,D.length,c2,rfl,rfl,fun k hk=>?_,fun b off e=>by have:=HFR.out b off e;omega,(below_set (below_set (below_set (below_set (below_set (below_set (below_set (below_set (below_set HB9.out (Nat.le_refl _)) (Nat.le_refl _)) (Nat.le_refl _)) (Nat.le_refl _)) (Nat.le_refl _)) (Nat.le_refl _)) (Nat.le_refl _)) (Nat.le_refl _)) (Nat.le_refl _))⟩
        obtain⟨b,off,e1,e2,e3⟩:=HINT9.out k hk
        have hne2:w.heap.size≠b:=by have:=HFR.out b off e1;omega
        exact⟨b,off,e1,by simpa using e2,((far_set hne2).trans (((far_set hne2).trans (((far_set hne2).trans (((far_set hne2).trans (((far_set hne2).trans (((far_set hne2).trans (((far_set hne2).trans (((far_set hne2).trans (((far_set hne2).trans (e3))))))))))))))))))⟩
      · have hne:(E != 0)=true:=by rw [bne_iff_ne];exact hE
        have HX2:Hid (X=(zeroS,E)):=HT.out.trans (if_neg hE)
        clear hE HT
        have K:=(((((((((HR.out.set 0 (.bool false) (by simp)).set 1 (.int .i64 0) (by simp)).set 2 (.slice none 0 0) (by simp)).set 3 (.bool false) (by simp)).set 4 (.int .i64 0) (by simp)).set 5 (.bool false) (by simp)).set 6 (.int .i64 0) (by simp)).set 7 (.bool false) (by simp)).set 8 (.int .i64 0) (by simp))
        have k0:=K 0
        have k1:=K 1
        have k2:=K 2
        have k3:=K 3
        have k4:=K 4
        have k5:=K 5
        have k6:=K 6
        have k7:=K 7
        have k8:=K 8
        simp at k0 k1 k2 k3 k4 k5 k6 k7 k8
        go_wp2_with fail
        go_region_with (fail)
        all_goals go_wp2_with fail
        all_goals refine bodyPost_ret (v:=.tuple #[gsaV false 0 none 0 0 false 0 false 0 false 0,.int .i64 E]) (by simp [results,Tryz.results27,go_sem,k0,k1,k2,k3,k4,k5,k6,k7,k8]) rfl ?_
        all_goals rw [HX2.out]
        all_goals exact⟨none,0,0,rfl,rfl,fun k hk=>absurd hk (Nat.not_lt_zero _),fun b off e=>(by cases e),bdrew (below_set (below_set (below_set (below_set (below_set (below_set (below_set (below_set (below_set HB9.out (Nat.le_refl _)) (Nat.le_refl _)) (Nat.le_refl _)) (Nat.le_refl _)) (Nat.le_refl _)) (Nat.le_refl _)) (Nat.le_refl _)) (Nat.le_refl _)) (Nat.le_refl _))⟩
set_option maxRecDepth 8000 in
set_option maxHeartbeats 4000000 in
theorem r03Same_same (A B:Option Addr) (n c d:Nat) (L:List Int) (w:World) (hn:Hid (L.length=n)) (hA:Hid (Ints w w.heap.size A L)) (hB:Hid (Ints w w.heap.size B L)) (h0:n≤1000000) :
    Calls Tryz.prog 77 #[.slice A n c,.slice B n d] w fun e w'=>e=.returned (.bool true)∧Below w.heap.size w w':=by
  have hb:((n:Int) != (n:Int))=false:=by rw [bne_eq_false_iff_eq]
  go_enter Tryz.func77,Tryz.ntmps77
  go_wp2
  go_loopw [5] (fun i wr=>∃ k nq:Nat,k≤n∧i=.int .i64 k∧wr=w.drewN nq) (fun i _=>n - (intOf i).toNat)
  case atStart=>exact⟨0,0,Nat.zero_le _,rfl,rfl⟩
  case round=>
    obtain⟨k,nq,hk,rfl,rfl⟩:=hrel
    by_cases hlt:k < n
    · have hkl:k < L.length:=by rw [hn.out];exact hlt
      obtain⟨b1,o1,hA1,hb1,hc1⟩:=hA.out k hkl
      obtain⟨b2,o2,hA2,hb2,hc2⟩:=hB.out k hkl
      subst hA1 hA2
      generalize L[k]=v at *
      have hv:(v != v)=false:=by rw [bne_eq_false_iff_eq]
      have i1:(0:Int)≤(k:Int):=Int.natCast_nonneg _
      have i2:(k:Int) < (n:Int):=by omega
      clear hkl
      go_wp2_with fail
      go_quiet (fail)
      go_wp2_with fail
      go_roundw
      case rel=>exact⟨k+1,_,by omega,by go_num,rfl⟩
      case measure=>simp [intOf];omega
    · go_wp2_with fail
      go_ret
      exact⟨by rfl,bdrewN (Below.refl _ _) _⟩
set_option maxRecDepth 8000 in
set_option maxHeartbeats 4000000 in
theorem r27Same_same (a:Bool) (f:Int) (b0:Bool) (n0:Int) (b1:Bool) (n1:Int) (b2:Bool) (n2:Int) (A B:Option Addr) (n c d:Nat) (L:List Int) (w:World) (hn:Hid (L.length=n)) (hA:Hid (Ints w w.heap.size A L)) (hB:Hid (Ints w w.heap.size B L)) (h0:n≤1000000) :
    Calls Tryz.prog 32 #[gsaV a f A n c b0 n0 b1 n1 b2 n2,gsaV a f B n d b0 n0 b1 n1 b2 n2] w fun e w'=>e=.returned (.bool true)∧Below w.heap.size w w':=by
  have hbb:Below w.heap.size w ((w.alloc (.cells (gsaC a f A n c b0 n0 b1 n1 b2 n2) 39)).alloc (.cells (gsaC a f B n d b0 n0 b1 n1 b2 n2) 39)):=bthen (below_new _ _) (below_new _ _)
  have HV:Hid (Calls Tryz.prog 77 #[.slice A n c,.slice B n d] ((w.alloc (.cells (gsaC a f A n c b0 n0 b1 n1 b2 n2) 39)).alloc (.cells (gsaC a f B n d b0 n0 b1 n1 b2 n2) 39)) fun e w'=>e=.returned (.bool true)∧Below ((w.alloc (.cells (gsaC a f A n c b0 n0 b1 n1 b2 n2) 39)).alloc (.cells (gsaC a f B n d b0 n0 b1 n1 b2 n2) 39)).heap.size ((w.alloc (.cells (gsaC a f A n c b0 n0 b1 n1 b2 n2) 39)).alloc (.cells (gsaC a f B n d b0 n0 b1 n1 b2 n2) 39)) w'):=
    r03Same_same A B n c d L _ hn ((hA.out.below hbb (Nat.le_refl _)).more hbb.size) ((hB.out.below hbb (Nat.le_refl _)).more hbb.size) h0
  have HB:=Lib.hid hbb
  have HC1:Hid (∀ o,((w.alloc (.cells (gsaC a f A n c b0 n0 b1 n1 b2 n2) 39)).alloc (.cells (gsaC a f B n d b0 n0 b1 n1 b2 n2) 39)).cell? ⟨w.heap.size,o,none⟩=(gsaC a f A n c b0 n0 b1 n1 b2 n2)[o]?):=fun o=>(World.cell?_alloc_past _ _ _ (by simp)).trans (World.cell?_alloc_at _ _ _ _ rfl)
  have HC2:Hid (∀ o,((w.alloc (.cells (gsaC a f A n c b0 n0 b1 n1 b2 n2) 39)).alloc (.cells (gsaC a f B n d b0 n0 b1 n1 b2 n2) 39)).cell? ⟨w.heap.size+1,o,none⟩=(gsaC a f B n d b0 n0 b1 n1 b2 n2)[o]?):=fun o=>World.cell?_alloc_at _ _ _ _ (by simp)
  have HZ:Hid (((w.alloc (.cells (gsaC a f A n c b0 n0 b1 n1 b2 n2) 39)).alloc (.cells (gsaC a f B n d b0 n0 b1 n1 b2 n2) 39)).heap.size=w.heap.size+2):=by show _=_;simp
  have hv:(f==f)=true:=by simp
  have hv0:(n0==n0)=true:=by simp
  have hv1:(n1==n1)=true:=by simp
  have hv2:(n2==n2)=true:=by simp
  clear hA hB hbb
  go_enter Tryz.func32,Tryz.ntmps32
  go_wp2_with fail
  refine HV.out.mono ?_
  rintro r w1 ⟨rfl,hb1⟩
  have hz:=HZ.out
  have HC1':Hid (∀ o,w1.cell? ⟨w.heap.size,o,none⟩=(gsaC a f A n c b0 n0 b1 n1 b2 n2)[o]?):=fun o=>((bcell hb1).1 _ o (by omega)).trans (HC1.out o)
  have HC2':Hid (∀ o,w1.cell? ⟨w.heap.size+1,o,none⟩=(gsaC a f B n d b0 n0 b1 n1 b2 n2)[o]?):=fun o=>((bcell hb1).1 _ o (by omega)).trans (HC2.out o)
  have HB1:=Lib.hid (bthen HB.out hb1)
  clear hz hb1 HC1 HC2 HB HV HZ
  have x3:=HC1'.out 3
  have y3:=HC2'.out 3
  have x4:=HC1'.out 4
  have y4:=HC2'.out 4
  have x5:=HC1'.out 5
  have y5:=HC2'.out 5
  have x6:=HC1'.out 6
  have y6:=HC2'.out 6
  have x7:=HC1'.out 7
  have y7:=HC2'.out 7
  have x8:=HC1'.out 8
  have y8:=HC2'.out 8
  go_wp2_with fail
  go_ret
  exact⟨by first | rfl | simp,HB1.out⟩
theorem gsaTake_any (A:Option Addr) (R:List ByteArray) (c:Nat) (w:World) (hA:A=none→c=0) (hs:Strs w w.heap.size A R) (hz:∀ t∈R,t.size≤1000000):Calls Tryz.prog 45 #[.slice A R.length c] w (GsaPost (takeGsa R) w):=by
  by_cases h:R.length=17
  · exact gsaTake_ok A R.length c R w rfl hA hs hz h
  · have:takeGsa R=(zeroS,3):=by unfold takeGsa;rw [if_pos h]
    rw [this]
    exact gsaTake_bad A R.length c w (by rw [bne_iff_ne];omega)
theorem takeGsa_len (R:List ByteArray):(takeGsa R).1.ids.length≤12:=by
  unfold takeGsa
  split
  · exact Nat.zero_le _
  · split
    · exact rdIds_len 12 _
    · exact Nat.zero_le _
end Go.Proofs.YtoabkoniegmkaaaGreat
