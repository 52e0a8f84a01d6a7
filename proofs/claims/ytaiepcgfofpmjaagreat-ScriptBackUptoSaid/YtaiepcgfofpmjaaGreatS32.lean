/- Layer 32: Size, sum, the eye's cut; slices.Equal of bytes. -/
import Derived.Test.YtaiepcgfofpmjaaGreatS31
import Derived.Deep.QuietTactic
import Derived.BigQuiet
import Derived.WalkKit
import Derived.Test.YtaiepcgfofpmjaaGreatS23
import Derived.Shelf.Spec.SlicesGrow
import Derived.Ground.Names7Prog
namespace Go.Proofs.YtaiepcgfofpmjaaGreat
set_option linter.unusedVariables false
open Go.RowKit
def sumT (i:Nat) (l:List UInt8):Nat:=crcStep (crcMore 65535 l) (extF (findF i))
theorem extF_lt (f:TFm) (h:FmOk f):extF f < 256:=by
  unfold extF
  split
  · omega
  · dsimp only
    have h1:(wireP f.2).foldl extStep (crcMore 65535 (f.1++⟨#[32]⟩).data.toList) < 65536:=extFold_lt _ (crcMore_lt _ (by decide)) (fun p hp=>h.2.2.2 p ((sortR_perm gtP f.2).mem_iff.1 hp))
    exact Nat.xor_lt_two_pow (n:=8) (by omega) (by omega)
def sumB (i:Nat) (l:List UInt8):List UInt8:=[UInt8.ofNat (sumT i l % 256),UInt8.ofNat (sumT i l / 256)]
set_option maxHeartbeats 1000000 in
theorem tlmSum_any {Q:Nat→Prop} {w:World} (i:Nat) (A:Option Addr) (l:List UInt8) (c:Nat) (h:FlatQ Q w A (bsV l)) (hm:l.length≤1000000) :
    Calls Tryz.prog 187 #[.int .i64 i,.slice A l.length c] w fun e w'=>∃ g,e=.returned (.slice (some ⟨g,0,none⟩) 2 2)∧Blk w' g (bsV (sumB i l))∧w.heap.size≤g∧Below w.heap.size w w':=by
  have hfo:=findF_ok (i:Int)
  have HX:=fun W=>Lib.hid (schExtra_any (i:Int) W hfo.2.1 hfo.1 hfo.2.2.2)
  have HO:∀ W g,W.cell? ⟨g,0,none⟩=some (.slice A l.length c)→Below w.heap.size w W→Hid (Calls Tryz.prog 238 #[.slice (some ⟨g,0,none⟩) 1 1] W fun e w'=>e=.returned (.int .u16 (crcMore 65535 l:Int))∧Below W.heap.size W w'):=fun W g hg hW=>Lib.hid (crcOf_one g A l c hg (h.lt.below hW (fun b q=>q.2)) hm)
  have hc:crcMore 65535 l < 65536:=crcMore_lt _ (by decide)
  have hx:=extF_lt _ hfo
  have HS:=fun W=>Lib.hid (crcStep_any (crcMore 65535 l) (extF (findF (i:Int))) W hc hx)
  have hs:crcStep (crcMore 65535 l) (extF (findF (i:Int))) < 65536:=crcStep_lt hc (by omega)
  unfold sumB sumT
  generalize crcStep (crcMore 65535 l) (extF (findF (i:Int)))=s at *
  generalize extF (findF (i:Int))=x at *
  generalize crcMore 65535 l=k at *
  have hs1:bsV [UInt8.ofNat (s % 256),UInt8.ofNat (s / 256)]=[.int .u8 ((s:Int) % 256),.int .u8 ((s:Int) / 256)]:=by
    unfold bsV bV
    simp only [List.map_cons,List.map_nil,UInt8.toNat_ofNat']
    rw [Nat.mod_eq_of_lt (show s % 256 < 2 ^ 8 by omega),Nat.mod_eq_of_lt (show s / 256 < 2 ^ 8 by omega)]
    rfl
  rw [hs1]
  generalize l.length=n at *
  have HSL:=Lib.hid hs
  clear hfo h hm hs1 hc hx
  have hs0:(s:Int) < 65536:=by omega
  go_enter Tryz.func187,Tryz.ntmps187
  go_wp2_with fail
  have HG0:Hid (Blk (w.alloc (.cells #[.slice A n c] 22)) w.heap.size [.slice A n c]):=Lib.hid (Blk.newL (grew_alloc w _ _) rfl)
  refine (HO _ w.heap.size (HG0.out.cell 0 rfl) (below_new _ _)).out.mono ?_
  rintro e w1 ⟨rfl,hb⟩
  have HB1:=Lib.hid (bthen (below_new _ _) hb)
  clear hb HG0 HO
  go_wp2_with fail
  refine (HX w1).out.mono ?_
  rintro e w2 ⟨rfl,hb⟩
  have HB2:=Lib.hid (bthen HB1.out hb)
  clear hb HB1 HX
  go_wp2_with (refine (HS _).out.mono ?_;rintro e w' ⟨rfl,rfl⟩)
  go_ret
  exact⟨w2.heap.size,rfl,Blk.newL (grew_alloc _ _ _) rfl,HB2.out.size,bthen HB2.out (below_new _ _)⟩
def putL (l:List Prt) (vs:List Int):List Int:=(sltsS l).map fun s=>vs.getD s.ix 0
theorem putL_len (l:List Prt) (vs:List Int):(putL l vs).length=cntP l:=by unfold putL;rw [List.length_map,sltsS_len]
set_option maxRecDepth 8000 in
set_option maxHeartbeats 4000000 in
theorem schPut_any {R:Nat→Prop} {w:World} (i:Nat) (X:Option Addr) (d:Nat) (vs:List Int) (hV:FlatQ R w X (i64sV vs)) (hne:(findF (i:Int)).1≠⟨#[]⟩) (hl:vs.length=cntP (findF (i:Int)).2) (hfit:∀ (k:Nat) f v,(fldsS (findF (i:Int)).2)[k]?=some f→(putL (findF (i:Int)).2 vs)[k]?=some v→FitsS f v) :
    Calls Tryz.prog 185 #[.int .i64 i,.slice X vs.length d] w (PutNew (widF (fldsS (findF (i:Int)).2)) w):=by
  have H:=Lib.hid (schFind_any (i:Int) w)
  have hfo:=findF_ok (i:Int)
  have HV:=Lib.hid hV.lt
  rw [hl]
  generalize findF (i:Int)=f at *
  obtain⟨nm,l⟩:=f
  obtain⟨-,hm,hc,hp⟩:=hfo
  unfold FrmNew at H
  dsimp only at *
  have HSL:∀ W A c,FlatQ (fun b=>w.heap.size≤b∧b < W.heap.size) W A (prtsV l)→Hid (Calls Tryz.prog 235 #[.agg #[.string nm,.slice A l.length c]] W (SltOut l W)):=fun W A c h=>Lib.hid (schSlots_any nm A l c h hm hc hp)
  have HSH:∀ W B e Y e2,FldsI W B (fldsS l)→FlatQ (fun b=>b < W.heap.size) W Y (i64sV (putL l vs))→Hid (Calls Tryz.prog 199 #[.slice B (cntP l) e,.slice Y (cntP l) e2] W (PutNew (widF (fldsS l)) W)):=fun W B e Y e2 h h2=>Lib.hid (by
    have:=shpPut_any B Y e e2 (fldsS l) (putL l vs) h (fldsS_right l hp) (by rw [fldsS_len];exact hc) h2 (by rw [putL_len,fldsS_len]) hfit
    rwa [fldsS_len] at this)
  have HSX:Hid ((sltsS l).length=cntP l∧∀ x∈sltsS l,x.ix < cntP l):=Lib.hid ⟨sltsS_len l,sltsS_ix l⟩
  have HPU:Hid (putL l vs=(sltsS l).map fun s=>vs.getD s.ix 0):=rfl
  have HPL:=Lib.hid (putL_len l vs)
  have HC:=Lib.hid hc
  have hn2:=text_some hne
  have HVL:=Lib.hid hl
  clear hp hm hV hfit hne hc hl
  go_enter Tryz.func185,Tryz.ntmps185
  go_wp2_with fail
  refine (H.out).mono ?_
  rintro e w1 ⟨A,c,rfl,hf,hb⟩
  have HF:=Lib.hid hf
  have HB:=Lib.hid hb
  clear hf hb H
  have HN:Hid (Blk (w1.alloc (.cells #[.string nm,.slice A l.length c] 371)) w1.heap.size [.string nm,.slice A l.length c]):=Lib.hid (Blk.newL (grew_alloc w1 _ _) rfl)
  have HB2:=Lib.hid (bthen HB.out (below_new w1 (.cells #[.string nm,.slice A l.length c] 371)))
  have HF2:=Lib.hid (new_up HF.out (below_new w1 (.cells #[.string nm,.slice A l.length c] 371)) (Nat.le_refl _))
  go_upto_region 2 with fail
  clear HF HB
  generalize w1.alloc (.cells #[.string nm,.slice A l.length c] 371)=W2 at *
  generalize w1.heap.size=fb at *
  have n0:=HN.out.cell 0 (v:=.string nm) rfl
  have n1:=HN.out.cell 1 (v:=.slice A l.length c) rfl
  have HS2:=HSL W2 A c HF2.out
  unfold SltOut at HS2
  generalize l.length=ln at *
  generalize sltsS l=s at *
  generalize fldsS l=fs at *
  generalize cntP l=M at *
  generalize putL l vs=us at *
  go_wp2_with fail
  refine HS2.out.mono ?_
  rintro e W3 ⟨g,B,d3,rfl,hk,hfl,hg,hb⟩
  have HG3:=Lib.hid (And.intro hk (Nat.le_trans HB2.out.size hg))
  have HB3:=Lib.hid (bthen HB2.out hb)
  have HFL3:Hid (FldsI W3 B fs):=hfl.less fun b q=>q.2
  have n0:=(HN.out.on hb).cell 0 (v:=.string nm) rfl
  have hMM:((M:Int) != M)=false:=by simp
  obtain⟨i0,hi,hz0,hz1,hz2⟩:=info_partsS shp_info
  have HI:=Lib.hid hi
  have HZ:=Lib.hid (And.intro hz0 (And.intro hz1 hz2))
  clear hk hfl hg hb HSL HN HB2 HF2 HS2 hi hz0 hz1 hz2 n1
  go_wp2_with (refine wpList_make_grew rfl _ _ 23 2 rfl i0 _ Tryz.underlying23 HI.out HZ.out.1 .i64 .i64 M rfl rfl (by rw [HZ.out.2.2];have:=HC.out;omega) (by have:=HC.out;omega) ?_;intro W5 hG;have HG:=Lib.hid hG;clear hG)
  have e0:(madeCells (Value.int .i64 0).cells (M * i0.size)).toList=i64sV (List.replicate M 0):=by rw [HZ.out.2.1];exact i64_rep M
  have HK5:Hid (Blk W5 W3.heap.size (i64sV (us.take 0++List.replicate (M - 0) 0))):=Lib.hid (by
    rw [List.take_zero,List.nil_append,Nat.sub_zero]
    exact Blk.newL HG.out e0)
  have HB5:Hid (Below w.heap.size w W5):=Lib.hid (bthen HB3.out HG.out.bel)
  have HG5:Hid (Blk W5 g (sltsV s)∧g < W3.heap.size):=Lib.hid ⟨HG3.out.1.on HG.out.bel,HG3.out.1.lt⟩
  have HS4:=Lib.hid HB3.out.size
  have HFL5:Hid (FldsI W5 B fs):=HFL3.out.on HG.out.bel
  have HFB:Hid (FlatQ (fun b=>b < W3.heap.size) W5 B (fldsV fs)):=FlatQ.below HFL3.out HG.out.bel fun _ q=>q
  clear HG HI HZ e0 HG3 HB3 HFL3 n0
  generalize W3.heap.size=go at *
  go_wp2_with fail
  go_loopg [34] M (fun h s34 wr=>∃ k:Nat,k≤M∧M - k≤h∧s34=.int .i64 k∧Hid (Blk wr go (i64sV (us.take k++List.replicate (M - k) 0)))∧Hid (Below go W5 wr)∧Hid (Below w.heap.size w wr))
  case atStart=>exact⟨0,Nat.zero_le _,by omega,rfl,HK5.out,Below.refl _ _,HB5.out⟩
  case round=>
    obtain⟨k,hk,hg,rfl,HK,HW,HB⟩:=hrel
    by_cases hlt:k < M
    · have hks:k < s.length:=by rw [HSX.out.1];exact hlt
      have hku:k < us.length:=by rw [HPL.out];exact hlt
      have hix:=HSX.out.2 _ (List.getElem_mem hks)
      have hiv:s[k].ix < vs.length:=by rw [HVL.out];exact hix
      have hus:us[k]=vs[s[k].ix]:=by
        have:us[k]?=some (vs.getD s[k].ix 0):=by rw [HPU.out,List.getElem?_map,List.getElem?_eq_getElem hks];rfl
        rw [List.getElem?_eq_getElem hku] at this
        injection this with this
        rw [this,List.getD_eq_getElem?_getD,List.getElem?_eq_getElem hiv]
        rfl
      have HTK:Hid (us.take (k+1)=us.take k++[vs[s[k].ix]]):=by show _=_;rw [List.take_succ_eq_append_getElem hku,hus]
      have HTL:Hid ((us.take k).length=k):=by show _=_;rw [List.length_take];omega
      have hgk:Blk wr g (sltsV s):=HG5.out.1.below HW.out HG5.out.2
      obtain⟨b',o',hA,-,c0,c1',c2'⟩:=slts_cells (hgk.flat (Q:=fun _=>True) trivial) k hks
      injection hA with hA
      injection hA with hA1 hA2
      subst hA1 hA2
      rw [Nat.zero_add] at c0 c1' c2'
      obtain⟨bv,ov,rfl,⟨⟨-,hbw⟩,hbv⟩,hcv2⟩:=i64s_at (HV.out.lt.below HB.out fun b q=>q.2) s[k].ix hiv
      generalize vs[s[k].ix]=y at *
      clear hus hiv
      generalize s[k]=x at *
      generalize us.take k=P at *
      obtain⟨sz,sg,ix⟩:=x
      dsimp only at *
      have hmc:=HC.out
      have i1:(k:Int) < M:=by omega
      have i2:(0:Int)≤(k:Int):=Int.natCast_nonneg _
      have i3:(ix:Int) < M:=by omega
      have i4:(0:Int)≤(ix:Int):=Int.natCast_nonneg _
      have HN1:Hid (Blk (wr.alloc (.cells #[.int .i64 sz,.bool sg,.int .i64 ix] 377)) wr.heap.size [.int .i64 sz,.bool sg,.int .i64 ix]):=Lib.hid (Blk.newL (grew_alloc wr _ _) rfl)
      have HK1:=Lib.hid (HK.out.on (below_new wr (.cells #[.int .i64 sz,.bool sg,.int .i64 ix] 377)))
      have HW1:Hid (Below go W5 (wr.alloc (.cells #[.int .i64 sz,.bool sg,.int .i64 ix] 377))):=Lib.hid (HW.out.trans ((below_new wr _).mono (Nat.le_of_lt HK.out.lt)))
      have HBB1:=Lib.hid (bthen HB.out (below_new wr (.cells #[.int .i64 sz,.bool sg,.int .i64 ix] 377)))
      have hcv3:(wr.alloc (.cells #[.int .i64 sz,.bool sg,.int .i64 ix] 377)).cell? ⟨bv,ov+ix,none⟩=some (.int .i64 y):=((below_new wr _).cell (p:=⟨bv,ov+ix,none⟩) hbv).trans hcv2
      clear hgk hix hks hku hbw hbv
      go_upto_region 11 with fail
      clear c0 c1' c2' HK HW HB hcv2
      generalize wr.alloc (.cells #[.int .i64 sz,.bool sg,.int .i64 ix] 377)=W7 at *
      generalize wr.heap.size=q at *
      have x2:=HN1.out.cell 2 (v:=.int .i64 ix) rfl
      obtain⟨o1,hst,hfar⟩:=store_num HK1.out HTL.out i1 y
      have o2:=HK1.out.fz k
      have s1:Stored W7 (W7.setCell ⟨go,k,none⟩ (.int .i64 y)) go k [.int .i64 y]:=stored_setCell (HK1.out.there k 1 (by rw [i64sV_len,List.length_append,List.length_replicate,HTL.out];omega))
      have HEND:Hid (Blk (W7.setCell ⟨go,k,none⟩ (.int .i64 y)) go (i64sV (us.take (k+1)++List.replicate (M - (k+1)) 0))∧Below go W5 (W7.setCell ⟨go,k,none⟩ (.int .i64 y))∧Below w.heap.size w (W7.setCell ⟨go,k,none⟩ (.int .i64 y))):=Lib.hid ⟨by rw [HTK.out];exact hst,HW1.out.trans (s1.below (Nat.le_refl _)),HBB1.out.trans (s1.below HS4.out)⟩
      clear hst hfar s1 HK1 HW1 HBB1 HN1
      go_wp2_with fail
      go_roundg (M - (k+1))
      case measure=>omega
      case rel=>exact⟨k+1,by omega,by omega,by go_num,HEND.out.1,HEND.out.2.1,HEND.out.2.2⟩
    · obtain rfl:k=M:=by omega
      have e2:us.take k=us:=by rw [← HPL.out,List.take_length]
      have hkb:=HK.out
      rw [e2,Nat.sub_self,List.replicate_zero,List.append_nil] at hkb
      have HGW:Hid (w.heap.size≤wr.heap.size):=HB.out.size
      have HPT:=HSH wr B d3 (some ⟨go,0,none⟩) k ((FlatQ.below HFB.out HW.out fun _ q=>q).less fun b q=>Nat.lt_trans q hkb.lt) (hkb.flat (Q:=fun b=>b < wr.heap.size) hkb.lt)
      clear e2 hkb HK
      go_wp2_with fail
      refine HPT.out.mono ?_
      rintro e W8 ⟨b,B8,d8,h1,rfl,h3,h4⟩
      have HF:Hid (PutNew (widF fs) w (.returned (.tuple #[.slice B8 (widF fs) d8,.int .i64 0])) W8):=⟨b,B8,d8,h1,rfl,h3.less fun b q=>⟨Nat.le_trans HGW.out q.1,q.2⟩,bthen HB.out h4⟩
      clear h1 h3 h4
      go_wp2_with fail
      go_ret2
      exact HF.out
open Go.RowKit Go.Shelf
shelf_lay_g Lays8.n4 Nm8 4 at Tryz 236 as wrtGrowL
theorem growB_new (n:Nat) (w:World) (h0:0 < n) (hn:n≤1000000):Calls Tryz.prog 236 #[.slice none 0 0,.int .i64 (n:Int)] w fun e w'=>∃ v,e=.returned v∧w'.ownsRow w.heap.size 5 1 v 0 []∧Below w.heap.size w w':=by
  obtain⟨i0,q1,q2,q3,q4⟩:=info_parts byte_infoS
  refine (Any8.slices_Grow_grow wrtGrowL i0 _ q1 q2 (by rw [q3];decide) none 0 0 n [] w (Nat.le_refl _) (by omega) (by rw [q4];omega) (by omega) (by simp) (fun _=>rfl) (fun a q=>by cases q)).mono ?_
  rintro e w' ⟨rfl,rfl⟩
  refine⟨_,rfl,?_,?_⟩
  · have hge:=grownCap_ge w (0+n) 0 (wrtGrowL_ren.t 25)
    have hle:=grownCap_le_maxLen w (0+n) 0 (wrtGrowL_ren.t 25) (by unfold maxLen;omega)
    generalize grownCap w (0+n) 0 (wrtGrowL_ren.t 25)=cap at *
    exact World.ownsRow_made (e:=5) (size:=1) w.drew _ cap (Nat.le_refl _) hle (by simp [size_zeroCells,Value.cells];omega)
  · exact (bdrew (Below.refl w.heap.size w)).trans (below_new w.drew _)
set_option maxRecDepth 8000 in
set_option maxHeartbeats 2000000 in
theorem concatB_two {Q R:Nat→Prop} {w:World} (g:Nat) (A B:Option Addr) (c d:Nat) (x y:List UInt8) (hg:Blk w g [.slice A x.length c,.slice B y.length d]) (hA:FlatQ Q w A (bsV x)) (hB:FlatQ R w B (bsV y)) (h0:0 < x.length) (hx:x.length≤1000) (hy:y.length≤1000) :
    Calls Tryz.prog 186 #[.slice (some ⟨g,0,none⟩) 2 2] w fun e w'=>∃ v,e=.returned v∧OwnR w 5 1 v (x.length+y.length) (bsV x++bsV y) w':=by
  have HG:∀ W,Hid (Calls Tryz.prog 236 #[.slice none 0 0,.int .i64 ((x.length:Int)+(y.length:Int))] W fun e w'=>∃ v,e=.returned v∧w'.ownsRow W.heap.size 5 1 v 0 []∧Below W.heap.size W w'):=fun W=>by rw [← Int.natCast_add];exact growB_new (x.length+y.length) W (by omega) (by omega)
  have c0:=hg.cell 0 rfl
  have c1:=hg.cell 1 rfl
  have HK:=Lib.hid hg
  have HA:=Lib.hid hA.lt
  have HB:=Lib.hid hB.lt
  have HLX:Hid ((bsV x).length=x.length∧(bsV y).length=y.length):=⟨bsV_len x,bsV_len y⟩
  have HOX:Hid ((∀ u∈bsV x,u.oneCell'=true)∧∀ u∈bsV y,u.oneCell'=true):=⟨bsV_one x,bsV_one y⟩
  generalize bsV x=X at *
  generalize bsV y=Y at *
  generalize x.length=n at *
  generalize y.length=m at *
  have f1:¬ ((n:Int) < 0):=by omega
  have f2:¬ ((n:Int)+(m:Int) < 0):=by omega
  clear hg hA hB
  go_enter Tryz.func186,Tryz.ntmps186
  go_wp2_with fail
  refine wp_loop_rounds 3 ?_
  rw [rounds_succ]
  go_wp2_with fail
  rw [rounds_succ]
  go_wp2_with fail
  rw [rounds_succ]
  go_wp2_with fail
  refine (HG _).out.mono ?_
  rintro e w1 ⟨v0,rfl,h1,h2⟩
  obtain⟨v1,w2,hr,ho⟩:=OwnR.app (P:=Tryz.prog) (t:=22) (ty:=22) (w0:=w) ⟨h1,h2⟩ (info_parts byte_infoS).choose_spec Tryz.underlying22 rfl (by decide) A n c X (by rw [HLX.out.1,Nat.mul_one]) (HA.out.below h2 fun b q=>q.2) HOX.out.1 (by unfold maxLen;omega) (by omega)
  have hb2:Below w.heap.size w w2:=ho.2
  obtain⟨v2,w3,hr2,ho2⟩:=OwnR.app (P:=Tryz.prog) (t:=22) (ty:=22) ho (info_parts byte_infoS).choose_spec Tryz.underlying22 rfl (by decide) B m d Y (by rw [HLX.out.2,Nat.mul_one]) (HB.out.below hb2 fun b q=>q.2) HOX.out.2 (by unfold maxLen;omega) (by omega)
  have HR:=Lib.hid hr
  have HR2:=Lib.hid hr2
  have HO:Hid (OwnR w 5 1 v2 (n+m) (X++Y) w3):=by rw [Nat.zero_add,List.nil_append] at ho2;exact ho2
  have d0:=(HK.out.on h2).cell 0 rfl
  have d1:=(HK.out.on hb2).cell 1 rfl
  clear h1 h2 hb2 hr ho hr2 ho2 c0 c1
  go_wp2_with fail
  refine wp_loop_rounds 3 ?_
  rw [rounds_succ]
  go_wp2_with (at_builtin;refine wpList_append_known rfl _ _ 22 rfl _ _ _ rfl rfl HR.out ?_)
  rw [rounds_succ]
  go_wp2_with (at_builtin;refine wpList_append_known rfl _ _ 22 rfl _ _ _ rfl rfl HR2.out ?_)
  rw [rounds_succ]
  go_wp2_with fail
  go_ret
  exact⟨_,rfl,HO.out⟩
set_option maxHeartbeats 1000000 in
theorem tlmOctets_yes {w:World} (g:Nat) (a b c:Nat) (h:Blk w g [.int .i64 (a:Int),.int .i64 (b:Int),.int .i64 (c:Int)]) (ha:a < 256) (hb:b < 256) (hc:c < 256):Calls Tryz.prog 184 #[.slice (some ⟨g,0,none⟩) 3 3] w fun e w'=>e=.returned (.bool true)∧w=w':=by
  have c0:=h.cell 0 rfl
  have c1:=h.cell 1 rfl
  have c2:=h.cell 2 rfl
  have f0:((a:Int) != (a:Int) % 256)=false:=by rw [bne_eq_false_iff_eq];omega
  have f1:((b:Int) != (b:Int) % 256)=false:=by rw [bne_eq_false_iff_eq];omega
  have f2:((c:Int) != (c:Int) % 256)=false:=by rw [bne_eq_false_iff_eq];omega
  clear h
  go_enter Tryz.func184,Tryz.ntmps184
  go_wp2_with fail
  refine wp_loop_rounds 4 ?_
  rw [rounds_succ]
  go_wp2_with fail
  rw [rounds_succ]
  go_wp2_with fail
  rw [rounds_succ]
  go_wp2_with fail
  rw [rounds_succ]
  go_wp2_with fail
  go_ret
  exact⟨rfl,rfl⟩
def PktOut (n i:Nat) (w:World) (e:Ending) (w':World):Prop:=∃ b B d,b.length=n∧b[0]?=some 254∧b[5]?=some (UInt8.ofNat i)∧e=.returned (.tuple #[.slice B n d,.int .i64 0])∧FlatQ (fun k=>w.heap.size≤k∧k < w'.heap.size) w' B (bsV b)∧Below w.heap.size w w'
theorem u8_small {n:Nat} (h:n < 256):((UInt8.ofNat n).toNat:Int)=(n:Int):=by
  rw [show (UInt8.ofNat n).toNat=n % 256 from by simp]
  omega
set_option maxRecDepth 8000 in
set_option maxHeartbeats 600000 in
theorem tlmPut_any {R:Nat→Prop} {w:World} (q s c i:Nat) (X:Option Addr) (d:Nat) (vs:List Int) (hq:q < 256) (hs:s < 256) (hc:c < 256) (hi:i < 256) (hV:FlatQ R w X (i64sV vs)) (hne:(findF (i:Int)).1≠⟨#[]⟩) (hl:vs.length=cntP (findF (i:Int)).2) (hfit:∀ (k:Nat) f v,(fldsS (findF (i:Int)).2)[k]?=some f→(putL (findF (i:Int)).2 vs)[k]?=some v→FitsS f v) (hw:widF (fldsS (findF (i:Int)).2)≤250) :
    Calls Tryz.prog 144 #[.agg #[.int .i64 (q:Int),.int .i64 (s:Int),.int .i64 (c:Int),.int .i64 (i:Int),.slice X vs.length d]] w (PktOut (widF (fldsS (findF (i:Int)).2)+8) i w):=by
  have HP:=fun W (hW:Below w.heap.size w W)=>Lib.hid (schPut_any i X d vs (hV.lt.below hW fun b q=>q.2) hne hl hfit)
  have HO:=fun W g (h:Blk W g [.int .i64 (q:Int),.int .i64 (s:Int),.int .i64 (c:Int)])=>Lib.hid (tlmOctets_yes g q s c h hq hs hc)
  generalize widF (fldsS (findF (i:Int)).2)=n at *
  generalize vs.length=m at *
  clear hV hne hfit hl
  have HO1:Hid (Calls Tryz.prog 184 #[.slice (some ⟨w.heap.size+1,0,none⟩) 3 3] ((w.alloc (.cells #[.int .i64 (q:Int),.int .i64 (s:Int),.int .i64 (c:Int),.int .i64 (i:Int),.slice X m d] 122)).alloc (.cells #[.int .i64 (q:Int),.int .i64 (s:Int),.int .i64 (c:Int)] 3)) fun e w'=>e=.returned (.bool true)∧((w.alloc (.cells #[.int .i64 (q:Int),.int .i64 (s:Int),.int .i64 (c:Int),.int .i64 (i:Int),.slice X m d] 122)).alloc (.cells #[.int .i64 (q:Int),.int .i64 (s:Int),.int .i64 (c:Int)] 3))=w'):=by
    have:=(HO _ _ (Blk.newL (L:=[.int .i64 (q:Int),.int .i64 (s:Int),.int .i64 (c:Int)]) (grew_alloc (w.alloc (.cells #[.int .i64 (q:Int),.int .i64 (s:Int),.int .i64 (c:Int),.int .i64 (i:Int),.slice X m d] 122)) #[.int .i64 (q:Int),.int .i64 (s:Int),.int .i64 (c:Int)] 3) rfl)).out
    rw [World.size_alloc] at this
    exact this
  clear HO
  go_enter Tryz.func144,Tryz.ntmps144
  go_wp2_with fail
  refine HO1.out.mono ?_
  rintro e w1 ⟨rfl,rfl⟩
  go_wp2_with fail
  have HB1:Hid (Below w.heap.size w ((w.alloc (.cells #[.int .i64 (q:Int),.int .i64 (s:Int),.int .i64 (c:Int),.int .i64 (i:Int),.slice X m d] 122)).alloc (.cells #[.int .i64 (q:Int),.int .i64 (s:Int),.int .i64 (c:Int)] 3))):=bthen (below_new _ _) (below_new _ _)
  have HK1:Hid (Blk ((w.alloc (.cells #[.int .i64 (q:Int),.int .i64 (s:Int),.int .i64 (c:Int),.int .i64 (i:Int),.slice X m d] 122)).alloc (.cells #[.int .i64 (q:Int),.int .i64 (s:Int),.int .i64 (c:Int)] 3)) w.heap.size [.int .i64 (q:Int),.int .i64 (s:Int),.int .i64 (c:Int),.int .i64 (i:Int),.slice X m d]):=(Blk.newL (L:=[.int .i64 (q:Int),.int .i64 (s:Int),.int .i64 (c:Int),.int .i64 (i:Int),.slice X m d]) (grew_alloc w _ _) rfl).on (below_new _ _)
  generalize ((w.alloc (.cells #[.int .i64 (q:Int),.int .i64 (s:Int),.int .i64 (c:Int),.int .i64 (i:Int),.slice X m d] 122)).alloc (.cells #[.int .i64 (q:Int),.int .i64 (s:Int),.int .i64 (c:Int)] 3))=W1 at *
  refine (HP _ HB1.out).out.mono ?_
  rintro e w2 ⟨b,B,d2,hbl,rfl,hf,hb⟩
  have HK2:=Lib.hid (HK1.out.on hb)
  have HB2:Hid (Below w.heap.size w w2):=bthen HB1.out hb
  have HF2:Hid (FlatQ (fun k=>k < w2.heap.size) w2 B (bsV b)):=hf.less fun _ q=>q.2
  have c0:=HK2.out.cell 0 rfl
  have c1:=HK2.out.cell 1 rfl
  have c2:=HK2.out.cell 2 rfl
  clear hf hb HP HK1 HB1 HO1
  have hhd:bsV [254,UInt8.ofNat n,UInt8.ofNat q,UInt8.ofNat s,UInt8.ofNat c,UInt8.ofNat i]=[.int .u8 254,.int .u8 (n:Int),.int .u8 (q:Int),.int .u8 (s:Int),.int .u8 (c:Int),.int .u8 (i:Int)]:=by
    simp only [bsV,bV,List.map_cons,List.map_nil]
    rw [u8_small (by omega:n < 256),u8_small hq,u8_small hs,u8_small hc,u8_small hi]
    rfl
  have HC:Hid (Calls Tryz.prog 186 #[.slice (some ⟨w2.heap.size+1,0,none⟩) 2 2] ((w2.alloc (.cells #[.int .u8 254,.int .u8 (n:Int),.int .u8 (q:Int),.int .u8 (s:Int),.int .u8 (c:Int),.int .u8 (i:Int)] 5)).alloc (.cells #[.slice (some ⟨w2.heap.size,0,none⟩) 6 6,.slice B n d2] 22)) fun e w'=>∃ v,e=.returned v∧OwnR ((w2.alloc (.cells #[.int .u8 254,.int .u8 (n:Int),.int .u8 (q:Int),.int .u8 (s:Int),.int .u8 (c:Int),.int .u8 (i:Int)] 5)).alloc (.cells #[.slice (some ⟨w2.heap.size,0,none⟩) 6 6,.slice B n d2] 22)) 5 1 v (6+n) (bsV ([254,UInt8.ofNat n,UInt8.ofNat q,UInt8.ofNat s,UInt8.ofNat c,UInt8.ofNat i]++b)) w'):=by
    have hb2:Below w2.heap.size w2 ((w2.alloc (.cells #[.int .u8 254,.int .u8 (n:Int),.int .u8 (q:Int),.int .u8 (s:Int),.int .u8 (c:Int),.int .u8 (i:Int)] 5)).alloc (.cells #[.slice (some ⟨w2.heap.size,0,none⟩) 6 6,.slice B n d2] 22)):=bthen (below_new _ _) (below_new _ _)
    have k1:=(Blk.newL (L:=bsV [254,UInt8.ofNat n,UInt8.ofNat q,UInt8.ofNat s,UInt8.ofNat c,UInt8.ofNat i]) (grew_alloc w2 #[.int .u8 254,.int .u8 (n:Int),.int .u8 (q:Int),.int .u8 (s:Int),.int .u8 (c:Int),.int .u8 (i:Int)] 5) hhd.symm).on (below_new _ (.cells #[.slice (some ⟨w2.heap.size,0,none⟩) 6 6,.slice B n d2] 22))
    have k2:=Blk.newL (L:=[.slice (some ⟨w2.heap.size,0,none⟩) 6 6,.slice B n d2]) (grew_alloc (w2.alloc (.cells #[.int .u8 254,.int .u8 (n:Int),.int .u8 (q:Int),.int .u8 (s:Int),.int .u8 (c:Int),.int .u8 (i:Int)] 5)) #[.slice (some ⟨w2.heap.size,0,none⟩) 6 6,.slice B n d2] 22) rfl
    rw [World.size_alloc] at k2
    have:=concatB_two (w2.heap.size+1) (some ⟨w2.heap.size,0,none⟩) B 6 d2 [254,UInt8.ofNat n,UInt8.ofNat q,UInt8.ofNat s,UInt8.ofNat c,UInt8.ofNat i] b (by rw [hbl];exact k2) (k1.flat (Q:=fun _=>True) trivial) (FlatQ.below HF2.out hb2 fun _ z=>z) (Nat.zero_lt_succ _) (show 6≤1000 from by decide) (by omega)
    rw [hbl] at this
    rw [show bsV ([254,UInt8.ofNat n,UInt8.ofNat q,UInt8.ofNat s,UInt8.ofNat c,UInt8.ofNat i]++b)=bsV [254,UInt8.ofNat n,UInt8.ofNat q,UInt8.ofNat s,UInt8.ofNat c,UInt8.ofNat i]++bsV b from List.map_append]
    exact this
  have HB3:Hid (Below w.heap.size w ((w2.alloc (.cells #[.int .u8 254,.int .u8 (n:Int),.int .u8 (q:Int),.int .u8 (s:Int),.int .u8 (c:Int),.int .u8 (i:Int)] 5)).alloc (.cells #[.slice (some ⟨w2.heap.size,0,none⟩) 6 6,.slice B n d2] 22))):=bthen HB2.out (bthen (below_new _ _) (below_new _ _))
  clear hhd
  go_wp2_with fail
  generalize ((w2.alloc (.cells #[.int .u8 254,.int .u8 (n:Int),.int .u8 (q:Int),.int .u8 (s:Int),.int .u8 (c:Int),.int .u8 (i:Int)] 5)).alloc (.cells #[.slice (some ⟨w2.heap.size,0,none⟩) 6 6,.slice B n d2] 22))=W3 at *
  have HL:Hid (([254,UInt8.ofNat n,UInt8.ofNat q,UInt8.ofNat s,UInt8.ofNat c,UInt8.ofNat i]++b).length=6+n∧([254,UInt8.ofNat n,UInt8.ofNat q,UInt8.ofNat s,UInt8.ofNat c,UInt8.ofNat i]++b)[0]?=some 254∧([254,UInt8.ofNat n,UInt8.ofNat q,UInt8.ofNat s,UInt8.ofNat c,UInt8.ofNat i]++b)[5]?=some (UInt8.ofNat i)):=⟨by rw [List.length_append,hbl];rfl,rfl,rfl⟩
  generalize [254,UInt8.ofNat n,UInt8.ofNat q,UInt8.ofNat s,UInt8.ofNat c,UInt8.ofNat i]++b=l at *
  refine HC.out.mono ?_
  rintro e w4 ⟨v,rfl,ho⟩
  obtain⟨A4,cap,rfl,hcap,hfl⟩:=ho.flat
  have hl0:l[0]?=some 254:=HL.out.2.1
  obtain⟨g,off,rfl,-,-⟩:=hfl 0 (.int .u8 254) (by unfold bsV;rw [List.getElem?_map,hl0];rfl)
  have HSM:=fun W (hW:Below w4.heap.size w4 W)=>Lib.hid (tlmSum_any i (some ⟨g,off+1,none⟩) (l.drop 1) (cap - 1) (by
    have:=(FlatQ.below hfl hW fun b z=>z.2).part 1
    rwa [show (bsV l).drop 1=bsV (l.drop 1) from (List.map_drop ..).symm] at this) (by rw [List.length_drop,HL.out.1];omega))
  have HO:=Lib.hid ho
  have HDL:Hid ((l.drop 1).length=6+n - 1):=by show _=_;rw [List.length_drop,HL.out.1]
  have HB4:Hid (Below w.heap.size w w4):=bthen HB3.out ho.2
  rw [HDL.out] at HSM
  have i1:(1:Int)≤((6+n:Nat):Int):=by omega
  have i2:((6+n:Nat):Int)≤(cap:Int):=by omega
  clear ho hfl hl0 HC c0 c1 c2 HK2 HF2
  generalize hN:6+n=N at *
  go_wp2_with fail
  refine (HSM _ (Below.refl _ _)).out.mono ?_
  rintro e w5 ⟨g5,rfl,hk5,hg5,hb5⟩
  obtain⟨v6,w6,hr,ho6⟩:=OwnR.app (P:=Tryz.prog) (t:=22) (ty:=22) (HO.out.on hb5) (info_parts byte_infoS).choose_spec Tryz.underlying22 rfl (by decide) (some ⟨g5,0,none⟩) 2 2 (bsV (sumB i (l.drop 1))) (by rw [bsV_len];rfl) (hk5.flat (Q:=fun _=>True) trivial) (bsV_one _) (by unfold maxLen;omega) (by omega)
  have HR:=Lib.hid hr
  have HF:Hid (PktOut (n+8) i w (.returned (.tuple #[v6,.int .i64 0])) w6):=by
    obtain⟨A6,c6,rfl,-,hf6⟩:=ho6.flat
    refine⟨l++sumB i (l.drop 1),A6,c6,?_,?_,?_,?_,?_,bthen HB3.out ho6.2⟩
    · rw [List.length_append,HL.out.1];show N+2=_;omega
    · rw [List.getElem?_append_left (by rw [HL.out.1];omega)];exact HL.out.2.1
    · rw [List.getElem?_append_left (by rw [HL.out.1];omega)];exact HL.out.2.2
    · rw [show N+2=n+8 from by omega]
    · rw [bsV_app]
      exact hf6.less fun k z=>⟨Nat.le_trans HB3.out.size z.1,z.2⟩
  clear hr ho6 hk5 hg5 hb5 HSM HO
  go_wp2_with (at_builtin;refine wpList_append_known rfl _ _ 22 rfl _ _ _ rfl rfl HR.out ?_)
  go_ret2
  exact HF.out
end Go.Proofs.YtaiepcgfofpmjaaGreat
