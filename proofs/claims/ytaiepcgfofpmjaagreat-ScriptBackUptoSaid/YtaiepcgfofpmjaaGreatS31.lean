/- Layer 31: Extra. Printed by gentlm2.py. -/
import Derived.Test.YtaiepcgfofpmjaaGreatS30
import Derived.Test.YtaiepcgfofpmjaaGreatS23
import Derived.RegionTactic
namespace Go.Proofs.YtaiepcgfofpmjaaGreat
set_option linter.unusedVariables false
open Go.RowKit
theorem bytes_conv (s:ByteArray) (w:World):∃ c W,(convert 9 22 (.string s)).run Tryz.prog w=.ok (.slice (some ⟨w.heap.size,0,none⟩) s.size c) W∧FlatQ (fun b=>w.heap.size≤b) W (some ⟨w.heap.size,0,none⟩) (bsV s.data.toList)∧Below w.heap.size w W:=by
  refine⟨_,_,run_bytes_of_string (P:=Tryz.prog) w 9 22 5 s Tryz.underlying9 Tryz.underlying22 Tryz.underlying5,fun j u hu=>?_,?_⟩
  · have hj:j < s.data.size:=by
      have:=(List.getElem?_eq_some_iff.1 hu).1
      simpa [bsV] using this
    have hu2:u=bV s.data[j]:=by
      have:=bsV_get (l:=s.data.toList) (k:=j) (by simpa using hj)
      rw [this] at hu
      simpa using hu.symm
    refine⟨w.heap.size,0,rfl,Nat.le_refl _,?_⟩
    rw [hu2,Nat.zero_add]
    have hb:=bytesRow_at s (grownCap w s.size 0 5) j hj
    have hlt:j < (bytesRow s (grownCap w s.size 0 5)).size:=(Array.getElem?_eq_some_iff.1 hb).1
    have hh:∀ X:Obj,(w.drew.alloc X).heap[w.heap.size]?=some X:=fun X=>by
      show (w.heap.push X)[w.heap.size]?=_
      simp
    unfold World.cell?
    rw [hh]
    exact hb
  · exact (Below.refl w.heap.size w).drew.trans (below_new w.drew (.cells (bytesRow s (grownCap w s.size 0 5)) 5 _))
theorem bytes_conv2 (s:ByteArray) (z:Nat) (hz:s.size=z) (w:World):∃ c W,(convert 9 22 (.string s)).run Tryz.prog w=.ok (.slice (some ⟨w.heap.size,0,none⟩) z c) W∧FlatQ (fun b=>w.heap.size≤b) W (some ⟨w.heap.size,0,none⟩) (bsV s.data.toList)∧Below w.heap.size w W:=hz ▸ bytes_conv s w
def PtOk (p:Prt):Prop:=(p.sz=1∨p.sz=2∨p.sz=4∨p.sz=8)∧p.mn≤64∧p.nm.size≤100
theorem extStep_lt {c:Nat} (h:c < 65536) {p:Prt} (hp:PtOk p):extStep c p < 65536:=by
  unfold extStep
  dsimp only
  have:=crcMore_lt (wordP p++⟨#[32]⟩++p.nm++⟨#[32]⟩).data.toList h
  split
  · exact crcStep_lt this (by omega)
  · exact this
theorem extFold_lt:∀ (l:List Prt) {c:Nat},c < 65536→(∀ p∈l,PtOk p)→l.foldl extStep c < 65536
  | [],c,h,_=>h
  | p :: l,c,h,hp=>extFold_lt l (extStep_lt h (hp p (List.mem_cons_self ..))) (fun q hq=>hp q (List.mem_cons_of_mem _ hq))
theorem wordP_size (p:Prt):(wordP p).size≤9:=by
  have h:∀ s:ByteArray,s.size≤8→((⟨#[117]⟩:ByteArray)++s).size≤9:=fun s hs=>by rw [ByteArray.size_append];show 1+s.size≤9;omega
  have h2:∀ n:Nat,(match n with | 1=>(⟨#[105,110,116,56,95,116]⟩:ByteArray) | 2=>⟨#[105,110,116,49,54,95,116]⟩ | 4=>⟨#[105,110,116,51,50,95,116]⟩ | 8=>⟨#[105,110,116,54,52,95,116]⟩ | _=>ByteArray.empty).size≤8:=fun n=>by split <;> decide
  unfold wordP
  dsimp only
  split
  · exact Nat.le_trans (h2 _) (by decide)
  · exact h _ (h2 _)
theorem bytes_ofT (s:ByteArray):s.data.toList.length=s.size:=by simp
set_option maxRecDepth 8000 in
set_option maxHeartbeats 4000000 in
theorem schExtra_any (i:Int) (w:World) (hm:(findF i).2.length≤1000) (hnm:(findF i).1.size≤100) (hp:∀ p∈(findF i).2,PtOk p):Calls Tryz.prog 239 #[.int .i64 i] w fun e w'=>e=.returned (.int .u8 (extF (findF i):Int))∧Below w.heap.size w w':=by
  have H:=Lib.hid (schFind_any i w)
  generalize findF i=f at *
  obtain⟨n,l⟩:=f
  unfold FrmNew at H
  dsimp only at *
  have HP:=Lib.hid hp
  have HLN:Hid ((wireP l).length=l.length∧(wireP l).take l.length=wireP l):=Lib.hid (by
    have:(wireP l).length=l.length:=sortR_len _ l
    exact⟨this,by rw [← this,List.take_length]⟩)
  have HPW:Hid (∀ p∈wireP l,PtOk p):=Lib.hid (fun p q=>hp p ((sortR_perm gtP l).mem_iff.1 q))
  clear hp
  obtain⟨res,hres⟩:∃ res,extF (n,l)=res:=⟨_,rfl⟩
  rw [hres]
  have HRES:=Lib.hid hres
  clear hres
  go_enter Tryz.func239,Tryz.ntmps239
  go_wp2_with fail
  refine (H.out).mono ?_
  rintro e w1 ⟨A,c,rfl,hf,hb⟩
  have HF:=Lib.hid hf
  have HB:=Lib.hid hb
  clear hf hb H
  have HN:Hid (Blk (w1.alloc (.cells #[.string n,.slice A l.length c] 371)) w1.heap.size [.string n,.slice A l.length c]):=Lib.hid (Blk.newL (grew_alloc w1 _ _) rfl)
  have HB2:=Lib.hid (bthen HB.out (below_new w1 (.cells #[.string n,.slice A l.length c] 371)))
  have HF2:=Lib.hid (new_up HF.out (below_new w1 (.cells #[.string n,.slice A l.length c] 371)) (Nat.le_refl _))
  go_upto_region 2 with fail
  clear HF HB
  generalize w1.alloc (.cells #[.string n,.slice A l.length c] 371)=W2 at *
  generalize w1.heap.size=fb at *
  have n0:=HN.out.cell 0 (v:=.string n) rfl
  by_cases hn:n=⟨#[]⟩
  · have hr:res=0:=by rw [← HRES.out];unfold extF;exact if_pos hn
    subst hn
    subst hr
    go_wp2_with fail
    go_ret
    exact⟨rfl,HB2.out⟩
  · have hn2:=text_some hn
    have HR2:Hid (res=Nat.xor (((wireP l).foldl extStep (crcMore 65535 (n++⟨#[32]⟩).data.toList)) % 256) (((wireP l).foldl extStep (crcMore 65535 (n++⟨#[32]⟩).data.toList)) / 256)):=Lib.hid (by rw [← HRES.out];unfold extF;exact if_neg hn)
    clear hn HRES
    go_wp2_with fail
    have hsz:(n++⟨#[32]⟩:ByteArray).size≤1000000:=by rw [ByteArray.size_append];show n.size+1≤_;omega
    obtain⟨z,hz⟩:∃ z,(n++⟨#[32]⟩:ByteArray).size=z:=⟨_,rfl⟩
    obtain⟨cc,W3,hcv,hfb,hbb⟩:=bytes_conv2 (n++⟨#[32]⟩) z hz W2
    rw [hcv]
    have HM:=Lib.hid (crcMore_any (w:=W3) 65535 _ (n++⟨#[32]⟩).data.toList cc hfb (by decide) (by rw [bytes_ofT];exact hsz))
    have HC0:Hid (crcMore 65535 (n++⟨#[32]⟩).data.toList < 65536):=Lib.hid (crcMore_lt _ (by decide))
    rw [bytes_ofT,hz] at HM
    have HN3:=Lib.hid (HN.out.on hbb)
    have HB3:=Lib.hid (bthen HB2.out hbb)
    have HF3:=Lib.hid (new_up HF2.out hbb (Nat.le_refl _))
    clear hcv hfb hbb hsz HN HB2 HF2 n0 hz
    generalize crcMore 65535 (n++⟨#[32]⟩).data.toList=c0 at *
    have HM2:Hid (Calls Tryz.prog 282 #[.int .u16 65535,.slice (some ⟨W2.heap.size,0,none⟩) z cc] W3 fun e w'=>e=.returned (.int .u16 (c0:Int))∧Below W3.heap.size W3 w'):=HM
    clear HM
    go_wp2_with fail
    refine HM2.out.mono ?_
    rintro e W4 ⟨rfl,hb⟩
    have HN4:=Lib.hid (HN3.out.on hb)
    have HB4:=Lib.hid (bthen HB3.out hb)
    have HF4:=Lib.hid (new_up HF3.out hb (Nat.le_refl _))
    clear hb HM2 HN3 HB3 HF3
    have n1:=HN4.out.cell 1 (v:=.slice A l.length c) rfl
    have HW:=Lib.hid (schWire_any A l c HF4.out hm)
    obtain⟨N,hN⟩:∃ N,l.length=N:=⟨_,rfl⟩
    rw [hN] at HW n1 hm
    rw [hN] at HLN
    clear hN
    obtain⟨L,hL⟩:∃ L,wireP l=L:=⟨_,rfl⟩
    rw [hL] at HW HLN HPW HR2
    clear hL
    go_wp2_with fail
    refine HW.out.mono ?_
    rintro e W5 ⟨g,rfl,hk,hg,hb⟩
    have HK5:=Lib.hid hk
    have HB5:=Lib.hid (bthen HB4.out hb)
    clear hk hb hg n1 HW HN4 HB4 HF4
    go_wp2_with fail
    go_loopg [4,21] N (fun t s4 s21 wr=>∃ k:Nat,k≤N∧N - k≤t∧s21=.int .i64 k∧s4=.int .u16 (((L.take k).foldl extStep c0:Nat):Int)∧Hid (Blk wr g (prtsV L))∧Hid (Below w.heap.size w wr))
    case atStart=>exact⟨0,by omega,by omega,rfl,rfl,HK5.out,HB5.out⟩
    case round=>
      obtain⟨k,hk,ht,rfl,rfl,HK,HB⟩:=hrel
      clear HK5 HB5
      by_cases hlt:k < N
      · have hkl:k < L.length:=by rw [HLN.out.1];exact hlt
        obtain⟨b',o',hA,-,cx0,cx1,cx2,cx3⟩:=prts_cells (HK.out.flat (Q:=fun _=>True) trivial) k hkl
        injection hA with hA
        injection hA with hA1 hA2
        subst hA1 hA2
        rw [Nat.zero_add] at cx0 cx1 cx2 cx3
        have HSN:Hid ((L.take (k+1)).foldl extStep c0=extStep ((L.take k).foldl extStep c0) L[k]):=Lib.hid (by rw [List.take_succ_eq_append_getElem hkl,List.foldl_append];rfl)
        have hul:=extFold_lt (L.take k) HC0.out (fun p hp=>HPW.out p (List.mem_of_mem_take hp))
        have hpo:=HPW.out L[k] (List.getElem_mem hkl)
        generalize (L.take k).foldl extStep c0=u at *
        generalize L[k]=p at *
        have HWD0:=fun W=>Lib.hid (schWord_any p hpo.1 W)
        have hws:=wordP_size p
        obtain⟨wd,hwd⟩:∃ wd,wordP p=wd:=⟨_,rfl⟩
        rw [hwd] at hws
        have HEX:Hid (extStep u p=if 0 < p.mn then crcStep (crcMore u (wd++⟨#[32]⟩++p.nm++⟨#[32]⟩).data.toList) (p.mn % 256) else crcMore u (wd++⟨#[32]⟩++p.nm++⟨#[32]⟩).data.toList):=Lib.hid (by rw [← hwd];rfl)
        obtain⟨nm,sz,sg,mn⟩:=p
        dsimp only at *
        have HWD:∀ W,Hid (Calls Tryz.prog 284 #[.agg #[.string nm,.int .i64 sz,.bool sg,.int .i64 mn]] W fun e w'=>e=.returned (.string wd)∧Below W.heap.size W w'):=fun W=>Lib.hid (by rw [← hwd];exact (HWD0 W).out)
        clear hwd HWD0
        have hwl:(wd++⟨#[32]⟩++nm++⟨#[32]⟩:ByteArray).size≤1000000:=by
          rw [ByteArray.size_append,ByteArray.size_append,ByteArray.size_append]
          show wd.size+1+nm.size+1≤_
          have:=hpo.2.2
          dsimp only at this
          omega
        obtain⟨z,hz⟩:∃ z,(wd++⟨#[32]⟩++nm++⟨#[32]⟩:ByteArray).size=z:=⟨_,rfl⟩
        have HZ:=Lib.hid hz
        have HMR0:=fun W (a:Nat) cc h=>Lib.hid (crcMore_any (Q:=fun b=>a≤b) (w:=W) u (some ⟨a,0,none⟩) (wd++⟨#[32]⟩++nm++⟨#[32]⟩).data.toList cc h hul (by rw [bytes_ofT];exact hwl))
        have hdl:=crcMore_lt (wd++⟨#[32]⟩++nm++⟨#[32]⟩).data.toList hul
        obtain⟨d,hd⟩:∃ d,crcMore u (wd++⟨#[32]⟩++nm++⟨#[32]⟩).data.toList=d:=⟨_,rfl⟩
        rw [hd] at HEX hdl
        have HMR:∀ W (a:Nat) cc,FlatQ (fun b=>a≤b) W (some ⟨a,0,none⟩) (bsV (wd++⟨#[32]⟩++nm++⟨#[32]⟩).data.toList)→Hid (Calls Tryz.prog 282 #[.int .u16 u,.slice (some ⟨a,0,none⟩) z cc] W fun e w'=>e=.returned (.int .u16 (d:Int))∧Below W.heap.size W w'):=fun W a cc h=>Lib.hid (by
          have q:=(HMR0 W a cc h).out
          rw [bytes_ofT,hd,hz] at q
          exact q)
        have hns:=hpo.2.2
        dsimp only at hns
        have k1:¬ 9223372036854775807 < wd.size+1:=by omega
        have k2:¬ 9223372036854775807 < wd.size+1+nm.size:=by omega
        have k3:¬ 9223372036854775807 < wd.size+1+nm.size+1:=by omega
        clear hd HMR0 hwl hws hz hns
        have hmn:mn≤64:=hpo.2.1
        have i1:(k:Int) < N:=by omega
        have i2:(0:Int)≤(k:Int):=Int.natCast_nonneg _
        have HN1:Hid (Blk (wr.alloc (.cells #[.string nm,.int .i64 sz,.bool sg,.int .i64 mn] 437)) wr.heap.size [.string nm,.int .i64 sz,.bool sg,.int .i64 mn]):=Lib.hid (Blk.newL (grew_alloc wr _ _) rfl)
        have HB1:=Lib.hid (bthen HB.out (below_new wr (.cells #[.string nm,.int .i64 sz,.bool sg,.int .i64 mn] 437)))
        have HK1:=Lib.hid (HK.out.on (below_new wr (.cells #[.string nm,.int .i64 sz,.bool sg,.int .i64 mn] 437)))
        go_upto_region 8 with fail
        clear cx0 cx1 cx2 cx3 HB HK
        generalize wr.alloc (.cells #[.string nm,.int .i64 sz,.bool sg,.int .i64 mn] 437)=W1 at *
        generalize wr.heap.size=q at *
        try (apply wp_seq_k;intro K_ HK_)
        have hS0:Below W1.heap.size W1 W1.drew:=(Below.refl _ _).drew
        refine wp_region_held_drew (S:=fun w'=>Below W1.heap.size W1 w') (by kernel_rfl) hS0 (fun hHeld0=>?_)
        refine wpAnyH_take (i:=0) (oi:=⟨some 25,_,_,_,_,_⟩) (v:=?_) rfl (by kernel_rfl) (by kernel_rfl) (by kernel_rfl) (fun _ _ _ h=>h) (Or.inl ⟨by rfl,?_⟩) (by assumption) ?_
        rotate_left
        · intro w' hSw
          go_simp
          try with_reducible rfl
        try go_frame
        refine wpAnyH_take (i:=1) (oi:=⟨some 26,_,_,_,_,_⟩) (v:=_) rfl (by kernel_rfl) (by kernel_rfl) (by kernel_rfl) (fun _ _ _ h=>h) (yieldsIf_load_mid (by rfl) 437 _ rfl q 0 rfl [.string nm,.int .i64 (sz:Nat),.bool sg,.int .i64 (mn:Nat)] _ (fun w' hSw=>(HN1.out.on hSw).rg) Tryz.underlying437 rfl (by kernel_rfl)) (by assumption) ?_
        try go_frame
        refine wpAnyH_take (i:=4) (oi:=⟨some 29,_,_,_,_,_⟩) (v:=?_) rfl (by kernel_rfl) (by kernel_rfl) (by kernel_rfl) (fun _ _ _ h=>h) (Or.inl ⟨by rfl,?_⟩) (by assumption) ?_
        rotate_left
        · intro w' hSw
          go_simp
          try with_reducible rfl
        try go_frame
        refine wpAnyH_take (i:=5) (oi:=⟨some 30,_,_,_,_,_⟩) (v:=?_) rfl (by kernel_rfl) (by kernel_rfl) (by kernel_rfl) (fun _ _ _ h=>h) (Or.inl ⟨by rfl,?_⟩) (by assumption) ?_
        rotate_left
        · intro w' hSw
          have x1:=(HN1.out.on hSw).cell 0 (v:=.string nm) rfl
          go_simp
          try with_reducible rfl
        try go_frame
        refine wpAnyH_ready (rs:=[2]) (by kernel_rfl) (by simp) ?_
        refine AllReadyH.cons (o:=⟨some 27,_,_,_,_,_⟩) rfl (fun K hK=>?_) AllReadyH.nil
        rw [if_pos (by rfl)]
        go_step
        refine (HWD _).out.mono ?_
        rintro e w2 ⟨rfl,hb⟩
        have HS2:Hid (Below W1.heap.size W1 w2):=Lib.hid (hHeld0.trans (hb.mono hHeld0.size))
        clear hb
        try go_frame
        refine hK.out _ _ (HS2.out) (fun hHeld=>?_)
        clear hK K
        try go_frame
        refine wpAnyH_take (i:=3) (oi:=⟨some 28,_,_,_,_,_⟩) (v:=?_) rfl (by kernel_rfl) (by kernel_rfl) (by kernel_rfl) (fun _ _ _ h=>h) (Or.inl ⟨by rfl,?_⟩) (by assumption) ?_
        rotate_left
        · intro w' hSw
          go_simp
          try with_reducible rfl
        try go_frame
        refine wpAnyH_take (i:=6) (oi:=⟨some 31,_,_,_,_,_⟩) (v:=?_) rfl (by kernel_rfl) (by kernel_rfl) (by kernel_rfl) (fun _ _ _ h=>h) (Or.inl ⟨by rfl,?_⟩) (by assumption) ?_
        rotate_left
        · intro w' hSw
          go_simp
          try with_reducible rfl
        try go_frame
        refine wpAnyH_take (i:=7) (oi:=⟨some 32,_,_,_,_,_⟩) (v:=?_) rfl (by kernel_rfl) (by kernel_rfl) (by kernel_rfl) (fun _ _ _ h=>h) (Or.inl ⟨by rfl,?_⟩) (by assumption) ?_
        rotate_left
        · intro w' hSw
          go_simp
          try with_reducible rfl
        try go_frame
        refine wpAnyH_ready (rs:=[8]) (by kernel_rfl) (by simp) ?_
        refine AllReadyH.cons (o:=⟨some 33,_,_,_,_,_⟩) rfl (fun K hK=>?_) AllReadyH.nil
        rw [if_pos (by rfl)]
        go_step
        obtain⟨cc,wb,hcv,hfb,hbb⟩:=bytes_conv2 (wd++⟨#[32]⟩++nm++⟨#[32]⟩) z HZ.out w2
        rw [hcv]
        have HS3:Hid (Below W1.heap.size W1 wb):=Lib.hid (HS2.out.trans (hbb.mono HS2.out.size))
        have HFB:=Lib.hid hfb
        clear hcv hfb hbb
        try go_frame
        refine hK.out _ _ (HS3.out) (fun hHeld=>?_)
        clear hK K
        try go_frame
        refine wpAnyH_ready (rs:=[9]) (by kernel_rfl) (by simp) ?_
        refine AllReadyH.cons (o:=⟨some 34,_,_,_,_,_⟩) rfl (fun K hK=>?_) AllReadyH.nil
        rw [if_pos (by rfl)]
        go_step
        refine (HMR wb _ cc HFB.out).out.mono ?_
        rintro e w4 ⟨rfl,hb⟩
        have HS4:Hid (Below W1.heap.size W1 w4):=Lib.hid (HS3.out.trans (hb.mono HS3.out.size))
        clear hb
        try go_frame
        refine hK.out _ _ (HS4.out) (fun hHeld=>?_)
        clear hK K
        try go_frame
        refine wpAnyH_take (i:=10) (oi:=⟨some 4,_,_,_,_,_⟩) (v:=?_) rfl (by kernel_rfl) (by kernel_rfl) (by kernel_rfl) (fun _ _ _ h=>h) (Or.inl ⟨by rfl,?_⟩) (by assumption) ?_
        rotate_left
        · intro w' hSw
          go_simp
          try with_reducible rfl
        try go_frame
        refine wpAnyH_done (by kernel_rfl) ?_ _
        try go_frame
        have HN6:=Lib.hid (HN1.out.on HS4.out)
        have HB6:=Lib.hid (bthen HB1.out HS4.out)
        have HK6:=Lib.hid (HK1.out.on HS4.out)
        clear hHeld hHeld0 hS0
        have y3:=HN6.out.cell 3 (v:=.int .i64 mn) rfl
        by_cases hm0:mn=0
        · have HE:Hid ((L.take (k+1)).foldl extStep c0=d):=Lib.hid (by rw [HSN.out,HEX.out,if_neg (by omega)])
          have j1:¬ (0:Int) < (mn:Int):=by omega
          go_wp2_with fail
          go_roundg (N - (k+1))
          case measure=>omega
          case rel=>exact⟨k+1,by omega,by omega,by go_num,by rw [HE.out],HK6,HB6⟩
        · have HE:Hid ((L.take (k+1)).foldl extStep c0=crcStep d mn):=Lib.hid (by rw [HSN.out,HEX.out,if_pos (by omega),Nat.mod_eq_of_lt (by omega)])
          have j1:(0:Int) < (mn:Int):=by omega
          have j2:IntKind.u8.wrap (mn:Int)=(mn:Int):=IntWalk.u8_in _ (by omega)
          have j3:(mn:Int) % 256=(mn:Int):=by omega
          have HCS:=fun W=>Lib.hid (crcStep_any d mn W hdl (by omega))
          go_wp2_with fail
          refine (HCS _).out.mono ?_
          rintro e W7 ⟨rfl,rfl⟩
          go_wp2_with fail
          go_roundg (N - (k+1))
          case measure=>omega
          case rel=>exact⟨k+1,by omega,by omega,by go_num,by rw [HE.out],HK6,HB6⟩
      · obtain rfl:k=N:=by omega
        have hcl:=extFold_lt L HC0.out HPW.out
        rw [HLN.out.2]
        obtain⟨C,hC⟩:∃ C,L.foldl extStep c0=C:=⟨_,rfl⟩
        rw [hC] at HR2 hcl
        rw [hC]
        obtain⟨a,ha⟩:∃ a,C % 256=a:=⟨_,rfl⟩
        obtain⟨b,hb⟩:∃ b,C / 256=b:=⟨_,rfl⟩
        rw [ha,hb] at HR2
        have g1:(C:Int) % 256=(a:Int):=by omega
        have g2:(C:Int) / 256=(b:Int):=by omega
        have g3:(b:Int) % 256=(b:Int):=by omega
        have g4:bits BinOp.xor IntKind.u8 (a:Int) (b:Int)=(res:Int):=by rw [HR2.out];exact u8_xor_nat a b (by omega) (by omega)
        clear hC ha hb
        go_wp2_with fail
        go_ret
        exact⟨rfl,HB.out⟩
theorem sltsP_app (l m:List Prt) (n:Nat):sltsP (l++m) n=sltsP l n++sltsP m (n+cntP l):=by
  induction l generalizing n with
  | nil=>simp [sltsP,cntP]
  | cons p l ih=>simp only [List.cons_append,sltsP,ih,List.append_assoc];congr 2;simp [cntP];congr 1;omega
theorem sltsP_len (l:List Prt) (n:Nat):(sltsP l n).length=cntP l:=by
  induction l generalizing n with
  | nil=>rfl
  | cons p l ih=>simp [sltsP,ih,cntP]
def sltsK (p:Prt) (n k:Nat):List Slt:=(List.range k).map fun j=>⟨p.sz,p.sg,n+j⟩
theorem sltsK_succ (p:Prt) (n k:Nat):sltsK p n (k+1)=sltsK p n k++[⟨p.sz,p.sg,n+k⟩]:=by simp [sltsK,List.range_succ]
theorem sltsP_snoc (l:List Prt) (p:Prt):sltsP (l++[p]) 0=sltsP l 0++sltsK p (cntP l) (numbP p):=by
  rw [sltsP_app];simp [sltsP,sltsK]
def TBlk (w:World) (b:Nat) (t:TypeId) (C:Array Value):Prop:=w.heap[b]?=some (.cells C t (0,0))
theorem TBlk.new (w:World) (C:Array Value) (t:TypeId):TBlk (w.alloc (.cells C t)) w.heap.size t C:=by
  show (w.heap.push _)[w.heap.size]?=_
  simp
theorem TBlk.lt {w:World} {b:Nat} {t:TypeId} {C:Array Value} (h:TBlk w b t C):b < w.heap.size:=(Array.getElem?_eq_some_iff.1 h).1
theorem TBlk.on {w w':World} {b:Nat} {t:TypeId} {C:Array Value} (h:TBlk w b t C) (hb:Below w.heap.size w w'):TBlk w' b t C:=(hb.block b h.lt).trans h
theorem TBlk.cell {w:World} {b:Nat} {t:TypeId} {C:Array Value} (h:TBlk w b t C) (o:Nat) {v:Value} (hv:C[o]?=some v):w.cell? ⟨b,o,none⟩=some v:=by
  unfold TBlk at h
  unfold World.cell?
  simp only [h]
  exact hv
theorem own_apart {P:Program} {B:Nat} {t ty e:TypeId} {i:TypeInfo} {z:Value} {size bytes:Nat} {v:Value} {n:Nat} {xs:List Value} {w:World} (h:w.ownsRow B e size v n xs) (hB:B≤w.heap.size) (hi:P.info? e=some i∧i.zero=some z∧i.size=size∧i.bytes=bytes) (h1:P.underlying t=some (.slice e)) (h6:z.cells.size=size) (h7:0 < size)
    {R:Nat→Prop} (X:Option Addr) (m c:Nat) (news:List Value) (hn:news.length=m * size) (hc:FlatQ R w X news) (h1c:∀ u∈news,u.oneCell'=true) (b1:n+m≤maxLen) (b2:(n+m) * bytes≤140737488355328) :
    ∃ v' w',(Builtin.append_ #[t,t] ty #[v,.slice X m c]).run P w=.ok v' w'∧w'.ownsRow B e size v' (n+m) (xs++news)∧Below B w w'∧∀ q t' C,TBlk w q t' C→t'≠e→TBlk w' q t' C:=by
  obtain⟨v',w',q1,q2,q3,-⟩:=run_append_mine (P:=P) w t ty e i z size bytes h1 hi.1 hi.2.1 hi.2.2.1 hi.2.2.2 h6 h7 B v n xs h X m c news hn hc h1c b1 b2 hB
  obtain⟨A,cap,rfl,-,-⟩:=flatq_own h
  refine⟨v',w',q1,q2,(Below.refl B w).grown q3 hB (fun k hk=>?_),fun q t' C hq ht=>?_⟩
  · rcases h.2 with ⟨q,-⟩ | ⟨g,cap',cur,q,hb,-⟩
    · injection q with q _ _;subst q;cases hk
    · injection q with q _ _;subst q
      simp only [Value.ownBlock,Option.some.injEq] at hk
      omega
  · refine (q3.block q hq.lt (fun hk=>?_)).trans hq
    rcases h.2 with ⟨y,-⟩ | ⟨g,cap',cur,y,hb,hg,-⟩
    · injection y with y _ _;subst y;cases hk
    · injection y with y _ _;subst y
      simp only [Value.ownBlock,Option.some.injEq] at hk
      subst hk
      rw [hq] at hg
      injection hg with hg
      injection hg with _ hg _
      exact ht hg
theorem cntP_take (l:List Prt) (k:Nat):cntP (l.take k)≤cntP l:=by
  have:cntP l=cntP (l.take k)+cntP (l.drop k):=by
    unfold cntP
    rw [← List.sum_append,← List.map_append,List.take_append_drop]
  omega
theorem cntP_snoc (l:List Prt) (p:Prt):cntP (l++[p])=cntP l+numbP p:=by simp [cntP]
theorem slts_cells {Q:Nat→Prop} {w:World} {A:Option Addr} {l:List Slt} (h:FlatQ Q w A (sltsV l)) (k:Nat) (hk:k < l.length):∃ b off,A=some ⟨b,off,none⟩∧Q b∧w.cell? ⟨b,off+k * 3,none⟩=some (.int .i64 (l[k].sz:Int))∧w.cell? ⟨b,off+k * 3+1,none⟩=some (.bool l[k].sg)∧w.cell? ⟨b,off+k * 3+2,none⟩=some (.int .i64 (l[k].ix:Int)):=by
  have e:=fun j hj=>flat4_get sltL 3 (fun _=>rfl) l k hk j hj
  obtain⟨b,off,hA,hb,h0⟩:=h _ _ (e 0 (by omega))
  refine⟨b,off,hA,hb,h0,?_,?_⟩
  · obtain⟨b',off',hA',-,h1⟩:=h _ _ (e 1 (by omega))
    rw [hA] at hA';injection hA' with hA';injection hA' with q1 q2;subst q1 q2
    exact h1
  · obtain⟨b',off',hA',-,h1⟩:=h _ _ (e 2 (by omega))
    rw [hA] at hA';injection hA' with hA';injection hA' with q1 q2;subst q1 q2
    exact h1
theorem sltsP_ok (l:List Prt) (hp:∀ p∈l,PtOk p) (n:Nat):∀ x∈sltsP l n,1≤x.sz∧x.sz≤8:=by
  induction l generalizing n with
  | nil=>intro x hx;simp [sltsP] at hx
  | cons p l ih=>
    intro x hx
    simp only [sltsP,List.mem_append,List.mem_map] at hx
    rcases hx with ⟨j,-,rfl⟩ | hx
    · have:=(hp p (List.mem_cons_self ..)).1
      dsimp only;omega
    · exact ih (fun q hq=>hp q (List.mem_cons_of_mem _ hq)) _ x hx
theorem sltsS_len (l:List Prt):(sltsS l).length=cntP l:=by unfold sltsS;rw [sortR_len,sltsP_len]
theorem sltsS_ok (l:List Prt) (hp:∀ p∈l,PtOk p):∀ x∈sltsS l,1≤x.sz∧x.sz≤8:=fun x hx=>sltsP_ok l hp 0 x ((sortR_perm _ _).mem_iff.1 hx)
def SltOut (l:List Prt) (w:World) (e:Ending) (w':World):Prop:=
  ∃ g B d,e=.returned (.tuple #[.slice (some ⟨g,0,none⟩) (cntP l) (cntP l),.slice B (cntP l) d])∧Blk w' g (sltsV (sltsS l))∧FlatQ (fun b=>w.heap.size≤b∧b < w'.heap.size) w' B (fldsV (fldsS l))∧w.heap.size≤g∧Below w.heap.size w w'
set_option maxRecDepth 8000 in
set_option maxHeartbeats 4000000 in
theorem schSlots_any {Q:Nat→Prop} {w:World} (nm0:ByteArray) (A:Option Addr) (l:List Prt) (c:Nat) (h:FlatQ Q w A (prtsV l)) (hm:l.length≤1000) (hc:cntP l≤1000) (hp:∀ p∈l,PtOk p) :
    Calls Tryz.prog 235 #[.agg #[.string nm0,.slice A l.length c]] w (SltOut l w):=by
  have HI:=Lib.hid h.lt
  have HP:=Lib.hid hp
  obtain⟨i0,hi,hz0,hz1,hz2⟩:=info_partsS slt_info
  have HIN:=Lib.hid (And.intro hi (And.intro hz0 (And.intro hz1 hz2)))
  clear hi hz0 hz1 hz2
  obtain⟨i1,hi,hz0,hz1,hz2⟩:=info_partsS fld_info
  have HIF:=Lib.hid (And.intro hi (And.intro hz0 (And.intro hz1 hz2)))
  clear hi hz0 hz1 hz2
  have HC:=Lib.hid hc
  have HE:Hid (l.take l.length=l):=Lib.hid (by rw [List.take_length])
  obtain⟨N,hn⟩:∃ N,l.length=N:=⟨_,rfl⟩
  rw [hn] at hm HE ⊢
  have HL:=Lib.hid hn
  clear hn h hp hc
  go_enter Tryz.func235,Tryz.ntmps235
  go_upto_region 2 with fail
  have HN:Hid (Blk (w.alloc (.cells #[.string nm0,.slice A N c] 371)) w.heap.size [.string nm0,.slice A N c]):=Lib.hid (Blk.newL (grew_alloc w _ _) rfl)
  have HB:Hid (Below w.heap.size w (w.alloc (.cells #[.string nm0,.slice A N c] 371))):=Lib.hid (below_new _ _)
  generalize w.alloc (.cells #[.string nm0,.slice A N c] 371)=W1 at *
  have n1:=HN.out.cell 1 (v:=.slice A N c) rfl
  go_wp2_with fail
  clear n1
  go_loopg [4,13] N (fun t s4 s13 wr=>∃ k:Nat,k≤N∧N - k≤t∧s13=.int .i64 k∧Hid (OwnR w 377 3 s4 (cntP (l.take k)) (sltsV (sltsP (l.take k) 0)) wr))
  case atStart=>exact⟨0,by omega,by omega,rfl,OwnR.nil _ _ _ HB.out⟩
  case round=>
    rename_i s4
    obtain⟨k,hk,ht,rfl,HO⟩:=hrel
    clear HB HN
    by_cases hlt:k < N
    · have hkl:k < l.length:=by rw [HL.out];exact hlt
      obtain⟨b',o',rfl,hq,c0,c1,c2,c3⟩:=prts_cells HI.out k hkl
      have hpo:=HP.out l[k] (List.getElem_mem hkl)
      have HSN:Hid (cntP (l.take (k+1))=cntP (l.take k)+numbP l[k]∧sltsP (l.take (k+1)) 0=sltsP (l.take k) 0++sltsK l[k] (cntP (l.take k)) (numbP l[k])):=Lib.hid (by rw [List.take_succ_eq_append_getElem hkl];exact⟨cntP_snoc _ _,sltsP_snoc _ _⟩)
      have hkc:cntP (l.take k)+numbP l[k]≤1000:=by rw [← HSN.out.1];exact Nat.le_trans (cntP_take l _) HC.out
      have HNB:=fun W=>Lib.hid (schNumb_any l[k] W)
      have d0:=(HO.out.2.cell (p:=⟨b',o'+k * 4,none⟩) hq.2).trans c0
      have d1:=(HO.out.2.cell (p:=⟨b',o'+k * 4+1,none⟩) hq.2).trans c1
      have d2:=(HO.out.2.cell (p:=⟨b',o'+k * 4+2,none⟩) hq.2).trans c2
      have d3:=(HO.out.2.cell (p:=⟨b',o'+k * 4+3,none⟩) hq.2).trans c3
      clear c0 c1 c2 c3
      have HSK:Hid (∀ j,sltsK l[k] (cntP (l.take k)) (j+1)=sltsK l[k] (cntP (l.take k)) j++[⟨l[k].sz,l[k].sg,cntP (l.take k)+j⟩]):=Lib.hid (sltsK_succ l[k] (cntP (l.take k)))
      have HS0:Hid (sltsK l[k] (cntP (l.take k)) 0=[]):=Lib.hid rfl
      generalize l[k]=p at *
      generalize cntP (l.take k)=K at *
      generalize sltsP (l.take k) 0=S at *
      obtain⟨nm,sz,sg,mn⟩:=p
      generalize numbP ⟨nm,sz,sg,mn⟩=r at *
      generalize sltsK ⟨nm,sz,sg,mn⟩ K=sk at *
      dsimp only at *
      have i1:(k:Int) < N:=by omega
      have i2:(0:Int)≤(k:Int):=Int.natCast_nonneg _
      have HT:Hid (TBlk (wr.alloc (.cells #[.string nm,.int .i64 sz,.bool sg,.int .i64 mn] 437)) wr.heap.size 437 #[.string nm,.int .i64 sz,.bool sg,.int .i64 mn]):=Lib.hid (TBlk.new _ _ _)
      have HO1:=Lib.hid (HO.out.on (below_new wr (.cells #[.string nm,.int .i64 sz,.bool sg,.int .i64 mn] 437)))
      go_upto_region 5 with fail
      clear d0 d1 d2 d3 HO
      generalize wr.alloc (.cells #[.string nm,.int .i64 sz,.bool sg,.int .i64 mn] 437)=W2 at *
      generalize wr.heap.size=q at *
      have x0:=HT.out.cell 0 (v:=.string nm) rfl
      have x1:=HT.out.cell 1 (v:=.int .i64 sz) rfl
      have x2:=HT.out.cell 2 (v:=.bool sg) rfl
      have x3:=HT.out.cell 3 (v:=.int .i64 mn) rfl
      go_wp2_with fail
      refine (HNB W2).out.mono ?_
      rintro e W3 ⟨rfl,hb⟩
      have HT2:=Lib.hid (HT.out.on hb)
      have HO2:=Lib.hid (HO1.out.on hb)
      clear hb x0 x1 x2 x3 HT HO1
      go_wp2_with fail
      go_loopg [4,19] r (fun t2 s4 s19 wr=>∃ j:Nat,j≤r∧r - j≤t2∧s19=.int .i64 j∧Hid (OwnR w 377 3 s4 (K+j) (sltsV (S++sk j)) wr)∧Hid (TBlk wr q 437 #[.string nm,.int .i64 sz,.bool sg,.int .i64 mn]))
      case atStart=>exact⟨0,by omega,by omega,rfl,by rw [HS0.out,List.append_nil];exact HO2.out,HT2.out⟩
      case round=>
        rename_i s4
        obtain⟨j,hj,ht2,rfl,HO,HT⟩:=hrel
        clear HO2 HT2
        obtain⟨A1,c1,hs1,-,-⟩:=HO.out.flat
        subst hs1
        by_cases hjr:j < r
        · have x1:=HT.out.cell 1 (v:=.int .i64 sz) rfl
          have x2:=HT.out.cell 2 (v:=.bool sg) rfl
          have j1:(j:Int) < r:=by omega
          have hO3:=HO.out.on (below_new wr (.cells #[.int .i64 sz,.bool sg,.int .i64 ((K+j:Nat):Int)] 377))
          obtain⟨v',w3,hrun,ho,hbl,hap⟩:=own_apart (P:=Tryz.prog) (t:=373) (ty:=373) hO3.1 hO3.2.size HIN.out Tryz.underlying373 rfl (by decide) (R:=fun _=>True) (some ⟨wr.heap.size,0,none⟩) 1 1 [.int .i64 sz,.bool sg,.int .i64 ((K+j:Nat):Int)] rfl ((Blk.newL (grew_alloc wr _ _) rfl).flat trivial) (sltL_one ⟨sz,sg,K+j⟩) (by unfold maxLen;omega) (by omega)
          have HRUN:=Lib.hid hrun
          have HO4:Hid (OwnR w 377 3 v' (K+(j+1)) (sltsV (S++sk (j+1))) w3):=Lib.hid (by
            rw [HSK.out,← List.append_assoc,sltsV_app,← Nat.add_assoc]
            exact⟨ho,hO3.2.trans hbl⟩)
          have HT4:=Lib.hid (hap _ _ _ (HT.out.on (below_new wr (.cells #[.int .i64 sz,.bool sg,.int .i64 ((K+j:Nat):Int)] 377))) (by decide))
          clear hO3 hrun ho hbl hap
          go_wp2_with (at_builtin;refine wpList_append_known rfl _ _ 373 rfl _ _ _ rfl rfl HRUN.out ?_)
          go_roundg (r - (j+1))
          case measure=>omega
          case rel=>exact⟨j+1,by omega,by omega,by go_num,HO4,HT4⟩
        · obtain rfl:j=r:=by omega
          have HO5:Hid (OwnR w 377 3 (.slice A1 (K+j) c1) (cntP (l.take (k+1))) (sltsV (sltsP (l.take (k+1)) 0)) wr):=Lib.hid (by rw [HSN.out.1,HSN.out.2];exact HO.out)
          go_wp2_with fail
          go_roundg (N - (k+1))
          case measure=>omega
          case rel=>exact⟨k+1,by omega,by omega,by go_num,HO5⟩
    · obtain rfl:k=N:=by omega
      have HO2:=Lib.hid HO.out
      rw [HE.out] at HO2
      clear HO
      have HSL:=Lib.hid (And.intro (sltsS_len l) (sltsS_ok l HP.out))
      have hlp:=sltsP_len l 0
      obtain⟨A1,c1,hs1,-,hf1⟩:=HO2.out.flat
      subst hs1
      have HST:=Lib.hid (schStabS_any A1 (sltsP l 0) c1 hf1 (by rw [hlp];exact HC.out))
      rw [hlp] at HST
      have HSE:Hid (sortR gtS (sltsP l 0)=sltsS l∧fldsS l=(sltsS l).map fun x=>anyF x.sz x.sg):=Lib.hid ⟨rfl,rfl⟩
      rw [HSE.out.1] at HST
      have HFS:=Lib.hid HSE.out.2
      have HBW:=Lib.hid HO2.out.2
      unfold SltOut at *
      have HMC:=Lib.hid HC.out
      clear hlp hf1 HO2 HSE
      generalize sltsS l=s at *
      obtain⟨fs,hfs⟩:∃ fs,fldsS l=fs:=⟨_,rfl⟩
      rw [hfs] at HFS
      have HF0:=Lib.hid hfs
      clear hfs
      obtain⟨M,hM⟩:∃ M,cntP l=M:=⟨_,rfl⟩
      simp only [hM] at *
      clear hM
      have hmc:M≤1000:=HMC.out
      go_wp2_with fail
      refine HST.out.mono ?_
      rintro e W6 ⟨g,rfl,hk6,hg6,hb6⟩
      have HK6:=Lib.hid hk6
      have HG6:=Lib.hid (Nat.le_trans HBW.out.size hg6)
      have HB6:=Lib.hid (bthen HBW.out hb6)
      clear hk6 hg6 hb6 HST HBW
      go_wp2_with fail
      go_loopg [7,37] M (fun t s7 s37 wr=>∃ k:Nat,k≤M∧M - k≤t∧s37=.int .i64 k∧Hid (OwnR W6 401 4 s7 k (fldsV ((s.take k).map fun x=>anyF x.sz x.sg)) wr))
      case atStart=>exact⟨0,by omega,by omega,rfl,OwnR.nil _ _ _ (Below.refl _ _)⟩
      case round=>
        rename_i s7
        obtain⟨j,hj,ht2,rfl,HO⟩:=hrel
        obtain⟨A2,c2,hs2,-,hfl⟩:=HO.out.flat
        subst hs2
        by_cases hjm:j < M
        · have hjl:j < s.length:=by rw [HSL.out.1];exact hjm
          have HKR:=HK6.out.on HO.out.2
          obtain⟨b',o',hA,-,c0,c1',c2'⟩:=slts_cells (HKR.flat (Q:=fun _=>True) trivial) j hjl
          injection hA with hA
          injection hA with hA1 hA2
          subst hA1 hA2
          rw [Nat.zero_add] at c0 c1' c2'
          have HSN:Hid (((s.take (j+1)).map fun x=>anyF x.sz x.sg)=((s.take j).map fun x=>anyF x.sz x.sg)++[anyF s[j].sz s[j].sg]):=Lib.hid (by rw [List.take_succ_eq_append_getElem hjl,List.map_append];rfl)
          have hso:=HSL.out.2 s[j] (List.getElem_mem hjl)
          have HAN:=fun W=>Lib.hid (shpAny_any s[j].sz s[j].sg W hso.1 hso.2)
          generalize s[j]=x at *
          obtain⟨sz,sg,ix⟩:=x
          dsimp only at *
          unfold FldOut fldV at HAN
          generalize anyF sz sg=f at *
          obtain⟨fz,fg,flo,fhi⟩:=f
          dsimp only at *
          have i1:(j:Int) < M:=by omega
          have i2:(0:Int)≤(j:Int):=Int.natCast_nonneg _
          have HN1:Hid (Blk (wr.alloc (.cells #[.int .i64 sz,.bool sg,.int .i64 ix] 377)) wr.heap.size [.int .i64 sz,.bool sg,.int .i64 ix]):=Lib.hid (Blk.newL (grew_alloc wr _ _) rfl)
          have HO1:=Lib.hid (HO.out.on (below_new wr (.cells #[.int .i64 sz,.bool sg,.int .i64 ix] 377)))
          go_upto_region 15 with fail
          clear c0 c1' c2' HKR HO hfl
          generalize wr.alloc (.cells #[.int .i64 sz,.bool sg,.int .i64 ix] 377)=W7 at *
          generalize wr.heap.size=q at *
          have x0:=HN1.out.cell 0 (v:=.int .i64 sz) rfl
          have x1:=HN1.out.cell 1 (v:=.bool sg) rfl
          go_wp2_with fail
          refine (HAN W7).out.mono ?_
          rintro e W8 ⟨rfl,hb⟩
          have hO3:=(HO1.out.on hb).on (below_new W8 (.cells #[.int .i64 fz,.bool fg,.int .i64 flo,.int .i64 fhi] 401))
          obtain⟨v',w3,hrun,ho⟩:=OwnR.app (P:=Tryz.prog) (t:=328) (ty:=328) hO3 HIF.out Tryz.underlying328 rfl (by decide) (R:=fun _=>True) (some ⟨W8.heap.size,0,none⟩) 1 1 [.int .i64 fz,.bool fg,.int .i64 flo,.int .i64 fhi] rfl ((Blk.newL (grew_alloc W8 _ _) rfl).flat trivial) (fldsV_one [⟨fz,fg,flo,fhi⟩]) (by have:=HMC.out;unfold maxLen;omega) (by have:=HMC.out;omega)
          have HRUN:=Lib.hid hrun
          have HO4:Hid (OwnR W6 401 4 v' (j+1) (fldsV ((s.take (j+1)).map fun x=>anyF x.sz x.sg)) w3):=Lib.hid (by rw [HSN.out,fldsV_app];exact ho)
          clear hb hO3 hrun ho x0 x1
          go_wp2_with (at_builtin;refine wpList_append_known rfl _ _ 328 rfl _ _ _ rfl rfl HRUN.out ?_)
          go_roundg (M - (j+1))
          case measure=>omega
          case rel=>exact⟨j+1,by omega,by omega,by go_num,HO4⟩
        · obtain rfl:j=M:=by omega
          have HEND:Hid (Blk wr g (sltsV s)∧FlatQ (fun b=>w.heap.size≤b∧b < wr.heap.size) wr A2 (fldsV fs)∧w.heap.size≤g∧Below w.heap.size w wr):=Lib.hid (by
            refine⟨HK6.out.on HO.out.2,?_,HG6.out,bthen HB6.out HO.out.2⟩
            have e:s.take j=s:=by rw [← HSL.out.1,List.take_length]
            rw [HFS.out,← e]
            exact hfl.less fun b q=>⟨Nat.le_trans HB6.out.size q.1,q.2⟩)
          clear hfl HO
          go_wp2_with fail
          go_ret2
          exact⟨g,A2,c2,rfl,by rw [HF0.out];exact HEND.out⟩
def FmOk (f:TFm):Prop:=f.1.size≤100∧f.2.length≤1000∧cntP f.2≤1000∧∀ p∈f.2,PtOk p
def fmB (f:TFm):Bool:=decide (f.1.size≤100) && (decide (f.2.length≤1000) && (decide (cntP f.2≤1000) && f.2.all fun p=>(decide (p.sz=1) || (decide (p.sz=2) || (decide (p.sz=4) || decide (p.sz=8)))) && (decide (p.mn≤64) && decide (p.nm.size≤100))))
theorem fmB_ok {f:TFm} (h:fmB f=true):FmOk f:=by
  simp only [fmB,Bool.and_eq_true,Bool.or_eq_true,decide_eq_true_eq,List.all_eq_true] at h
  exact⟨h.1,h.2.1,h.2.2.1,fun p hp=>h.2.2.2 p hp⟩
theorem stateF_b (i : Int) : fmB (stateF i) = true := by unfold stateF; repeat' split
                                                         all_goals decide +kernel
theorem sensedF_b (i : Int) : fmB (sensedF i) = true := by unfold sensedF; repeat' split
                                                           all_goals decide +kernel
theorem askedF_b (i : Int) : fmB (askedF i) = true := by unfold askedF; repeat' split
                                                         all_goals decide +kernel
theorem ownF_b (i : Int) : fmB (ownF i) = true := by unfold ownF; repeat' split
                                                     all_goals decide +kernel
theorem findF_ok (i:Int):FmOk (findF i):=by
  unfold findF
  split
  · exact fmB_ok (stateF_b i)
  split
  · exact fmB_ok (sensedF_b i)
  split
  · exact fmB_ok (askedF_b i)
  split
  · exact fmB_ok (ownF_b i)
  · exact fmB_ok (by decide +kernel)
theorem sltsP_ix:∀ (l:List Prt) (n:Nat),∀ x∈sltsP l n,x.ix < n+cntP l
  | [],n,x,h=>by simp [sltsP] at h
  | p :: l,n,x,h=>by
    have e:cntP (p :: l)=numbP p+cntP l:=by simp [cntP]
    simp only [sltsP,List.mem_append,List.mem_map,List.mem_range] at h
    rcases h with ⟨j,hj,rfl⟩ | h
    · dsimp only;omega
    · have:=sltsP_ix l _ x h;omega
theorem sltsS_ix (l:List Prt):∀ x∈sltsS l,x.ix < cntP l:=fun x hx=>by
  have:=sltsP_ix l 0 x ((sortR_perm _ _).mem_iff.1 hx)
  omega
theorem anyF_right (n:Nat) (s:Bool) (h1:1≤n) (h8:n≤8):rightF (anyF n s)=true:=by
  have:n=1∨n=2∨n=3∨n=4∨n=5∨n=6∨n=7∨n=8:=by omega
  cases s <;> rcases this with rfl | rfl | rfl | rfl | rfl | rfl | rfl | rfl <;> decide
theorem fldsS_right (l:List Prt) (hp:∀ p∈l,PtOk p):(fldsS l).all rightF=true:=by
  rw [List.all_eq_true]
  intro f hf
  obtain⟨s,hs,rfl⟩:=List.mem_map.1 hf
  have:=sltsS_ok l hp s hs
  exact anyF_right _ _ this.1 this.2
theorem fldsS_len (l:List Prt):(fldsS l).length=cntP l:=by unfold fldsS;rw [List.length_map,sltsS_len]
end Go.Proofs.YtaiepcgfofpmjaaGreat
