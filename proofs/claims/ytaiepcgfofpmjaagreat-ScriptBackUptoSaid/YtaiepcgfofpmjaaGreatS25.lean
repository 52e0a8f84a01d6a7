/- Layers 16 to 20: the shapes. Printed by genshf.py. -/
import Derived.Test.YtaiepcgfofpmjaaGreatS23
import Derived.Test.YtaiepcgfofpmjaaGreatS04
import Derived.Laws.OwnMore
import Derived.Deep.AppendLies
import Derived.Test.YtaiepcgfofpmjaaGreatS24
namespace Go.Proofs.YtaiepcgfofpmjaaGreat
set_option linter.unusedVariables false
open Go.RowKit
theorem fld_info:(Tryz.prog.info? 401).map (fun i=>(i.zero,i.size,i.bytes))=some (some (.agg #[.int .i64 0,.bool false,.int .i64 0,.int .i64 0]),4,32):=by kernel_rfl
theorem fldsV_one (l:List Fld):∀ v∈fldsV l,v.oneCell'=true:=by
  intro v hv
  obtain⟨p,-,h⟩:=List.mem_flatMap.1 hv
  simp only [fldL,List.mem_cons,List.not_mem_nil,or_false] at h
  rcases h with rfl | rfl | rfl | rfl <;> rfl
theorem fldsV_app (l m:List Fld):fldsV (l++m)=fldsV l++fldsV m:=List.flatMap_append
theorem prt_info:(Tryz.prog.info? 437).map (fun i=>(i.zero,i.size,i.bytes))=some (some (.agg #[.string ByteArray.empty,.int .i64 0,.bool false,.int .i64 0]),4,40):=by kernel_rfl
theorem strsV_get {l:List ByteArray} {k:Nat} (h:k < l.length):(strsV l)[k]?=some (.string (l[k]'h)):=by
  unfold strsV;rw [List.getElem?_map,List.getElem?_eq_getElem h];rfl
def PrtNew (l:List Prt) (w:World) (e:Ending) (w':World):Prop:=∃ v,e=.returned v∧OwnR w 437 4 v l.length (prtsV l) w'
set_option maxHeartbeats 400000 in
theorem schParts_any {Q:Nat→Prop} {w:World} (n:Nat) (s:Bool) (A:Option Addr) (l:List ByteArray) (c:Nat) (h:FlatQ Q w A (strsV l)) (hm:l.length≤1000) :
    Calls Tryz.prog 367 #[.int .i64 n,.bool s,.slice A l.length c] w (PrtNew (rowP n s l) w):=by
  replace h:=h.lt
  have HI:=Lib.hid h
  have HE:Hid (rowP n s (l.take l.length)=rowP n s l∧(rowP n s l).length=l.length):=Lib.hid ⟨by rw [List.take_length],by simp [rowP]⟩
  obtain⟨i0,hi,hz0,hz1,hz2⟩:=info_partsS prt_info
  have HIN:=Lib.hid (And.intro hi (And.intro hz0 (And.intro hz1 hz2)))
  clear hi hz0 hz1 hz2
  generalize hL:l.length=m at *
  have HL:=Lib.hid hL
  clear hL h
  unfold PrtNew
  rw [HE.out.2]
  go_enter Tryz.func367,Tryz.ntmps367
  go_wp2_with fail
  go_loopg [7,12] m (fun g s7 s12 wr=>∃ k:Nat,k≤m∧m - k≤g∧s12=.int .i64 k∧Hid (OwnR w 437 4 s7 k (prtsV (rowP n s (l.take k))) wr))
  case atStart=>exact⟨0,by omega,by omega,rfl,OwnR.nil _ _ _ (Below.refl _ _)⟩
  case round=>
    rename_i s7
    obtain⟨k,hk,hg,rfl,HO⟩:=hrel
    by_cases hlt:k < m
    · have hkl:k < l.length:=by rw [HL.out];exact hlt
      obtain⟨b',o',rfl,hq,hc⟩:=HI.out k _ (strsV_get hkl)
      have HSN:Hid (prtsV (rowP n s (l.take (k+1)))=prtsV (rowP n s (l.take k))++prtsV (rowP n s [l[k]])):=Lib.hid (by rw [List.take_succ_eq_append_getElem hkl,← prtsV_app];unfold rowP;rw [List.map_append])
      have hc':wr.cell? ⟨b',o'+k,none⟩=some (.string l[k]):=(HO.out.2.cell (p:=⟨b',o'+k,none⟩) hq.2).trans hc
      clear hc
      generalize l[k]=x at *
      have i1:(k:Int) < m:=by omega
      have i2:(0:Int)≤(k:Int):=Int.natCast_nonneg _
      obtain⟨A1,c1,hs1,-,-⟩:=HO.out.flat
      subst hs1
      obtain⟨v',w3,hrun,ho⟩:=OwnR.app (P:=Tryz.prog) (t:=369) (ty:=369) (HO.out.on (below_new wr (.cells #[.string x,.int .i64 n,.bool s,.int .i64 0] 437))) HIN.out Tryz.underlying369 rfl (by decide) (R:=fun _=>True) (some ⟨wr.heap.size,0,none⟩) 1 1 [.string x,.int .i64 n,.bool s,.int .i64 0] rfl ((Blk.newL (grew_alloc wr _ _) rfl).flat trivial) (prtL_one ⟨x,n,s,0⟩) (by unfold maxLen;omega) (by omega)
      have HRUN:=Lib.hid hrun
      have HO3:Hid (OwnR w 437 4 v' (k+1) (prtsV (rowP n s (l.take (k+1)))) w3):=Lib.hid (by rw [HSN.out];exact ho)
      clear hrun ho
      go_wp2_with (at_builtin;refine wpList_append_known rfl _ _ 369 rfl _ _ _ rfl rfl HRUN.out ?_)
      go_roundg (m - (k+1))
      case measure=>omega
      case rel=>exact⟨k+1,by omega,by omega,by go_num,HO3⟩
    · obtain rfl:k=m:=by omega
      have HO2:=Lib.hid HO.out
      rw [HE.out.1] at HO2
      clear HO
      obtain⟨A1,c1,hs1,-,-⟩:=HO2.out.flat
      subst hs1
      go_wp2_with fail
      go_ret
      exact⟨_,rfl,HO2.out⟩
theorem schU8_any {Q:Nat→Prop} {w:World} (A:Option Addr) (l:List ByteArray) (c:Nat) (h:FlatQ Q w A (strsV l)) (hm:l.length≤1000) :
    Calls Tryz.prog 317 #[.slice A l.length c] w (PrtNew (rowP 1 false l) w):=by
  have HP:=Lib.hid (schParts_any 1 false A l c h hm)
  generalize l.length=m at *
  clear h
  go_enter Tryz.func317,Tryz.ntmps317
  go_wp2_with fail
  refine (HP.out).mono ?_
  rintro e w1 ⟨v,rfl,ho⟩
  have HO:=Lib.hid ho
  obtain⟨A1,c1,hs1,-,-⟩:=ho.flat
  subst hs1
  clear ho
  go_wp2_with fail
  go_ret
  exact⟨_,rfl,HO.out⟩
theorem schU16_any {Q:Nat→Prop} {w:World} (A:Option Addr) (l:List ByteArray) (c:Nat) (h:FlatQ Q w A (strsV l)) (hm:l.length≤1000) :
    Calls Tryz.prog 319 #[.slice A l.length c] w (PrtNew (rowP 2 false l) w):=by
  have HP:=Lib.hid (schParts_any 2 false A l c h hm)
  generalize l.length=m at *
  clear h
  go_enter Tryz.func319,Tryz.ntmps319
  go_wp2_with fail
  refine (HP.out).mono ?_
  rintro e w1 ⟨v,rfl,ho⟩
  have HO:=Lib.hid ho
  obtain⟨A1,c1,hs1,-,-⟩:=ho.flat
  subst hs1
  clear ho
  go_wp2_with fail
  go_ret
  exact⟨_,rfl,HO.out⟩
theorem schU32_any {Q:Nat→Prop} {w:World} (A:Option Addr) (l:List ByteArray) (c:Nat) (h:FlatQ Q w A (strsV l)) (hm:l.length≤1000) :
    Calls Tryz.prog 318 #[.slice A l.length c] w (PrtNew (rowP 4 false l) w):=by
  have HP:=Lib.hid (schParts_any 4 false A l c h hm)
  generalize l.length=m at *
  clear h
  go_enter Tryz.func318,Tryz.ntmps318
  go_wp2_with fail
  refine (HP.out).mono ?_
  rintro e w1 ⟨v,rfl,ho⟩
  have HO:=Lib.hid ho
  obtain⟨A1,c1,hs1,-,-⟩:=ho.flat
  subst hs1
  clear ho
  go_wp2_with fail
  go_ret
  exact⟨_,rfl,HO.out⟩
theorem schU64_any {Q:Nat→Prop} {w:World} (A:Option Addr) (l:List ByteArray) (c:Nat) (h:FlatQ Q w A (strsV l)) (hm:l.length≤1000) :
    Calls Tryz.prog 322 #[.slice A l.length c] w (PrtNew (rowP 8 false l) w):=by
  have HP:=Lib.hid (schParts_any 8 false A l c h hm)
  generalize l.length=m at *
  clear h
  go_enter Tryz.func322,Tryz.ntmps322
  go_wp2_with fail
  refine (HP.out).mono ?_
  rintro e w1 ⟨v,rfl,ho⟩
  have HO:=Lib.hid ho
  obtain⟨A1,c1,hs1,-,-⟩:=ho.flat
  subst hs1
  clear ho
  go_wp2_with fail
  go_ret
  exact⟨_,rfl,HO.out⟩
theorem schI8_any {Q:Nat→Prop} {w:World} (A:Option Addr) (l:List ByteArray) (c:Nat) (h:FlatQ Q w A (strsV l)) (hm:l.length≤1000) :
    Calls Tryz.prog 321 #[.slice A l.length c] w (PrtNew (rowP 1 true l) w):=by
  have HP:=Lib.hid (schParts_any 1 true A l c h hm)
  generalize l.length=m at *
  clear h
  go_enter Tryz.func321,Tryz.ntmps321
  go_wp2_with fail
  refine (HP.out).mono ?_
  rintro e w1 ⟨v,rfl,ho⟩
  have HO:=Lib.hid ho
  obtain⟨A1,c1,hs1,-,-⟩:=ho.flat
  subst hs1
  clear ho
  go_wp2_with fail
  go_ret
  exact⟨_,rfl,HO.out⟩
theorem schI16_any {Q:Nat→Prop} {w:World} (A:Option Addr) (l:List ByteArray) (c:Nat) (h:FlatQ Q w A (strsV l)) (hm:l.length≤1000) :
    Calls Tryz.prog 320 #[.slice A l.length c] w (PrtNew (rowP 2 true l) w):=by
  have HP:=Lib.hid (schParts_any 2 true A l c h hm)
  generalize l.length=m at *
  clear h
  go_enter Tryz.func320,Tryz.ntmps320
  go_wp2_with fail
  refine (HP.out).mono ?_
  rintro e w1 ⟨v,rfl,ho⟩
  have HO:=Lib.hid ho
  obtain⟨A1,c1,hs1,-,-⟩:=ho.flat
  subst hs1
  clear ho
  go_wp2_with fail
  go_ret
  exact⟨_,rfl,HO.out⟩
theorem schI32_any {Q:Nat→Prop} {w:World} (A:Option Addr) (l:List ByteArray) (c:Nat) (h:FlatQ Q w A (strsV l)) (hm:l.length≤1000) :
    Calls Tryz.prog 324 #[.slice A l.length c] w (PrtNew (rowP 4 true l) w):=by
  have HP:=Lib.hid (schParts_any 4 true A l c h hm)
  generalize l.length=m at *
  clear h
  go_enter Tryz.func324,Tryz.ntmps324
  go_wp2_with fail
  refine (HP.out).mono ?_
  rintro e w1 ⟨v,rfl,ho⟩
  have HO:=Lib.hid ho
  obtain⟨A1,c1,hs1,-,-⟩:=ho.flat
  subst hs1
  clear ho
  go_wp2_with fail
  go_ret
  exact⟨_,rfl,HO.out⟩
theorem schI64_any {Q:Nat→Prop} {w:World} (A:Option Addr) (l:List ByteArray) (c:Nat) (h:FlatQ Q w A (strsV l)) (hm:l.length≤1000) :
    Calls Tryz.prog 323 #[.slice A l.length c] w (PrtNew (rowP 8 true l) w):=by
  have HP:=Lib.hid (schParts_any 8 true A l c h hm)
  generalize l.length=m at *
  clear h
  go_enter Tryz.func323,Tryz.ntmps323
  go_wp2_with fail
  refine (HP.out).mono ?_
  rintro e w1 ⟨v,rfl,ho⟩
  have HO:=Lib.hid ho
  obtain⟨A1,c1,hs1,-,-⟩:=ho.flat
  subst hs1
  clear ho
  go_wp2_with fail
  go_ret
  exact⟨_,rfl,HO.out⟩
def mixP (m k:Nat) (l:List ByteArray):List Prt:=arrP m (l.take k)++rowP 1 false (l.drop k)
theorem mixP_step (m k:Nat) (l:List ByteArray) (h:k < l.length):prtsV (mixP m (k+1) l)=(prtsV (mixP m k l)).set (k * 4+3) (.int .i64 m):=by
  have e1:mixP m k l=arrP m (l.take k)++([⟨l[k],1,false,0⟩]++rowP 1 false (l.drop (k+1))):=by unfold mixP;rw [List.drop_eq_getElem_cons h];rfl
  have e2:mixP m (k+1) l=arrP m (l.take k)++([⟨l[k],1,false,m⟩]++rowP 1 false (l.drop (k+1))):=by unfold mixP;rw [List.take_succ_eq_append_getElem h];unfold arrP;rw [List.map_append,List.append_assoc];rfl
  have hl:(prtsV (arrP m (l.take k))).length=k * 4:=by rw [prtsV_len];simp [arrP];omega
  rw [e1,e2,prtsV_app,prtsV_app,prtsV_app,prtsV_app,List.set_append_right _ _ (by omega),hl,show k * 4+3 - k * 4=3 from by omega]
  rfl
theorem mixP_all (m:Nat) (l:List ByteArray):mixP m l.length l=arrP m l:=by simp [mixP,rowP]
set_option maxHeartbeats 400000 in
theorem schArray_any {Q:Nat→Prop} {w:World} (m:Nat) (A:Option Addr) (l:List ByteArray) (c:Nat) (h:FlatQ Q w A (strsV l)) (hm:l.length≤1000) :
    Calls Tryz.prog 325 #[.int .i64 m,.slice A l.length c] w (PrtNew (arrP m l) w):=by
  have HP:=Lib.hid (schU8_any (w:=w) A l c h hm)
  have HE:Hid (mixP m 0 l=rowP 1 false l∧(rowP 1 false l).length=l.length∧mixP m l.length l=arrP m l∧(arrP m l).length=l.length):=Lib.hid ⟨by simp [mixP,arrP],by simp [rowP],mixP_all m l,by simp [arrP]⟩
  have HS:Hid (∀ k,k < l.length→prtsV (mixP m (k+1) l)=(prtsV (mixP m k l)).set (k * 4+3) (.int .i64 m)):=Lib.hid (mixP_step m · l)
  generalize l.length=n at *
  unfold PrtNew at *
  rw [HE.out.2.1] at HP
  rw [HE.out.2.2.2]
  clear h
  go_enter Tryz.func325,Tryz.ntmps325
  go_wp2_with fail
  refine (HP.out).mono ?_
  rintro e w1 ⟨v,rfl,ho⟩
  have HO1:Hid (OwnR w 437 4 v n (prtsV (mixP m 0 l)) w1):=Lib.hid (by rw [HE.out.1];exact ho)
  clear ho HP
  obtain⟨A1,c1,hs1,-,-⟩:=HO1.out.flat
  subst hs1
  go_wp2_with fail
  go_loopg [11] n (fun g s11 wr=>∃ k:Nat,k≤n∧n - k≤g∧s11=.int .i64 k∧Hid (OwnR w 437 4 (.slice A1 n c1) n (prtsV (mixP m k l)) wr))
  case atStart=>exact⟨0,by omega,by omega,rfl,HO1⟩
  case round=>
    obtain⟨k,hk,hg,rfl,HO⟩:=hrel
    by_cases hlt:k < n
    · have i1:(k:Int) < n:=by omega
      have i2:(0:Int)≤(k:Int):=Int.natCast_nonneg _
      obtain⟨g',rfl⟩:∃ g',A1=some ⟨g',0,none⟩:=by
        rcases HO.out.1.2 with ⟨q,q2⟩ | ⟨g',cap,cur,q,-⟩
        · omega
        · injection q with q;exact⟨g',q⟩
      have hlv:(prtsV (mixP m k l)).length=n * 4:=HO.out.1.1
      have hc:wr.cell? ⟨g',k * 4+3,none⟩=some ((prtsV (mixP m k l))[k * 4+3]'(by omega)):=(HO.out.1.cellAt (k * 4+3) (by omega)).trans (List.getElem?_eq_getElem (by omega))
      have hz:=HO.out.1.frozenAt (k * 4+3)
      have HO3:Hid (OwnR w 437 4 (.slice (some ⟨g',0,none⟩) n c1) n (prtsV (mixP m (k+1) l)) (wr.setCell ⟨g',k * 4+3,none⟩ (.int .i64 m))):=Lib.hid (by
        rw [HS.out k hlt]
        exact⟨(HO.out.1.stored (k * 4+3) _).1,Below.setCell (p:=⟨g',k * 4+3,none⟩) HO.out.2 (HO.out.1.lt g' rfl).1 _⟩)
      go_wp2_with fail
      go_roundg (n - (k+1))
      case measure=>omega
      case rel=>exact⟨k+1,by omega,by omega,by go_num,HO3⟩
    · obtain rfl:k=n:=by omega
      have HO2:=Lib.hid HO.out
      rw [HE.out.2.2.1] at HO2
      clear HO
      go_wp2_with fail
      go_ret
      exact⟨_,rfl,HO2.out⟩
def FrmNew (f:TFm) (w:World) (e:Ending) (w':World):Prop:=∃ A c,e=.returned (.agg #[.string f.1,.slice A f.2.length c])∧FlatQ (fun b=>w.heap.size≤b∧b < w'.heap.size) w' A (prtsV f.2)∧Below w.heap.size w w'
def RowsI (w:World) (vs:List Value) (rows:List (List Prt)):Prop:=vs.length=rows.length∧∀ i (h:i < rows.length),∃ A c,vs[i]?=some (.slice A (rows[i]'h).length c)∧FlatQ (fun b=>b < w.heap.size) w A (prtsV (rows[i]'h))
theorem tfm_put {w1 w:World} {b B:Nat} {x y:Value} (hk:Blk w1 b [x,y]) (p q:Value) (hb:Below B w w1) (hB:B≤b) :
    (loadVar 371 ⟨b,0,none⟩).run Tryz.prog ((w1.setCell ⟨b,0,none⟩ p).setCell ⟨b,1,none⟩ q)=.ok (.agg #[p,q]) ((w1.setCell ⟨b,0,none⟩ p).setCell ⟨b,1,none⟩ q)∧Below B w ((w1.setCell ⟨b,0,none⟩ p).setCell ⟨b,1,none⟩ q)∧((∀ k,k≠b→((w1.setCell ⟨b,0,none⟩ p).setCell ⟨b,1,none⟩ q).heap[k]?=w1.heap[k]?)∧((w1.setCell ⟨b,0,none⟩ p).setCell ⟨b,1,none⟩ q).heap.size=w1.heap.size):=by
  have hs:Stored w1 ((w1.setCell ⟨b,0,none⟩ p).setCell ⟨b,1,none⟩ q) b 0 [p,q]:=stored_setCells (cs:=[p,q]) (hk.there 0 2 (Nat.le_refl _))
  exact⟨run_loadVar_mid (P:=Tryz.prog) _ b 0 371 [p,q] _ (hk.all hs rfl).rg Tryz.underlying371 rfl (by kernel_rfl),hb.trans (hs.below hB),hs.far,hs.sz⟩
theorem take_flat_len (rows:List (List Prt)) (hr:∀ r∈rows,r.length≤100):∀ k,(rows.take k).flatten.length≤k * 100:=by
  intro k
  induction rows generalizing k with
  | nil=>simp
  | cons r rows ih=>
    cases k with
    | zero=>simp
    | succ k=>
      have h1:=hr r (List.mem_cons_self ..)
      have h2:=ih (fun x hx=>hr x (List.mem_cons_of_mem _ hx)) k
      rw [List.take_succ_cons,List.flatten_cons,List.length_append]
      omega
set_option maxRecDepth 8000 in
set_option maxHeartbeats 800000 in
theorem schOf_any {Q:Nat→Prop} {w:World} (nm:ByteArray) (A:Option Addr) (c:Nat) (vs:List Value) (rows:List (List Prt)) (h:FlatQ Q w A vs) (hv:RowsI w vs rows) (hm:rows.length≤10) (hr:∀ r∈rows,r.length≤100) :
    Calls Tryz.prog 316 #[.string nm,.slice A rows.length c] w (FrmNew (nm,rows.flatten) w):=by
  have HI:=Lib.hid (And.intro h.lt hv.2)
  have HL:=Lib.hid (take_flat_len rows hr)
  obtain⟨i0,hi,hz0,hz1,hz2⟩:=info_partsS prt_info
  have HIN:=Lib.hid (And.intro hi (And.intro hz0 (And.intro hz1 hz2)))
  have HLR:=Lib.hid hr
  have HE:Hid (rows.take rows.length=rows):=Lib.hid (by rw [List.take_length])
  clear hi hz0 hz1 hz2 h hv hr
  obtain⟨n,hn⟩:∃ n,rows.length=n:=⟨_,rfl⟩
  rw [hn] at hm HE ⊢
  have HN:=Lib.hid hn
  clear hn
  unfold FrmNew
  dsimp only
  go_enter Tryz.func316,Tryz.ntmps316
  go_upto_region 2 with fail
  have HR:Hid (Blk ((w.alloc (.cells #[.string ⟨#[]⟩,.slice none 0 0] 371)).alloc (.cells #[.string nm,.slice none 0 0] 371)) w.heap.size [.string ⟨#[]⟩,.slice none 0 0]):=Lib.hid ((Blk.newL (grew_alloc w _ _) rfl).on (below_new _ _))
  have HF:Hid (Blk ((w.alloc (.cells #[.string ⟨#[]⟩,.slice none 0 0] 371)).alloc (.cells #[.string nm,.slice none 0 0] 371)) (w.heap.size+1) [.string nm,.slice none 0 0]):=Lib.hid (by
    have q:=Blk.newL (grew_alloc (w.alloc (.cells #[.string ⟨#[]⟩,.slice none 0 0] 371)) #[.string nm,.slice none 0 0] 371) (L:=[.string nm,.slice none 0 0]) rfl
    rwa [show (w.alloc (.cells #[.string ⟨#[]⟩,.slice none 0 0] 371)).heap.size=w.heap.size+1 from Array.size_push _] at q)
  have HB:Hid (Below w.heap.size w ((w.alloc (.cells #[.string ⟨#[]⟩,.slice none 0 0] 371)).alloc (.cells #[.string nm,.slice none 0 0] 371))):=Lib.hid (bthen (below_new _ _) (below_new _ _))
  have HG:Hid (w.heap.size < w.heap.size+1):=Lib.hid (Nat.lt_succ_self _)
  generalize (w.alloc (.cells #[.string ⟨#[]⟩,.slice none 0 0] 371)).alloc (.cells #[.string nm,.slice none 0 0] 371)=W1 at *
  go_wp2_with fail
  go_loopg [12] n (fun g s12 wr=>∃ k:Nat,k≤n∧n - k≤g∧s12=.int .i64 k∧Hid (∃ v K,K=(rows.take k).flatten.length∧Blk wr (w.heap.size+1) [.string nm,v]∧wr.ownsRow (w.heap.size+2) 437 4 v K (prtsV (rows.take k).flatten))∧Hid (Blk wr w.heap.size [.string ⟨#[]⟩,.slice none 0 0])∧Hid (Below w.heap.size w wr))
  case atStart=>exact⟨0,by omega,by omega,rfl,⟨_,0,rfl,HF.out,World.ownsRow_nil _ _ _ _⟩,HR.out,HB.out⟩
  case round=>
    obtain⟨k,hk,hg,rfl,HV,HR2,HB2⟩:=hrel
    clear HR HF HB
    obtain⟨v,K,HK,hf,ho⟩:=HV.out
    have HK1:=Lib.hid HK
    have HF2:=Lib.hid hf
    have HO2:=Lib.hid ho
    clear HV HK
    by_cases hlt:k < n
    · have hkl:k < rows.length:=by rw [HN.out];exact hlt
      obtain⟨Ai,ci,hvk,hfi⟩:=HI.out.2 k hkl
      obtain⟨b',o',rfl,hq,hc⟩:=HI.out.1 k _ hvk
      have HSN:Hid ((rows.take (k+1)).flatten=(rows.take k).flatten++rows[k]):=Lib.hid (by rw [List.take_succ_eq_append_getElem hkl,List.flatten_append];simp)
      have HLR1:=Lib.hid (HLR.out rows[k] (List.getElem_mem hkl))
      have hLk:=HL.out k
      rw [← HK1.out] at hLk
      have hc':wr.cell? ⟨b',o'+k,none⟩=some (.slice Ai rows[k].length ci):=(HB2.out.cell (p:=⟨b',o'+k,none⟩) hq.2).trans hc
      have hfi':=hfi.below HB2.out (fun _ q=>q)
      have c1:=HF2.out.cell 1 (v:=v) rfl
      have z1:=HF2.out.fz 1
      clear hc hfi hvk
      generalize rows[k]=x at *
      have i1:(k:Int) < n:=by omega
      have i2:(0:Int)≤(k:Int):=Int.natCast_nonneg _
      have hxl:=HLR1.out
      have hFs:=HF2.out.lt
      obtain⟨v',w3,hrun,ho3,hb3⟩:=own_app (P:=Tryz.prog) (t:=369) (ty:=369) HO2.out (by omega) HIN.out Tryz.underlying369 rfl (by decide) Ai x.length ci (prtsV x) (prtsV_len x) hfi' (prtsV_one x) (by unfold maxLen;omega) (by omega)
      obtain⟨A1,c1',hs1,-,-⟩:=flatq_own HO2.out
      subst hs1
      obtain⟨A3,c3,hs3,-,-⟩:=flatq_own ho3
      subst hs3
      have HRUN:=Lib.hid hrun
      have HO3:=Lib.hid ho3
      have HF3:=Lib.hid (HF2.out.below hb3 (by omega))
      have HR3:=Lib.hid (HR2.out.below hb3 (by have:=HG.out;omega))
      have HB3:=Lib.hid (HB2.out.trans (hb3.mono (by have:=HG.out;omega)))
      have z1':=HF3.out.fz 1
      have d1:=HF3.out.cell 1 (v:=.slice A1 K c1') rfl
      obtain⟨hf4,hs4⟩:=HF3.out.set (o:=1) (by simp) (.slice A3 (K+x.length) c3)
      have HF4:Hid (Blk (w3.setCell ⟨w.heap.size+1,1,none⟩ (.slice A3 (K+x.length) c3)) (w.heap.size+1) [.string nm,.slice A3 (K+x.length) c3]):=Lib.hid hf4
      have HO4:Hid ((w3.setCell ⟨w.heap.size+1,1,none⟩ (.slice A3 (K+x.length) c3)).ownsRow (w.heap.size+2) 437 4 (.slice A3 (K+x.length) c3) (K+x.length) (prtsV (rows.take (k+1)).flatten)):=Lib.hid (by rw [HSN.out,prtsV_app];exact own_set HO3.out (Nat.lt_succ_self _) _)
      have HR4:=Lib.hid (HR3.out.far hs4 (by have:=HG.out;omega))
      have HB4:=Lib.hid (HB3.out.trans (hs4.below (by have:=HG.out;omega)))
      have HK4:Hid (K+x.length=(rows.take (k+1)).flatten.length):=Lib.hid (by rw [HSN.out,List.length_append,HK1.out])
      clear hrun ho3 hb3 hf4 hs4 hfi' ho hf HF3 HR3 HB3 HO3
      go_wp2_with (at_builtin;refine wpList_append_known rfl _ _ 369 rfl _ _ _ rfl rfl HRUN.out ?_)
      go_roundg (n - (k+1))
      case measure=>omega
      case rel=>exact⟨k+1,by omega,by omega,by go_num,⟨_,_,HK4.out,HF4.out,HO4.out⟩,HR4,HB4⟩
    · obtain rfl:k=n:=by omega
      have HKE:=Lib.hid (HE.out ▸ HK1.out:K=rows.flatten.length)
      rw [HE.out] at HO2
      obtain⟨A1,c1',rfl,-,hfl,-⟩:=flatq_own HO2.out
      have HFL:=Lib.hid hfl
      have c0:=HF2.out.cell 0 (v:=.string nm) rfl
      have c1:=HF2.out.cell 1 (v:=.slice A1 K c1') rfl
      have r0:=HR2.out.cell 0 (v:=.string ⟨#[]⟩) rfl
      have r1:=HR2.out.cell 1 (v:=.slice none 0 0) rfl
      have z0:=HR2.out.fz 0
      have z1:=HR2.out.fz 1
      clear hf ho hfl
      go_wp2_with fail
      obtain⟨q1,q2,q3,q4⟩:=tfm_put HR2.out (.string nm) (.slice A1 K c1') HB2.out (Nat.le_refl _)
      refine bodyPost_ret (v:=.agg #[.string nm,.slice A1 K c1']) (by rw [results_cF rfl];simp [asAddr,Result.andThen];exact q1) rfl ⟨A1,c1',by rw [HKE.out],?_,q2⟩
      refine (HFL.out.keep fun j hj=>q3 j (by have:=HG.out;omega)).less fun j hj=>⟨by have:=HG.out;omega,by rw [q4];exact hj.2⟩
theorem flat_up {w w':World} {A:Option Addr} {xs:List Value} (h:FlatQ (fun b=>b < w.heap.size) w A xs) (hb:Below w.heap.size w w'):FlatQ (fun b=>b < w'.heap.size) w' A xs:=(h.below hb fun _ q=>q).less fun _ q=>Nat.lt_of_lt_of_le q hb.size
theorem strsV_flat (ns:List ByteArray) {W:World} {C:Array Value} {t:TypeId} (hC:C=(strsV ns).toArray):FlatQ (fun _=>True) (W.alloc (.cells C t)) (some ⟨W.heap.size,0,none⟩) (strsV ns):=
  (Blk.newL (grew_alloc W C t) (by rw [hC])).flat trivial
theorem schInertial_any (w:World):Calls Tryz.prog 326 #[] w (PrtNew (rowP 2 true nInert) w):=by
  have HC:∀ C,C=(strsV nInert).toArray→Hid (Calls Tryz.prog 320 #[.slice (some ⟨w.heap.size,0,none⟩) 9 9] (w.alloc (.cells C 9)) (PrtNew (rowP 2 true nInert) (w.alloc (.cells C 9)))):=fun C hC=>Lib.hid (schI16_any (some ⟨w.heap.size,0,none⟩) nInert 9 (strsV_flat nInert hC) (by decide))
  go_enter Tryz.func326,Tryz.ntmps326
  go_wp2_with fail
  refine (HC _ rfl).out.mono ?_
  rintro e w1 ⟨v,rfl,ho⟩
  have HB:Hid (Below w.heap.size w (w.alloc (.cells (strsV nInert).toArray 9))):=Lib.hid (below_new _ _)
  have HO:Hid (OwnR w 437 4 v 9 (prtsV (rowP 2 true nInert)) w1):=Lib.hid ⟨ho.1.mono HB.out.size,HB.out.trans (ho.2.mono HB.out.size)⟩
  obtain⟨A1,c1,hs1,-,-⟩:=ho.flat
  subst hs1
  clear ho HC
  go_wp2_with fail
  go_ret
  exact⟨_,rfl,HO.out⟩
def Pk (w W:World) (rows:List (Option Addr×Nat×List Prt)):Prop:=Blk W w.heap.size [.string ⟨#[]⟩,.slice none 0 0]∧Below w.heap.size w W∧∀ x∈rows,FlatQ (fun b=>b < W.heap.size) W x.1 (prtsV x.2.2)
theorem Pk.start (w:World):Pk w (w.alloc (.cells #[.string ⟨#[]⟩,.slice none 0 0] 371)) []:=⟨Blk.newL (grew_alloc w _ _) rfl,below_new _ _,fun x hx=>by cases hx⟩
theorem Pk.on {w W W':World} {rows:List (Option Addr×Nat×List Prt)} (h:Pk w W rows) (hb:Below W.heap.size W W'):Pk w W' rows:=⟨h.1.on hb,bthen h.2.1 hb,fun x hx=>flat_up (h.2.2 x hx) hb⟩
theorem pk_row {w W W1:World} {rows:List (Option Addr×Nat×List Prt)} {fn:FuncId} {ar:Array Value} {l:List Prt} {n:Nat} (h:Hid (Pk w W rows)) (hb:Below W.heap.size W W1) (hn:l.length=n) (H:Calls Tryz.prog fn ar W1 (PrtNew l W1)) :
    Calls Tryz.prog fn ar W1 fun e w'=>∃ A c,e=.returned (.slice A n c)∧Hid (Pk w w' (rows++[(A,c,l)])):=by
  refine H.mono ?_
  rintro e w' ⟨v,rfl,ho⟩
  obtain⟨A,c,rfl,-,hf⟩:=ho.flat
  have hp:=h.out.on (hb.trans (ho.2.mono hb.size))
  refine⟨A,c,by rw [hn],hp.1,hp.2.1,fun x hx=>?_⟩
  rcases List.mem_append.1 hx with q | q
  · exact hp.2.2 x q
  · rw [List.mem_singleton.1 q]
    exact hf.less fun _ r=>r.2
theorem pk_inertial {w W:World} {rows:List (Option Addr×Nat×List Prt)} (h:Hid (Pk w W rows)):Calls Tryz.prog 326 #[] W fun e w'=>∃ A c,e=.returned (.slice A 9 c)∧Hid (Pk w w' (rows++[(A,c,rowP 2 true nInert)])):=pk_row h (Below.refl _ _) rfl (schInertial_any W)
theorem pk_array (m:Nat) (ns:List ByteArray) {w W:World} {rows:List (Option Addr×Nat×List Prt)} {C:Array Value} {n:Nat} (h:Hid (Pk w W rows)) (hC:C=(strsV ns).toArray) (hn:ns.length=n) (hm:ns.length≤1000) :
    Calls Tryz.prog 325 #[.int .i64 m,.slice (some ⟨W.heap.size,0,none⟩) n n] (W.alloc (.cells C 9)) fun e w'=>∃ A c,e=.returned (.slice A n c)∧Hid (Pk w w' (rows++[(A,c,arrP m ns)])):=
  pk_row h (below_new _ _) (by simp [arrP,hn]) (hn ▸ schArray_any m (some ⟨W.heap.size,0,none⟩) ns _ (strsV_flat ns hC) hm)
theorem pk_u8 (ns:List ByteArray) {w W:World} {rows:List (Option Addr×Nat×List Prt)} {C:Array Value} {n:Nat} (h:Hid (Pk w W rows)) (hC:C=(strsV ns).toArray) (hn:ns.length=n) (hm:ns.length≤1000) :
    Calls Tryz.prog 317 #[.slice (some ⟨W.heap.size,0,none⟩) n n] (W.alloc (.cells C 9)) fun e w'=>∃ A c,e=.returned (.slice A n c)∧Hid (Pk w w' (rows++[(A,c,rowP 1 false ns)])):=
  pk_row h (below_new _ _) (by simp [rowP,hn]) (hn ▸ schU8_any (some ⟨W.heap.size,0,none⟩) ns _ (strsV_flat ns hC) hm)
theorem pk_u16 (ns:List ByteArray) {w W:World} {rows:List (Option Addr×Nat×List Prt)} {C:Array Value} {n:Nat} (h:Hid (Pk w W rows)) (hC:C=(strsV ns).toArray) (hn:ns.length=n) (hm:ns.length≤1000) :
    Calls Tryz.prog 319 #[.slice (some ⟨W.heap.size,0,none⟩) n n] (W.alloc (.cells C 9)) fun e w'=>∃ A c,e=.returned (.slice A n c)∧Hid (Pk w w' (rows++[(A,c,rowP 2 false ns)])):=
  pk_row h (below_new _ _) (by simp [rowP,hn]) (hn ▸ schU16_any (some ⟨W.heap.size,0,none⟩) ns _ (strsV_flat ns hC) hm)
theorem pk_u32 (ns:List ByteArray) {w W:World} {rows:List (Option Addr×Nat×List Prt)} {C:Array Value} {n:Nat} (h:Hid (Pk w W rows)) (hC:C=(strsV ns).toArray) (hn:ns.length=n) (hm:ns.length≤1000) :
    Calls Tryz.prog 318 #[.slice (some ⟨W.heap.size,0,none⟩) n n] (W.alloc (.cells C 9)) fun e w'=>∃ A c,e=.returned (.slice A n c)∧Hid (Pk w w' (rows++[(A,c,rowP 4 false ns)])):=
  pk_row h (below_new _ _) (by simp [rowP,hn]) (hn ▸ schU32_any (some ⟨W.heap.size,0,none⟩) ns _ (strsV_flat ns hC) hm)
theorem pk_u64 (ns:List ByteArray) {w W:World} {rows:List (Option Addr×Nat×List Prt)} {C:Array Value} {n:Nat} (h:Hid (Pk w W rows)) (hC:C=(strsV ns).toArray) (hn:ns.length=n) (hm:ns.length≤1000) :
    Calls Tryz.prog 322 #[.slice (some ⟨W.heap.size,0,none⟩) n n] (W.alloc (.cells C 9)) fun e w'=>∃ A c,e=.returned (.slice A n c)∧Hid (Pk w w' (rows++[(A,c,rowP 8 false ns)])):=
  pk_row h (below_new _ _) (by simp [rowP,hn]) (hn ▸ schU64_any (some ⟨W.heap.size,0,none⟩) ns _ (strsV_flat ns hC) hm)
theorem pk_i8 (ns:List ByteArray) {w W:World} {rows:List (Option Addr×Nat×List Prt)} {C:Array Value} {n:Nat} (h:Hid (Pk w W rows)) (hC:C=(strsV ns).toArray) (hn:ns.length=n) (hm:ns.length≤1000) :
    Calls Tryz.prog 321 #[.slice (some ⟨W.heap.size,0,none⟩) n n] (W.alloc (.cells C 9)) fun e w'=>∃ A c,e=.returned (.slice A n c)∧Hid (Pk w w' (rows++[(A,c,rowP 1 true ns)])):=
  pk_row h (below_new _ _) (by simp [rowP,hn]) (hn ▸ schI8_any (some ⟨W.heap.size,0,none⟩) ns _ (strsV_flat ns hC) hm)
theorem pk_i16 (ns:List ByteArray) {w W:World} {rows:List (Option Addr×Nat×List Prt)} {C:Array Value} {n:Nat} (h:Hid (Pk w W rows)) (hC:C=(strsV ns).toArray) (hn:ns.length=n) (hm:ns.length≤1000) :
    Calls Tryz.prog 320 #[.slice (some ⟨W.heap.size,0,none⟩) n n] (W.alloc (.cells C 9)) fun e w'=>∃ A c,e=.returned (.slice A n c)∧Hid (Pk w w' (rows++[(A,c,rowP 2 true ns)])):=
  pk_row h (below_new _ _) (by simp [rowP,hn]) (hn ▸ schI16_any (some ⟨W.heap.size,0,none⟩) ns _ (strsV_flat ns hC) hm)
theorem pk_i32 (ns:List ByteArray) {w W:World} {rows:List (Option Addr×Nat×List Prt)} {C:Array Value} {n:Nat} (h:Hid (Pk w W rows)) (hC:C=(strsV ns).toArray) (hn:ns.length=n) (hm:ns.length≤1000) :
    Calls Tryz.prog 324 #[.slice (some ⟨W.heap.size,0,none⟩) n n] (W.alloc (.cells C 9)) fun e w'=>∃ A c,e=.returned (.slice A n c)∧Hid (Pk w w' (rows++[(A,c,rowP 4 true ns)])):=
  pk_row h (below_new _ _) (by simp [rowP,hn]) (hn ▸ schI32_any (some ⟨W.heap.size,0,none⟩) ns _ (strsV_flat ns hC) hm)
theorem pk_i64 (ns:List ByteArray) {w W:World} {rows:List (Option Addr×Nat×List Prt)} {C:Array Value} {n:Nat} (h:Hid (Pk w W rows)) (hC:C=(strsV ns).toArray) (hn:ns.length=n) (hm:ns.length≤1000) :
    Calls Tryz.prog 323 #[.slice (some ⟨W.heap.size,0,none⟩) n n] (W.alloc (.cells C 9)) fun e w'=>∃ A c,e=.returned (.slice A n c)∧Hid (Pk w w' (rows++[(A,c,rowP 8 true ns)])):=
  pk_row h (below_new _ _) (by simp [rowP,hn]) (hn ▸ schI64_any (some ⟨W.heap.size,0,none⟩) ns _ (strsV_flat ns hC) hm)
def PkF (w W:World) (f:TFm) (A:Option Addr):Prop:=Blk W w.heap.size [.string ⟨#[]⟩,.slice none 0 0]∧Below w.heap.size w W∧FlatQ (fun b=>w.heap.size < b∧b < W.heap.size) W A (prtsV f.2)
def rowV (x:Option Addr×Nat×List Prt):Value:=.slice x.1 x.2.2.length x.2.1
theorem pk_of (f:TFm) {w W:World} {rows:List (Option Addr×Nat×List Prt)} {C:Array Value} {nm:ByteArray} {m k:Nat} (h:Hid (Pk w W rows)) (hC:C=(rows.map rowV).toArray) (hm:rows.length=m) (hs:(decide (rows.length≤10) && (rows.map (·.2.2)).all fun l=>decide (l.length≤100))=true) (hf:f=(nm,(rows.map (·.2.2)).flatten)) (hk:f.2.length=k) :
    Calls Tryz.prog 316 #[.string nm,.slice (some ⟨W.heap.size,0,none⟩) m m] (W.alloc (.cells C 369)) fun e w'=>∃ A c,e=.returned (.agg #[.string nm,.slice A k c])∧Hid (PkF w w' f A):=by
  rw [Bool.and_eq_true,List.all_eq_true,decide_eq_true_eq] at hs
  have hb:=below_new W (.cells C 369)
  have hp:=h.out.on hb
  have hv:RowsI (W.alloc (.cells C 369)) (rows.map rowV) (rows.map (·.2.2)):=⟨by simp,fun i hi=>by
    have hi':i < rows.length:=by simpa using hi
    refine⟨rows[i].1,rows[i].2.1,?_,?_⟩
    · rw [List.getElem?_map,List.getElem?_eq_getElem hi',List.getElem_map];rfl
    · rw [List.getElem_map];exact hp.2.2 _ (List.getElem_mem hi')⟩
  have H:=schOf_any nm (some ⟨W.heap.size,0,none⟩) m (rows.map rowV) (rows.map (·.2.2)) ((Blk.newL (grew_alloc W C 369) (by rw [hC])).flat (Q:=fun _=>True) trivial) hv (by rw [List.length_map];exact hs.1) (fun r hr=>of_decide_eq_true (hs.2 r hr))
  rw [List.length_map,hm] at H
  refine H.mono ?_
  rintro e w' ⟨A,c,rfl,hfl,hb2⟩
  have hbb:=hb.trans (hb2.mono hb.size)
  have hw:=h.out.1.lt
  refine⟨A,c,by rw [← hk,hf],(h.out.on hbb).1,(h.out.on hbb).2.1,?_⟩
  rw [hf]
  exact hfl.less fun b q=>⟨by have:=hb.size;have:=q.1;omega,q.2⟩
theorem PkF.cells {w W:World} {f:TFm} {A:Option Addr} (h:PkF w W f A):W.cell? ⟨w.heap.size,0,none⟩=some (.string ⟨#[]⟩)∧W.cell? ⟨w.heap.size,1,none⟩=some (.slice none 0 0)∧W.frozen? ⟨w.heap.size,0,none⟩=false∧W.frozen? ⟨w.heap.size,1,none⟩=false:=⟨h.1.cell 0 rfl,h.1.cell 1 rfl,h.1.fz 0,h.1.fz 1⟩
theorem PkF.res {w W:World} {f:TFm} {A:Option Addr} (h:PkF w W f A) (p q:Value):(loadVar 371 ⟨w.heap.size,0,none⟩).run Tryz.prog ((W.setCell ⟨w.heap.size,0,none⟩ p).setCell ⟨w.heap.size,1,none⟩ q)=.ok (.agg #[p,q]) ((W.setCell ⟨w.heap.size,0,none⟩ p).setCell ⟨w.heap.size,1,none⟩ q):=(tfm_put h.1 p q h.2.1 (Nat.le_refl _)).1
theorem PkF.post {w W:World} {f:TFm} {A:Option Addr} {c k:Nat} {nm:ByteArray} (h:PkF w W f A) (p q:Value) (hn:f.1=nm) (hk:f.2.length=k):FrmNew f w (.returned (.agg #[.string nm,.slice A k c])) ((W.setCell ⟨w.heap.size,0,none⟩ p).setCell ⟨w.heap.size,1,none⟩ q):=by
  obtain⟨-,q2,q3,q4⟩:=tfm_put h.1 p q h.2.1 (Nat.le_refl _)
  refine⟨A,c,by rw [hn,hk],(h.2.2.keep fun j hj=>q3 j (by have:=hj.1;omega)).less fun j hj=>⟨by have:=hj.1;omega,by rw [q4];exact hj.2⟩,q2⟩
theorem form_none {w:World}:(loadVar 371 ⟨w.heap.size,0,none⟩).run Tryz.prog (w.alloc (.cells #[.string ⟨#[]⟩,.slice none 0 0] 371))=.ok (.agg #[.string ⟨#[]⟩,.slice none 0 0]) (w.alloc (.cells #[.string ⟨#[]⟩,.slice none 0 0] 371))∧FrmNew noF w (.returned (.agg #[.string ⟨#[]⟩,.slice none 0 0])) (w.alloc (.cells #[.string ⟨#[]⟩,.slice none 0 0] 371)):=
  ⟨run_loadVar_mid (P:=Tryz.prog) _ w.heap.size 0 371 [.string ⟨#[]⟩,.slice none 0 0] _ (Pk.start w).1.rg Tryz.underlying371 rfl (by kernel_rfl),none,0,rfl,FlatQ.nil _ _ _,below_new _ _⟩
end Go.Proofs.YtaiepcgfofpmjaaGreat
