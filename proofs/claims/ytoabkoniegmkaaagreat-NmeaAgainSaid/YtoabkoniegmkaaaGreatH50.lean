/- Layers 25 to 29, plain: each field that is written has letters that a field may have. -/
import Derived.Test.YtoabkoniegmkaaaGreatH49
import Derived.Test.YtoabkoniegmkaaaGreatH29
import Derived.Test.YtoabkoniegmkaaaGreatH44
import Derived.Test.YtoabkoniegmkaaaGreatH48
namespace Go.Proofs.YtoabkoniegmkaaaGreat
set_option linter.unusedVariables false
open Go.RowKit
def okC8 (c:UInt8):Prop:=45≤c.toNat∧c.toNat≤90
def okL (l:List UInt8):Prop:=∀ c∈l,okC8 c
def okT (t:ByteArray):Prop:=okL t.data.toList
def OkS (l:List ByteArray):Prop:=∀ t∈l,okT t
theorem okT_fields {t:ByteArray} (h:okT t):allB fieldP t=true:=by
  unfold allB
  rw [List.all_eq_true]
  intro c hc
  obtain⟨h1,h2⟩:=h c hc
  unfold fieldP letterP
  simp
  omega
theorem okL_nil:okL []:=fun c hc=>by simp at hc
theorem okL_append {a b:List UInt8} (ha:okL a) (hb:okL b):okL (a++b):=fun c hc=>by
  rcases List.mem_append.1 hc with h | h
  · exact ha c h
  · exact hb c h
theorem okL_cons {x:UInt8} {b:List UInt8} (ha:okC8 x) (hb:okL b):okL (x :: b):=fun c hc=>by
  rcases List.mem_cons.1 hc with rfl | h
  · exact ha
  · exact hb c h
theorem okL_digits {l:List UInt8} (h:∀ c∈l,isD c=true):okL l:=fun c hc=>by
  have h1:48≤c.toNat∧c.toNat≤57:=of_decide_eq_true (h c hc)
  exact⟨by omega,by omega⟩
theorem okT_B {l:List UInt8} (h:okL l):okT (toB l):=by unfold okT;rw [toList_B];exact h
theorem okT_empty:okT ByteArray.empty:=fun c hc=>by simp at hc
theorem trimR_mem (l:List UInt8) (c:UInt8):∀ x∈Lib.trimRightB l c,x∈l:=fun x hx=>by
  unfold Lib.trimRightB at hx
  exact List.mem_reverse.1 (List.dropWhile_subset _ (List.mem_reverse.1 hx))
theorem okL_tail (r f:Nat):okL (tailB r f):=by
  unfold tailB
  split
  · exact okL_nil
  · exact fun c hc=>(okL_cons (b:=digL r f) ⟨by decide,by decide⟩ (okL_digits (digL_isD r f))) c (trimR_mem _ _ c hc)
theorem okL_point (n w f:Nat):okL (pointL n w f):=okL_append (okL_digits (digL_isD _ _)) (okL_tail _ _)
theorem okT_putN (b:Bool) (n W M F L H:Int):okT (putN b n W M F L H).1:=by
  unfold putN
  split
  · exact okT_empty
  split
  · exact okT_empty
  split
  · exact okT_empty
  split
  · exact okT_B (okL_cons ⟨by decide,by decide⟩ (okL_point _ _ _))
  · exact okT_B (okL_point _ _ _)
theorem OkS.nil:OkS []:=fun t ht=>by simp at ht
theorem OkS.snoc {l:List ByteArray} {t:ByteArray} (h:OkS l) (ht:okT t):OkS (l++[t]):=fun u hu=>by
  rcases List.mem_append.1 hu with k | k
  · exact h u k
  · rw [List.mem_singleton] at k;subst k;exact ht
theorem wrNum_okS {W M F L H:Int} {n:Bool×Int} {s:Rd} (h:OkS s.2):OkS (wrNum W M F L H n s).2:=h.snoc (okT_putN _ _ _ _ _ _ _)
theorem wrText_okS {t:ByteArray} {E:Int} {s:Rd} (h:OkS s.2) (ht:okT t):OkS (wrText t E s).2:=h.snoc ht
theorem wrCol_okS {k:Cl} {n:Bool×Int} {s:Rd} (h:OkS s.2) (hc:okT k.c):OkS (wrCol k n s).2:=by
  unfold wrCol
  refine wrText_okS (wrNum_okS h) ?_
  unfold unitT
  split
  · exact hc
  · exact okT_empty
theorem wrCols_okS:∀ (K:List Cl) (N:List (Bool×Int)) (s:Rd),(∀ k∈K,okT k.c)→OkS s.2→OkS (wrCols K N s).2
  | [],_,s,_,h=>by unfold wrCols;exact h
  | k :: K,[],s,_,h=>by unfold wrCols;exact h
  | k :: K,n :: N,s,hk,h=>by
    show OkS (wrCols K N (wrCol k n s)).2
    exact wrCols_okS K N _ (fun q hq=>hk q (List.mem_cons_of_mem _ hq)) (wrCol_okS h (hk k (List.mem_cons_self ..)))
theorem wrDone_okS {s:Rd} (h:OkS s.2):OkS (wrDone s).1:=by
  unfold wrDone
  simp only
  split
  · exact h
  · exact OkS.nil
theorem okT_side (lat neg:Bool):okT (sideB lat neg):=by
  cases lat <;> cases neg <;> intro c hc <;> simp [sideB] at hc <;> subst hc <;> exact⟨by decide,by decide⟩
theorem wrAng_okS {lat:Bool} {n:Bool×Int} {s:Rd} (h:OkS s.2):OkS (wrAng lat n s).2:=by
  have hA:∀ x,okT (toB (angL x lat)):=fun x=>okT_B (okL_append (okL_digits (digL_isD _ _)) (okL_point _ _ _))
  have h2:okT (angN n.1 n.2 lat).1∧okT (angN n.1 n.2 lat).2.1:=by
    unfold angN
    split
    · exact⟨okT_empty,okT_empty⟩
    split
    · exact⟨okT_empty,okT_empty⟩
    split
    · exact⟨hA _,okT_side _ _⟩
    · exact⟨hA _,okT_side _ _⟩
  have:=(h.snoc h2.1).snoc h2.2
  rw [List.append_assoc] at this
  exact this
theorem okC_ofNat {n:Int} (h0:0≤n) (h1:n≤9):okC8 (UInt8.ofNat (48+n).toNat):=by
  unfold okC8
  rw [UInt8.toNat_ofNat']
  omega
theorem okL_two {n:Int} (h0:0≤n) (h1:n≤99):okL (twoL n):=okL_cons (okC_ofNat (by omega) (by omega)) (okL_cons (okC_ofNat (by omega) (by omega)) okL_nil)
theorem okT_clk (c:Clk):okT (clkT c).1:=by
  unfold clkT
  split
  · exact okT_empty
  split
  · exact okT_empty
  · rename_i h1 h2
    have h3:clkB c=true:=by simpa using h1
    have h4:c.1=true:=by simpa using h2
    unfold clkB at h3
    rw [if_pos h4] at h3
    have h5:=of_decide_eq_true h3
    refine okT_B (okL_append (okL_append (okL_append (okL_two (by omega) (by omega)) (okL_two (by omega) (by omega))) (okL_two (by omega) (by omega))) ?_)
    unfold clkTail
    split
    · exact okL_nil
    split
    · exact okL_cons ⟨by decide,by decide⟩ (okL_cons (okC_ofNat (by omega) (by omega)) okL_nil)
    · exact okL_cons ⟨by decide,by decide⟩ (okL_two (by omega) (by omega))
theorem wrClk_okS {c:Clk} {s:Rd} (h:OkS s.2):OkS (wrClk c s).2:=wrText_okS h (okT_clk c)
theorem wrDig_okS {lo hi n:Int} {s:Rd} (h:OkS s.2) (h0:0≤lo) (h9:hi≤9):OkS (wrDig lo hi n s).2:=by
  unfold wrDig
  split
  · exact wrText_okS h okT_empty
  · refine wrText_okS h ?_
    show okL [UInt8.ofNat (48+n).toNat]
    exact okL_cons (okC_ofNat (by omega) (by omega)) okL_nil
theorem okT_dat {d:Dat} (hy:d.1=true→datB d=true→1≤d.2.1∧d.2.1≤31∧1≤d.2.2.1∧d.2.2.1≤12∧2000≤d.2.2.2∧d.2.2.2≤2099):okT (datT d).1:=by
  unfold datT
  split
  · exact okT_empty
  split
  · exact okT_empty
  · rename_i h1 h2
    have h3:datB d=true:=by simpa using h1
    have h4:d.1=true:=by simpa using h2
    have h5:=hy h4 h3
    exact okT_B (okL_append (okL_append (okL_two (by omega) (by omega)) (okL_two (by omega) (by omega))) (okL_two (by omega) (by omega)))
theorem okT_st (a:Bool):okT (stT a):=by cases a <;> exact fun c hc=>by simp [stT] at hc;subst hc;exact⟨by decide,by decide⟩
theorem okT_mode (a:Bool):okT (modeT a):=by cases a <;> exact fun c hc=>by simp [modeT] at hc;subst hc;exact⟨by decide,by decide⟩
theorem okT_sideT (v:N2):okT (sideT v):=by
  unfold sideT
  split
  · exact okT_empty
  split
  · exact fun c hc=>by simp [wT] at hc;subst hc;exact⟨by decide,by decide⟩
  · exact fun c hc=>by simp [eT] at hc;subst hc;exact⟨by decide,by decide⟩
theorem okT_letter (x:UInt8) (h:45≤x.toNat∧x.toNat≤90):okT ⟨#[x]⟩:=fun c hc=>by simp at hc;subst hc;exact h
theorem putGga_ok (g:GgaT):OkS (putGga g).1:=by
  unfold putGga
  refine wrDone_okS ?_
  have h1:OkS (wrClk g.1 (0,[])).2:=wrClk_okS OkS.nil
  have h2:=wrAng_okS (lat:=true) (n:=g.2.1) h1
  have h3:=wrAng_okS (lat:=false) (n:=g.2.2.1) h2
  have h4:=wrDig_okS (lo:=0) (hi:=8) (n:=g.2.2.2.1) h3 (by omega) (by omega)
  have h5:=wrNum_okS (W:=1) (M:=2) (F:=0) (L:=0) (H:=99) (n:=g.2.2.2.2.1) h4
  have h6:=wrNum_okS (W:=1) (M:=3) (F:=2) (L:=0) (H:=99999) (n:=g.2.2.2.2.2.1) h5
  have h7:=wrCol_okS (k:=altK) (n:=g.2.2.2.2.2.2.1) h6 (okT_letter 77 (by decide))
  have h8:=wrCol_okS (k:=geoK) (n:=g.2.2.2.2.2.2.2.1) h7 (okT_letter 77 (by decide))
  have h9:=wrNum_okS (W:=1) (M:=4) (F:=1) (L:=0) (H:=99999) (n:=g.2.2.2.2.2.2.2.2.1) h8
  exact wrNum_okS (W:=1) (M:=4) (F:=0) (L:=0) (H:=1023) (n:=g.2.2.2.2.2.2.2.2.2) h9
theorem putVtg_ok (N:List (Bool×Int)):OkS (putVtg N).1:=by
  refine wrDone_okS (wrCols_okS _ _ _ (fun k hk=>?_) OkS.nil)
  simp only [vtgK,List.mem_cons,List.not_mem_nil,or_false] at hk
  rcases hk with rfl | rfl | rfl | rfl <;> exact okT_letter _ (by decide)
theorem wrIds_okS:∀ (l:List (Bool×Int)) (s:Rd),OkS s.2→OkS (wrIds l s).2
  | [],_,h=>h
  | n :: l,s,h=>wrIds_okS l _ (wrNum_okS h)
theorem putGsa_ok (m:GsaD):OkS (putGsa m).1:=by
  unfold putGsa
  split
  · exact OkS.nil
  · refine wrDone_okS (wrNum_okS (wrNum_okS (wrNum_okS (wrIds_okS _ _ ?_))))
    exact wrDig_okS (wrText_okS OkS.nil (okT_mode _)) (by omega) (by omega)
theorem wrViews_okS:∀ (l:List V4) (s:Rd),OkS s.2→OkS (wrViews l s).2
  | [],_,h=>h
  | v :: l,s,h=>wrViews_okS l _ (wrNum_okS (wrNum_okS (wrNum_okS (wrNum_okS h))))
theorem putGsv_ok (m:GsvD):OkS (putGsv m).1:=by
  unfold putGsv
  split
  · exact OkS.nil
  · exact wrDone_okS (wrViews_okS _ _ (wrNum_okS (wrDig_okS (wrDig_okS OkS.nil (by omega) (by omega)) (by omega) (by omega))))
theorem okT_date (d:Dat):okT (datT d).1:=okT_dat fun h1 h2=>by
  unfold datB at h2
  rw [if_pos h1] at h2
  have h3:=of_decide_eq_true h2
  have h4:=days_le d.2.2.1 d.2.2.2
  have h5:=days_pos (m:=d.2.2.1) (y:=d.2.2.2) (by omega)
  omega
theorem putRmc_ok (g:RmcT):OkS (putRmc g).1:=by
  unfold putRmc
  refine wrDone_okS ?_
  have h1:OkS (wrClk g.1 (0,[])).2:=wrClk_okS OkS.nil
  have h2:OkS (wrSt g.2.1 (wrClk g.1 (0,[]))).2:=wrText_okS h1 (okT_st _)
  have h3:=wrAng_okS (lat:=true) (n:=g.2.2.1) h2
  have h4:=wrAng_okS (lat:=false) (n:=g.2.2.2.1) h3
  have h5:=wrNum_okS (W:=1) (M:=4) (F:=2) (L:=0) (H:=999999) (n:=g.2.2.2.2.1) h4
  have h6:=wrNum_okS (W:=1) (M:=3) (F:=2) (L:=0) (H:=36000) (n:=g.2.2.2.2.2.1) h5
  have h7:OkS (wrDat g.2.2.2.2.2.2.1 _).2:=wrText_okS h6 (okT_date _)
  exact wrText_okS (wrNum_okS h7) (okT_sideT _)
def sizeF (l:List ByteArray):Nat:=(l.map fun t=>t.size+1).sum
theorem body_size (t y:ByteArray) (fs:List ByteArray):(bodyL22 t y fs).length=t.size+y.size+sizeF fs:=by
  have key:∀ l:List ByteArray,(l.flatMap fun f=>(44:UInt8) :: f.data.toList).length=sizeF l:=by
    intro l
    induction l with
    | nil=>rfl
    | cons g l ih=>
      rw [List.flatMap_cons,List.length_append,List.length_cons,len_data,ih]
      rfl
  unfold bodyL22
  rw [List.length_append,List.length_append,len_data,len_data,key]
theorem sizeF_le:∀ {U T:List ByteArray},U.length=T.length→NoLonger U T→sizeF U≤sizeF T
  | [],[],_,_=>Nat.le_refl _
  | u :: U,t :: T,hl,h=>by
    have h0:=h 0 u t rfl rfl
    have ih:=sizeF_le (U:=U) (T:=T) (by simpa using hl) fun i a b ha hb=>h (i+1) a b ha hb
    have e1:sizeF (u :: U)=u.size+1+sizeF U:=by simp [sizeF]
    have e2:sizeF (t :: T)=t.size+1+sizeF T:=by simp [sizeF]
    omega
theorem sizeF_sizes (l:List ByteArray):sizeF l=sizes l+l.length:=by
  induction l with
  | nil=>rfl
  | cons g l ih=>
    have e1:sizeF (g :: l)=g.size+1+sizeF l:=by simp [sizeF]
    have e2:sizes (g :: l)=g.size+sizes l:=by simp [sizes]
    rw [e1,ih,e2,List.length_cons]
    omega
theorem rd30_words {y:ByteArray} {fs:List ByteArray} (h:(rd30 y fs).2=0):y=⟨#[71,71,65]⟩∨y=⟨#[82,77,67]⟩∨y=⟨#[71,83,65]⟩∨y=⟨#[86,84,71]⟩∨y=⟨#[71,83,86]⟩:=by
  by_cases h1:y=⟨#[71,71,65]⟩
  · exact .inl h1
  by_cases h2:y=⟨#[82,77,67]⟩
  · exact .inr (.inl h2)
  by_cases h3:y=⟨#[71,83,65]⟩
  · exact .inr (.inr (.inl h3))
  by_cases h4:y=⟨#[86,84,71]⟩
  · exact .inr (.inr (.inr (.inl h4)))
  by_cases h5:y=⟨#[71,83,86]⟩
  · exact .inr (.inr (.inr (.inr h5)))
  rw [rd30_no fs h1 h2 h3 h4 h5] at h
  exact absurd h (by decide)
theorem put30_of {m:NmD} {X:List ByteArray×Int} {t y:ByteArray} (hk:1≤m.k∧m.k≤5) (hw:word30 m.k=y) (ht:m.t=t) (hF:putF30 m=X) (h0:X.2=0):put30 m=((t,y,X.1),0):=by
  obtain⟨fs,E⟩:=X
  rw [put30_ok hk hF h0,hw,ht]
theorem take_put30 {t y:ByteArray} {fs:List ByteArray} (h:(rd30 y fs).2=0):∃ U,put30 (only30 t (rd30 y fs).1)=((t,y,U),0)∧OkS U∧sizeF U≤sizeF fs∧take30 t y U=(only30 t (rd30 y fs).1,0):=by
  rcases rd30_words h with rfl | rfl | rfl | rfl | rfl
  · rw [rd30_1] at h ⊢
    obtain⟨h1,h2,h3⟩:=gga_take_put (R:=fs) h
    obtain⟨h4,h5⟩:=gga_put_take h2
    have hF:putF30 (only30 t ⟨1,ByteArray.empty,(takeGga fs).1,zeroM,zeroS,zV4,zeroG⟩)=putGga (takeGga fs).1:=rfl
    refine⟨(putGga (takeGga fs).1).1,put30_of (show (1:Int)≤1∧(1:Int)≤5 by decide) rfl rfl hF h2,putGga_ok _,sizeF_le (by omega) h3,?_⟩
    unfold take30
    rw [rd30_1,h4]
    rfl
  · rw [rd30_2] at h ⊢
    obtain⟨h1,h2,h3⟩:=rmc_take_put (R:=fs) h
    obtain⟨h4,h5⟩:=rmc_put_take h2
    have hF:putF30 (only30 t ⟨2,ByteArray.empty,zeroF,(takeRmc fs).1,zeroS,zV4,zeroG⟩)=putRmc (takeRmc fs).1:=rfl
    refine⟨(putRmc (takeRmc fs).1).1,put30_of (show (1:Int)≤2∧(2:Int)≤5 by decide) rfl rfl hF h2,putRmc_ok _,?_,?_⟩
    · have h6:NoLonger (putRmc (takeRmc fs).1).1 (fs.take 11):=fun i a b ha hb=>by
        have hi:i < (fs.take 11).length:=(List.getElem?_eq_some_iff.1 hb).1
        rw [List.getElem?_take_of_lt (by rw [List.length_take] at hi;omega)] at hb
        exact h3 i a b ha hb
      have h7:=sizeF_le (by rw [h5,List.length_take];omega) h6
      have h8:sizeF fs=sizeF (fs.take 11)+sizeF (fs.drop 11):=by
        conv=>lhs;rw [← List.take_append_drop 11 fs]
        unfold sizeF
        rw [List.map_append,List.sum_append]
      omega
    · unfold take30
      rw [rd30_2,h4]
      rfl
  · rw [rd30_3] at h ⊢
    obtain⟨h1,h2,h3,h3'⟩:=gsa_take_put (R:=fs) h
    obtain⟨h4,h5⟩:=gsa_put_take h3
    have hF:putF30 (only30 t ⟨3,ByteArray.empty,zeroF,zeroM,(takeGsa fs).1,zV4,zeroG⟩)=putGsa (takeGsa fs).1:=rfl
    refine⟨(putGsa (takeGsa fs).1).1,put30_of (show (1:Int)≤3∧(3:Int)≤5 by decide) rfl rfl hF h3,putGsa_ok _,by rw [sizeF_sizes,sizeF_sizes];omega,?_⟩
    unfold take30
    rw [rd30_3,h4]
    rfl
  · rw [rd30_4] at h ⊢
    obtain⟨h1,h2,h3⟩:=vtg_take_put (R:=fs) h
    have hL:=l4v_list h1
    obtain⟨h4,h5⟩:=vtg_put_take h1 h2
    have hF:putF30 (only30 t ⟨4,ByteArray.empty,zeroF,zeroM,zeroS,l4v (takeVtg fs).1,zeroG⟩)=putVtg (takeVtg fs).1:=by
      show putVtg [(l4v (takeVtg fs).1).1,(l4v (takeVtg fs).1).2.1,(l4v (takeVtg fs).1).2.2.1,(l4v (takeVtg fs).1).2.2.2]=_
      rw [hL]
    refine⟨(putVtg (takeVtg fs).1).1,put30_of (show (1:Int)≤4∧(4:Int)≤5 by decide) rfl rfl hF h2,putVtg_ok _,?_,?_⟩
    · have h8f:fs.length=8∨fs.length=9:=by
        unfold takeVtg at h
        split at h
        · exact absurd h (by decide)
        · omega
      have h6:NoLonger (putVtg (takeVtg fs).1).1 (fs.take 8):=fun i a b ha hb=>by
        have hi:i < (fs.take 8).length:=(List.getElem?_eq_some_iff.1 hb).1
        rw [List.getElem?_take_of_lt (by rw [List.length_take] at hi;omega)] at hb
        exact h3 i a b ha hb
      have h7:=sizeF_le (by rw [h5,List.length_take];omega) h6
      have h8:sizeF fs=sizeF (fs.take 8)+sizeF (fs.drop 8):=by
        conv=>lhs;rw [← List.take_append_drop 8 fs]
        unfold sizeF
        rw [List.map_append,List.sum_append]
      omega
    · unfold take30
      rw [rd30_4,h4]
      rfl
  · rw [rd30_5] at h ⊢
    obtain⟨h1,h2,h3,h3'⟩:=gsv_take_put (R:=fs) h
    obtain⟨h4,h5⟩:=gsv_put_take h2
    have hF:putF30 (only30 t ⟨5,ByteArray.empty,zeroF,zeroM,zeroS,zV4,(takeGsv fs).1⟩)=putGsv (takeGsv fs).1:=rfl
    refine⟨(putGsv (takeGsv fs).1).1,put30_of (show (1:Int)≤5∧(5:Int)≤5 by decide) rfl rfl hF h2,putGsv_ok _,sizeF_le h3 h3',?_⟩
    unfold take30
    rw [rd30_5,h4]
    rfl
theorem again30 {t:ByteArray} (h:(dec30 t).2.2=0):(enc30 (dec30 t).1).2=0∧(enc30 (dec30 t).1).1.size≤(dec30 t).2.1∧dec30 (enc30 (dec30 t).1).1=((dec30 t).1,(enc30 (dec30 t).1).1.size,0)∧(dec30 t).1.t.size≤76:=by
  by_cases hE:(takeS t).2.2=0
  · have hd:dec30 t=((take30 (takeS t).1.1 (takeS t).1.2.1 (takeS t).1.2.2).1,(takeS t).2.1,(take30 (takeS t).1.1 (takeS t).1.2.1 (takeS t).1.2.2).2):=if_pos hE
    rw [hd] at h ⊢
    have hT:=(takeS_fields t).2.2.1
    obtain⟨P,x,y,M,hP,-,hu,e⟩:=takeS_body hE
    rw [e] at h hT ⊢
    have hb:=body_parts hP
    have hok:=parts_ok hP
    have h76:=hP.2.1
    generalize partsL P=q at *
    obtain⟨T,Y,fs⟩:=q
    simp only at h hb hok hT ⊢
    have hr:(rd30 Y fs).2=0:=by
      unfold take30 at h
      split at h
      · assumption
      · rename_i k;exact absurd h k
    have ht:take30 T Y fs=(only30 T (rd30 Y fs).1,0):=if_pos hr
    rw [ht]
    simp only
    obtain⟨U,h1,h2,h3,h4⟩:=take_put30 (t:=T) hr
    have he:enc30 (only30 T (rd30 Y fs).1)=putS T Y U:=by unfold enc30;rw [h1];exact if_pos rfl
    rw [he]
    have hlen:(bodyL22 T Y U).length≤(bodyL22 T Y fs).length:=by rw [body_size,body_size];omega
    rw [hb] at hlen
    have hsz:=textS_size T Y U
    have hp:putS T Y U=(textS T Y U,0):=by
      rw [putS_ok hok.1 hok.2.1 (fun k hk=>okT_fields (h2 _ (List.getElem_mem hk))),if_neg (by omega)]
    have h82:=take_put22 (T:=T) (Y:=Y) (fs:=U) (M:=ByteArray.empty) (by rw [hp])
    rw [hp] at h82 ⊢
    simp only at h82 ⊢
    have hte:textS T Y U++ByteArray.empty=textS T Y U:=by simp
    rw [hte] at h82
    refine⟨trivial,by omega,?_,?_⟩
    · unfold dec30
      rw [h82.2,h4]
      rfl
    · have:(only30 T (rd30 Y fs).1).t=T:=by
        unfold only30
        split
        · rfl
        split
        · rfl
        split
        · rfl
        split
        · rfl
        split <;> rfl
      rw [this]
      exact hT
  · have hd:dec30 t=(zD30,0,(takeS t).2.2):=if_neg hE
    rw [hd] at h
    exact absurd h hE
set_option maxRecDepth 8000 in
set_option maxHeartbeats 2000000 in
theorem nmeaAgain_big (X:ByteArray) (w:World) (hX:X.size≤maxLen) (h:500 < (X.size:Int)):Calls Tryz.prog 4 #[.string X] w fun e w'=>e=.returned (.bool true)∧Below w.heap.size w w':=by
  unfold maxLen at hX
  have HK:=fun W=>Lib.hid (knows30_any W)
  go_enter Tryz.func4,Tryz.ntmps4
  go_wp2_with fail
  refine (HK _).out.mono ?_
  rintro e w1 ⟨rfl,hb1⟩
  go_wp2_with fail
  go_ret
  exact⟨rfl,hb1⟩
set_option maxRecDepth 8000 in
set_option maxHeartbeats 8000000 in
theorem nmeaAgain_go (X U:ByteArray) (w:World) (M:NmD) (N:Nat) (E:Int) (hX:(X.size:Int)≤500) (hm:Hid (M.s.ids.length≤1000000∧M.u.L.length≤1000000))
    (H1:∀ W,Hid (Calls Tryz.prog 11 #[.string X] W (DecOut (M,N,E) W))) (HE:Hid (E≠0→M=zD30)) (HU:Hid (E=0→(U.size:Int)≤(N:Int)))
    (H2:Hid (E=0→∀ C W,NmV 0 W C M→Calls Tryz.prog 15 #[.agg C] W (EncOut (U,0) W))) (H3:Hid (E=0→∀ W,Calls Tryz.prog 11 #[.string U] W (DecOut (M,U.size,0) W))) :
    Calls Tryz.prog 4 #[.string X] w fun e w'=>e=.returned (.bool true)∧Below w.heap.size w w':=by
  have HK:=fun W=>Lib.hid (knows30_any W)
  go_enter Tryz.func4,Tryz.ntmps4
  go_wp2_with fail
  refine (HK _).out.mono ?_
  rintro e w1 ⟨rfl,hb1⟩
  have HB1:=Lib.hid hb1
  clear hb1 HK
  go_wp2_with fail
  refine (H1 _).out.mono ?_
  rintro e w2 ⟨D1,rfl,hd,hb⟩
  have HD1:=Lib.hid hd
  have HB2:=Lib.hid (bthen HB1.out hb)
  clear hd hb HB1 H1
  dsimp only
  go_upto_region 4 with (first
    | (refine wpList_alloc_new rfl 46 rfl zNm (zero_Nm _) ?_;intro Wa1 hWa;have HA1:=Lib.hid (Blk.newL (L:=nmL 0 ByteArray.empty zGga zRmc zGsa zVtg zGsv) hWa rfl);have HLa1:=Lib.hid hWa.bel;clear hWa)
    | (refine wpList_store_in rfl 46 _ _ rfl w2.heap.size 0 D1 rfl rfl (nm_thereC HA1.out zLens HD1.out) (nm_sizeC HD1.out) HD1.out.ones ?_;intro Ws1 hWs;have HM1:Hid (Blk Ws1 w2.heap.size D1.toList):=HA1.out.all hWs (nm_lenC HD1.out);have HL1:=Lib.hid (HLa1.out.trans (hWs.below (Nat.le_refl _)));clear hWs HA1 HLa1))
  try go_frame
  have HB3:=Lib.hid (bthen HB2.out HL1.out)
  have HDa:=Lib.hid ((HD1.out.on HL1.out).less (Nat.zero_le _))
  clear HB2 HL1 HD1
  go_wp2_with fail
  refine (num30_any _ _).mono ?_
  rintro e W' ⟨rfl,rfl⟩
  by_cases h0:E=0
  · subst h0
    have HE2:=Lib.hid (H2.out rfl)
    have HD2:=Lib.hid (H3.out rfl)
    have HN:=HU.out rfl
    have kn:decide ((U.size:Int)≤(N:Int))=true:=decide_eq_true HN
    clear H2 H3 HU HE
    go_wp2_with (refine wpList_load_mid rfl 46 _ rfl w2.heap.size 0 rfl D1.toList _ HM1.out.rg Tryz.underlying46 rfl (by rw [Array.length_toList];exact nm_sizeC HDa.out) ?_)
    refine (HE2.out D1 _ HDa.out).mono ?_
    rintro e w4 ⟨rfl,hb⟩
    have HB4:=Lib.hid (bthen HB3.out hb)
    have HM1b:=Lib.hid (HM1.out.on hb)
    have HDb:=Lib.hid (HDa.out.on hb)
    clear hb HB3 HM1 HDa HE2
    dsimp only
    go_wp2_with fail
    refine (HD2.out _).mono ?_
    rintro e w6 ⟨D2,rfl,hd,hb⟩
    have HD3:=Lib.hid hd
    have HB6:=Lib.hid (bthen HB4.out hb)
    have HM1c:=Lib.hid (HM1b.out.on hb)
    have HDc:=Lib.hid (HDb.out.on hb)
    clear hd hb HB4 HM1b HDb HD2
    dsimp only
    go_upto_region 8 with (first
      | (refine wpList_alloc_new rfl 46 rfl zNm (zero_Nm _) ?_;intro Wa2 hWa;have HA2:=Lib.hid (Blk.newL (L:=nmL 0 ByteArray.empty zGga zRmc zGsa zVtg zGsv) hWa rfl);have HLa2:=Lib.hid hWa.bel;clear hWa)
      | (refine wpList_store_in rfl 46 _ _ rfl w6.heap.size 0 D2 rfl rfl (nm_thereC HA2.out zLens HD3.out) (nm_sizeC HD3.out) HD3.out.ones ?_;intro Ws2 hWs;have HM2:Hid (Blk Ws2 w6.heap.size D2.toList):=HA2.out.all hWs (nm_lenC HD3.out);have HL2:=Lib.hid (HLa2.out.trans (hWs.below (Nat.le_refl _)));clear hWs HA2 HLa2))
    try go_frame
    have HB7:=Lib.hid (bthen HB6.out HL2.out)
    have HM1d:=Lib.hid (HM1c.out.on HL2.out)
    have HDd:=Lib.hid (HDc.out.on HL2.out)
    have HD3d:=Lib.hid (HD3.out.on HL2.out)
    clear HB6 HM1c HDc HD3 HL2
    try (apply wp_seq_k;intro K_ HK_)
    apply wp_region_lit
    have i0:((U.size:Int)==(U.size:Int))=true:=beq_self_eq_true _
    repeat ((fail_if_success (with_reducible show Calls _ _ _ _ _));first | go_values | go_skip | go_guarded | go_step | go_upon)
    refine (num30_any _ _).mono ?_
    rintro e W' ⟨rfl,rfl⟩
    dsimp only
    repeat ((fail_if_success (with_reducible show Calls _ _ _ _ _));first | go_values | go_skip | go_guarded | go_step | go_upon)
    refine (num30_any _ _).mono ?_
    rintro e W' ⟨rfl,rfl⟩
    dsimp only
    repeat ((fail_if_success (with_reducible show Oper.wp _ ⟨some 62,_,_,_,_,_⟩ _ _ _ _));first | go_values | go_skip | go_guarded | go_step | go_upon)
    refine wp_load_mid _ _ rfl w6.heap.size 0 rfl D2.toList _ HM2.out.rg Tryz.underlying46 rfl (by rw [Array.length_toList];exact nm_sizeC HD3d.out) ?_
    go_step
    refine wpList_load_w (by rfl) 46 _ rfl w2.heap.size 0 rfl D1.toList _ HM1d.out.rg Tryz.underlying46 rfl (by rw [Array.length_toList];exact nm_sizeC HDd.out) ?_
    repeat ((fail_if_success (with_reducible show Calls _ _ _ _ _));first | go_values | go_skip | go_guarded | go_step | go_upon)
    refine (r30Same_any HD3d.out HDd.out hm.out.1 hm.out.2).mono ?_
    rintro e w8 ⟨rfl,hb⟩
    have HB8:=Lib.hid (bthen HB7.out hb)
    clear hb HB7 HM1d HM2 HDd HD3d
    go_wp2_with fail
    go_ret
    exact⟨rfl,HB8.out⟩
  · have hne:(E != 0)=true:=by rw [bne_iff_ne];exact h0
    have HZ:=Lib.hid (HE.out h0)
    have HDz:Hid (NmV 0 Ws1 D1 zD30):=by have:=HDa.out;rw [HZ.out] at this;exact this
    clear H2 H3 HU HE
    go_wp2_with (first
      | refine wpList_load_mid rfl 46 _ rfl w2.heap.size 0 rfl D1.toList _ HM1.out.rg Tryz.underlying46 rfl (by rw [Array.length_toList];exact nm_sizeC HDa.out) ?_
      | refine wpList_build0 rfl 46 rfl (build_Nm0 _) ?_)
    refine (r30Same_any HDz.out (NmV.zero 0 _) (Nat.zero_le _) (Nat.zero_le _)).mono ?_
    rintro e w8 ⟨rfl,hb⟩
    have HB8:=Lib.hid (bthen HB3.out hb)
    clear hb HB3 HM1 HDa HDz
    go_wp2_with fail
    go_ret
    exact⟨rfl,HB8.out⟩
theorem dec30_le (t:ByteArray):(dec30 t).2.1≤82:=by
  unfold dec30
  split
  · next k=>
    obtain⟨P,x,y,M,hP,-,-,e⟩:=takeS_body k
    rw [e]
    have:=hP.2.1
    simp only
    omega
  · exact Nat.zero_le _
theorem dec30_err {t:ByteArray} (h:(dec30 t).2.2≠0):(dec30 t).1=zD30:=by
  unfold dec30 at h ⊢
  split at h
  · next k=>
    rw [if_pos k]
    simp only at h ⊢
    unfold take30 at h ⊢
    split at h
    · exact absurd rfl h
    · next q=>rw [if_neg q]
  · next k=>rw [if_neg k]
theorem nmeaAgain_any (X:ByteArray) (w:World) (hX:X.size≤maxLen):Calls Tryz.prog 4 #[.string X] w fun e w'=>e=.returned (.bool true)∧Below w.heap.size w w':=by
  by_cases h:X.size≤500
  · obtain⟨⟨M,N,E⟩,e1⟩:∃ x,dec30 X=x:=⟨_,rfl⟩
    have g1:=dec30_ids X
    have g2:=fun h=>again30 (t:=X) h
    have g3:=fun h=>dec30_err (t:=X) h
    rw [e1] at g1 g2 g3
    refine nmeaAgain_go X (enc30 M).1 w M N E (by omega) g1 (fun W=>?_) g3 (fun h0=>?_) (fun h0 C W hC=>?_) (fun h0 W=>?_)
    · rw [← e1];exact nmDecode_any (by omega)
    · have:=(g2 h0).2.1;simp only at this;omega
    · have h3:=(g2 h0).1
      have:=nmEncode_any (m:=M) hC (by have:=(g2 h0).2.2.2;simp only at this;omega) g1.1 g1.2
      rw [show enc30 M=((enc30 M).1,0) from Prod.ext rfl h3] at this
      exact this
    · have h4:=(g2 h0).2.2.1
      have h5:=(g2 h0).2.1
      simp only at h4
      rw [← h4]
      refine nmDecode_any ?_
      have h6:N≤82:=by have:=dec30_le X;rw [e1] at this;exact this
      simp only at h5
      omega
  · exact nmeaAgain_big X w hX (by omega)
end Go.Proofs.YtoabkoniegmkaaaGreat
