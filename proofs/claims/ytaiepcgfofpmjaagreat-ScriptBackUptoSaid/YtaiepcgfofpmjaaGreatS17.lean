/- Layer 45: bytes of hex, of the program and of the reference. -/
import Derived.Test.YtaiepcgfofpmjaaGreatS15
import Derived.Test.YtaiepcgfofpmjaaGreatS10
import Derived.Test.YtaiepcgfofpmjaaGreatS16
namespace Go.Proofs.YtaiepcgfofpmjaaGreat
set_option linter.unusedVariables false
open Go.RowKit
theorem byte_infoS:(Tryz.prog.info? 5).map (fun i=>(i.zero,i.size,i.bytes))=some (some (.int .u8 0),1,1):=by kernel_rfl
theorem pushU {w0 w:World} {v:Value} {n:Nat} {xs:List Value} (h:OwnR w0 5 1 v n xs w) (u:Int) (hn:n≤1000000000) (ty:TypeId) :
    ∃ v' w',(Builtin.append_ #[22,22] ty #[v,.slice (some ⟨w.heap.size,0,none⟩) 1 1]).run Tryz.prog (w.alloc (.cells #[.int .u8 u] 5))=.ok v' w'∧OwnR w0 5 1 v' (n+1) (xs++[.int .u8 u]) w':=
  h.push byte_infoS Tryz.underlying22 rfl (by decide) #[.int .u8 u] rfl (fun _ q=>one_cell q rfl) (by unfold maxLen;omega) (by omega)
def byL (c:UInt8):Value:=.int .u8 (c.toNat:Int)
def BytesOut (l:List UInt8) (w:World) (e:Ending) (w':World):Prop:=
  (hexW l=none∧e=.returned (.tuple #[.slice none 0 0,.bool false])∨∃ bs A c,hexW l=some bs∧e=.returned (.tuple #[.slice A bs.length c,.bool true])∧FlatQ (fun b=>w.heap.size≤b∧b < w'.heap.size) w' A (bs.map byL)∧bs.length≤c)∧Below w.heap.size w w'
theorem BytesOut.own {w0 w:World} {v:Value} {l bs:List UInt8} {n:Nat} (h:OwnR w0 5 1 v n (bs.map byL) w) (hn:bs.length=n) (hl:hexW l=some bs):BytesOut l w0 (.returned (.tuple #[v,.bool true])) w:=by
  obtain⟨A,c,h1,h2,h3⟩:=h.flat
  exact⟨.inr ⟨bs,A,c,hl,by rw [h1,hn],h3,by omega⟩,h.2⟩
theorem hexQ_odd:∀ l:List UInt8,l.length % 2=1→hexQ l=none
  | [],h=>by cases h
  | [_],_=>rfl
  | a :: b :: r,h=>by
    unfold hexQ
    rw [hexQ_odd r (by rw [List.length_cons,List.length_cons] at h;omega)]
    split
    · rfl
    · split <;> rfl
theorem unhexL_bd {a b:UInt8} {n:Int} (h:unhexL [a,b]=some n):0≤n∧n≤255:=by
  have h:(if isR (a.toNat:Int) && isR (b.toNat:Int) then some (16 * valR (a.toNat:Int)+valR (b.toNat:Int)) else none)=some n:=h
  by_cases q:(isR (a.toNat:Int) && isR (b.toNat:Int))=true
  · rw [if_pos q] at h
    rw [Bool.and_eq_true] at q
    injection h with h
    have h1:=valR_bd _ q.1
    have h2:=valR_bd _ q.2
    omega
  · rw [if_neg q] at h
    cases h
theorem hexQ_step {l t:List UInt8} {a b:UInt8} {bs:List UInt8} (h:hexQ l=(hexQ (a :: b :: t)).map (bs++·)) :
    (∀ n,unhexL [a,b]=some n→hexL n=[a,b]→hexQ l=(hexQ t).map (bs++[UInt8.ofNat n.toNat]++·))∧(unhexL [a,b]=none→hexQ l=none)∧(∀ n,unhexL [a,b]=some n→hexL n≠[a,b]→hexQ l=none):=by
  have e:hexQ (a :: b :: t)=match unhexL [a,b] with
    | none=>none
    | some n=>if hexL n=[a,b] then (hexQ t).map (UInt8.ofNat n.toNat :: ·) else none:=rfl
  rw [e] at h
  generalize hexQ l=H at *
  refine⟨fun n q1 q2=>?_,fun q=>?_,fun n q1 q2=>?_⟩
  · rw [q1] at h
    dsimp only at h
    rw [if_pos q2] at h
    rw [h,Option.map_map]
    congr 1
    funext x
    simp
  · rw [q] at h
    exact h
  · rw [q1] at h
    dsimp only at h
    rw [if_neg q2] at h
    exact h
theorem two_of {l:List UInt8} (h:2≤l.length):∃ a b t,l=a :: b :: t:=by
  match l,h with
  | a :: b :: t,_=>exact⟨a,b,t,rfl⟩
theorem neq_txt (l m:List UInt8):((toB l).toList==(toB m).toList)=decide (l=m):=by rw [beq_txt,toList_B]
theorem hexW_q {l:List UInt8} (h1:l≠[45]) (h2:l≠[]):hexW l=hexQ l:=by unfold hexW;rw [if_neg h1,if_neg h2]
set_option maxHeartbeats 4000000 in
set_option maxRecDepth 8000 in
theorem scrBytes_go (s:ByteArray) (w:World) (h1:s.data.toList≠[45]) (h2:s.data.toList≠[]) (he:s.size % 2=0) (hs:s.size≤100000000):Calls Tryz.prog 46 #[.string s] w (BytesOut s.data.toList w):=by
  have f1:(s.toList==[45])=false:=by rw [beq_eq_false_iff_ne,txt_eq];exact h1
  have f2:s.toList.isEmpty=false:=by rw [txt_eq];cases hq:s.data.toList with
    | nil=>exact absurd hq h2
    | cons a l=>rfl
  have f3:((s.size:Int) % 2 != 0)=false:=by rw [bne_eq_false_iff_eq];omega
  have HW:=Lib.hid (hexW_q h1 h2)
  clear h1 h2
  go_enter Tryz.func46,Tryz.ntmps46
  go_wp2_with fail
  go_loopw [0,4] (fun sv v wr=>∃ (r:ByteArray) (bs:List UInt8),sv=.string r∧r.size≤s.size∧r.size % 2=0∧Hid (OwnR w 5 1 v bs.length (bs.map byL) wr)∧Hid (hexQ s.data.toList=(hexQ r.data.toList).map (bs++·))∧bs.length≤s.size - r.size) (fun sv _ _=>Lib.strSize sv)
  case atStart=>exact⟨s,[],rfl,Nat.le_refl _,he,OwnR.nil _ _ _ (Below.refl _ _),(by show _=_;cases hexQ s.data.toList <;> rfl),by simp⟩
  case round=>
    obtain⟨r,bs,rfl,hr1,hr2,HO,HS,hbs⟩:=hrel
    have HB:=Lib.hid HO.out.2
    have hrl:r.data.toList.length=r.size:=by simp
    by_cases h0:r.size=0
    · obtain rfl:r=ByteArray.empty:=by obtain⟨⟨l⟩⟩:=r;cases l with
        | nil=>rfl
        | cons a l=>cases h0
      have HE:Hid (hexQ s.data.toList=some bs):=by
        show _=_
        rw [HS.out]
        show some (bs++[])=_
        rw [List.append_nil]
      clear HS
      go_wp2_with fail
      go_ret2
      exact BytesOut.own HO.out rfl (HW.out.trans HE.out)
    · obtain⟨a,b,t,ht⟩:=two_of (l:=r.data.toList) (by omega)
      have f4:r.toList.isEmpty=false:=by rw [txt_eq,ht];rfl
      have e2:r.extract 0 2=toB [a,b]:=by rw [toB_ext,ht];rfl
      have e3:(r.extract 2 r.size).data.toList=t:=by rw [toL_ext,List.take_of_length_le (by omega),ht];rfl
      have e4:(r.extract 2 r.size).size=r.size - 2:=by rw [ByteArray.size_extract];omega
      have hst:=HS.out
      rw [ht] at hst
      obtain⟨h1,h2,h3⟩:=hexQ_step hst
      have HU:=fun W=>Lib.hid (Unhex_any (toB [a,b]) W)
      rw [toList_B] at HU
      rw [← e3] at h1
      have H1:=Lib.hid h1
      have H2:=Lib.hid h2
      have H3:=Lib.hid h3
      have i2:(2:Int)≤(r.size:Int):=by omega
      clear h1 h2 h3 hst e3 ht hrl HS
      cases hu:unhexL [a,b] with
      | none=>
        rw [hu] at HU
        have HN:=Lib.hid (H2.out hu)
        clear hu
        go_wp2_with fail
        refine (HU _).out.mono ?_
        rintro e w1 ⟨rfl,hb⟩
        have HB2:=Lib.hid (bthen HB.out hb)
        clear hb
        go_wp2_with fail
        go_region
        all_goals
          go_wp2_with fail
          go_ret2
          exact⟨.inl ⟨HW.out.trans HN.out,rfl⟩,bdrew HB2.out⟩
      | some n=>
        rw [hu] at HU
        obtain⟨n0,n1⟩:=unhexL_bd hu
        have HH:∀ W,Hid (Calls Tryz.prog 96 #[.int .u8 n] W fun e w'=>e=.returned (.string (toB (hexL n)))∧Below W.heap.size W w'):=fun W=>Hex_any n W n0 n1
        have hx:((toB (hexL n)).toList==(toB [a,b]).toList)=true∧Hid (hexQ s.data.toList=(hexQ (r.extract 2 r.size).data.toList).map (bs++[UInt8.ofNat n.toNat]++·))∨((toB (hexL n)).toList==(toB [a,b]).toList)=false∧Hid (hexQ s.data.toList=none):=by
          rw [neq_txt]
          by_cases q:hexL n=[a,b]
          · exact .inl ⟨decide_eq_true q,H1.out n hu q⟩
          · exact .inr ⟨decide_eq_false q,H3.out n hu q⟩
        have HN8:Hid (n=((UInt8.ofNat n.toNat).toNat:Int)):=by
          show _=_
          rw [UInt8.toNat_ofNat']
          omega
        generalize toB (hexL n)=X at *
        go_wp2_with fail
        refine (HU _).out.mono ?_
        rintro e w1 ⟨rfl,hb⟩
        have HBR:=Lib.hid hb
        have HB2:=Lib.hid (bthen HB.out hb)
        clear hb
        go_wp2_with fail
        clear hu HU
        generalize toB [a,b]=Y at *
        rcases hx with ⟨f5,HX⟩ | ⟨f5,HX⟩
        · go_region_with (refine (HH _).out.mono ?_;rintro e w2 ⟨rfl,hb2⟩;have HB3:=Lib.hid (bthen (bdrew HB2.out) hb2);have HR3:=Lib.hid (bthen (bdrew HBR.out) hb2))
          all_goals
            obtain⟨v',W',hr,ho⟩:=pushU (HO.out.on HR3.out) n (by omega) 22
            have HR:=Lib.hid hr
            have HO3:Hid (OwnR w 5 1 v' (bs++[UInt8.ofNat n.toNat]).length ((bs++[UInt8.ofNat n.toNat]).map byL) W'):=by
              show OwnR _ _ _ _ _ _ _
              rw [List.length_append,List.map_append]
              have e:Value.int .u8 n=byL (UInt8.ofNat n.toNat):=by
                unfold byL
                rw [← HN8.out]
              rw [e] at ho
              exact ho
            clear hr ho
            go_wp2_with (at_builtin;refine wpList_append_known rfl _ _ 22 rfl _ _ _ rfl rfl HR.out ?_)
            go_roundw
            case rel=>exact⟨_,bs++[UInt8.ofNat n.toNat],rfl,by omega,by omega,HO3,HX,by rw [List.length_append,List.length_singleton];omega⟩
            case measure=>rw [Lib.strSize_string,Lib.strSize_string];omega
        · go_region_with (refine (HH _).out.mono ?_;rintro e w2 ⟨rfl,hb2⟩;have HB3:=Lib.hid (bthen (bdrew HB2.out) hb2);have HR3:=Lib.hid (bthen (bdrew HBR.out) hb2))
          all_goals
            go_wp2_with fail
            go_ret2
            exact⟨.inl ⟨HW.out.trans HX.out,rfl⟩,HB3.out⟩
theorem hexW_odd {l:List UInt8} (h1:l≠[45]) (h:l.length % 2=1):hexW l=none:=by
  unfold hexW
  rw [if_neg h1]
  split
  · rfl
  · exact hexQ_odd l h
theorem BytesOut.bad {l:List UInt8} {w w':World} {e:Ending} (h:hexW l=none) (he:e=.returned (.tuple #[.slice none 0 0,.bool false])∧w=w'):BytesOut l w e w':=⟨.inl ⟨h,he.1⟩,by rw [← he.2];exact Below.refl _ _⟩
theorem BytesOut.nil {w w':World} {e:Ending} (he:e=.returned (.tuple #[.slice none 0 0,.bool true])∧w=w'):BytesOut [45] w e w':=⟨.inr ⟨[],none,0,rfl,he.1,FlatQ.nil _ _ _,Nat.le_refl _⟩,by rw [← he.2];exact Below.refl _ _⟩
theorem scrBytes_any (s:ByteArray) (w:World) (hs:s.size≤100000000):Calls Tryz.prog 46 #[.string s] w (BytesOut s.data.toList w):=by
  have hl:s.data.toList.length=s.size:=by simp
  by_cases h1:s.data.toList=[45]
  · rw [h1,bytes_of h1]
    refine Calls.mono ?_ fun e w'=>BytesOut.nil
    go_enter Tryz.func46,Tryz.ntmps46
    go_wp2
    go_ret2
    exact⟨rfl,rfl⟩
  by_cases h2:s.data.toList=[]
  · rw [h2,bytes_of h2]
    refine Calls.mono ?_ fun e w'=>BytesOut.bad rfl
    go_enter Tryz.func46,Tryz.ntmps46
    go_wp2
    go_ret2
    exact⟨rfl,rfl⟩
  by_cases he:s.size % 2=0
  · exact scrBytes_go s w h1 h2 he hs
  · refine Calls.mono ?_ fun e w'=>BytesOut.bad (hexW_odd h1 (by omega))
    have f1:(s.toList==[45])=false:=by rw [beq_eq_false_iff_ne,txt_eq];exact h1
    have f2:s.toList.isEmpty=false:=by rw [txt_eq];cases hq:s.data.toList with
      | nil=>exact absurd hq h2
      | cons a l=>rfl
    have f3:((s.size:Int) % 2 != 0)=true:=by rw [bne_iff_ne];omega
    clear h1 h2 he hl
    go_enter Tryz.func46,Tryz.ntmps46
    go_wp2
    go_ret2
    exact⟨rfl,rfl⟩
set_option maxRecDepth 8000 in
set_option maxHeartbeats 4000000 in
theorem r45Bytes_go (s:ByteArray) (w:World) (h1:s.data.toList≠[45]) (h2:s.data.toList≠[]) (he:s.size % 2=0) (hs:s.size≤100000000):Calls Tryz.prog 49 #[.string s] w (BytesOut s.data.toList w):=by
  have f1:(s.toList==[45])=false:=by rw [beq_eq_false_iff_ne,txt_eq];exact h1
  have f2:s.toList.isEmpty=false:=by rw [txt_eq];cases hq:s.data.toList with
    | nil=>exact absurd hq h2
    | cons a l=>rfl
  have f3:((s.size:Int) % 2==1)=false:=by rw [beq_eq_false_iff_ne];omega
  have HW:=Lib.hid (hexW_q h1 h2)
  have HSL:Hid (s.data.toList.length=s.size):=by show _=_;simp
  clear h1 h2
  go_enter Tryz.func49,Tryz.ntmps49
  go_wp2_with fail
  go_loopw [4,5] (fun v iv wr=>∃ (k:Nat) (bs:List UInt8),iv=.int .i64 k∧k≤s.size∧k % 2=0∧Hid (OwnR w 5 1 v bs.length (bs.map byL) wr)∧Hid (hexQ s.data.toList=(hexQ (s.data.toList.drop k)).map (bs++·))∧bs.length≤k) (fun _ iv _=>s.size - (intOf iv).toNat)
  case atStart=>exact⟨0,[],rfl,by omega,rfl,OwnR.nil _ _ _ (Below.refl _ _),(by show _=_;rw [List.drop_zero];cases hexQ s.data.toList <;> rfl),by simp⟩
  case round=>
    obtain⟨k,bs,rfl,hk,hr2,HO,HS,hbs⟩:=hrel
    have HB:=Lib.hid HO.out.2
    by_cases h0:s.size≤k
    · have HE:Hid (hexQ s.data.toList=some bs):=by
        show _=_
        rw [HS.out,List.drop_of_length_le (by have:=HSL.out;omega)]
        show some (bs++[])=_
        rw [List.append_nil]
      have hge:(s.size:Int)≤(k:Int):=by omega
      clear HS
      go_wp2_with fail
      go_ret2
      exact BytesOut.own HO.out rfl (HW.out.trans HE.out)
    · obtain⟨a,b,t,ht⟩:=two_of (l:=s.data.toList.drop k) (by rw [List.length_drop];have:=HSL.out;omega)
      have e2:s.extract k (k+2)=toB [a,b]:=by
        rw [toB_ext,List.drop_take,ht,show k+2 - k=2 from by omega];rfl
      have e3:s.data.toList.drop (k+2)=t:=by rw [← List.drop_drop,ht];rfl
      have hst:=HS.out
      rw [ht] at hst
      obtain⟨h1,h2,h3⟩:=hexQ_step hst
      have HU:=fun W=>Lib.hid (r07Unhex_any (toB [a,b]) W)
      rw [toList_B] at HU
      rw [← e3] at h1
      have H1:=Lib.hid h1
      have H2:=Lib.hid h2
      have H3:=Lib.hid h3
      have i1:(0:Int)≤(k:Int):=by omega
      have i2:(k:Int)+2≤(s.size:Int):=by omega
      have i3:IntKind.i64.wrap ((k:Int)+2)=(k:Int)+2:=by rw [IntKind.wrap_i64];omega
      have i4:((k:Int)+2).toNat=k+2:=by omega
      have i5:(k:Int)≤(k:Int)+2:=by omega
      clear h1 h2 h3 hst e3 ht HS
      cases hu:unhexL [a,b] with
      | none=>
        rw [hu] at HU
        have HN:=Lib.hid (H2.out hu)
        clear hu
        go_wp2_with fail
        refine (HU _).out.mono ?_
        rintro e w1 ⟨rfl,rfl⟩
        go_wp2_with fail
        go_region
        all_goals
          go_wp2_with fail
          go_ret2
          exact⟨.inl ⟨HW.out.trans HN.out,rfl⟩,bdrew HB.out⟩
      | some n=>
        rw [hu] at HU
        obtain⟨n0,n1⟩:=unhexL_bd hu
        have HH:∀ W,Hid (Calls Tryz.prog 102 #[.int .u8 n] W fun e w'=>e=.returned (.string (toB (hexL n)))∧Below W.heap.size W w'):=fun W=>r07Hex_any n W n0 n1
        have hx:((toB (hexL n)).toList==(toB [a,b]).toList)=true∧Hid (hexQ s.data.toList=(hexQ (s.data.toList.drop (k+2))).map (bs++[UInt8.ofNat n.toNat]++·))∨((toB (hexL n)).toList==(toB [a,b]).toList)=false∧Hid (hexQ s.data.toList=none):=by
          rw [neq_txt]
          by_cases q:hexL n=[a,b]
          · exact .inl ⟨decide_eq_true q,H1.out n hu q⟩
          · exact .inr ⟨decide_eq_false q,H3.out n hu q⟩
        have HN8:Hid (n=((UInt8.ofNat n.toNat).toNat:Int)):=by
          show _=_
          rw [UInt8.toNat_ofNat']
          omega
        generalize toB (hexL n)=X at *
        go_wp2_with fail
        refine (HU _).out.mono ?_
        rintro e w1 ⟨rfl,rfl⟩
        go_wp2_with fail
        clear hu HU
        generalize toB [a,b]=Y at *
        clear f1 f2 f3 he n0 n1
        rcases hx with ⟨f5,HX⟩ | ⟨f5,HX⟩
        · have hS0:Below wr.heap.size wr wr.drew:=bdrew (Below.refl _ wr)
          refine wp_region_held_drew (S:=fun w'=>Below wr.heap.size wr w') (by kernel_rfl) hS0 (fun hHeld0=>?_)
          refine wpAnyH_take (i:=0) (oi:=⟨some 33,_,_,_,_,_⟩) (v:=?_) rfl (by kernel_rfl) (by kernel_rfl) (by kernel_rfl) (fun _ _ _ h=>h) (Or.inl ⟨by rfl,?_⟩) (by assumption) ?_
          rotate_left
          · intro w' hSw
            go_simp
            try with_reducible rfl
          try go_frame
          refine wpAnyH_take (i:=1) (oi:=⟨some 34,_,_,_,_,_⟩) (v:=?_) rfl (by kernel_rfl) (by kernel_rfl) (by kernel_rfl) (fun _ _ _ h=>h) (Or.inl ⟨by rfl,?_⟩) (by assumption) ?_
          rotate_left
          · intro w' hSw
            go_simp
            try with_reducible rfl
          try go_frame
          refine wpAnyH_take (i:=2) (oi:=⟨some 35,_,_,_,_,_⟩) (v:=?_) rfl (by kernel_rfl) (by kernel_rfl) (by kernel_rfl) (fun _ _ _ h=>h) (Or.inl ⟨by rfl,?_⟩) (by assumption) ?_
          rotate_left
          · intro w' hSw
            go_simp
            try with_reducible rfl
          try go_frame
          refine wpAnyH_take (i:=3) (oi:=⟨some 36,_,_,_,_,_⟩) (v:=?_) rfl (by kernel_rfl) (by kernel_rfl) (by kernel_rfl) (fun _ _ _ h=>h) (Or.inl ⟨by rfl,?_⟩) (by assumption) ?_
          rotate_left
          · intro w' hSw
            go_simp
            try with_reducible rfl
          try go_frame
          refine wpAnyH_take (i:=5) (oi:=⟨some 38,_,_,_,_,_⟩) (v:=?_) rfl (by kernel_rfl) (by kernel_rfl) (by kernel_rfl) (fun _ _ _ h=>h) (Or.inl ⟨by rfl,?_⟩) (by assumption) ?_
          rotate_left
          · intro w' hSw
            go_simp
            try with_reducible rfl
          try go_frame
          refine wpAnyH_take (i:=6) (oi:=⟨some 39,_,_,_,_,_⟩) (v:=?_) rfl (by kernel_rfl) (by kernel_rfl) (by kernel_rfl) (fun _ _ _ h=>h) (Or.inl ⟨by rfl,?_⟩) (by assumption) ?_
          rotate_left
          · intro w' hSw
            go_simp
            try with_reducible rfl
          try go_frame
          refine wpAnyH_take (i:=7) (oi:=⟨some 40,_,_,_,_,_⟩) (v:=?_) rfl (by kernel_rfl) (by kernel_rfl) (by kernel_rfl) (fun _ _ _ h=>h) (Or.inl ⟨by rfl,?_⟩) (by assumption) ?_
          rotate_left
          · intro w' hSw
            go_simp
            try with_reducible rfl
          try go_frame
          refine wpAnyH_take (i:=8) (oi:=⟨some 41,_,_,_,_,_⟩) (v:=?_) rfl (by kernel_rfl) (by kernel_rfl) (by kernel_rfl) (fun _ _ _ h=>h) (Or.inl ⟨by rfl,?_⟩) (by assumption) ?_
          rotate_left
          · intro w' hSw
            go_simp
            try with_reducible rfl
          try go_frame
          refine wpAnyH_take (i:=9) (oi:=⟨some 42,_,_,_,_,_⟩) (v:=?_) rfl (by kernel_rfl) (by kernel_rfl) (by kernel_rfl) (fun _ _ _ h=>h) (Or.inl ⟨by rfl,?_⟩) (by assumption) ?_
          rotate_left
          · intro w' hSw
            go_simp
            try with_reducible rfl
          try go_frame
          refine wpAnyH_ready (rs:=[4]) (by kernel_rfl) (by simp) ?_
          refine AllReadyH.cons (o:=⟨some 37,_,_,_,_,_⟩) rfl (fun K hK=>?_) AllReadyH.nil
          rw [if_pos (by rfl)]
          go_step
          refine (HH _).out.mono ?_
          rintro e w2 ⟨rfl,hb2⟩
          have HR3:Hid (Below wr.heap.size wr w2):=Lib.hid (hHeld0.trans (hb2.mono hHeld0.size))
          clear hb2
          try go_frame
          refine hK.out _ _ (HR3.out) (fun hHeld=>?_)
          clear hK K
          try go_frame
          refine wpAnyH_take (i:=10) (oi:=⟨some 43,_,_,_,_,_⟩) (v:=?_) rfl (by kernel_rfl) (by kernel_rfl) (by kernel_rfl) (fun _ _ _ h=>h) (Or.inl ⟨by rfl,?_⟩) (by assumption) ?_
          rotate_left
          · intro w' hSw
            go_simp
            try with_reducible rfl
          try go_frame
          refine wpAnyH_take (i:=11) (oi:=⟨some 44,_,_,_,_,_⟩) (v:=?_) rfl (by kernel_rfl) (by kernel_rfl) (by kernel_rfl) (fun _ _ _ h=>h) (Or.inl ⟨by rfl,?_⟩) (by assumption) ?_
          rotate_left
          · intro w' hSw
            go_simp
            try with_reducible rfl
          try go_frame
          refine wpAnyH_done (by kernel_rfl) ?_ _
          try go_frame
          have HB3:=Lib.hid (bthen HB.out HR3.out)
          all_goals
            obtain⟨v',W',hr,ho⟩:=pushU (HO.out.on HR3.out) n (by omega) 22
            have HR:=Lib.hid hr
            have HO3:Hid (OwnR w 5 1 v' (bs++[UInt8.ofNat n.toNat]).length ((bs++[UInt8.ofNat n.toNat]).map byL) W'):=by
              show OwnR _ _ _ _ _ _ _
              rw [List.length_append,List.map_append]
              have e:Value.int .u8 n=byL (UInt8.ofNat n.toNat):=by
                unfold byL
                rw [← HN8.out]
              rw [e] at ho
              exact ho
            clear hr ho
            go_wp2_with (at_builtin;refine wpList_append_known rfl _ _ 22 rfl _ _ _ rfl rfl HR.out ?_)
            go_roundw
            case rel=>exact⟨k+2,bs++[UInt8.ofNat n.toNat],by go_num,by omega,by omega,HO3,HX,by rw [List.length_append,List.length_singleton];omega⟩
            case measure=>simp [intOf];omega
        · have hS0:Below wr.heap.size wr wr.drew:=bdrew (Below.refl _ wr)
          refine wp_region_held_drew (S:=fun w'=>Below wr.heap.size wr w') (by kernel_rfl) hS0 (fun hHeld0=>?_)
          refine wpAnyH_take (i:=0) (oi:=⟨some 33,_,_,_,_,_⟩) (v:=?_) rfl (by kernel_rfl) (by kernel_rfl) (by kernel_rfl) (fun _ _ _ h=>h) (Or.inl ⟨by rfl,?_⟩) (by assumption) ?_
          rotate_left
          · intro w' hSw
            go_simp
            try with_reducible rfl
          try go_frame
          refine wpAnyH_take (i:=1) (oi:=⟨some 34,_,_,_,_,_⟩) (v:=?_) rfl (by kernel_rfl) (by kernel_rfl) (by kernel_rfl) (fun _ _ _ h=>h) (Or.inl ⟨by rfl,?_⟩) (by assumption) ?_
          rotate_left
          · intro w' hSw
            go_simp
            try with_reducible rfl
          try go_frame
          refine wpAnyH_take (i:=2) (oi:=⟨some 35,_,_,_,_,_⟩) (v:=?_) rfl (by kernel_rfl) (by kernel_rfl) (by kernel_rfl) (fun _ _ _ h=>h) (Or.inl ⟨by rfl,?_⟩) (by assumption) ?_
          rotate_left
          · intro w' hSw
            go_simp
            try with_reducible rfl
          try go_frame
          refine wpAnyH_take (i:=3) (oi:=⟨some 36,_,_,_,_,_⟩) (v:=?_) rfl (by kernel_rfl) (by kernel_rfl) (by kernel_rfl) (fun _ _ _ h=>h) (Or.inl ⟨by rfl,?_⟩) (by assumption) ?_
          rotate_left
          · intro w' hSw
            go_simp
            try with_reducible rfl
          try go_frame
          refine wpAnyH_take (i:=5) (oi:=⟨some 38,_,_,_,_,_⟩) (v:=?_) rfl (by kernel_rfl) (by kernel_rfl) (by kernel_rfl) (fun _ _ _ h=>h) (Or.inl ⟨by rfl,?_⟩) (by assumption) ?_
          rotate_left
          · intro w' hSw
            go_simp
            try with_reducible rfl
          try go_frame
          refine wpAnyH_take (i:=6) (oi:=⟨some 39,_,_,_,_,_⟩) (v:=?_) rfl (by kernel_rfl) (by kernel_rfl) (by kernel_rfl) (fun _ _ _ h=>h) (Or.inl ⟨by rfl,?_⟩) (by assumption) ?_
          rotate_left
          · intro w' hSw
            go_simp
            try with_reducible rfl
          try go_frame
          refine wpAnyH_take (i:=7) (oi:=⟨some 40,_,_,_,_,_⟩) (v:=?_) rfl (by kernel_rfl) (by kernel_rfl) (by kernel_rfl) (fun _ _ _ h=>h) (Or.inl ⟨by rfl,?_⟩) (by assumption) ?_
          rotate_left
          · intro w' hSw
            go_simp
            try with_reducible rfl
          try go_frame
          refine wpAnyH_take (i:=8) (oi:=⟨some 41,_,_,_,_,_⟩) (v:=?_) rfl (by kernel_rfl) (by kernel_rfl) (by kernel_rfl) (fun _ _ _ h=>h) (Or.inl ⟨by rfl,?_⟩) (by assumption) ?_
          rotate_left
          · intro w' hSw
            go_simp
            try with_reducible rfl
          try go_frame
          refine wpAnyH_take (i:=9) (oi:=⟨some 42,_,_,_,_,_⟩) (v:=?_) rfl (by kernel_rfl) (by kernel_rfl) (by kernel_rfl) (fun _ _ _ h=>h) (Or.inl ⟨by rfl,?_⟩) (by assumption) ?_
          rotate_left
          · intro w' hSw
            go_simp
            try with_reducible rfl
          try go_frame
          refine wpAnyH_ready (rs:=[4]) (by kernel_rfl) (by simp) ?_
          refine AllReadyH.cons (o:=⟨some 37,_,_,_,_,_⟩) rfl (fun K hK=>?_) AllReadyH.nil
          rw [if_pos (by rfl)]
          go_step
          refine (HH _).out.mono ?_
          rintro e w2 ⟨rfl,hb2⟩
          have HR3:Hid (Below wr.heap.size wr w2):=Lib.hid (hHeld0.trans (hb2.mono hHeld0.size))
          clear hb2
          try go_frame
          refine hK.out _ _ (HR3.out) (fun hHeld=>?_)
          clear hK K
          try go_frame
          refine wpAnyH_take (i:=10) (oi:=⟨some 43,_,_,_,_,_⟩) (v:=?_) rfl (by kernel_rfl) (by kernel_rfl) (by kernel_rfl) (fun _ _ _ h=>h) (Or.inl ⟨by rfl,?_⟩) (by assumption) ?_
          rotate_left
          · intro w' hSw
            go_simp
            try with_reducible rfl
          try go_frame
          refine wpAnyH_take (i:=11) (oi:=⟨some 44,_,_,_,_,_⟩) (v:=?_) rfl (by kernel_rfl) (by kernel_rfl) (by kernel_rfl) (fun _ _ _ h=>h) (Or.inl ⟨by rfl,?_⟩) (by assumption) ?_
          rotate_left
          · intro w' hSw
            go_simp
            try with_reducible rfl
          try go_frame
          refine wpAnyH_done (by kernel_rfl) ?_ _
          try go_frame
          have HB3:=Lib.hid (bthen HB.out HR3.out)
          all_goals
            go_wp2_with fail
            go_ret2
            exact⟨.inl ⟨HW.out.trans HX.out,rfl⟩,HB3.out⟩
theorem r45Bytes_any (s:ByteArray) (w:World) (hs:s.size≤100000000):Calls Tryz.prog 49 #[.string s] w (BytesOut s.data.toList w):=by
  have hl:s.data.toList.length=s.size:=by simp
  by_cases h1:s.data.toList=[45]
  · rw [h1,bytes_of h1]
    refine Calls.mono ?_ fun e w'=>BytesOut.nil
    go_enter Tryz.func49,Tryz.ntmps49
    go_wp2
    go_ret2
    exact⟨rfl,rfl⟩
  by_cases h2:s.data.toList=[]
  · rw [h2,bytes_of h2]
    refine Calls.mono ?_ fun e w'=>BytesOut.bad rfl
    go_enter Tryz.func49,Tryz.ntmps49
    go_wp2
    go_ret2
    exact⟨rfl,rfl⟩
  by_cases he:s.size % 2=0
  · exact r45Bytes_go s w h1 h2 he hs
  · refine Calls.mono ?_ fun e w'=>BytesOut.bad (hexW_odd h1 (by omega))
    have f1:(s.toList==[45])=false:=by rw [beq_eq_false_iff_ne,txt_eq];exact h1
    have f2:s.toList.isEmpty=false:=by rw [txt_eq];cases hq:s.data.toList with
      | nil=>exact absurd hq h2
      | cons a l=>rfl
    have f3:((s.size:Int) % 2==1)=true:=by rw [beq_iff_eq];omega
    clear h1 h2 he hl
    go_enter Tryz.func49,Tryz.ntmps49
    go_wp2
    go_ret2
    exact⟨rfl,rfl⟩
end Go.Proofs.YtaiepcgfofpmjaaGreat
