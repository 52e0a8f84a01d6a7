/- Contracts of strings.Builder at this program: copyCheck, WriteByte, WriteString, String, of a builder that the call itself has made. (Turned from the shelf's own walks of these methods, which lay at other bodies.) -/
import Derived.Test.YtaiepcgfofpmjaaGreatProg
import Derived.Test.YtaiepcgfofpmjaaGreatS00
import Derived.Lib.Builder
import Derived.Lib.AppendStr
import Derived.Lib.UnsafeStr
import Derived.Lib.Strings
import Derived.Laws.Externs
import Derived.Test.YtaiepcgfofpmjaaGreatS17
import Derived.Test.YtaiepcgfofpmjaaGreatS18
namespace Go.Proofs.YtaiepcgfofpmjaaGreat
set_option linter.unusedVariables false
open Go.RowKit
theorem bld_size:(Tryz.prog.info? 157).map (·.size)=some 2:=by kernel_rfl
theorem bld_lies:liesAt Tryz.prog Tryz.prog.depth 157 (2 / Tryz.prog.cellsOf 157) 0 157 1=true:=by kernel_rfl
theorem byte_info:(Tryz.prog.info? 5).map (fun i=>(i.zero,i.size,i.bytes))=some (some (.int .u8 0),1,1):=by kernel_rfl
theorem byte_cells:Tryz.prog.cellsOf 5=1:=by kernel_rfl
theorem bld_ne_byte:(157:TypeId)≠5:=by decide
theorem bld_below {T e:TypeId} {B b:Nat} {p:Value} {bs:List Value} {w w':World} (h:Lib.BuilderAt T e B b p bs w) (hb:Below w.heap.size w w'):Lib.BuilderAt T e B b p bs w':=by
  have hlt:=h.lt
  obtain⟨hB,v,hbk,hown,hne⟩:=h
  exact⟨hB,v,(hb.block b hlt).trans hbk,hown.kept (row:=none) ⟨hb.os,hb.tape,hb.output,hb.size,fun i hi _=>hb.block i hi⟩ (Classical.em _),hne⟩
set_option maxHeartbeats 1000000 in
set_option maxRecDepth 100000 in
theorem copyCheck_used (b:Nat) (w:World) (h0:w.cell? ⟨b,0,none⟩=some (.pointer (some ⟨b,0,none⟩))) :
    Calls Tryz.prog 104 #[.pointer (some ⟨b,0,none⟩)] w fun e w'=>e=.returned (.tuple #[])∧w'=w:=by
  obtain⟨j,hj,_⟩:=Option.map_eq_some_iff.1 bld_size
  go_enter Tryz.func104,Tryz.ntmps104
  go_wp2
  rw [Lib.run_neq_ptr_same w _ Tryz.underlying155 hj]
  go_wp2
  go_end0
  exact⟨rfl,rfl⟩
set_option maxHeartbeats 1000000 in
set_option maxRecDepth 100000 in
theorem copyCheck_fresh (b:Nat) (w:World) (h0:w.cell? ⟨b,0,none⟩=some (.pointer none)) (hsh:w.shape? b=some (157,2)) (hfz:w.frozen? ⟨b,0,none⟩=false) :
    Calls Tryz.prog 104 #[.pointer (some ⟨b,0,none⟩)] w fun e w'=>e=.returned (.tuple #[])∧w'=w.setCell ⟨b,0,none⟩ (.pointer (some ⟨b,0,none⟩)):=by
  obtain⟨j,hj,hjs⟩:=Option.map_eq_some_iff.1 bld_size
  go_enter Tryz.func104,Tryz.ntmps104
  go_wp2
  rw [Lib.run_to_unsafe w ⟨b,0,none⟩ Tryz.underlying155 Tryz.underlying250 hj (by rw [hjs];decide) hsh (Nat.zero_lt_succ 1)]
  simp only [Result.andThen]
  rw [Oper.upon_value]
  go_wp2
  rw [run_callFunc_extern Tryz.func133 (by kernel_rfl) (by kernel_rfl) (by kernel_rfl) (e:=Extern.AbiNoEscape.same) (by kernel_rfl)]
  rw [Lib.run_noEscape]
  simp only [Result.andThen]
  rw [Oper.upon_value]
  go_wp2
  rw [Lib.run_from_unsafe w ⟨b,0,none⟩ Tryz.underlying250 Tryz.underlying155 hj hsh bld_lies]
  simp only [Result.andThen]
  rw [Oper.upon_value]
  go_wp2
  go_end0
  exact⟨rfl,rfl⟩
theorem copyCheck_any (B b:Nat) (bs:List Value) (w:World) (h:Lib.IsBuilder 157 5 B b bs w) :
    Calls Tryz.prog 104 #[.pointer (some ⟨b,0,none⟩)] w fun e w'=>e=.returned (.tuple #[])∧(Lib.BuilderAt 157 5 B b (.pointer (some ⟨b,0,none⟩)) bs w'∧Below B w w'):=by
  rcases h with h | h
  · refine (copyCheck_fresh b w h.cell0 h.shape h.frozen0).mono ?_
    rintro e w' ⟨rfl,rfl⟩
    exact⟨rfl,h.used _,(Below.refl B w).setCell (p:=⟨b,0,none⟩) h.1 _⟩
  · refine (copyCheck_used b w h.cell0).mono ?_
    rintro e w' ⟨rfl,rfl⟩
    exact⟨rfl,h,Below.refl B _⟩
set_option maxHeartbeats 2000000 in
set_option maxRecDepth 100000 in
theorem WriteByte_any (B b:Nat) (bs:List Value) (c:Int) (w:World) (h:Lib.IsBuilder 157 5 B b bs w) (hlen:bs.length+1≤140737488355328) (hBw:B≤w.heap.size) :
    Calls Tryz.prog 63 #[.pointer (some ⟨b,0,none⟩),.int .u8 c] w fun e w'=>e=.returned .nilIface∧(Lib.BuilderAt 157 5 B b (.pointer (some ⟨b,0,none⟩)) (bs++[.int .u8 c]) w'∧Below B w w'):=by
  obtain⟨i0,hi,hz0,hz1,hz2⟩:=info_parts byte_info
  go_enter Tryz.func63,Tryz.ntmps63
  go_wp2_with (go_at_call 104;refine (copyCheck_any B b bs _ h).mono ?_)
  rintro e w1 ⟨rfl,h1,hb1⟩
  obtain⟨hB,v,hbk,hown,hne⟩:=h1
  have c0:w1.cell? ⟨b,0,none⟩=some (.pointer (some ⟨b,0,none⟩)):=by rw [Lib.cell_of_heap hbk];rfl
  have c1:w1.cell? ⟨b,1,none⟩=some v:=by rw [Lib.cell_of_heap hbk];rfl
  go_wp2_with (at_builtin;refine wpList_append_own _ rfl _ _ 22 rfl B 5 i0 (.int .u8 0) 1 1 Tryz.underlying22 hi hz0 hz1 hz2 rfl (by decide) _ _ _ rfl (hown.alloc _) ⟨w1.heap.size,0,none⟩ 1 1 [.int .u8 c] rfl rfl ?c1 ?c2 ?c3 ?c4 ?c5 ?_)
  case c1=>
    intro j u hj
    match j,hj with
    | 0,hj=>simp at hj;subst hj;simp [Addr.add]
  case c2=>intro u hu;simp at hu;subst hu;rfl
  case c3=>unfold maxLen;omega
  case c4=>omega
  case c5=>have:=hb1.size;simp;omega
  intro v' w2 hown' hgrow _
  have hlt:b < w1.heap.size:=by
    rcases Nat.lt_or_ge b w1.heap.size with h' | h'
    · exact h'
    · simp [Array.getElem?_eq_none h'] at hbk
  have hb2:w2.heap[b]?=some (.cells #[.pointer (some ⟨b,0,none⟩),v] 157 (0,0)):=by
    rw [hgrow.block b (by simp;omega) (fun e=>hne e.symm),Lib.alloc_old w1 _ b hlt]
    exact hbk
  have d0:w2.cell? ⟨b,0,none⟩=some (.pointer (some ⟨b,0,none⟩)):=by rw [Lib.cell_of_heap hb2];rfl
  have d1:w2.cell? ⟨b,1,none⟩=some v:=by rw [Lib.cell_of_heap hb2];rfl
  have f1:w2.frozen? ⟨b,1,none⟩=false:=Lib.frozen_of_heap hb2 1
  obtain⟨g,cap,rfl⟩:∃ g cap,v'=.slice (some ⟨g,0,none⟩) (bs.length+1) cap:=by
    rcases hown'.2 with ⟨_,h0⟩ | ⟨g,cap,cur,hv,_⟩
    · omega
    · exact⟨g,cap,hv⟩
  go_wp2
  go_ret
  refine⟨rfl,?_,?_⟩
  · exact Lib.BuilderAt.put (T:=157) (e:=5) hB hb2 (bs':=bs++[.int .u8 c]) (by simpa using hown') bld_ne_byte
  · exact ((hb1.alloc (by have:=hb1.size;omega) _).grown hgrow (by have:=hb1.size;simp;omega) (fun k hk=>(hown.lt k hk).1)).setCell (p:=⟨b,1,none⟩) hB _
set_option maxHeartbeats 2000000 in
set_option maxRecDepth 100000 in
theorem WriteString_any (B b:Nat) (bs:List Value) (s:ByteArray) (w:World) (h:Lib.IsBuilder 157 5 B b bs w) (hlen:bs.length+s.size≤140737488355328) (hBw:B≤w.heap.size) :
    Calls Tryz.prog 62 #[.pointer (some ⟨b,0,none⟩),.string s] w fun e w'=>e=.returned (.tuple #[.int .i64 s.size,.nilIface])∧(Lib.BuilderAt 157 5 B b (.pointer (some ⟨b,0,none⟩)) (bs++Lib.strCells s) w'∧Below B w w'):=by
  obtain⟨i0,hi,hz0,hz1,hz2⟩:=info_parts byte_info
  go_enter Tryz.func62,Tryz.ntmps62
  go_wp2_with (go_at_call 104;refine (copyCheck_any B b bs _ h).mono ?_)
  rintro e w1 ⟨rfl,h1,hb1⟩
  obtain⟨hB,v,hbk,hown,hne⟩:=h1
  have c0:w1.cell? ⟨b,0,none⟩=some (.pointer (some ⟨b,0,none⟩)):=by rw [Lib.cell_of_heap hbk];rfl
  have c1:w1.cell? ⟨b,1,none⟩=some v:=by rw [Lib.cell_of_heap hbk];rfl
  go_wp2_with (at_builtin;refine Lib.wpList_append_own_string _ rfl _ _ 22 9 rfl B 5 i0 Tryz.underlying22 Tryz.underlying9 hi hz0 hz1 hz2 _ _ _ rfl hown s rfl ?c3 ?c4 ?c5 ?_)
  case c3=>unfold maxLen;omega
  case c4=>omega
  case c5=>have:=hb1.size;omega
  intro v' w2 hown' hgrow _
  have hlt:b < w1.heap.size:=by
    rcases Nat.lt_or_ge b w1.heap.size with h' | h'
    · exact h'
    · simp [Array.getElem?_eq_none h'] at hbk
  have hb2:w2.heap[b]?=some (.cells #[.pointer (some ⟨b,0,none⟩),v] 157 (0,0)):=by
    rw [hgrow.block b hlt (fun e=>hne e.symm)]
    exact hbk
  have d0:w2.cell? ⟨b,0,none⟩=some (.pointer (some ⟨b,0,none⟩)):=by rw [Lib.cell_of_heap hb2];rfl
  have d1:w2.cell? ⟨b,1,none⟩=some v:=by rw [Lib.cell_of_heap hb2];rfl
  have f1:w2.frozen? ⟨b,1,none⟩=false:=Lib.frozen_of_heap hb2 1
  obtain⟨ao,n',cap,rfl⟩:∃ ao n' cap,v'=.slice ao n' cap:=by
    rcases hown'.2 with ⟨hv,_⟩ | ⟨g,cap,cur,hv,_⟩
    · exact⟨_,_,_,hv⟩
    · exact⟨_,_,_,hv⟩
  go_wp2
  go_ret2
  refine⟨rfl,?_,?_⟩
  · exact Lib.BuilderAt.put (T:=157) (e:=5) hB hb2 (bs':=bs++Lib.strCells s) (by simpa [Lib.strCells_length] using hown') bld_ne_byte
  · exact (hb1.grown hgrow (by have:=hb1.size;omega) (fun k hk=>(hown.lt k hk).1)).setCell (p:=⟨b,1,none⟩) hB _
set_option maxHeartbeats 1000000 in
set_option maxRecDepth 100000 in
theorem String_any (B b:Nat) (l:List UInt8) (w:World) (h:Lib.IsBuilder 157 5 B b (Lib.byteCells l) w) (h0:l≠[]) :
    Calls Tryz.prog 64 #[.pointer (some ⟨b,0,none⟩)] w fun e w'=>e=.returned (.string ⟨l.toArray⟩)∧Below B w w':=by
  obtain⟨p,hB,v,hbk,hown,hne⟩:∃ p,Lib.BuilderAt 157 5 B b p (Lib.byteCells l) w:=by
    rcases h with h | h
    · exact⟨_,h⟩
    · exact⟨_,h⟩
  have hl0:l.length≠0:=by simpa using h0
  rw [Lib.byteCells_length] at hown
  obtain⟨g,cap,cur,rfl,hbg,hg,hnc,hcm,hcs,htake⟩:∃ g cap cur,v=.slice (some ⟨g,0,none⟩) l.length cap∧B≤g∧w.heap[g]?=some (.cells cur 5 (0,0))∧l.length≤cap∧cap≤maxLen∧cur.size=cap * 1∧cur.toList.take (l.length * 1)=Lib.byteCells l:=by
    rcases hown.2 with ⟨_,hz⟩ | ⟨g,cap,cur,hv,r⟩
    · exact absurd hz hl0
    · exact⟨g,cap,cur,hv,r⟩
  have c1:w.drew.cell? ⟨b,1,none⟩=some (.slice (some ⟨g,0,none⟩) l.length cap):=by
    have:w.drew.heap[b]?=some (.cells #[p,.slice (some ⟨g,0,none⟩) l.length cap] 157 (0,0)):=hbk
    rw [Lib.cell_of_heap this];rfl
  have hSD:(Builtin.unsafeSliceData_ #[22] 216 #[.slice (some ⟨g,0,none⟩) l.length cap]).run Tryz.prog w.drew=.ok (.pointer (some ⟨g,0,none⟩)) w.drew:=
    Lib.run_unsafeSliceData_row _ _ _ _ _ _ (by omega)
  have hUS:(Builtin.unsafeString_ #[216,3] 9 #[.pointer (some ⟨g,0,none⟩),.int .i64 l.length]).run Tryz.prog w.drew=.ok (.string ⟨l.toArray⟩) (w.drew.freeze ⟨g,0,none⟩ l.length):=by
    refine Lib.run_unsafeString_row w.drew 216 3 9 5 Tryz.underlying216 byte_cells g cur.size (by have hg':w.drew.heap[g]?=some (.cells cur 5 (0,0)):=hg;simp [World.shape?,hg']) l h0 (by omega) (by unfold maxLen at hcm;omega) ?_
    intro j x hx
    have:=hown.cells (g:=g) rfl j (.int .u8 x.toNat) (by simp [Lib.byteCells,hx])
    exact this
  go_enter Tryz.func64,Tryz.ntmps64
  go_wp2
  go_region
  all_goals (go_wp2;go_ret;exact⟨rfl,Lib.below_freeze (Below.drew (Below.refl B w)) (p:=⟨g,0,none⟩) hbg _⟩)
theorem bld_new (w:World):Lib.IsBuilder 157 5 w.heap.size w.heap.size [] (w.alloc (.cells #[.pointer none,.slice none 0 0] 157)):=
  .inl ⟨Nat.le_refl _,.slice none 0 0,heap_alloc_new w _,World.ownsRow_nil _ _ _ _,by simp [Value.ownBlock]⟩
theorem bcells_app (a b:List UInt8):Lib.byteCells (a++b)=Lib.byteCells a++Lib.byteCells b:=by simp [Lib.byteCells]
theorem bcells_str (l:List UInt8):Lib.strCells (toB l)=Lib.byteCells l:=by rw [Lib.strCells_eq];show Lib.byteCells (toB l).data.toList=_;rw [toList_B]
def BldI (w:World) (l:List UInt8) (W:World):Prop:=Lib.IsBuilder 157 5 w.heap.size w.heap.size (Lib.byteCells l) W∧Below w.heap.size w W∧w.heap.size < W.heap.size
theorem BldI.new (w:World):BldI w [] (w.alloc (.cells #[.pointer none,.slice none 0 0] 157)):=⟨bld_new w,below_new _ _,by simp⟩
theorem isb_below {T e:TypeId} {B b:Nat} {bs:List Value} {w w':World} (h:Lib.IsBuilder T e B b bs w) (hb:Below w.heap.size w w'):Lib.IsBuilder T e B b bs w':=by
  rcases h with h | h
  · exact .inl (bld_below h hb)
  · exact .inr (bld_below h hb)
theorem BldI.on {w W W':World} {l:List UInt8} (h:BldI w l W) (hb:Below W.heap.size W W'):BldI w l W':=⟨isb_below h.1 hb,bthen h.2.1 hb,Nat.lt_of_lt_of_le h.2.2 hb.size⟩
theorem BldI.str {w W:World} {l:List UInt8} (h:BldI w l W) (m:List UInt8) (hl:l.length≤1000000000) (hm:m.length≤1000000000) :
    Calls Tryz.prog 62 #[.pointer (some ⟨w.heap.size,0,none⟩),.string (toB m)] W fun e W'=>e=.returned (.tuple #[.int .i64 (toB m).size,.nilIface])∧BldI w (l++m) W':=by
  refine (WriteString_any w.heap.size w.heap.size _ (toB m) W h.1 (by rw [Lib.byteCells_length,size_B];omega) h.2.1.size).mono ?_
  rintro e W' ⟨rfl,h1,h2⟩
  refine⟨rfl,?_,h.2.1.trans h2,Nat.lt_of_lt_of_le h.2.2 h2.size⟩
  rw [bcells_app,← bcells_str m]
  exact .inr h1
theorem BldI.byte {w W:World} {l:List UInt8} (h:BldI w l W) (c:UInt8) (hl:l.length≤1000000000) :
    Calls Tryz.prog 63 #[.pointer (some ⟨w.heap.size,0,none⟩),.int .u8 (c.toNat:Int)] W fun e W'=>e=.returned .nilIface∧BldI w (l++[c]) W':=by
  refine (WriteByte_any w.heap.size w.heap.size _ (c.toNat:Int) W h.1 (by rw [Lib.byteCells_length];omega) h.2.1.size).mono ?_
  rintro e W' ⟨rfl,h1,h2⟩
  refine⟨rfl,?_,h.2.1.trans h2,Nat.lt_of_lt_of_le h.2.2 h2.size⟩
  rw [bcells_app]
  exact .inr h1
theorem BldI.text {w W:World} {l:List UInt8} (h:BldI w l W) (h0:l≠[]) :
    Calls Tryz.prog 64 #[.pointer (some ⟨w.heap.size,0,none⟩)] W fun e W'=>e=.returned (.string (toB l))∧Below w.heap.size w W':=by
  refine (String_any w.heap.size w.heap.size l W h.1 h0).mono ?_
  rintro e W' ⟨rfl,h1⟩
  exact⟨rfl,h.2.1.trans h1⟩
def hexF (bs:List UInt8):List UInt8:=bs.flatMap fun c=>hexL (c.toNat:Int)
theorem hexF_len (bs:List UInt8):(hexF bs).length=2 * bs.length:=by
  induction bs with
  | nil=>rfl
  | cons c r ih=>
    obtain⟨a,b,h,-⟩:=hexL_of c
    show (hexL (c.toNat:Int)++hexF r).length=_
    rw [List.length_append,ih,h]
    show 2+2 * r.length=2 * (r.length+1)
    omega
theorem hexF_step (bs:List UInt8) (k:Nat) (h:k < bs.length):hexF (bs.take (k+1))=hexF (bs.take k)++hexL (bs[k].toNat:Int):=by
  unfold hexF
  rw [List.take_succ_eq_append_getElem h,List.flatMap_append]
  simp
theorem hexT_some {bs:List UInt8} (h:bs≠[]):hexT bs=hexF bs:=if_neg h
theorem byte_at {Q:Nat→Prop} {w W:World} {A:Option Addr} {bs:List UInt8} (h:FlatQ Q w A (bs.map byL)) (hb:Below w.heap.size w W) (k:Nat) (hk:k < bs.length):∃ b off,A=some ⟨b,off,none⟩∧W.cell? ⟨b,off+k,none⟩=some (.int .u8 (bs[k].toNat:Int)):=by
  obtain⟨b,off,h1,h2,h3⟩:=h.lt k (byL bs[k]) (by rw [List.getElem?_map,List.getElem?_eq_getElem hk];rfl)
  exact⟨b,off,h1,(hb.cell (p:=⟨b,off+k,none⟩) h2.2).trans h3⟩
set_option maxHeartbeats 2000000 in
theorem scrHex_any {Q:Nat→Prop} {w:World} (A:Option Addr) (c:Nat) (bs:List UInt8) (h:FlatQ Q w A (bs.map byL)) (hm:bs.length≤100000000):Calls Tryz.prog 54 #[.slice A bs.length c] w fun e w'=>e=.returned (.string (toB (hexT bs)))∧Below w.heap.size w w':=by
  by_cases h0:bs=[]
  · subst h0
    clear h
    go_enter Tryz.func54,Tryz.ntmps54
    go_wp2
    go_ret
    exact⟨rfl,Below.refl _ _⟩
  have HT:=Lib.hid (hexT_some h0)
  have hp:0 < bs.length:=List.length_pos_iff.2 h0
  have HF:=Lib.hid h
  have HN0:Hid (hexF bs≠[]):=fun q=>by have:=hexF_len bs;rw [q] at this;simp at this;omega
  obtain⟨N,hN⟩:∃ N,bs.length=N:=⟨_,rfl⟩
  have HL:=Lib.hid hN
  rw [hN] at hm hp ⊢
  clear h h0 hN
  have f0:((N:Int)==0)=false:=by rw [beq_eq_false_iff_ne];omega
  have HB0:=Lib.hid (BldI.new w)
  go_enter Tryz.func54,Tryz.ntmps54
  go_wp2_with fail
  go_loopw [11] (fun iv wr=>∃ k:Nat,iv=.int .i64 k∧k≤N∧Hid (BldI w (hexF (bs.take k)) wr)) (fun iv _=>N - (intOf iv).toNat)
  case atStart=>exact⟨0,rfl,by omega,HB0⟩
  case round=>
    obtain⟨k,rfl,hk,HB⟩:=hrel
    by_cases hlt:k < N
    · have hkl:k < bs.length:=by rw [HL.out];exact hlt
      obtain⟨b,off,rfl,hc⟩:=byte_at HF.out HB.out.2.1 k hkl
      have hu:=bs[k].toNat_lt
      have HH:=fun W=>Lib.hid (Hex_any (bs[k].toNat:Int) W (by omega) (by omega))
      have HS:=Lib.hid (hexF_step bs k hkl)
      have hfl:(hexF (bs.take k)).length≤200000000:=by rw [hexF_len,List.length_take];omega
      have hxl:(hexL (bs[k].toNat:Int)).length≤2:=Nat.le_refl _
      have HHL:=Lib.hid (And.intro hfl hxl)
      generalize (bs[k].toNat:Int)=x at *
      clear hfl hxl
      go_wp2_with fail
      refine (HH _).out.mono ?_
      rintro e w1 ⟨rfl,hb⟩
      have HB2:=Lib.hid (HB.out.on hb)
      clear hb
      go_wp2_with fail
      refine (HB2.out.str (hexL x) (by have:=HHL.out.1;omega) (by have:=HHL.out.2;omega)).mono ?_
      rintro e w2 ⟨rfl,hb⟩
      have HB3:Hid (BldI w (hexF (bs.take (k+1))) w2):=by show BldI _ _ _;rw [HS.out];exact hb
      clear hb
      go_wp2_with fail
      go_roundw
      case rel=>exact⟨k+1,by go_num,by omega,HB3⟩
      case measure=>simp [intOf];omega
    · have hge:(N:Int)≤(k:Int):=by omega
      have HBE:Hid (BldI w (hexF bs) wr):=by
        have:=HB.out
        rw [List.take_of_length_le (by rw [HL.out];omega)] at this
        exact this
      go_wp2_with fail
      refine (HBE.out.text HN0.out).mono ?_
      rintro e w2 ⟨rfl,hb⟩
      go_wp2_with fail
      go_ret
      exact⟨by rw [HT.out];rfl,hb⟩
def tailT (ls:List (List UInt8)):List UInt8:=ls.flatMap fun l=>32 :: l
theorem joinB_tail:∀ (ls:List (List UInt8)) (w:List UInt8),joinB 32 (w :: ls)=w++tailT ls
  | [],w=>by show w=w++[];rw [List.append_nil]
  | l :: ls,w=>by
    show w++32 :: joinB 32 (l :: ls)=_
    rw [joinB_tail ls l]
    rfl
theorem tailT_step (ls:List (List UInt8)) (k:Nat) (h:k < ls.length):tailT (ls.take (k+1))=tailT (ls.take k)++[32]++ls[k]:=by
  unfold tailT
  rw [List.take_succ_eq_append_getElem h,List.flatMap_append]
  simp
theorem tailT_le (ls:List (List UInt8)) (k:Nat):(tailT (ls.take k)).length≤(tailT ls).length:=by
  have:tailT ls=tailT (ls.take k)++tailT (ls.drop k):=by unfold tailT;rw [← List.flatMap_append,List.take_append_drop]
  rw [this,List.length_append]
  omega
theorem str_at {Q:Nat→Prop} {w W:World} {A:Option Addr} {ls:List (List UInt8)} (h:FlatQ Q w A (ls.map strL)) (hb:Below w.heap.size w W) (k:Nat) (hk:k < ls.length):∃ b off,A=some ⟨b,off,none⟩∧W.cell? ⟨b,off+k,none⟩=some (.string (toB ls[k])):=by
  obtain⟨b,off,h1,h2,h3⟩:=h.lt k (strL ls[k]) (by rw [List.getElem?_map,List.getElem?_eq_getElem hk];rfl)
  exact⟨b,off,h1,(hb.cell (p:=⟨b,off+k,none⟩) h2.2).trans h3⟩
set_option maxHeartbeats 2000000 in
theorem scrRow_any {Q:Nat→Prop} {w:World} (x:List UInt8) (A:Option Addr) (c:Nat) (ls:List (List UInt8)) (h:FlatQ Q w A (ls.map strL)) (hx:x≠[]) (hxl:x.length≤100000000) (hm:ls.length≤100000000) (ht:(tailT ls).length≤100000000):Calls Tryz.prog 53 #[.string (toB x),.slice A ls.length c] w fun e w'=>e=.returned (.string (toB (joinB 32 (x :: ls))))∧Below w.heap.size w w':=by
  rw [joinB_tail]
  have HF:=Lib.hid h
  have HX:=Lib.hid hx
  obtain⟨N,hN⟩:∃ N,ls.length=N:=⟨_,rfl⟩
  have HL:=Lib.hid hN
  rw [hN] at hm ⊢
  clear h hx hN
  have HB0:=Lib.hid (BldI.new w)
  go_enter Tryz.func53,Tryz.ntmps53
  go_wp2_with fail
  refine (HB0.out.str x (by simp) (by omega)).mono ?_
  rintro e w1 ⟨rfl,hb⟩
  have HB1:Hid (BldI w (x++tailT (ls.take 0)) w1):=by show BldI _ _ _;rw [List.take_zero];exact (List.append_nil x).symm ▸ hb
  clear hb HB0
  go_wp2_with fail
  go_loopw [12] (fun iv wr=>∃ k:Nat,iv=.int .i64 k∧k≤N∧Hid (BldI w (x++tailT (ls.take k)) wr)) (fun iv _=>N - (intOf iv).toNat)
  case atStart=>exact⟨0,rfl,by omega,HB1⟩
  case round=>
    obtain⟨k,rfl,hk,HB⟩:=hrel
    by_cases hlt:k < N
    · have hkl:k < ls.length:=by rw [HL.out];exact hlt
      obtain⟨b,off,rfl,hc⟩:=str_at HF.out HB.out.2.1 k hkl
      have HS:=Lib.hid (tailT_step ls k hkl)
      have HLN:Hid ((x++tailT (ls.take k)).length≤200000000∧ls[k].length≤100000000):=by
        have h1:=tailT_le ls k
        have h2:=tailT_le ls (k+1)
        rw [HS.out,List.length_append] at h2
        refine⟨by rw [List.length_append];omega,by omega⟩
      generalize ls[k]=y at *
      go_wp2_with fail
      refine (HB.out.byte 32 (by have:=HLN.out.1;omega)).mono ?_
      rintro e w2 ⟨rfl,hb⟩
      have HB2:=Lib.hid hb
      clear hb
      go_wp2_with fail
      refine (HB2.out.str y (by have:=HLN.out.1;rw [List.length_append,List.length_singleton];omega) (by have:=HLN.out.2;omega)).mono ?_
      rintro e w3 ⟨rfl,hb⟩
      have HB3:Hid (BldI w (x++tailT (ls.take (k+1))) w3):=by show BldI _ _ _;rw [HS.out,← List.append_assoc,← List.append_assoc];exact hb
      clear hb
      go_wp2_with fail
      go_roundw
      case rel=>exact⟨k+1,by go_num,by omega,HB3⟩
      case measure=>simp [intOf];omega
    · have hge:(N:Int)≤(k:Int):=by omega
      have HBE:Hid (BldI w (x++tailT ls) wr):=by
        have:=HB.out
        rw [List.take_of_length_le (by rw [HL.out];omega)] at this
        exact this
      have HNE:Hid (x++tailT ls≠[]):=fun q=>HX.out (List.append_eq_nil_iff.1 q).1
      go_wp2_with fail
      refine (HBE.out.text HNE.out).mono ?_
      rintro e w2 ⟨rfl,hb⟩
      go_wp2_with fail
      go_ret
      exact⟨rfl,hb⟩
theorem int_at {Q:Nat→Prop} {w W:World} {A:Option Addr} {ns:List Int} (h:FlatQ Q w A (ns.map intL)) (hb:Below w.heap.size w W) (k:Nat) (hk:k < ns.length):∃ b off,A=some ⟨b,off,none⟩∧W.cell? ⟨b,off+k,none⟩=some (.int .i64 ns[k]):=by
  obtain⟨b,off,h1,h2,h3⟩:=h.lt k (intL ns[k]) (by rw [List.getElem?_map,List.getElem?_eq_getElem hk];rfl)
  exact⟨b,off,h1,(hb.cell (p:=⟨b,off+k,none⟩) h2.2).trans h3⟩
theorem take_map {α β:Type} (f:α→β) (l:List α) (k:Nat) (h:k < l.length):(l.take (k+1)).map f=(l.take k).map f++[f l[k]]:=by
  rw [List.take_succ_eq_append_getElem h,List.map_append]
  rfl
set_option maxHeartbeats 2000000 in
theorem scrAll_any {Q:Nat→Prop} {w:World} (A:Option Addr) (c:Nat) (ns:List Int) (h:FlatQ Q w A (ns.map intL)) (hi:∀ n∈ns,I64 n) (hm:ns.length≤100000000):Calls Tryz.prog 56 #[.slice A ns.length c] w (StrsOut (ns.map dgT) w):=by
  have HF:=Lib.hid h
  have HI:=Lib.hid hi
  obtain⟨N,hN⟩:∃ N,ns.length=N:=⟨_,rfl⟩
  have HL:=Lib.hid hN
  rw [hN] at hm ⊢
  clear h hi hN
  go_enter Tryz.func56,Tryz.ntmps56
  go_wp2_with fail
  go_loopw [3,8] (fun v iv wr=>∃ k:Nat,iv=.int .i64 k∧k≤N∧Hid (OwnR w 9 1 v k (((ns.take k).map dgT).map strL) wr)) (fun _ iv _=>N - (intOf iv).toNat)
  case atStart=>exact⟨0,rfl,by omega,OwnR.nil _ _ _ (Below.refl _ _)⟩
  case round=>
    obtain⟨k,rfl,hk,HO⟩:=hrel
    by_cases hlt:k < N
    · have hkl:k < ns.length:=by rw [HL.out];exact hlt
      obtain⟨b,off,rfl,hc⟩:=int_at HF.out HO.out.2 k hkl
      have HD:=fun W=>Lib.hid (scrDigits_any ns[k] W (HI.out _ (List.getElem_mem hkl)))
      have HS:=Lib.hid (take_map dgT ns k hkl)
      generalize ns[k]=x at *
      go_wp2_with fail
      refine (HD _).out.mono ?_
      rintro e w1 ⟨rfl,hb⟩
      have HO2:=Lib.hid (HO.out.on hb)
      clear hb
      obtain⟨v',W',hr,ho⟩:=pushS HO2.out (toB (dgT x)) (by omega) 134
      have HR:=Lib.hid hr
      have HO3:Hid (OwnR w 9 1 v' (k+1) (((ns.take (k+1)).map dgT).map strL) W'):=by
        show OwnR _ _ _ _ _ _ _
        rw [HS.out,List.map_append]
        exact ho
      clear hr ho
      go_wp2_with (at_builtin;refine wpList_append_known rfl _ _ 134 rfl _ _ _ rfl rfl HR.out ?_)
      go_roundw
      case rel=>exact⟨k+1,by go_num,by omega,HO3⟩
      case measure=>simp [intOf];omega
    · obtain rfl:k=N:=by omega
      have HE:Hid (OwnR w 9 1 u3 k ((ns.map dgT).map strL) wr):=by
        have:=HO.out
        rw [List.take_of_length_le (by rw [HL.out];omega)] at this
        exact this
      go_wp2_with fail
      go_ret
      exact StrsOut.own HE.out (by rw [List.length_map];exact HL.out)
set_option maxHeartbeats 2000000 in
theorem r45Numbers_any {Q:Nat→Prop} {w:World} (A:Option Addr) (c:Nat) (ns:List Int) (h:FlatQ Q w A (ns.map intL)) (hi:∀ n∈ns,I64 n) (hm:ns.length≤1000000):Calls Tryz.prog 59 #[.slice A ns.length c] w fun e w'=>e=.returned (.string (toB (tailT (ns.map dgT))))∧Below w.heap.size w w':=by
  have HF:=Lib.hid h
  have HI:=Lib.hid hi
  obtain⟨N,hN⟩:∃ N,ns.length=N:=⟨_,rfl⟩
  have HL:=Lib.hid hN
  rw [hN] at hm ⊢
  clear h hi hN
  go_enter Tryz.func59,Tryz.ntmps59
  go_wp2_with fail
  go_loopw [3,4] (fun v iv wr=>∃ (k:Nat) (S:ByteArray),iv=.int .i64 k∧v=.string S∧k≤N∧S.size≤21 * k∧Hid (S=toB (tailT ((ns.take k).map dgT)))∧Hid (Below w.heap.size w wr)) (fun _ iv _=>N - (intOf iv).toNat)
  case atStart=>exact⟨0,⟨#[]⟩,rfl,rfl,by omega,by decide,rfl,Below.refl _ _⟩
  case round=>
    obtain⟨k,S,rfl,rfl,hk,hs,HS,HB⟩:=hrel
    by_cases hlt:k < N
    · have hkl:k < ns.length:=by rw [HL.out];exact hlt
      obtain⟨b,off,rfl,hc⟩:=int_at HF.out HB.out k hkl
      have h64:=HI.out _ (List.getElem_mem hkl)
      have HD:=fun W=>Lib.hid (r45Digits_any ns[k] W h64)
      have HX:Hid (toB (tailT ((ns.take (k+1)).map dgT))=S++⟨#[32]⟩++toB (dgT ns[k])):=by
        show _=_
        rw [take_map dgT ns k hkl,HS.out,show (⟨#[32]⟩:ByteArray)=toB [32] from rfl,toB_append,toB_append]
        congr 1
        unfold tailT
        rw [List.flatMap_append]
        simp
      have hdl:=(dgT_len h64).2
      have hds:=size_B (dgT ns[k])
      rw [← hds] at hdl
      clear h64
      generalize ns[k]=x at *
      generalize toB (dgT x)=D at *
      have hz:(S++⟨#[32]⟩++D).size≤21 * (k+1):=by
        rw [ByteArray.size_append,ByteArray.size_append]
        have:(ByteArray.mk #[32]).size=1:=rfl
        omega
      have HZ:=Lib.hid hz
      clear hz hds
      go_wp2_with fail
      refine (HD _).out.mono ?_
      rintro e w1 ⟨rfl,hb⟩
      have HB2:=Lib.hid (bthen HB.out hb)
      clear hb
      go_wp2_with fail
      go_roundw
      case rel=>exact⟨k+1,_,by go_num,rfl,by omega,HZ.out,HX.out.symm,HB2⟩
      case measure=>simp [intOf];omega
    · have hge:(N:Int)≤(k:Int):=by omega
      have HE:Hid (S=toB (tailT (ns.map dgT))):=by
        have:=HS.out
        rw [List.take_of_length_le (by rw [HL.out];omega)] at this
        exact this
      go_wp2_with fail
      go_ret
      exact⟨by rw [← HE.out];rfl,HB.out⟩
set_option maxHeartbeats 2000000 in
theorem r45Hex_any {Q:Nat→Prop} {w:World} (A:Option Addr) (c:Nat) (bs:List UInt8) (h:FlatQ Q w A (bs.map byL)) (hm:bs.length≤100000000):Calls Tryz.prog 57 #[.slice A bs.length c] w fun e w'=>e=.returned (.string (toB (hexT bs)))∧Below w.heap.size w w':=by
  have HF:=Lib.hid h
  have HT:Hid (if bs=[] then hexT bs=[45] else hexT bs=hexF bs∧hexF bs≠[]):=by
    show if _ then _ else _
    split
    · rename_i q;rw [q];rfl
    · rename_i q
      refine⟨hexT_some q,fun e=>q ?_⟩
      have:=hexF_len bs
      rw [e] at this
      exact List.eq_nil_of_length_eq_zero (by simp at this;omega)
  obtain⟨N,hN⟩:∃ N,bs.length=N:=⟨_,rfl⟩
  have HL:=Lib.hid hN
  rw [hN] at hm ⊢
  clear h hN
  go_enter Tryz.func57,Tryz.ntmps57
  go_wp2_with fail
  go_loopw [3,4] (fun v iv wr=>∃ (k:Nat) (S:ByteArray),iv=.int .i64 k∧v=.string S∧k≤N∧S.size≤2 * k∧Hid (S=toB (hexF (bs.take k)))∧Hid (Below w.heap.size w wr)) (fun _ iv _=>N - (intOf iv).toNat)
  case atStart=>exact⟨0,⟨#[]⟩,rfl,rfl,by omega,by decide,rfl,Below.refl _ _⟩
  case round=>
    obtain⟨k,S,rfl,rfl,hk,hs,HS,HB⟩:=hrel
    by_cases hlt:k < N
    · have hkl:k < bs.length:=by rw [HL.out];exact hlt
      obtain⟨b,off,rfl,hc⟩:=byte_at HF.out HB.out k hkl
      have hu:=bs[k].toNat_lt
      have HD:∀ W,Hid (Calls Tryz.prog 102 #[.int .u8 (bs[k].toNat:Int)] W fun e w'=>e=.returned (.string (toB (hexL (bs[k].toNat:Int))))∧Below W.heap.size W w'):=fun W=>r07Hex_any (bs[k].toNat:Int) W (by omega) (by omega)
      have HX:Hid (toB (hexF (bs.take (k+1)))=S++toB (hexL (bs[k].toNat:Int))):=by
        show _=_
        rw [hexF_step bs k hkl,HS.out,toB_append]
      have hds:(toB (hexL (bs[k].toNat:Int))).size=2:=rfl
      generalize (bs[k].toNat:Int)=x at *
      generalize toB (hexL x)=D at *
      have hz:(S++D).size≤2 * (k+1):=by
        rw [ByteArray.size_append]
        omega
      have HZ:=Lib.hid hz
      have hd2:D.size≤2:=by omega
      clear hz hds hu
      go_wp2_with fail
      refine (HD _).out.mono ?_
      rintro e w1 ⟨rfl,hb⟩
      have HB2:=Lib.hid (bthen HB.out hb)
      clear hb
      go_wp2_with fail
      go_roundw
      case rel=>exact⟨k+1,_,by go_num,rfl,by omega,HZ.out,HX.out.symm,HB2⟩
      case measure=>simp [intOf];omega
    · have hge:(N:Int)≤(k:Int):=by omega
      have HE:Hid (S=toB (hexF bs)):=by
        have:=HS.out
        rw [List.take_of_length_le (by rw [HL.out];omega)] at this
        exact this
      by_cases h0:bs=[]
      · have HQ:Hid (hexT bs=[45]):=by have:=HT.out;rw [if_pos h0] at this;exact this
        obtain rfl:S=⟨#[]⟩:=by rw [HE.out,h0];rfl
        clear h0
        go_wp2_with fail
        go_ret
        exact⟨by rw [HQ.out];rfl,HB.out⟩
      · have HQ:Hid (hexT bs=hexF bs∧hexF bs≠[]):=by have:=HT.out;rw [if_neg h0] at this;exact this
        have f1:S.toList.isEmpty=false:=by
          rw [txt_eq,HE.out,toList_B]
          cases hq:hexF bs with
          | nil=>exact absurd hq HQ.out.2
          | cons a l=>rfl
        clear h0
        go_wp2_with fail
        go_ret
        exact⟨by rw [HQ.out.1,← HE.out];rfl,HB.out⟩
end Go.Proofs.YtaiepcgfofpmjaaGreat
