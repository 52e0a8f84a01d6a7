/- Layer 39: Drop, Peek. -/
import Derived.Test.YtaiepcgfofpmjaaGreatS05
import Derived.OwnWalk
import Derived.Test.YtaiepcgfofpmjaaGreatS06
import Derived.Deep.RegionHeld3
import Derived.Deep.RegionWith
import Derived.RegionTactic
import Derived.Test.YtaiepcgfofpmjaaGreatS21
namespace Go.Proofs.YtaiepcgfofpmjaaGreat
set_option linter.unusedVariables false
open Go.RowKit
section
variable {P : Program} {ops : Array Oper} {rest : List Oper} {o : Oper} {a : Act} {w : World} {Q : Exit → Act → World → Prop}
theorem wpList_make_grew (hgd:o.guard=none) (l c:Operand) (t e:TypeId) (ho:o.op=.makeSlice t l c) (i:TypeInfo) (z:Value) (ht:P.underlying t=some (.slice e)) (hi:P.info? e=some i) (hz:i.zero=some z)
    (kl kc:IntKind) (n:Nat) (hl:a.eval l=.int kl (n:Int)) (hc:a.eval c=.int kc (n:Int)) (hb:i.bytes * n≤281474976710656) (h63:(n:Int)≤9223372036854775807)
    (h:∀ W,Grew w W (madeCells z.cells (n * i.size))→wpList P ops Q rest (a.put o.dst (.slice (some ⟨w.heap.size,0,none⟩) n n)) W):wpList P ops Q (o :: rest) a w:=
  wpList_exec hgd (W:=w.alloc (.cells (madeCells z.cells (n * i.size)) e)) (by
    have hb':((i.bytes * n:Nat):Int)≤281474976710656:=by omega
    rw [Int.natCast_mul] at hb'
    have hr:=run_make (P:=P) w t e i z ht hi hz kl kc (n:Int) (n:Int) (by omega) (Int.le_refl _) hb' h63
    unfold execOp
    rw [ho]
    simp only [hl,hc]
    simp only [Int.toNat_natCast] at hr
    rw [Sem.run_bind,hr]
    rfl) (h _ (grew_alloc w _ e))
end
theorem Blk.flat {w:World} {b:Nat} {L:List Value} (h:Blk w b L) {Q:Nat→Prop} (hq:Q b):FlatQ Q w (some ⟨b,0,none⟩) L:=fun j u hu=>⟨b,0,rfl,hq,h.cell (0+j) (by rw [Nat.zero_add];exact hu)⟩
theorem run_store_funcX {P:Program} {w:World} {a:Addr} {m:Mode} (f:_) (x:_) (y:_):(store a (.func f x y) m).run P w=stored P w a (.func f x y) m:=run_store P w a _ m rfl
theorem shpPlain_any (w:World):Calls Tryz.prog 295 #[] w fun e w'=>e=.returned (.agg #[.func (Fn.func 336) #[] #[],.func (Fn.func 337) #[] #[]])∧Below w.heap.size w w':=by
  have hsf:=@run_store_funcX Tryz.prog
  go_enter Tryz.func295,Tryz.ntmps295
  go_wp2_with fail
  exact bodyPost_ret (v:=.agg #[.func (Fn.func 336) #[] #[],.func (Fn.func 337) #[] #[]]) (by simp [results,Tryz.results295,go_sem]) rfl ⟨rfl,below_new _ _⟩
theorem way_res {w1:World} {b:Nat} {x y:Value} (hk:Blk w1 b [x,y]) (p q:Value):(loadVar 406 ⟨b,0,none⟩).run Tryz.prog ((w1.setCell ⟨b,0,none⟩ p).setCell ⟨b,1,none⟩ q)=.ok (.agg #[p,q]) ((w1.setCell ⟨b,0,none⟩ p).setCell ⟨b,1,none⟩ q)∧Below b w1 ((w1.setCell ⟨b,0,none⟩ p).setCell ⟨b,1,none⟩ q):=by
  have hs:Stored w1 ((w1.setCell ⟨b,0,none⟩ p).setCell ⟨b,1,none⟩ q) b 0 [p,q]:=stored_setCells (cs:=[p,q]) (hk.there 0 2 (Nat.le_refl _))
  exact⟨run_loadVar_mid (P:=Tryz.prog) _ b 0 406 [p,q] _ (hk.all hs rfl).rg Tryz.underlying406 rfl (by kernel_rfl),hs.below (Nat.le_refl _)⟩
def takeFn (s:Bool):Nat:=if s then 294 else 337
def putFn (s:Bool):Nat:=if s then 293 else 336
theorem shpOf_any (f:Fld) (w:World):Calls Tryz.prog 249 #[fldV f] w fun e w'=>e=.returned (.agg #[.func (Fn.func (putFn f.sg)) #[] #[],.func (Fn.func (takeFn f.sg)) #[] #[]])∧Below w.heap.size w w':=by
  have hsf:=@run_store_funcX Tryz.prog
  have HP:=fun W=>Lib.hid (shpPlain_any W)
  obtain⟨z,s,lo,hi⟩:=f
  unfold fldV
  dsimp only
  cases s
  · show Calls Tryz.prog _ _ w fun e w'=>e=.returned (.agg #[.func (Fn.func 336) #[] #[],.func (Fn.func 337) #[] #[]])∧Below w.heap.size w w'
    go_enter Tryz.func249,Tryz.ntmps249
    go_wp2_with fail
    refine (HP _).out.mono ?_
    rintro e w1 ⟨rfl,hb⟩
    have HB1:Hid (Below w.heap.size w w1):=Lib.hid (bthen (bthen (below_new _ _) (below_new _ _)) hb)
    have HK1:Hid (Blk w1 (w.heap.size+1) [.nilFunc,.nilFunc]):=Lib.hid (by
      have:=(Blk.newL (grew_alloc (w.alloc (.cells #[.int .i64 (z:Int),.bool false,.int .i64 lo,.int .i64 hi] 401)) #[.nilFunc,.nilFunc] 406) rfl).on hb
      simpa using this)
    have c0:=HK1.out.cell 0 (v:=.nilFunc) rfl
    have c1:=HK1.out.cell 1 (v:=.nilFunc) rfl
    have z0:=HK1.out.fz 0
    have z1:=HK1.out.fz 1
    clear hb
    go_wp2_with fail
    have HRS:=way_res HK1.out (.func (Fn.func 336) #[] #[]) (.func (Fn.func 337) #[] #[])
    exact bodyPost_ret (v:=.agg #[.func (Fn.func 336) #[] #[],.func (Fn.func 337) #[] #[]]) (by rw [results_cF rfl];simp [asAddr,Result.andThen];exact HRS.1) rfl ⟨rfl,HB1.out.trans (HRS.2.mono (by have:=HB1.out.size;omega))⟩
  · show Calls Tryz.prog _ _ w fun e w'=>e=.returned (.agg #[.func (Fn.func 293) #[] #[],.func (Fn.func 294) #[] #[]])∧Below w.heap.size w w'
    go_enter Tryz.func249,Tryz.ntmps249
    go_wp2_with fail
    exact bodyPost_ret (v:=.agg #[.func (Fn.func 293) #[] #[],.func (Fn.func 294) #[] #[]]) (by simp [results,Tryz.results249,go_sem]) rfl ⟨rfl,bthen (below_new _ _) (below_new _ _)⟩
theorem widF_app (l m:List Fld):widF (l++m)=widF l+widF m:=by unfold widF;rw [List.map_append,List.sum_append]
theorem shp_info:(Tryz.prog.info? 2).map (fun i=>(i.zero,i.size,i.bytes))=some (some (.int .i64 0),1,8):=by kernel_rfl
theorem info_partsS {P:Program} {t:TypeId} {z:Option Value} {s b:Nat} (h:(P.info? t).map (fun i=>(i.zero,i.size,i.bytes))=some (z,s,b)):∃ i,P.info? t=some i∧i.zero=z∧i.size=s∧i.bytes=b:=by
  cases hi:P.info? t with
  | none=>rw [hi] at h;cases h
  | some i=>rw [hi] at h;simp at h;exact⟨i,rfl,h.1,h.2.1,h.2.2⟩
theorem i64_rep (n:Nat):(madeCells (Value.int .i64 0).cells (n * 1)).toList=i64sV (List.replicate n 0):=by
  rw [Nat.mul_one]
  show (madeCells #[Value.int .i64 0] n).toList=_
  rw [toList_madeCells_one]
  unfold i64sV
  rw [List.map_replicate]
theorem store_num {W:World} {g n k:Nat} {u:List Int} (h:Blk W g (i64sV (u++List.replicate (n - k) 0))) (hu:u.length=k) (hk:(k:Int) < n) (x:Int) :
    W.cell? ⟨g,k,none⟩=some (.int .i64 0)∧Blk (W.setCell ⟨g,k,none⟩ (.int .i64 x)) g (i64sV ((u++[x])++List.replicate (n - (k+1)) 0))∧∀ b,b≠g→(W.setCell ⟨g,k,none⟩ (.int .i64 x)).heap[b]?=W.heap[b]?:=by
  have e:i64sV (u++List.replicate (n - k) 0)=i64sV u++[Value.int .i64 0]++i64sV (List.replicate (n - (k+1)) 0):=by
    rw [show n - k=(n - (k+1))+1 from by omega,List.replicate_succ]
    simp [i64sV]
  rw [e] at h
  have hc:W.cell? ⟨g,k,none⟩=some (.int .i64 0):=h.cell k (by
    rw [List.append_assoc,List.getElem?_append_right (by rw [i64sV_len,hu];exact Nat.le_refl _),i64sV_len,hu,Nat.sub_self];rfl)
  have s1:Stored W (W.setCell ⟨g,k,none⟩ (.int .i64 x)) g k [.int .i64 x]:=stored_setCell (h.there k 1 (by simp [i64sV_len,hu]))
  refine⟨hc,?_,fun b hb=>s1.far b hb⟩
  have:=h.put s1 (by rw [i64sV_len,hu]) rfl
  have e2:i64sV ((u++[x])++List.replicate (n - (k+1)) 0)=i64sV u++[Value.int .i64 x]++i64sV (List.replicate (n - (k+1)) 0):=by simp [i64sV]
  rw [e2]
  exact this
def PutOut (a:Nat) (l:List UInt8) (n:Nat) (w:World) (e:Ending) (w':World):Prop:=∃ b,b.length=n∧e=.returned (.tuple #[])∧WrtI a (l++b) w'∧Below a w w'
theorem wrtU_1 {w:World} {a:Nat} {l:List UInt8} (v:Nat) (h:WrtI a l w) (hv:v < 256) (hl:l.length≤10000000):Calls Tryz.prog 190 #[.pointer (some ⟨a,0,none⟩),.int .i64 1,.int .u64 (v:Int)] w (PutOut a l 1 w):=by
  have HP:=Lib.hid (wrtPut_any 1 v h (by omega) (by omega) hl)
  have f1:((v:Int) / 256==0)=true:=by rw [beq_iff_eq];omega
  clear h
  go_enter Tryz.func190,Tryz.ntmps190
  go_wp2_with fail
  refine HP.out.mono ?_
  rintro e w' ⟨rfl,h1,h2⟩
  have HF:Hid (PutOut a l 1 w (.returned (.tuple #[])) w'):=⟨_,leB_len 1 v,rfl,h1,h2⟩
  clear h1 h2
  go_wp2_with fail
  exact bodyPost_end (v:=.tuple #[]) (by simp [results,Tryz.results190,go_sem]) rfl HF.out
theorem wrtU_4 {w:World} {a:Nat} {l:List UInt8} (v:Nat) (h:WrtI a l w) (hv:v < 4294967296) (hl:l.length≤10000000):Calls Tryz.prog 190 #[.pointer (some ⟨a,0,none⟩),.int .i64 4,.int .u64 (v:Int)] w (PutOut a l 4 w):=by
  have HP:=Lib.hid (wrtPut_any 4 v h (by omega) (by omega) hl)
  have f1:((v:Int) / 4294967296==0)=true:=by rw [beq_iff_eq];omega
  clear h
  go_enter Tryz.func190,Tryz.ntmps190
  go_wp2_with fail
  refine HP.out.mono ?_
  rintro e w' ⟨rfl,h1,h2⟩
  have HF:Hid (PutOut a l 4 w (.returned (.tuple #[])) w'):=⟨_,leB_len 4 v,rfl,h1,h2⟩
  clear h1 h2
  go_wp2_with fail
  exact bodyPost_end (v:=.tuple #[]) (by simp [results,Tryz.results190,go_sem]) rfl HF.out
theorem wrtI_2 {w:World} {a:Nat} {l:List UInt8} (v:Nat) (h:WrtI a l w) (hv:v≤32767) (hl:l.length≤10000000):Calls Tryz.prog 293 #[.pointer (some ⟨a,0,none⟩),.int .i64 2,.int .i64 v] w (PutOut a l 2 w):=by
  have HP:=Lib.hid (wrtPut_any 2 v h (by omega) (by omega) hl)
  have f1:(v:Int) / 32768=0:=by omega
  clear h
  go_enter Tryz.func293,Tryz.ntmps293
  go_wp2_with fail
  refine HP.out.mono ?_
  rintro e w' ⟨rfl,h1,h2⟩
  have HF:Hid (PutOut a l 2 w (.returned (.tuple #[])) w'):=⟨_,leB_len 2 v,rfl,h1,h2⟩
  clear h1 h2
  go_wp2_with fail
  exact bodyPost_end (v:=.tuple #[]) (by simp [results,Tryz.results293,go_sem]) rfl HF.out
theorem shpPut_u {w:World} {a:Nat} {l:List UInt8} (n v:Nat) (h:WrtI a l w) (hn:n=1∧v < 256∨n=4∧v < 4294967296) (hl:l.length≤10000000):Calls Tryz.prog 336 #[.pointer (some ⟨a,0,none⟩),.int .i64 (n:Int),.int .i64 (v:Int)] w (PutOut a l n w):=by
  have HP:Hid (Calls Tryz.prog 190 #[.pointer (some ⟨a,0,none⟩),.int .i64 (n:Int),.int .u64 (v:Int)] w (PutOut a l n w)):=by
    rcases hn with ⟨rfl,hv⟩ | ⟨rfl,hv⟩
    · exact wrtU_1 v h hv hl
    · exact wrtU_4 v h hv hl
  have hv:v < 4294967296:=by omega
  clear h hn
  go_enter Tryz.func336,Tryz.ntmps336
  go_wp2_with fail
  refine HP.out.mono ?_
  rintro e w' h
  have HF:=Lib.hid h
  obtain⟨b,-,rfl,-⟩:=h
  go_wp2_with fail
  exact bodyPost_end (v:=.tuple #[]) (by simp [results,Tryz.results336,go_sem]) rfl HF.out
def FitsS (f:Fld) (v:Int):Prop:=(f=anyF 1 false∧0≤v∧v≤255)∨(f=anyF 4 false∧0≤v∧v≤4294967295)∨(f=anyF 2 true∧0≤v∧v≤32767)
theorem shpPutFn_any {w:World} {a:Nat} {l:List UInt8} (f:Fld) (v:Int) (hf:FitsS f v) (h:WrtI a l w) (hl:l.length≤10000000):Calls Tryz.prog (putFn f.sg) #[.pointer (some ⟨a,0,none⟩),.int .i64 (f.sz:Int),.int .i64 v] w (PutOut a l f.sz w):=by
  rcases hf with ⟨rfl,h0,h1⟩ | ⟨rfl,h0,h1⟩ | ⟨rfl,h0,h1⟩
  · obtain⟨n,rfl⟩:=Int.eq_ofNat_of_zero_le h0
    exact shpPut_u 1 n h (.inl ⟨rfl,by omega⟩) hl
  · obtain⟨n,rfl⟩:=Int.eq_ofNat_of_zero_le h0
    exact shpPut_u 4 n h (.inr ⟨rfl,by omega⟩) hl
  · obtain⟨n,rfl⟩:=Int.eq_ofNat_of_zero_le h0
    exact wrtI_2 n h (by omega) hl
theorem cal_put (s:Bool) (x y z:Value) (W:World):(callFunc (putFn s) #[x,y,z]).run Tryz.prog W=.ok (.enter (putFn s) #[x,y,z]) W:=by
  cases s
  · kernel_rfl
  · kernel_rfl
theorem field_way0 (F G:Nat) (W:World):(Instr.field 406 (.agg #[.func (Fn.func F) #[] #[],.func (Fn.func G) #[] #[]]) 0).run Tryz.prog W=.ok (.func (Fn.func F) #[] #[]) W:=by kernel_rfl
theorem octMake_any (w:World):Calls Tryz.prog 189 #[] w fun e w'=>e=.returned (.pointer (some ⟨w.heap.size,0,none⟩))∧WrtI w.heap.size [] w'∧Below w.heap.size w w':=by
  go_enter Tryz.func189,Tryz.ntmps189
  go_wp2_with fail
  go_ret
  exact⟨rfl,⟨_,Blk.newL (grew_alloc _ _ _) rfl,World.ownsRow_nil _ _ _ _⟩,below_new _ _⟩
theorem wrtBytes_any {w:World} {a:Nat} {l:List UInt8} (h:WrtI a l w) (hl:l.length≤1000000):Calls Tryz.prog 192 #[.pointer (some ⟨a,0,none⟩)] w fun e w'=>∃ B d,e=.returned (.slice B l.length d)∧FlatQ (fun b=>w.heap.size≤b∧b < w'.heap.size) w' B (bsV l)∧Below w.heap.size w w':=by
  have HFA:=Lib.hid (wrtFail_any h)
  obtain⟨v,h1,h2⟩:=h
  obtain⟨A,c,rfl,hc,hf,-⟩:=flatq_own h2
  have HC:=Lib.hid (CloneB_any A l c w hf hl)
  have c0:=h1.cell 0 rfl
  clear h1 h2 hf hc
  go_enter Tryz.func192,Tryz.ntmps192
  go_wp2_with fail
  refine HFA.out.mono ?_
  rintro e w1 ⟨rfl,rfl⟩
  go_wp2_with fail
  refine HC.out.mono ?_
  rintro e w2 ⟨B,d,rfl,hf,-,hb⟩
  have HF:=Lib.hid (And.intro hf hb)
  clear hf hb
  go_wp2_with fail
  go_ret
  exact⟨B,d,rfl,HF.out.1,HF.out.2⟩
def PutNew (n:Nat) (w:World) (e:Ending) (w':World):Prop:=∃ b B d,b.length=n∧e=.returned (.tuple #[.slice B n d,.int .i64 0])∧FlatQ (fun k=>w.heap.size≤k∧k < w'.heap.size) w' B (bsV b)∧Below w.heap.size w w'
theorem i64s_at {R:Nat→Prop} {w:World} {X:Option Addr} {vs:List Int} (h:FlatQ R w X (i64sV vs)) (k:Nat) (hk:k < vs.length):∃ b off,X=some ⟨b,off,none⟩∧(R b∧b < w.heap.size)∧w.cell? ⟨b,off+k,none⟩=some (.int .i64 vs[k]):=by
  obtain⟨b,off,e1,e2,e3⟩:=h.lt k (.int .i64 vs[k]) (by unfold i64sV;rw [List.getElem?_map,List.getElem?_eq_getElem hk];rfl)
  exact⟨b,off,e1,e2,e3⟩
theorem FitsS.ok {f:Fld} {v:Int} (h:FitsS f v):decide (f.lo≤v∧v≤f.hi)=true:=by
  rcases h with ⟨rfl,h0,h1⟩ | ⟨rfl,h0,h1⟩ | ⟨rfl,h0,h1⟩
  · exact decide_eq_true ⟨h0,h1⟩
  · exact decide_eq_true ⟨h0,h1⟩
  · exact decide_eq_true ⟨Int.le_trans (by decide) h0,h1⟩
set_option maxRecDepth 8000 in
set_option maxHeartbeats 4000000 in
theorem shpPut_any {R:Nat→Prop} {w:World} (A X:Option Addr) (c d:Nat) (fs:List Fld) (vs:List Int) (hF:FldsI w A fs) (hr:fs.all rightF=true) (hn:fs.length≤1000) (hV:FlatQ R w X (i64sV vs)) (hl:vs.length=fs.length) (hfit:∀ (k:Nat) f v,fs[k]?=some f→vs[k]?=some v→FitsS f v) :
    Calls Tryz.prog 199 #[.slice A fs.length c,.slice X fs.length d] w (PutNew (widF fs) w):=by
  have HR:=fun W (hW:Below w.heap.size w W)=>Lib.hid (shpRights_yes A c fs W (hF.on hW) hr (by omega))
  have HFI:=Lib.hid hF
  have HV:=Lib.hid hV
  have HFT:=Lib.hid hfit
  have hwl:=widF_le fs hr
  clear hF hV hfit hr
  generalize hL:fs.length=n at *
  have HL:=Lib.hid hL
  clear hL
  go_enter Tryz.func199,Tryz.ntmps199
  go_wp2_with fail
  refine (HR _ (Below.refl _ _)).out.mono ?_
  rintro e w1 ⟨rfl,hb⟩
  have HB1:=Lib.hid hb
  clear hb HR
  have f0:((n:Int) != n)=false:=by simp
  go_wp2_with fail
  refine (octMake_any _).mono ?_
  rintro e w2 ⟨rfl,hwi,hb⟩
  have HA:Hid (w.heap.size≤w1.heap.size):=HB1.out.size
  have HI0:Hid (∃ b,b.length=widF (fs.take 0)∧WrtI w1.heap.size b w2):=⟨[],rfl,hwi⟩
  have HB2:Hid (Below w.heap.size w w2):=bthen HB1.out hb
  clear hb hwi
  generalize w1.heap.size=a at *
  go_wp2_with fail
  go_loopg [22] n (fun h s22 wr=>∃ k:Nat,k≤n∧n - k≤h∧s22=.int .i64 k∧Hid (∃ b,b.length=widF (fs.take k)∧WrtI a b wr)∧Hid (Below w.heap.size w wr))
  case atStart=>exact⟨0,Nat.zero_le _,by omega,rfl,HI0,HB2⟩
  case round=>
    clear HI0 HB2
    obtain⟨k,hk,hg,rfl,HK,HB⟩:=hrel
    by_cases hlt:k < n
    · have hkl:k < fs.length:=by rw [HL.out];exact hlt
      have hkv:k < vs.length:=by rw [hl];exact hlt
      obtain⟨bs,hbl,hwi⟩:=HK.out
      have hwk:=widF_take fs k hkl
      have hwm:widF (fs.take k)≤widF fs:=by
        conv=>rhs;rw [← List.take_append_drop k fs]
        rw [widF_app];omega
      have hft:=HFT.out k _ _ (List.getElem?_eq_getElem hkl) (List.getElem?_eq_getElem hkv)
      obtain⟨fb,off,rfl,hfb,x0,x1,x2,x3⟩:=(HFI.out.on HB.out).cells k hkl
      obtain⟨xb,xo,rfl,⟨⟨-,hxw⟩,hxb⟩,y0⟩:=i64s_at (HV.out.lt.below HB.out fun b q=>q.2) k hkv
      have HOK:=Lib.hid hft.ok
      have HXA:Hid (xb < a):=Lib.hid (Nat.lt_of_lt_of_le hxw HA.out)
      clear hxw
      have HPF:=fun W (h:WrtI a bs W)=>Lib.hid (shpPutFn_any fs[k] vs[k] hft h (by omega))
      have HOF:=fun W=>Lib.hid (shpOf_any fs[k] W)
      have HIN:=fun W=>Lib.hid (shpIn_any fs[k] vs[k] W)
      have HNX:Hid (∀ b:List UInt8,b.length=(fs[k]).sz→(bs++b).length=widF (fs.take (k+1))):=Lib.hid fun b q=>by rw [List.length_append,hbl,hwk,q]
      have HWI:=Lib.hid hwi
      generalize fs[k]=f at *
      generalize vs[k]=v at *
      obtain⟨z,s,lo,hi⟩:=f
      unfold fldV at HOF HIN
      dsimp only at *
      rw [HOK.out] at HIN
      have HCL:=fun x y u W=>cal_put s x y u W
      generalize takeFn s=G at *
      generalize putFn s=F at *
      have HFW:=fun W=>Lib.hid (field_way0 F G W)
      have i1:(k:Int) < n:=by omega
      have i2:(0:Int)≤(k:Int):=Int.natCast_nonneg _
      clear hwk hwm hbl hwi hft HOK
      go_upto_region 7 with fail
      have HF1:Hid (Blk (wr.alloc (.cells #[.int .i64 (z:Int),.bool s,.int .i64 lo,.int .i64 hi] 401)) wr.heap.size [.int .i64 (z:Int),.bool s,.int .i64 lo,.int .i64 hi]):=Lib.hid (Blk.newL (grew_alloc _ _ _) rfl)
      have HB2:Hid (Below wr.heap.size wr (wr.alloc (.cells #[.int .i64 (z:Int),.bool s,.int .i64 lo,.int .i64 hi] 401))):=below_new _ _
      have HY:Hid ((wr.alloc (.cells #[.int .i64 (z:Int),.bool s,.int .i64 lo,.int .i64 hi] 401)).cell? ⟨xb,xo+k,none⟩=some (.int .i64 v)∧xb < wr.heap.size):=⟨(HB2.out.cell (p:=⟨xb,xo+k,none⟩) hxb).trans y0,hxb⟩
      have HW2:Hid (WrtI a bs (wr.alloc (.cells #[.int .i64 (z:Int),.bool s,.int .i64 lo,.int .i64 hi] 401))):=HWI.out.on HB2.out
      clear x0 x1 x2 x3 y0 hxb hfb HWI HK
      generalize wr.alloc (.cells #[.int .i64 (z:Int),.bool s,.int .i64 lo,.int .i64 hi] 401)=Wf at *
      have HFL:=Lib.hid HF1.out.lt
      have HBW:Hid (Below w.heap.size w Wf):=bthen HB.out HB2.out
      have HXL:Hid (xb < Wf.heap.size):=by have:=HY.out.2;have:=HB2.out.size;show xb < _;omega
      clear HB
      generalize wr.heap.size=fbk at *
      try (apply wp_seq_k;intro K_ HK_)
      have hS0:Below Wf.heap.size Wf Wf.drew:=bdrew (Below.refl _ _)
      refine wp_region_held_drew (S:=fun w'=>Below Wf.heap.size Wf w') (by kernel_rfl) hS0 (fun hHeld0=>?_)
      refine wpAnyH_take (i:=1) (oi:=⟨some 28,_,_,_,_,_⟩) (v:=?_) rfl (by kernel_rfl) (by kernel_rfl) (by kernel_rfl) (fun _ _ _ h=>h) (Or.inl ⟨by rfl,?_⟩) (by assumption) ?_
      rotate_left
      · intro w' hSw
        go_simp
        try with_reducible rfl
      try go_frame
      refine wpAnyH_take (i:=2) (oi:=⟨some 29,_,_,_,_,_⟩) (v:=?_) rfl (by kernel_rfl) (by kernel_rfl) (by kernel_rfl) (fun _ _ _ h=>h) (Or.inl ⟨by rfl,?_⟩) (by assumption) ?_
      rotate_left
      · intro w' hSw
        go_simp
        try with_reducible rfl
      try go_frame
      refine wpAnyH_take (i:=3) (oi:=⟨some 30,_,_,_,_,_⟩) (v:=?_) rfl (by kernel_rfl) (by kernel_rfl) (by kernel_rfl) (fun _ _ _ h=>h) (Or.inl ⟨by rfl,?_⟩) (by assumption) ?_
      rotate_left
      · intro w' hSw
        go_simp
        try with_reducible rfl
      try go_frame
      refine wpAnyH_take (i:=4) (oi:=⟨some 31,_,_,_,_,_⟩) (v:=?_) rfl (by kernel_rfl) (by kernel_rfl) (by kernel_rfl) (fun _ _ _ h=>h) (Or.inl ⟨by rfl,?_⟩) (by assumption) ?_
      rotate_left
      · intro w' hSw
        have q:w'.cell? ⟨xb,xo+k,none⟩=some (.int .i64 v):=(hSw.cell (p:=⟨xb,xo+k,none⟩) HXL.out).trans HY.out.1
        go_simp
        try with_reducible rfl
      try go_frame
      refine wpAnyH_take (i:=0) (oi:=⟨some 27,_,_,_,_,_⟩) (v:=_) rfl (by kernel_rfl) (by kernel_rfl) (by kernel_rfl) (fun _ _ _ h=>h) (yieldsIf_load_mid (by rfl) 401 _ rfl fbk 0 rfl [.int .i64 (z:Int),.bool s,.int .i64 lo,.int .i64 hi] _ (fun w' hSw=>(range_kept HF1.out.rg (hSw.block fbk HFL.out))) Tryz.underlying401 rfl (by kernel_rfl)) (by assumption) ?_
      try go_frame
      refine wpAnyH_ready (rs:=[5]) (by kernel_rfl) (by simp) ?_
      refine AllReadyH.cons (o:=⟨some 32,_,_,_,_,_⟩) rfl (fun K hK=>?_) AllReadyH.nil
      rw [if_pos (by rfl)]
      go_step
      refine (HIN _).out.mono ?_
      rintro e w5 ⟨rfl,hb⟩
      have HB5:Hid (Below Wf.heap.size Wf w5):=hHeld0.trans (hb.mono hHeld0.size)
      clear hb
      try go_frame
      refine hK.out _ _ (HB5.out) (fun hHeld=>?_)
      clear hK K
      try go_frame
      refine wpAnyH_take (i:=6) (oi:=⟨some 33,_,_,_,_,_⟩) (v:=?_) rfl (by kernel_rfl) (by kernel_rfl) (by kernel_rfl) (fun _ _ _ h=>h) (Or.inl ⟨by rfl,?_⟩) (by assumption) ?_
      rotate_left
      · intro w' hSw
        go_simp
        try with_reducible rfl
      try go_frame
      refine wpAnyH_done (by kernel_rfl) ?_ _
      try go_frame
      try (apply HK_)
      try (apply wp_seq_k;intro K2_ HK2_)
      go_upto_region 9 with fail
      have HW5:Hid (WrtI a bs w5.drew):=WrtI.on (HW2.out.on HB5.out) (bdrew (Below.refl _ _))
      have HF5:Hid (Blk w5.drew fbk [.int .i64 (z:Int),.bool s,.int .i64 lo,.int .i64 hi]):=(HF1.out.on HB5.out).drew
      have HY5:Hid (w5.drew.cell? ⟨xb,xo+k,none⟩=some (.int .i64 v)):=(HB5.out.cell (p:=⟨xb,xo+k,none⟩) HXL.out).trans HY.out.1
      have HBX:Hid (Below w.heap.size w w5):=bthen HBW.out HB5.out
      have HAF:Hid (a < w5.drew.heap.size∧w.heap.size≤a):=⟨by obtain⟨v0,q,-⟩:=HW5.out;exact q.lt,HA.out⟩
      clear HY HXL HF1 HW2 HIN HB2
      have hS0:Below a w5 w5.drew:=bdrew (Below.refl _ _)
      refine wp_region_held_drew (S:=fun w'=>Below a w5 w') (by kernel_rfl) hS0 (fun hHeld0=>?_)
      refine wpAnyH_take (i:=3) (oi:=⟨some 37,_,_,_,_,_⟩) (v:=?_) rfl (by kernel_rfl) (by kernel_rfl) (by kernel_rfl) (fun _ _ _ h=>h) (Or.inl ⟨by rfl,?_⟩) (by assumption) ?_
      rotate_left
      · intro w' hSw
        go_simp
        try with_reducible rfl
      try go_frame
      refine wpAnyH_take (i:=4) (oi:=⟨some 38,_,_,_,_,_⟩) (v:=?_) rfl (by kernel_rfl) (by kernel_rfl) (by kernel_rfl) (fun _ _ _ h=>h) (Or.inl ⟨by rfl,?_⟩) (by assumption) ?_
      rotate_left
      · intro w' hSw
        go_simp
        try with_reducible rfl
      try go_frame
      refine wpAnyH_take (i:=6) (oi:=⟨some 40,_,_,_,_,_⟩) (v:=?_) rfl (by kernel_rfl) (by kernel_rfl) (by kernel_rfl) (fun _ _ _ h=>h) (Or.inl ⟨by rfl,?_⟩) (by assumption) ?_
      rotate_left
      · intro w' hSw
        go_simp
        try with_reducible rfl
      try go_frame
      refine wpAnyH_take (i:=7) (oi:=⟨some 41,_,_,_,_,_⟩) (v:=?_) rfl (by kernel_rfl) (by kernel_rfl) (by kernel_rfl) (fun _ _ _ h=>h) (Or.inl ⟨by rfl,?_⟩) (by assumption) ?_
      rotate_left
      · intro w' hSw
        go_simp
        try with_reducible rfl
      try go_frame
      refine wpAnyH_take (i:=8) (oi:=⟨some 42,_,_,_,_,_⟩) (v:=?_) rfl (by kernel_rfl) (by kernel_rfl) (by kernel_rfl) (fun _ _ _ h=>h) (Or.inl ⟨by rfl,?_⟩) (by assumption) ?_
      rotate_left
      · intro w' hSw
        go_simp
        try with_reducible rfl
      try go_frame
      refine wpAnyH_take (i:=9) (oi:=⟨some 43,_,_,_,_,_⟩) (v:=?_) rfl (by kernel_rfl) (by kernel_rfl) (by kernel_rfl) (fun _ _ _ h=>h) (Or.inl ⟨by rfl,?_⟩) (by assumption) ?_
      rotate_left
      · intro w' hSw
        have q:w'.cell? ⟨xb,xo+k,none⟩=some (.int .i64 v):=(hSw.cell (p:=⟨xb,xo+k,none⟩) HXA.out).trans HY5.out
        go_simp
        try with_reducible rfl
      try go_frame
      refine wpAnyH_ready (rs:=[0,5]) (by kernel_rfl) (by simp) ?_
      refine AllReadyH.cons (o:=⟨some 34,_,_,_,_,_⟩) rfl (fun K hK=>?_) (AllReadyH.cons (o:=⟨some 39,_,_,_,_,_⟩) rfl (fun K hK=>?_) AllReadyH.nil)
      · rw [if_pos (by rfl)]
        refine wp_load_mid 401 _ rfl fbk 0 rfl [.int .i64 (z:Int),.bool s,.int .i64 lo,.int .i64 hi] _ HF5.out.rg Tryz.underlying401 rfl (by kernel_rfl) ?_
        refine hK.out _ _ hHeld0 (fun hHeld=>?_)
        clear hK K
        try go_frame
        refine wpAnyH_ready (rs:=[1,5]) (by kernel_rfl) (by simp) ?_
        refine AllReadyH.cons (o:=⟨some 35,_,_,_,_,_⟩) rfl (fun K hK=>?_) (AllReadyH.cons (o:=⟨some 39,_,_,_,_,_⟩) rfl (fun K hK=>?_) AllReadyH.nil)
        · rw [if_pos (by rfl)]
          go_step
          refine (HOF _).out.mono ?_
          rintro e w6 ⟨rfl,hb⟩
          have HB6:Hid (Below a w5 w6):=hHeld0.trans (hb.mono (Nat.le_of_lt HAF.out.1))
          have HW6:Hid (WrtI a bs w6):=HW5.out.on hb
          have HF6:Hid (Blk w6 fbk [.int .i64 (z:Int),.bool s,.int .i64 lo,.int .i64 hi]):=HF5.out.on hb
          clear hb
          refine hK.out _ _ HB6.out (fun hHeld=>?_)
          clear hK K
          try go_frame
          refine wpAnyH_take (i:=2) (oi:=⟨some 36,_,_,_,_,_⟩) (v:=?_) rfl (by kernel_rfl) (by kernel_rfl) (by kernel_rfl) (fun _ _ _ h=>h) (Or.inl ⟨by rfl,?_⟩) (by assumption) ?_
          rotate_left
          · intro w' hSw
            have q:=(HFW w').out
            go_simp
            try with_reducible rfl
          try go_frame
          refine wpAnyH_ready (rs:=[5]) (by kernel_rfl) (by simp) ?_
          refine AllReadyH.cons (o:=⟨some 39,_,_,_,_,_⟩) rfl (fun K hK=>?_) AllReadyH.nil
          rw [if_pos (by rfl)]
          have c5:=HF6.out.cell 0 (v:=.int .i64 (z:Int)) rfl
          go_step
          refine hK.out _ _ HB6.out (fun hHeld=>?_)
          clear hK K
          try go_frame
          refine wpAnyH_ready (rs:=[10]) (by kernel_rfl) (by simp) ?_
          refine AllReadyH.cons (o:=⟨some 44,_,_,_,_,_⟩) rfl (fun K hK=>?_) AllReadyH.nil
          rw [if_pos (by rfl)]
          go_step
          refine (HPF _ HW6.out).out.mono ?_
          rintro e w7 ⟨b,hb1,rfl,hb2,hb3⟩
          have HB7:Hid (Below a w5 w7):=HB6.out.trans hb3
          have HW7:Hid (∃ b,b.length=widF (fs.take (k+1))∧WrtI a b w7):=⟨_,HNX.out b hb1,hb2⟩
          have HBE:Hid (Below w.heap.size w w7):=HBX.out.trans (HB7.out.mono HAF.out.2)
          clear hb1 hb2 hb3
          refine hK.out _ _ HB7.out (fun hHeld=>?_)
          clear hK K
          try go_frame
          refine wpAnyH_done (by kernel_rfl) ?_ _
          try go_frame
          try (apply HK_)
          try (apply HK2_)
          go_wp2_with fail
          go_roundg (n - (k+1))
          case measure=>omega
          case rel=>exact⟨k+1,by omega,by omega,by go_num,HW7,HBE⟩
        · rw [if_pos (by rfl)]
          have c5:=HF5.out.cell 0 (v:=.int .i64 (z:Int)) rfl
          go_step
          refine hK.out _ _ hHeld0 (fun hHeld=>?_)
          clear hK K
          try go_frame
          refine wpAnyH_ready (rs:=[1]) (by kernel_rfl) (by simp) ?_
          refine AllReadyH.cons (o:=⟨some 35,_,_,_,_,_⟩) rfl (fun K hK=>?_) AllReadyH.nil
          rw [if_pos (by rfl)]
          go_step
          refine (HOF _).out.mono ?_
          rintro e w6 ⟨rfl,hb⟩
          have HB6:Hid (Below a w5 w6):=hHeld0.trans (hb.mono (Nat.le_of_lt HAF.out.1))
          have HW6:Hid (WrtI a bs w6):=HW5.out.on hb
          have HF6:Hid (Blk w6 fbk [.int .i64 (z:Int),.bool s,.int .i64 lo,.int .i64 hi]):=HF5.out.on hb
          clear hb
          refine hK.out _ _ HB6.out (fun hHeld=>?_)
          clear hK K
          try go_frame
          refine wpAnyH_take (i:=2) (oi:=⟨some 36,_,_,_,_,_⟩) (v:=?_) rfl (by kernel_rfl) (by kernel_rfl) (by kernel_rfl) (fun _ _ _ h=>h) (Or.inl ⟨by rfl,?_⟩) (by assumption) ?_
          rotate_left
          · intro w' hSw
            have q:=(HFW w').out
            go_simp
            try with_reducible rfl
          try go_frame
          refine wpAnyH_ready (rs:=[10]) (by kernel_rfl) (by simp) ?_
          refine AllReadyH.cons (o:=⟨some 44,_,_,_,_,_⟩) rfl (fun K hK=>?_) AllReadyH.nil
          rw [if_pos (by rfl)]
          go_step
          refine (HPF _ HW6.out).out.mono ?_
          rintro e w7 ⟨b,hb1,rfl,hb2,hb3⟩
          have HB7:Hid (Below a w5 w7):=HB6.out.trans hb3
          have HW7:Hid (∃ b,b.length=widF (fs.take (k+1))∧WrtI a b w7):=⟨_,HNX.out b hb1,hb2⟩
          have HBE:Hid (Below w.heap.size w w7):=HBX.out.trans (HB7.out.mono HAF.out.2)
          clear hb1 hb2 hb3
          refine hK.out _ _ HB7.out (fun hHeld=>?_)
          clear hK K
          try go_frame
          refine wpAnyH_done (by kernel_rfl) ?_ _
          try go_frame
          try (apply HK_)
          try (apply HK2_)
          go_wp2_with fail
          go_roundg (n - (k+1))
          case measure=>omega
          case rel=>exact⟨k+1,by omega,by omega,by go_num,HW7,HBE⟩
      · rw [if_pos (by rfl)]
        have c5:=HF5.out.cell 0 (v:=.int .i64 (z:Int)) rfl
        go_step
        refine hK.out _ _ hHeld0 (fun hHeld=>?_)
        clear hK K
        try go_frame
        refine wpAnyH_ready (rs:=[0]) (by kernel_rfl) (by simp) ?_
        refine AllReadyH.cons (o:=⟨some 34,_,_,_,_,_⟩) rfl (fun K hK=>?_) AllReadyH.nil
        rw [if_pos (by rfl)]
        refine wp_load_mid 401 _ rfl fbk 0 rfl [.int .i64 (z:Int),.bool s,.int .i64 lo,.int .i64 hi] _ HF5.out.rg Tryz.underlying401 rfl (by kernel_rfl) ?_
        refine hK.out _ _ hHeld0 (fun hHeld=>?_)
        clear hK K
        try go_frame
        refine wpAnyH_ready (rs:=[1]) (by kernel_rfl) (by simp) ?_
        refine AllReadyH.cons (o:=⟨some 35,_,_,_,_,_⟩) rfl (fun K hK=>?_) AllReadyH.nil
        rw [if_pos (by rfl)]
        go_step
        refine (HOF _).out.mono ?_
        rintro e w6 ⟨rfl,hb⟩
        have HB6:Hid (Below a w5 w6):=hHeld0.trans (hb.mono (Nat.le_of_lt HAF.out.1))
        have HW6:Hid (WrtI a bs w6):=HW5.out.on hb
        have HF6:Hid (Blk w6 fbk [.int .i64 (z:Int),.bool s,.int .i64 lo,.int .i64 hi]):=HF5.out.on hb
        clear hb
        refine hK.out _ _ HB6.out (fun hHeld=>?_)
        clear hK K
        try go_frame
        refine wpAnyH_take (i:=2) (oi:=⟨some 36,_,_,_,_,_⟩) (v:=?_) rfl (by kernel_rfl) (by kernel_rfl) (by kernel_rfl) (fun _ _ _ h=>h) (Or.inl ⟨by rfl,?_⟩) (by assumption) ?_
        rotate_left
        · intro w' hSw
          have q:=(HFW w').out
          go_simp
          try with_reducible rfl
        try go_frame
        refine wpAnyH_ready (rs:=[10]) (by kernel_rfl) (by simp) ?_
        refine AllReadyH.cons (o:=⟨some 44,_,_,_,_,_⟩) rfl (fun K hK=>?_) AllReadyH.nil
        rw [if_pos (by rfl)]
        go_step
        refine (HPF _ HW6.out).out.mono ?_
        rintro e w7 ⟨b,hb1,rfl,hb2,hb3⟩
        have HB7:Hid (Below a w5 w7):=HB6.out.trans hb3
        have HW7:Hid (∃ b,b.length=widF (fs.take (k+1))∧WrtI a b w7):=⟨_,HNX.out b hb1,hb2⟩
        have HBE:Hid (Below w.heap.size w w7):=HBX.out.trans (HB7.out.mono HAF.out.2)
        clear hb1 hb2 hb3
        refine hK.out _ _ HB7.out (fun hHeld=>?_)
        clear hK K
        try go_frame
        refine wpAnyH_done (by kernel_rfl) ?_ _
        try go_frame
        try (apply HK_)
        try (apply HK2_)
        go_wp2_with fail
        go_roundg (n - (k+1))
        case measure=>omega
        case rel=>exact⟨k+1,by omega,by omega,by go_num,HW7,HBE⟩
    · have hke:k=n:=by omega
      subst hke
      obtain⟨bs,hbl,hwi⟩:=HK.out
      rw [List.take_of_length_le (by rw [HL.out];exact Nat.le_refl _)] at hbl
      have HBY:=Lib.hid (wrtBytes_any hwi (by omega))
      have HBL:=Lib.hid hbl
      clear hbl hwi HK
      go_wp2_with fail
      refine HBY.out.mono ?_
      rintro e w5 ⟨B,d5,rfl,hf,hb⟩
      have HF:Hid (PutNew (widF fs) w (.returned (.tuple #[.slice B bs.length d5,.int .i64 0])) w5):=⟨bs,B,d5,HBL.out,by rw [HBL.out],hf.less fun b q=>⟨by have:=HB.out.size;omega,q.2⟩,bthen HB.out hb⟩
      clear hf hb
      go_wp2_with fail
      go_ret2
      exact HF.out
end Go.Proofs.YtaiepcgfofpmjaaGreat
