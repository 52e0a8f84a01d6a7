/- Blocks of many cells that are known whole. Over any program. -/
import Derived.Test.YtaiepcgfofpmjaaGreatS00
import Derived.Deep.RegionHeld
import Derived.Test.YtaiepcgfofpmjaaGreatS10
namespace Go.Proofs.YtaiepcgfofpmjaaGreat
set_option linter.unusedVariables false
open Go.RowKit
structure Blk (W:World) (b:Nat) (L:List Value):Prop where
  rg:W.rangeAt b 0 L
  fz:∀ o,W.frozen? ⟨b,o,none⟩=false
  lt:b < W.heap.size
theorem Blk.new {w W:World} {C:Array Value} (h:Grew w W C):Blk W w.heap.size C.toList:=⟨h.rg,h.fz,by have:=h.sz;omega⟩
theorem Blk.newL {w W:World} {C:Array Value} {L:List Value} (h:Grew w W C) (e:C.toList=L):Blk W w.heap.size L:=e ▸ Blk.new h
theorem Blk.kept {w W:World} {b:Nat} {L:List Value} (h:Blk w b L) (hk:W.heap[b]?=w.heap[b]?) (hz:w.heap.size≤W.heap.size):Blk W b L:=
  ⟨range_kept h.rg hk,fun o=>(World.frozen?_of_block (a:=⟨b,o,none⟩) hk).trans (h.fz o),Nat.lt_of_lt_of_le h.lt hz⟩
theorem Blk.below {w W:World} {b B:Nat} {L:List Value} (h:Blk w b L) (hb:Below B w W) (hB:b < B):Blk W b L:=h.kept (hb.block b hB) hb.size
theorem Blk.on {w W:World} {b:Nat} {L:List Value} (h:Blk w b L) (hb:Below w.heap.size w W):Blk W b L:=h.below hb h.lt
theorem Blk.far {w W:World} {b b' o:Nat} {L cs:List Value} (h:Blk w b L) (hs:Stored w W b' o cs) (hn:b≠b'):Blk W b L:=h.kept (hs.far b hn) (Nat.le_of_eq hs.sz.symm)
theorem Blk.drew {w:World} {b:Nat} {L:List Value} (h:Blk w b L):Blk w.drew b L:=⟨h.rg,h.fz,h.lt⟩
theorem Blk.sub {w:World} {b:Nat} {A M D:List Value} (h:Blk w b (A++M++D)):w.rangeAt b A.length M:=by
  have h1:=(World.rangeAt_append.1 (World.rangeAt_append.1 h.rg).1).2
  rwa [Nat.zero_add] at h1
theorem Blk.there {w:World} {b:Nat} {L:List Value} (h:Blk w b L) (o n:Nat) (hn:o+n≤L.length):w.there b o n:=fun j hj=>
  ⟨by have:=h.rg.isSome (o+j) (by omega);rwa [Nat.zero_add] at this,h.fz _⟩
theorem Blk.cell {w:World} {b:Nat} {L:List Value} (h:Blk w b L) (o:Nat) {v:Value} (hv:L[o]?=some v):w.cell? ⟨b,o,none⟩=some v:=by
  have:=h.rg o v hv
  rwa [Nat.zero_add] at this
theorem Blk.put {w W:World} {b o:Nat} {A M D cs:List Value} (h:Blk w b (A++M++D)) (hs:Stored w W b o cs) (ho:A.length=o) (hc:cs.length=M.length):Blk W b (A++cs++D):=by
  subst ho
  have h0:=World.rangeAt_append.1 h.rg
  have h1:=World.rangeAt_append.1 h0.1
  refine⟨World.rangeAt_append.2 ⟨World.rangeAt_append.2 ⟨hs.apart 0 A h1.1 (.inl (by omega)),?_⟩,?_⟩,fun o=>(hs.fz _).trans (h.fz o),by rw [hs.sz];exact h.lt⟩
  · rw [Nat.zero_add];exact hs.rg
  · have:=hs.apart _ D h0.2 (.inr (by simp;omega))
    rw [List.length_append] at this ⊢
    rw [hc]
    exact this
theorem Blk.all {w W:World} {b:Nat} {L cs:List Value} (h:Blk w b L) (hs:Stored w W b 0 cs) (hc:cs.length=L.length):Blk W b cs:=by
  have:=Blk.put (A:=[]) (M:=L) (D:=[]) (by simpa using h) hs rfl hc
  simpa using this
theorem Stored.drew {w W:World} {b o:Nat} {cs:List Value} (h:Stored w.drew W b o cs):Stored w W b o cs:=⟨h.os,h.tape,h.output,h.sz,h.far,h.fz,h.rg,h.apart,h.there⟩
theorem toList_all {C:Array Value} (h:∀ v∈C.toList,v.oneCell'=true):C.all (·.oneCell')=true:=by
  rw [Array.all_eq_true_iff_forall_mem]
  intro v hv
  exact h v (by simpa using hv)
theorem Blk.set {w:World} {b o:Nat} {L:List Value} (h:Blk w b L) (ho:o < L.length) (x:Value):Blk (w.setCell ⟨b,o,none⟩ x) b (L.set o x)∧Stored w (w.setCell ⟨b,o,none⟩ x) b o [x]:=by
  have s1:Stored w (w.setCell ⟨b,o,none⟩ x) b o [x]:=stored_setCell (h.there o 1 (by omega))
  refine⟨?_,s1⟩
  have e:L=L.take o++[L[o]]++L.drop (o+1):=by
    rw [← List.take_succ_eq_append_getElem ho,List.take_append_drop]
  have h2:=h
  rw [e] at h2
  have:=h2.put s1 (by rw [List.length_take];omega) rfl
  rwa [List.set_eq_take_append_cons_drop,if_pos ho,show L.take o++x :: L.drop (o+1)=L.take o++[x]++L.drop (o+1) from by simp]
def OwnR (w0:World) (e:TypeId) (size:Nat) (v:Value) (n:Nat) (xs:List Value) (w:World):Prop:=w.ownsRow w0.heap.size e size v n xs∧Below w0.heap.size w0 w
theorem OwnR.on {w0:World} {e:TypeId} {size:Nat} {v:Value} {n:Nat} {xs:List Value} {w w':World} (h:OwnR w0 e size v n xs w) (hb:Below w.heap.size w w'):OwnR w0 e size v n xs w':=by
  refine⟨⟨h.1.1,?_⟩,bthen h.2 hb⟩
  rcases h.1.2 with q | ⟨g,cap,cur,h1,h2,h3,h4⟩
  · exact .inl q
  · exact .inr ⟨g,cap,cur,h1,h2,by rw [hb.block g (Array.getElem?_eq_some_iff.1 h3).1];exact h3,h4⟩
theorem OwnR.nil (w0:World) (e:TypeId) (size:Nat) {w:World} (hb:Below w0.heap.size w0 w):OwnR w0 e size (.slice none 0 0) 0 [] w:=⟨World.ownsRow_nil _ _ _ _,hb⟩
theorem OwnR.flat {w0:World} {e:TypeId} {size:Nat} {v:Value} {n:Nat} {xs:List Value} {w:World} (h:OwnR w0 e size v n xs w):∃ A c,v=.slice A n c∧n≤c∧FlatQ (fun b=>w0.heap.size≤b∧b < w.heap.size) w A xs:=by
  obtain⟨A,c,h1,h2,h3,-⟩:=flatq_own h.1
  exact⟨A,c,h1,h2,h3⟩
theorem OwnR.app {P:Program} {w0:World} {t ty e:TypeId} {i:TypeInfo} {z:Value} {size bytes:Nat} {v:Value} {n:Nat} {xs:List Value} {w:World} (h:OwnR w0 e size v n xs w) (hi:P.info? e=some i∧i.zero=some z∧i.size=size∧i.bytes=bytes) (h1:P.underlying t=some (.slice e)) (h6:z.cells.size=size) (h7:0 < size)
    {R:Nat→Prop} (X:Option Addr) (m c:Nat) (news:List Value) (hn:news.length=m * size) (hc:FlatQ R w X news) (h1c:∀ u∈news,u.oneCell'=true) (b1:n+m≤maxLen) (b2:(n+m) * bytes≤140737488355328) :
    ∃ v' w',(Builtin.append_ #[t,t] ty #[v,.slice X m c]).run P w=.ok v' w'∧OwnR w0 e size v' (n+m) (xs++news) w':=by
  obtain⟨v',w',q1,q2,q3,-⟩:=run_append_mine (P:=P) w t ty e i z size bytes h1 hi.1 hi.2.1 hi.2.2.1 hi.2.2.2 h6 h7 w0.heap.size v n xs h.1 X m c news hn hc h1c b1 b2 h.2.size
  refine⟨v',w',q1,q2,h.2.grown q3 h.2.size (fun k hk=>?_)⟩
  obtain⟨A,cap,rfl,-,-⟩:=h.flat
  rcases h.1.2 with ⟨q,-⟩ | ⟨g,cap',cur,q,hb,-⟩
  · injection q with q _ _;subst q;cases hk
  · injection q with q _ _;subst q
    simp only [Value.ownBlock,Option.some.injEq] at hk
    omega
theorem own_on {w w':World} {B:Nat} {e:TypeId} {size:Nat} {v:Value} {n:Nat} {xs:List Value} (h:w.ownsRow B e size v n xs) (hb:Below w.heap.size w w'):w'.ownsRow B e size v n xs:=by
  refine⟨h.1,?_⟩
  rcases h.2 with q | ⟨g,cap,cur,h1,h2,h3,h4⟩
  · exact .inl q
  · exact .inr ⟨g,cap,cur,h1,h2,by rw [hb.block g (Array.getElem?_eq_some_iff.1 h3).1];exact h3,h4⟩
theorem own_set {w:World} {B b o:Nat} {e:TypeId} {size:Nat} {v:Value} {n:Nat} {xs:List Value} (h:w.ownsRow B e size v n xs) (hb:b < B) (u:Value):(w.setCell ⟨b,o,none⟩ u).ownsRow B e size v n xs:=by
  refine⟨h.1,?_⟩
  rcases h.2 with q | ⟨g,cap,cur,h1,h2,h3,h4⟩
  · exact .inl q
  · exact .inr ⟨g,cap,cur,h1,h2,(Below.heap_setCell _ _ _ _ (fun (q:g=b)=>by omega)).trans h3,h4⟩
theorem own_app {P:Program} {B:Nat} {t ty e:TypeId} {i:TypeInfo} {z:Value} {size bytes:Nat} {v:Value} {n:Nat} {xs:List Value} {w:World} (h:w.ownsRow B e size v n xs) (hB:B≤w.heap.size) (hi:P.info? e=some i∧i.zero=some z∧i.size=size∧i.bytes=bytes) (h1:P.underlying t=some (.slice e)) (h6:z.cells.size=size) (h7:0 < size)
    {R:Nat→Prop} (X:Option Addr) (m c:Nat) (news:List Value) (hn:news.length=m * size) (hc:FlatQ R w X news) (h1c:∀ u∈news,u.oneCell'=true) (b1:n+m≤maxLen) (b2:(n+m) * bytes≤140737488355328) :
    ∃ v' w',(Builtin.append_ #[t,t] ty #[v,.slice X m c]).run P w=.ok v' w'∧w'.ownsRow B e size v' (n+m) (xs++news)∧Below B w w':=by
  obtain⟨v',w',q1,q2,q3,-⟩:=run_append_mine (P:=P) w t ty e i z size bytes h1 hi.1 hi.2.1 hi.2.2.1 hi.2.2.2 h6 h7 B v n xs h X m c news hn hc h1c b1 b2 hB
  refine⟨v',w',q1,q2,(Below.refl B w).grown q3 hB (fun k hk=>?_)⟩
  obtain⟨A,cap,rfl,-,-⟩:=flatq_own h
  rcases h.2 with ⟨q,-⟩ | ⟨g,cap',cur,q,hb,-⟩
  · injection q with q _ _;subst q;cases hk
  · injection q with q _ _;subst q
    simp only [Value.ownBlock,Option.some.injEq] at hk
    omega
theorem OwnR.push {P:Program} {w0:World} {t ty e:TypeId} {z:Value} {size bytes:Nat} {v:Value} {n:Nat} {xs:List Value} {w:World} (h:OwnR w0 e size v n xs w) (hi:(P.info? e).map (fun i=>(i.zero,i.size,i.bytes))=some (some z,size,bytes)) (h1:P.underlying t=some (.slice e)) (h6:z.cells.size=size) (h7:0 < size)
    (cs:Array Value) (hcs:cs.size=size) (h1c:∀ u∈cs.toList,u.oneCell'=true) (b1:n+1≤maxLen) (b2:(n+1) * bytes≤140737488355328) :
    ∃ v' w',(Builtin.append_ #[t,t] ty #[v,.slice (some ⟨w.heap.size,0,none⟩) 1 1]).run P (w.alloc (.cells cs e))=.ok v' w'∧OwnR w0 e size v' (n+1) (xs++cs.toList) w':=by
  obtain⟨i,q⟩:=info_parts hi
  exact (h.on (below_new w (.cells cs e))).app (R:=fun _=>True) q h1 h6 h7 (some ⟨w.heap.size,0,none⟩) 1 1 cs.toList (by simp [hcs]) (fun j u hu=>⟨w.heap.size,0,rfl,trivial,by rw [World.cell?_alloc_at _ _ _ _ rfl,Nat.zero_add];simpa using hu⟩) h1c b1 b2
theorem one_cell {u v:Value} (h:u∈[v]) (hv:v.oneCell'=true):u.oneCell'=true:=by rw [List.mem_singleton.1 h];exact hv
theorem str_info:(Tryz.prog.info? 9).map (fun i=>(i.zero,i.size,i.bytes))=some (some (.string ByteArray.empty),1,16):=by kernel_rfl
theorem pushS {w0 w:World} {v:Value} {n:Nat} {xs:List Value} (h:OwnR w0 9 1 v n xs w) (u:ByteArray) (hn:n≤1000000000) (ty:TypeId) :
    ∃ v' w',(Builtin.append_ #[134,134] ty #[v,.slice (some ⟨w.heap.size,0,none⟩) 1 1]).run Tryz.prog (w.alloc (.cells #[.string u] 9))=.ok v' w'∧OwnR w0 9 1 v' (n+1) (xs++[.string u]) w':=
  h.push str_info Tryz.underlying134 rfl (by decide) #[.string u] rfl (fun _ q=>one_cell q rfl) (by unfold maxLen;omega) (by omega)
def strL (l:List UInt8):Value:=.string (toB l)
def StrsOut (ls:List (List UInt8)) (w:World) (e:Ending) (w':World):Prop:=
  ∃ A c,e=.returned (.slice A ls.length c)∧FlatQ (fun b=>w.heap.size≤b∧b < w'.heap.size) w' A (ls.map strL)∧Below w.heap.size w w'∧ls.length≤c
theorem StrsOut.own {w0 w:World} {v:Value} {ls:List (List UInt8)} {n:Nat} (h:OwnR w0 9 1 v n (ls.map strL) w) (hn:ls.length=n):StrsOut ls w0 (.returned v) w:=by
  obtain⟨A,c,h1,h2,h3⟩:=h.flat
  exact⟨A,c,by rw [h1,hn],h3,h.2,by omega⟩
theorem toB_ext (s:ByteArray) (i j:Nat):s.extract i j=toB ((s.data.toList.take j).drop i):=by
  obtain⟨⟨l⟩⟩:=s
  unfold toB
  rw [ByteArray.extract_mk]
  simp [List.drop_take]
theorem split_more (c:UInt8) (l:List UInt8) (f k:Nat) (hf:f≤k) (hk:k < l.length) (h:∀ j (hj:j < l.length),f≤j→j < k→l[j]≠c) (hc:l[k]=c):splitB c (l.drop f)=(l.take k).drop f :: splitB c (l.drop (k+1)):=by
  have e:l.drop f=(l.take k).drop f++c :: l.drop (k+1):=by
    rw [← hc,← List.drop_eq_getElem_cons hk,← List.drop_append_of_le_length (by rw [List.length_take];omega),List.take_append_drop]
  rw [e]
  refine splitB_at c _ _ fun x hx=>?_
  obtain⟨j,hj,rfl⟩:=List.getElem_of_mem hx
  rw [List.length_drop,List.length_take] at hj
  rw [List.getElem_drop,List.getElem_take]
  exact h (f+j) (by omega) (by omega) (by omega)
theorem split_last (c:UInt8) (l:List UInt8) (f:Nat) (h:∀ j (hj:j < l.length),f≤j→l[j]≠c):splitB c (l.drop f)=[l.drop f]:=by
  refine splitB_free c _ fun x hx=>?_
  obtain⟨j,hj,rfl⟩:=List.getElem_of_mem hx
  rw [List.length_drop] at hj
  rw [List.getElem_drop]
  exact h (f+j) (by omega) (by omega)
set_option maxHeartbeats 2000000 in
theorem r45Split_any (s:ByteArray) (c:UInt8) (w:World) (hs:s.size≤100000000):Calls Tryz.prog 44 #[.string s,.int .u8 (c.toNat:Int)] w (StrsOut (splitB c s.data.toList) w):=by
  have hl:s.data.toList.length=s.size:=by simp
  go_enter Tryz.func44,Tryz.ntmps44
  go_wp2_with fail
  go_loopw [5,6,7] (fun v fv iv wr=>∃ (k f:Nat) (parts:List (List UInt8)),iv=.int .i64 k∧fv=.int .i64 f∧k≤s.size∧f≤k∧parts.length≤k∧Hid (OwnR w 9 1 v parts.length (parts.map strL) wr) ∧
      Hid (splitB c s.data.toList=parts++splitB c (s.data.toList.drop f))∧Hid (∀ j (hj:j < s.data.toList.length),f≤j→j < k→s.data.toList[j]≠c)) (fun _ _ iv _=>s.size - (intOf iv).toNat)
  case atStart=>exact⟨0,0,[],rfl,rfl,by omega,by omega,by simp,OwnR.nil _ _ _ (Below.refl _ _),rfl,fun j _ _ h=>absurd h (Nat.not_lt_zero _)⟩
  case round=>
    obtain⟨k,f,parts,rfl,rfl,hk,hf,hp,HO,HS,HF⟩:=hrel
    by_cases hlt:k < s.size
    · have hkl:k < s.data.toList.length:=by omega
      have hk2:s.data.toList[k]=s[k]:=rfl
      by_cases hc:s[k]=c
      · have hb:((s[k].toNat:Int)==(c.toNat:Int))=true:=by rw [beq_iff_eq,hc]
        have HN:Hid (splitB c s.data.toList=(parts++[(s.data.toList.take k).drop f])++splitB c (s.data.toList.drop (k+1))):=by
          show _=_
          rw [HS.out,split_more c _ f k hf hkl HF.out (hk2.trans hc),List.append_assoc]
          rfl
        obtain⟨v',W',hr,ho⟩:=pushS HO.out (s.extract f k) (by omega) 134
        have HR:=Lib.hid hr
        have HO2:Hid (OwnR w 9 1 v' (parts++[(s.data.toList.take k).drop f]).length ((parts++[(s.data.toList.take k).drop f]).map strL) W'):=by
          show OwnR _ _ _ _ _ _ _
          rw [List.length_append,List.map_append]
          have:=ho
          rw [toB_ext] at this
          exact this
        clear hc hk2 HS HF HO hr ho
        go_wp2_with (at_builtin;refine wpList_append_known rfl _ _ 134 rfl _ _ _ rfl rfl HR.out ?_)
        go_roundw
        case rel=>exact⟨k+1,k+1,_,by go_num,by go_num,by omega,by omega,by rw [List.length_append,List.length_singleton];omega,HO2,HN,fun j _ a b=>by omega⟩
        case measure=>simp [intOf];omega
      · have hb:((s[k].toNat:Int)==(c.toNat:Int))=false:=by
          rw [beq_eq_false_iff_ne];intro q;exact hc (UInt8.toNat_inj.1 (by omega))
        have HF2:Hid (∀ j (hj:j < s.data.toList.length),f≤j→j < k+1→s.data.toList[j]≠c):=fun j hj h1 h2=>by
          rcases (by omega:j < k∨j=k) with q | rfl
          · exact HF.out j hj h1 q
          · exact hc
        clear hc hk2 HF
        go_wp2_with fail
        go_roundw
        case rel=>exact⟨k+1,f,parts,by go_num,rfl,by omega,by omega,by omega,HO,HS,HF2⟩
        case measure=>simp [intOf];omega
    · have hge:(s.size:Int)≤(k:Int):=by omega
      have HE:Hid (splitB c s.data.toList=parts++[(s.data.toList.take s.size).drop f]):=by
        show _=_
        rw [HS.out,split_last c _ f (fun j hj h=>HF.out j hj h (by omega)),List.take_of_length_le (by omega)]
      obtain⟨v',W',hr,ho⟩:=pushS HO.out (s.extract f s.size) (by omega) 134
      have HR:=Lib.hid hr
      have HO2:Hid (OwnR w 9 1 v' (parts++[(s.data.toList.take s.size).drop f]).length ((parts++[(s.data.toList.take s.size).drop f]).map strL) W'):=by
        show OwnR _ _ _ _ _ _ _
        rw [List.length_append,List.map_append]
        have:=ho
        rw [toB_ext] at this
        exact this
      clear HS HF HO hr ho hl
      go_wp2_with (at_builtin;refine wpList_append_known rfl _ _ 134 rfl _ _ _ rfl rfl HR.out ?_)
      go_ret
      rw [HE.out]
      exact StrsOut.own HO2.out rfl
end Go.Proofs.YtaiepcgfofpmjaaGreat
