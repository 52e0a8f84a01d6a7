/- Layer 45, plain: what is shown is read as those steps. -/
import Derived.Test.YtaiepcgfofpmjaaGreatS10
namespace Go.Proofs.YtaiepcgfofpmjaaGreat
set_option linter.unusedVariables false
open Go.RowKit
def StpOk:Stp→Prop
  | .bytes _=>True
  | .tick n=>I64 n
  | .send id v=>I64 id∧∀ x∈v,I64 x
  | .log n=>I64 n
  | .ask y l=>I64 y∧∀ p∈l,I64 p.1∧I64 p.2
theorem hexL_list:∀ k:Fin 256,(hexL ((k.val:Nat):Int)).length=2∧∀ c∈hexL ((k.val:Nat):Int),c≠45∧c≠32∧c≠10:=by decide +kernel
theorem hexL_of (c:UInt8):∃ a b,hexL (c.toNat:Int)=[a,b]∧(a≠45∧a≠32∧a≠10)∧b≠45∧b≠32∧b≠10:=by
  obtain⟨h1,h2⟩:=hexL_list ⟨c.toNat,c.toNat_lt⟩
  dsimp only at h1 h2
  match hx:hexL (c.toNat:Int),h1 with
  | [a,b],_=>exact⟨a,b,rfl,h2 a (by rw [hx];simp),h2 b (by rw [hx];simp)⟩
theorem hexQ_back (b:List UInt8):hexQ (b.flatMap fun c=>hexL (c.toNat:Int))=some b:=by
  induction b with
  | nil=>rfl
  | cons c r ih=>
    obtain⟨x,y,h,-⟩:=hexL_of c
    have hu:=unhex_hexL (c.toNat:Int) (by omega) (by have:=c.toNat_lt;omega)
    rw [List.flatMap_cons,h]
    rw [h] at hu
    show hexQ (x :: y :: r.flatMap fun c=>hexL (c.toNat:Int))=_
    rw [hexQ,hu]
    dsimp only
    rw [if_pos h,ih]
    simp
theorem hexT_ne (b:List UInt8):hexT b≠[]∧(b≠[]→hexT b≠[45])∧∀ c∈hexT b,c≠32∧c≠10:=by
  unfold hexT
  cases b with
  | nil=>
    refine⟨by simp,fun h=>absurd rfl h,fun c hc=>?_⟩
    have hc:c=45:=by simpa using hc
    subst hc
    decide
  | cons a r=>
    rw [if_neg (by simp)]
    obtain⟨x,y,h,h1,h2⟩:=hexL_of a
    rw [List.flatMap_cons,h]
    refine⟨by simp,fun _ q=>by injection q with q;exact h1.1 q,fun c hc=>?_⟩
    rcases List.mem_append.1 hc with q | q
    · simp only [List.mem_cons,List.not_mem_nil,or_false] at q
      rcases q with rfl | rfl
      · exact h1.2
      · exact h2.2
    · obtain⟨z,_,hz⟩:=List.mem_flatMap.1 q
      obtain⟨x',y',h',h1',h2'⟩:=hexL_of z
      rw [h'] at hz
      simp only [List.mem_cons,List.not_mem_nil,or_false] at hz
      rcases hz with rfl | rfl
      · exact h1'.2
      · exact h2'.2
theorem hexW_back (b:List UInt8):hexW (hexT b)=some b:=by
  unfold hexW
  by_cases h0:b=[]
  · subst h0;rfl
  · obtain⟨h1,h2,-⟩:=hexT_ne b
    rw [if_neg (h2 h0),if_neg h1]
    unfold hexT
    rw [if_neg h0]
    exact hexQ_back b
theorem numsW_back:∀ v:List Int,(∀ x∈v,I64 x)→numsW (v.map dgT)=some v
  | [],_=>rfl
  | n :: v,h=>by
    rw [List.map_cons,numsW,numW_dgT (h n (by simp))]
    dsimp only
    rw [numsW_back v fun x hx=>h x (List.mem_cons_of_mem _ hx)]
    rfl
theorem dgT_free {n:Int} (h:I64 n):∀ c∈dgT n,c≠32∧c≠10∧c≠61:=by
  intro c hc
  rcases dgT_mem h c hc with rfl | q
  · decide
  · refine⟨?_,?_,?_⟩ <;> (intro e;subst e;revert q;decide)
theorem pairW_back (p:Int×Int) (h:I64 p.1∧I64 p.2):pairW (pairT p)=some p:=by
  unfold pairW pairT
  rw [splitB_at 61 _ _ fun c hc=>(dgT_free h.1 c hc).2.2,splitB_free 61 _ fun c hc=>(dgT_free h.2 c hc).2.2]
  rw [numsW,numW_dgT h.1]
  dsimp only
  rw [numsW,numW_dgT h.2]
  rfl
theorem pairT_free (p:Int×Int) (h:I64 p.1∧I64 p.2):∀ c∈pairT p,c≠32∧c≠10:=by
  intro c hc
  unfold pairT at hc
  rcases List.mem_append.1 hc with q | q
  · have:=dgT_free h.1 c q;exact⟨this.1,this.2.1⟩
  · rcases List.mem_cons.1 q with rfl | q
    · decide
    · have:=dgT_free h.2 c q;exact⟨this.1,this.2.1⟩
theorem pairsW_back:∀ v:List (Int×Int),(∀ x∈v,I64 x.1∧I64 x.2)→pairsW (v.map pairT)=some v
  | [],_=>rfl
  | n :: v,h=>by
    rw [List.map_cons,pairsW,pairW_back n (h n (by simp))]
    dsimp only
    rw [pairsW_back v fun x hx=>h x (List.mem_cons_of_mem _ hx)]
    rfl
theorem words_free (s:Stp) (h:StpOk s):wordsT s≠[]∧∀ w∈wordsT s,∀ c∈w,c≠32∧c≠10:=by
  have two:∀ (a b:List UInt8),(∀ c∈a,c≠32∧c≠10)→(∀ c∈b,c≠32∧c≠10)→∀ w∈[a,b],∀ c∈w,c≠32∧c≠10:=fun a b ha hb w hw=>by
    simp only [List.mem_cons,List.not_mem_nil,or_false] at hw
    rcases hw with rfl | rfl
    · exact ha
    · exact hb
  have dg:∀ n,I64 n→∀ c∈dgT n,c≠32∧c≠10:=fun n hn c hc=>⟨(dgT_free hn c hc).1,(dgT_free hn c hc).2.1⟩
  cases s with
  | bytes b=>exact⟨by simp [wordsT],two _ _ (by unfold wBytes;decide) (hexT_ne b).2.2⟩
  | tick n=>exact⟨by simp [wordsT],two _ _ (by unfold wTick;decide) (dg n h)⟩
  | log n=>exact⟨by simp [wordsT],two _ _ (by unfold wLog;decide) (dg n h)⟩
  | send id v=>
    refine⟨by simp [wordsT],fun w hw=>?_⟩
    rw [show wordsT (.send id v)=[wSend,dgT id]++v.map dgT from rfl] at hw
    rcases List.mem_append.1 hw with q | q
    · exact two _ _ (by unfold wSend;decide) (dg id h.1) w q
    · obtain⟨x,hx,rfl⟩:=List.mem_map.1 q
      exact dg x (h.2 x hx)
  | ask y l=>
    refine⟨by simp [wordsT],fun w hw=>?_⟩
    rw [show wordsT (.ask y l)=[wAsk,dgT y]++l.map pairT from rfl] at hw
    rcases List.mem_append.1 hw with q | q
    · exact two _ _ (by unfold wAsk;decide) (dg y h.1) w q
    · obtain⟨x,hx,rfl⟩:=List.mem_map.1 q
      exact pairT_free x (h.2 x hx)
theorem lineW_back (s:Stp) (h:StpOk s):lineW (lineT s)=some s:=by
  obtain⟨h1,h2⟩:=words_free s h
  unfold lineW lineT
  rw [split_join 32 _ h1 fun w hw c hc=>(h2 w hw c hc).1]
  cases s with
  | bytes b=>
    dsimp only [wordsT,stepW]
    rw [if_pos rfl,hexW_back]
    rfl
  | tick n=>
    dsimp only [wordsT,stepW]
    rw [if_neg (by unfold wTick wBytes;decide),numW_dgT h]
    rfl
  | log n=>
    dsimp only [wordsT,stepW]
    rw [if_neg (by unfold wLog wBytes;decide),numW_dgT h]
    dsimp only
    rw [if_neg (by unfold wLog wTick;decide)]
    rfl
  | send id v=>
    dsimp only [wordsT,stepW]
    rw [if_neg (by unfold wSend wBytes;decide),numW_dgT h.1]
    dsimp only
    rw [if_neg (by unfold wSend wTick;decide),if_neg (by unfold wSend wLog;decide),if_pos rfl,numsW_back v h.2]
    rfl
  | ask y l=>
    dsimp only [wordsT,stepW]
    rw [if_neg (by unfold wAsk wBytes;decide),numW_dgT h.1]
    dsimp only
    rw [if_neg (by unfold wAsk wTick;decide),if_neg (by unfold wAsk wLog;decide),if_neg (by unfold wAsk wSend;decide),if_pos rfl,pairsW_back l h.2]
    rfl
theorem joinB_free (d c:UInt8) (hd:d≠c):∀ ws:List (List UInt8),(∀ w∈ws,∀ x∈w,x≠c)→∀ x∈joinB d ws,x≠c
  | [],_,x,hx=>by cases hx
  | [p],h,x,hx=>h p (by simp) x hx
  | p :: q :: r,h,x,hx=>by
    rw [joinB] at hx
    rcases List.mem_append.1 hx with z | z
    · exact h p (by simp) x z
    · rcases List.mem_cons.1 z with rfl | z
      · exact hd
      · exact joinB_free d c hd (q :: r) (fun w hw=>h w (List.mem_cons_of_mem _ hw)) x z
theorem lineT_ok (s:Stp) (h:StpOk s):(∀ x∈lineT s,x≠10)∧lineT s≠[]:=by
  obtain⟨h1,h2⟩:=words_free s h
  refine⟨joinB_free 32 10 (by decide) _ fun w hw c hc=>(h2 w hw c hc).2,fun q=>?_⟩
  have:=lineW_back s h
  rw [q] at this
  cases this
def showT (l:List Stp):List UInt8:=l.flatMap fun s=>lineT s++[10]
theorem split_show:∀ l:List Stp,(∀ s∈l,StpOk s)→splitB 10 (showT l)=l.map lineT++[[]]
  | [],_=>rfl
  | s :: l,h=>by
    rw [showT,List.flatMap_cons,List.append_assoc,List.singleton_append,splitB_at 10 _ _ (lineT_ok s (h s (by simp))).1]
    show _ :: splitB 10 (showT l)=_
    rw [split_show l fun t ht=>h t (List.mem_cons_of_mem _ ht)]
    rfl
theorem read_show:∀ (l:List Stp) (at_:Nat) (out:List Stp),(∀ s∈l,StpOk s)→readW at_ (l.map lineT++[[]]) out=(some (out++l),0)
  | [],at_,out,_=>by rw [List.append_nil];rfl
  | s :: l,at_,out,h=>by
    rw [List.map_cons,List.cons_append,readW,if_neg (lineT_ok s (h s (by simp))).2,lineW_back s (h s (by simp))]
    dsimp only
    rw [read_show l _ _ fun t ht=>h t (List.mem_cons_of_mem _ ht),List.append_assoc]
    rfl
theorem read_back (l:List Stp) (h:∀ s∈l,StpOk s):readW 0 (splitB 10 (showT l)) []=(some l,0):=by
  rw [split_show l h,read_show l 0 [] h,List.nil_append]
end Go.Proofs.YtaiepcgfofpmjaaGreat
