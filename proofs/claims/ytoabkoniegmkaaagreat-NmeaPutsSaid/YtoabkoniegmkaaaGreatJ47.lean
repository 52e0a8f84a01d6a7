/- Arguments opened: calls of pens and eyes. -/
import Derived.Test.YtoabkoniegmkaaaGreatJ00
import Derived.Deep.Slices
import Derived.SliceStrings
import Derived.Test.YtoabkoniegmkaaaGreatJ21
import Derived.Test.YtoabkoniegmkaaaGreatJ12
import Derived.Test.YtoabkoniegmkaaaGreatJ25
namespace Go.Proofs.YtoabkoniegmkaaaGreat
set_option linter.unusedVariables false
open Go.ChangeShapes Go.WideShapes Go.ChangeAt Go.RowKit Go.Joins Go.Deep
section
variable {H : Type} {enc : TypeId × Value → H} {P : Program} {w : World} {base : Nat} {spare : Nat → Bool} {held : Bool}
end
open Go.ChangeShapes Go.WideShapes Go.ChangeAt Go.RowKit Go.Joins Go.Deep
section
variable {H : Type} {enc : TypeId × Value → H} {P : Program} {w : World} {base : Nat} {spare : Nat → Bool} {held : Bool}
end
open Go.ChangeShapes Go.WideShapes Go.ChangeAt Go.RowKit Go.Joins Go.Deep
section
variable {H : Type} {enc : TypeId × Value → H} {P : Program} {w : World} {base : Nat} {spare : Nat → Bool} {held : Bool}
theorem trod_struct4 {t:TypeId} {f0 f1 f2 f3:Field} {fuel:Nat} {cs:List Value} {x:DataW H×List MemPlace} (ht:P.underlying t=some (.struct #[f0,f1,f2,f3])) (h:DataW.trod enc P w base spare held fuel t cs=some x) :
    ∃ y0 y1 y2 y3 n,DataW.trod enc P w base spare held n f0.type ((cs.drop f0.offset).take (P.cellsOf f0.type))=some y0 ∧
      DataW.trod enc P w base spare held n f1.type ((cs.drop f1.offset).take (P.cellsOf f1.type))=some y1∧DataW.trod enc P w base spare held n f2.type ((cs.drop f2.offset).take (P.cellsOf f2.type))=some y2 ∧
      DataW.trod enc P w base spare held n f3.type ((cs.drop f3.offset).take (P.cellsOf f3.type))=some y3:=by
  obtain⟨xs,n,_,rfl,hl,hlen,hf⟩:=DataW.trod_struct ht h
  match xs,hlen with
  | [y0,y1,y2,y3],_=>exact⟨y0,y1,y2,y3,n,by simpa using hf 0 f0 rfl,by simpa using hf 1 f1 rfl,by simpa using hf 2 f2 rfl,by simpa using hf 3 f3 rfl⟩
theorem trod_num {t:TypeId} {n0 n1:Field} {fuel:Nat} {c0 c1:Value} {x:DataW H×List MemPlace} (hn:P.underlying t=some (.struct #[n0,n1])) (k0:n0.offset=0) (k1:n1.offset=1) (k2:P.cellsOf n0.type=1) (k3:P.cellsOf n1.type=1)
    (u0:P.underlying n0.type=some .bool) (u1:P.underlying n1.type=some (.int .i64)) (h:DataW.trod enc P w base spare held fuel t [c0,c1]=some x):∃ (b:Bool) (n:Int),c0=.bool b∧c1=.int .i64 n:=by
  obtain⟨_,_,_,_,_,a0,a1⟩:=trod_struct2 hn h
  simp [k0,k1,k2,k3] at a0 a1
  obtain⟨m0,p0,_⟩:=DataW.trod_bool u0 a0
  obtain⟨m1,p1,_⟩:=DataW.trod_int u1 a1
  simp at p0 p1
  exact⟨m0,m1,p0,p1⟩
end
open Go.ChangeShapes Go.WideShapes Go.ChangeAt Go.RowKit Go.Joins Go.Deep
section
variable {H : Type} {enc : TypeId × Value → H} {P : Program} {w : World} {base : Nat} {spare : Nat → Bool} {held : Bool}
def IsInts (P:Program) (t:TypeId):Prop:=∃ e,P.underlying t=some (.slice e)∧P.underlying e=some (.int .i64)∧P.cellsOf e=1
theorem trod_ints {t:TypeId} {fuel:Nat} {v:Value} {x:DataW H×List MemPlace} (hg:IsInts P t) (h:DataW.trod enc P w base spare held fuel t [v]=some x) :
    ∃ (A:Option Addr) (c:Nat) (L:List Int),v=.slice A L.length c∧L.length≤maxLen∧Ints w w.heap.size A L:=by
  obtain⟨e,ht,he,hc⟩:=hg
  rcases open_ints ht he hc h with ⟨hcs,_⟩ | ⟨a,len,cap,zs,hcs,_,hl,hm,hz,_,hcell,_⟩
  · simp at hcs
    subst hcs
    exact⟨none,0,[],rfl,by simp,fun k hk=>absurd hk (by simp)⟩
  · simp at hcs
    subst hcs
    have hlen:len≤zs.length:=by split at hz <;> omega
    have hl2:(zs.take len).length=len:=by simp;omega
    refine⟨some a,cap,zs.take len,by rw [hl2],by rw [hl2];omega,?_⟩
    intro k hk
    rw [hl2] at hk
    have hck:=hcell k (by omega)
    have hge:zs.getD k 0=(zs.take len)[k]'(by rw [hl2];exact hk):=by
      rw [List.getElem_take,List.getD,List.getElem?_eq_getElem (by omega)]
      rfl
    rw [hge] at hck
    obtain⟨b,off,spot⟩:=a
    have hspot:spot=none:=World.cell?_spot (hcell 0 (by omega))
    subst hspot
    have hadd:(⟨b,off,none⟩:Addr).add k=⟨b,off+k,none⟩:=by
      unfold Addr.add
      split <;> simp_all
    rw [hadd] at hck
    exact⟨b,off,rfl,World.block_lt_of_cell? w _ hck,hck⟩
def IsNum (P:Program) (t:TypeId):Prop:=∃ f0 f1:Field,P.underlying t=some (.struct #[f0,f1])∧[P.cellsOf t,f0.offset,f1.offset,P.cellsOf f0.type,P.cellsOf f1.type]=[2,0,1,1,1]∧P.underlying f0.type=some .bool∧P.underlying f1.type=some (.int .i64)
theorem trod_isnum {t:TypeId} {fuel:Nat} {c0 c1:Value} {x:DataW H×List MemPlace} (hg:IsNum P t) (h:DataW.trod enc P w base spare held fuel t [c0,c1]=some x):∃ (v0:Bool) (v1:Int),[c0,c1]=[.bool v0,.int .i64 v1]:=by
  obtain⟨f0,f1,hs,hk,t0,t1⟩:=hg
  simp only [List.cons.injEq,and_true] at hk
  obtain⟨k0,o0,o1,m0,m1⟩:=hk
  obtain⟨xs,n,_,_,_,hxl,hf⟩:=DataW.trod_struct hs h
  match xs,hxl with
  | [y0,y1],_=>
    have e0:=hf 0 f0 rfl
    rw [o0,m0] at e0
    have e0:DataW.trod enc P w base spare held n f0.type [c0]=some y0:=e0
    obtain⟨v0,q0,_⟩:=DataW.trod_bool t0 e0
    simp at q0
    subst q0
    have e1:=hf 1 f1 rfl
    rw [o1,m1] at e1
    have e1:DataW.trod enc P w base spare held n f1.type [c1]=some y1:=e1
    obtain⟨v1,q1,_⟩:=DataW.trod_int t1 e1
    simp at q1
    subst q1
    exact⟨v0,v1,rfl⟩
def IsClk (P:Program) (t:TypeId):Prop:=∃ f0 f1 f2 f3 f4:Field,P.underlying t=some (.struct #[f0,f1,f2,f3,f4])∧[P.cellsOf t,f0.offset,f1.offset,f2.offset,f3.offset,f4.offset,P.cellsOf f0.type,P.cellsOf f1.type,P.cellsOf f2.type,P.cellsOf f3.type,P.cellsOf f4.type]=[5,0,1,2,3,4,1,1,1,1,1]∧P.underlying f0.type=some .bool∧P.underlying f1.type=some (.int .i64)∧P.underlying f2.type=some (.int .i64)∧P.underlying f3.type=some (.int .i64)∧P.underlying f4.type=some (.int .i64)
theorem trod_isclk {t:TypeId} {fuel:Nat} {c0 c1 c2 c3 c4:Value} {x:DataW H×List MemPlace} (hg:IsClk P t) (h:DataW.trod enc P w base spare held fuel t [c0,c1,c2,c3,c4]=some x):∃ (v0:Bool) (v1:Int) (v2:Int) (v3:Int) (v4:Int),[c0,c1,c2,c3,c4]=[.bool v0,.int .i64 v1,.int .i64 v2,.int .i64 v3,.int .i64 v4]:=by
  obtain⟨f0,f1,f2,f3,f4,hs,hk,t0,t1,t2,t3,t4⟩:=hg
  simp only [List.cons.injEq,and_true] at hk
  obtain⟨k0,o0,o1,o2,o3,o4,m0,m1,m2,m3,m4⟩:=hk
  obtain⟨xs,n,_,_,_,hxl,hf⟩:=DataW.trod_struct hs h
  match xs,hxl with
  | [y0,y1,y2,y3,y4],_=>
    have e0:=hf 0 f0 rfl
    rw [o0,m0] at e0
    have e0:DataW.trod enc P w base spare held n f0.type [c0]=some y0:=e0
    obtain⟨v0,q0,_⟩:=DataW.trod_bool t0 e0
    simp at q0
    subst q0
    have e1:=hf 1 f1 rfl
    rw [o1,m1] at e1
    have e1:DataW.trod enc P w base spare held n f1.type [c1]=some y1:=e1
    obtain⟨v1,q1,_⟩:=DataW.trod_int t1 e1
    simp at q1
    subst q1
    have e2:=hf 2 f2 rfl
    rw [o2,m2] at e2
    have e2:DataW.trod enc P w base spare held n f2.type [c2]=some y2:=e2
    obtain⟨v2,q2,_⟩:=DataW.trod_int t2 e2
    simp at q2
    subst q2
    have e3:=hf 3 f3 rfl
    rw [o3,m3] at e3
    have e3:DataW.trod enc P w base spare held n f3.type [c3]=some y3:=e3
    obtain⟨v3,q3,_⟩:=DataW.trod_int t3 e3
    simp at q3
    subst q3
    have e4:=hf 4 f4 rfl
    rw [o4,m4] at e4
    have e4:DataW.trod enc P w base spare held n f4.type [c4]=some y4:=e4
    obtain⟨v4,q4,_⟩:=DataW.trod_int t4 e4
    simp at q4
    subst q4
    exact⟨v0,v1,v2,v3,v4,rfl⟩
def IsDat (P:Program) (t:TypeId):Prop:=∃ f0 f1 f2 f3:Field,P.underlying t=some (.struct #[f0,f1,f2,f3])∧[P.cellsOf t,f0.offset,f1.offset,f2.offset,f3.offset,P.cellsOf f0.type,P.cellsOf f1.type,P.cellsOf f2.type,P.cellsOf f3.type]=[4,0,1,2,3,1,1,1,1]∧P.underlying f0.type=some .bool∧P.underlying f1.type=some (.int .i64)∧P.underlying f2.type=some (.int .i64)∧P.underlying f3.type=some (.int .i64)
theorem trod_isdat {t:TypeId} {fuel:Nat} {c0 c1 c2 c3:Value} {x:DataW H×List MemPlace} (hg:IsDat P t) (h:DataW.trod enc P w base spare held fuel t [c0,c1,c2,c3]=some x):∃ (v0:Bool) (v1:Int) (v2:Int) (v3:Int),[c0,c1,c2,c3]=[.bool v0,.int .i64 v1,.int .i64 v2,.int .i64 v3]:=by
  obtain⟨f0,f1,f2,f3,hs,hk,t0,t1,t2,t3⟩:=hg
  simp only [List.cons.injEq,and_true] at hk
  obtain⟨k0,o0,o1,o2,o3,m0,m1,m2,m3⟩:=hk
  obtain⟨xs,n,_,_,_,hxl,hf⟩:=DataW.trod_struct hs h
  match xs,hxl with
  | [y0,y1,y2,y3],_=>
    have e0:=hf 0 f0 rfl
    rw [o0,m0] at e0
    have e0:DataW.trod enc P w base spare held n f0.type [c0]=some y0:=e0
    obtain⟨v0,q0,_⟩:=DataW.trod_bool t0 e0
    simp at q0
    subst q0
    have e1:=hf 1 f1 rfl
    rw [o1,m1] at e1
    have e1:DataW.trod enc P w base spare held n f1.type [c1]=some y1:=e1
    obtain⟨v1,q1,_⟩:=DataW.trod_int t1 e1
    simp at q1
    subst q1
    have e2:=hf 2 f2 rfl
    rw [o2,m2] at e2
    have e2:DataW.trod enc P w base spare held n f2.type [c2]=some y2:=e2
    obtain⟨v2,q2,_⟩:=DataW.trod_int t2 e2
    simp at q2
    subst q2
    have e3:=hf 3 f3 rfl
    rw [o3,m3] at e3
    have e3:DataW.trod enc P w base spare held n f3.type [c3]=some y3:=e3
    obtain⟨v3,q3,_⟩:=DataW.trod_int t3 e3
    simp at q3
    subst q3
    exact⟨v0,v1,v2,v3,rfl⟩
def IsGsa (P:Program) (t:TypeId):Prop:=∃ f0 f1 f2 f3 f4 f5:Field,P.underlying t=some (.struct #[f0,f1,f2,f3,f4,f5])∧[P.cellsOf t,f0.offset,f1.offset,f2.offset,f3.offset,f4.offset,f5.offset,P.cellsOf f0.type,P.cellsOf f1.type,P.cellsOf f2.type,P.cellsOf f3.type,P.cellsOf f4.type,P.cellsOf f5.type]=[9,0,1,2,3,5,7,1,1,1,2,2,2]∧P.underlying f0.type=some .bool∧P.underlying f1.type=some (.int .i64)∧IsInts P f2.type∧IsNum P f3.type∧IsNum P f4.type∧IsNum P f5.type
theorem trod_isgsa {t:TypeId} {fuel:Nat} {c0 c1 c2 c3 c4 c5 c6 c7 c8:Value} {x:DataW H×List MemPlace} (hg:IsGsa P t) (h:DataW.trod enc P w base spare held fuel t [c0,c1,c2,c3,c4,c5,c6,c7,c8]=some x):∃ (v0:Bool) (v1:Int) (Av2:Option Addr) (cv2:Nat) (Lv2:List Int) (v3_0:Bool) (v3_1:Int) (v4_0:Bool) (v4_1:Int) (v5_0:Bool) (v5_1:Int),[c0,c1,c2,c3,c4,c5,c6,c7,c8]=[.bool v0,.int .i64 v1,.slice Av2 Lv2.length cv2,.bool v3_0,.int .i64 v3_1,.bool v4_0,.int .i64 v4_1,.bool v5_0,.int .i64 v5_1]∧Lv2.length≤maxLen∧Ints w w.heap.size Av2 Lv2:=by
  obtain⟨f0,f1,f2,f3,f4,f5,hs,hk,t0,t1,t2,t3,t4,t5⟩:=hg
  simp only [List.cons.injEq,and_true] at hk
  obtain⟨k0,o0,o1,o2,o3,o4,o5,m0,m1,m2,m3,m4,m5⟩:=hk
  obtain⟨xs,n,_,_,_,hxl,hf⟩:=DataW.trod_struct hs h
  match xs,hxl with
  | [y0,y1,y2,y3,y4,y5],_=>
    have e0:=hf 0 f0 rfl
    rw [o0,m0] at e0
    have e0:DataW.trod enc P w base spare held n f0.type [c0]=some y0:=e0
    obtain⟨v0,q0,_⟩:=DataW.trod_bool t0 e0
    simp at q0
    subst q0
    have e1:=hf 1 f1 rfl
    rw [o1,m1] at e1
    have e1:DataW.trod enc P w base spare held n f1.type [c1]=some y1:=e1
    obtain⟨v1,q1,_⟩:=DataW.trod_int t1 e1
    simp at q1
    subst q1
    have e2:=hf 2 f2 rfl
    rw [o2,m2] at e2
    have e2:DataW.trod enc P w base spare held n f2.type [c2]=some y2:=e2
    obtain⟨Av2,cv2,Lv2,rfl,Bv2,Wv2⟩:=trod_ints t2 e2
    have e3:=hf 3 f3 rfl
    rw [o3,m3] at e3
    have e3:DataW.trod enc P w base spare held n f3.type [c3,c4]=some y3:=e3
    obtain⟨v3_0,v3_1,q3⟩:=trod_isnum t3 e3
    simp only [List.cons.injEq,and_true] at q3
    obtain⟨rfl,rfl⟩:=q3
    have e4:=hf 4 f4 rfl
    rw [o4,m4] at e4
    have e4:DataW.trod enc P w base spare held n f4.type [c5,c6]=some y4:=e4
    obtain⟨v4_0,v4_1,q4⟩:=trod_isnum t4 e4
    simp only [List.cons.injEq,and_true] at q4
    obtain⟨rfl,rfl⟩:=q4
    have e5:=hf 5 f5 rfl
    rw [o5,m5] at e5
    have e5:DataW.trod enc P w base spare held n f5.type [c7,c8]=some y5:=e5
    obtain⟨v5_0,v5_1,q5⟩:=trod_isnum t5 e5
    simp only [List.cons.injEq,and_true] at q5
    obtain⟨rfl,rfl⟩:=q5
    exact⟨v0,v1,Av2,cv2,Lv2,v3_0,v3_1,v4_0,v4_1,v5_0,v5_1,rfl,Bv2,Wv2⟩
def IsGga (P:Program) (t:TypeId):Prop:=∃ f0 f1 f2 f3 f4 f5 f6 f7 f8 f9:Field,P.underlying t=some (.struct #[f0,f1,f2,f3,f4,f5,f6,f7,f8,f9])∧[P.cellsOf t,f0.offset,f1.offset,f2.offset,f3.offset,f4.offset,f5.offset,f6.offset,f7.offset,f8.offset,f9.offset,P.cellsOf f0.type,P.cellsOf f1.type,P.cellsOf f2.type,P.cellsOf f3.type,P.cellsOf f4.type,P.cellsOf f5.type,P.cellsOf f6.type,P.cellsOf f7.type,P.cellsOf f8.type,P.cellsOf f9.type]=[22,0,5,7,9,10,12,14,16,18,20,5,2,2,1,2,2,2,2,2,2]∧IsClk P f0.type∧IsNum P f1.type∧IsNum P f2.type∧P.underlying f3.type=some (.int .i64)∧IsNum P f4.type∧IsNum P f5.type∧IsNum P f6.type∧IsNum P f7.type∧IsNum P f8.type∧IsNum P f9.type
theorem trod_isgga {t:TypeId} {fuel:Nat} {c0 c1 c2 c3 c4 c5 c6 c7 c8 c9 c10 c11 c12 c13 c14 c15 c16 c17 c18 c19 c20 c21:Value} {x:DataW H×List MemPlace} (hg:IsGga P t) (h:DataW.trod enc P w base spare held fuel t [c0,c1,c2,c3,c4,c5,c6,c7,c8,c9,c10,c11,c12,c13,c14,c15,c16,c17,c18,c19,c20,c21]=some x):∃ (v0_0:Bool) (v0_1:Int) (v0_2:Int) (v0_3:Int) (v0_4:Int) (v1_0:Bool) (v1_1:Int) (v2_0:Bool) (v2_1:Int) (v3:Int) (v4_0:Bool) (v4_1:Int) (v5_0:Bool) (v5_1:Int) (v6_0:Bool) (v6_1:Int) (v7_0:Bool) (v7_1:Int) (v8_0:Bool) (v8_1:Int) (v9_0:Bool) (v9_1:Int),[c0,c1,c2,c3,c4,c5,c6,c7,c8,c9,c10,c11,c12,c13,c14,c15,c16,c17,c18,c19,c20,c21]=[.bool v0_0,.int .i64 v0_1,.int .i64 v0_2,.int .i64 v0_3,.int .i64 v0_4,.bool v1_0,.int .i64 v1_1,.bool v2_0,.int .i64 v2_1,.int .i64 v3,.bool v4_0,.int .i64 v4_1,.bool v5_0,.int .i64 v5_1,.bool v6_0,.int .i64 v6_1,.bool v7_0,.int .i64 v7_1,.bool v8_0,.int .i64 v8_1,.bool v9_0,.int .i64 v9_1]:=by
  obtain⟨f0,f1,f2,f3,f4,f5,f6,f7,f8,f9,hs,hk,t0,t1,t2,t3,t4,t5,t6,t7,t8,t9⟩:=hg
  simp only [List.cons.injEq,and_true] at hk
  obtain⟨k0,o0,o1,o2,o3,o4,o5,o6,o7,o8,o9,m0,m1,m2,m3,m4,m5,m6,m7,m8,m9⟩:=hk
  obtain⟨xs,n,_,_,_,hxl,hf⟩:=DataW.trod_struct hs h
  match xs,hxl with
  | [y0,y1,y2,y3,y4,y5,y6,y7,y8,y9],_=>
    have e0:=hf 0 f0 rfl
    rw [o0,m0] at e0
    have e0:DataW.trod enc P w base spare held n f0.type [c0,c1,c2,c3,c4]=some y0:=e0
    obtain⟨v0_0,v0_1,v0_2,v0_3,v0_4,q0⟩:=trod_isclk t0 e0
    simp only [List.cons.injEq,and_true] at q0
    obtain⟨rfl,rfl,rfl,rfl,rfl⟩:=q0
    have e1:=hf 1 f1 rfl
    rw [o1,m1] at e1
    have e1:DataW.trod enc P w base spare held n f1.type [c5,c6]=some y1:=e1
    obtain⟨v1_0,v1_1,q1⟩:=trod_isnum t1 e1
    simp only [List.cons.injEq,and_true] at q1
    obtain⟨rfl,rfl⟩:=q1
    have e2:=hf 2 f2 rfl
    rw [o2,m2] at e2
    have e2:DataW.trod enc P w base spare held n f2.type [c7,c8]=some y2:=e2
    obtain⟨v2_0,v2_1,q2⟩:=trod_isnum t2 e2
    simp only [List.cons.injEq,and_true] at q2
    obtain⟨rfl,rfl⟩:=q2
    have e3:=hf 3 f3 rfl
    rw [o3,m3] at e3
    have e3:DataW.trod enc P w base spare held n f3.type [c9]=some y3:=e3
    obtain⟨v3,q3,_⟩:=DataW.trod_int t3 e3
    simp at q3
    subst q3
    have e4:=hf 4 f4 rfl
    rw [o4,m4] at e4
    have e4:DataW.trod enc P w base spare held n f4.type [c10,c11]=some y4:=e4
    obtain⟨v4_0,v4_1,q4⟩:=trod_isnum t4 e4
    simp only [List.cons.injEq,and_true] at q4
    obtain⟨rfl,rfl⟩:=q4
    have e5:=hf 5 f5 rfl
    rw [o5,m5] at e5
    have e5:DataW.trod enc P w base spare held n f5.type [c12,c13]=some y5:=e5
    obtain⟨v5_0,v5_1,q5⟩:=trod_isnum t5 e5
    simp only [List.cons.injEq,and_true] at q5
    obtain⟨rfl,rfl⟩:=q5
    have e6:=hf 6 f6 rfl
    rw [o6,m6] at e6
    have e6:DataW.trod enc P w base spare held n f6.type [c14,c15]=some y6:=e6
    obtain⟨v6_0,v6_1,q6⟩:=trod_isnum t6 e6
    simp only [List.cons.injEq,and_true] at q6
    obtain⟨rfl,rfl⟩:=q6
    have e7:=hf 7 f7 rfl
    rw [o7,m7] at e7
    have e7:DataW.trod enc P w base spare held n f7.type [c16,c17]=some y7:=e7
    obtain⟨v7_0,v7_1,q7⟩:=trod_isnum t7 e7
    simp only [List.cons.injEq,and_true] at q7
    obtain⟨rfl,rfl⟩:=q7
    have e8:=hf 8 f8 rfl
    rw [o8,m8] at e8
    have e8:DataW.trod enc P w base spare held n f8.type [c18,c19]=some y8:=e8
    obtain⟨v8_0,v8_1,q8⟩:=trod_isnum t8 e8
    simp only [List.cons.injEq,and_true] at q8
    obtain⟨rfl,rfl⟩:=q8
    have e9:=hf 9 f9 rfl
    rw [o9,m9] at e9
    have e9:DataW.trod enc P w base spare held n f9.type [c20,c21]=some y9:=e9
    obtain⟨v9_0,v9_1,q9⟩:=trod_isnum t9 e9
    simp only [List.cons.injEq,and_true] at q9
    obtain⟨rfl,rfl⟩:=q9
    exact⟨v0_0,v0_1,v0_2,v0_3,v0_4,v1_0,v1_1,v2_0,v2_1,v3,v4_0,v4_1,v5_0,v5_1,v6_0,v6_1,v7_0,v7_1,v8_0,v8_1,v9_0,v9_1,rfl⟩
def IsRmc (P:Program) (t:TypeId):Prop:=∃ f0 f1 f2 f3 f4 f5 f6 f7:Field,P.underlying t=some (.struct #[f0,f1,f2,f3,f4,f5,f6,f7])∧[P.cellsOf t,f0.offset,f1.offset,f2.offset,f3.offset,f4.offset,f5.offset,f6.offset,f7.offset,P.cellsOf f0.type,P.cellsOf f1.type,P.cellsOf f2.type,P.cellsOf f3.type,P.cellsOf f4.type,P.cellsOf f5.type,P.cellsOf f6.type,P.cellsOf f7.type]=[20,0,5,6,8,10,12,14,16,5,1,2,2,2,2,2,4]∧IsClk P f0.type∧P.underlying f1.type=some .bool∧IsNum P f2.type∧IsNum P f3.type∧IsNum P f4.type∧IsNum P f5.type∧IsNum P f6.type∧IsDat P f7.type
theorem trod_isrmc {t:TypeId} {fuel:Nat} {c0 c1 c2 c3 c4 c5 c6 c7 c8 c9 c10 c11 c12 c13 c14 c15 c16 c17 c18 c19:Value} {x:DataW H×List MemPlace} (hg:IsRmc P t) (h:DataW.trod enc P w base spare held fuel t [c0,c1,c2,c3,c4,c5,c6,c7,c8,c9,c10,c11,c12,c13,c14,c15,c16,c17,c18,c19]=some x):∃ (v0_0:Bool) (v0_1:Int) (v0_2:Int) (v0_3:Int) (v0_4:Int) (v1:Bool) (v2_0:Bool) (v2_1:Int) (v3_0:Bool) (v3_1:Int) (v4_0:Bool) (v4_1:Int) (v5_0:Bool) (v5_1:Int) (v6_0:Bool) (v6_1:Int) (v7_0:Bool) (v7_1:Int) (v7_2:Int) (v7_3:Int),[c0,c1,c2,c3,c4,c5,c6,c7,c8,c9,c10,c11,c12,c13,c14,c15,c16,c17,c18,c19]=[.bool v0_0,.int .i64 v0_1,.int .i64 v0_2,.int .i64 v0_3,.int .i64 v0_4,.bool v1,.bool v2_0,.int .i64 v2_1,.bool v3_0,.int .i64 v3_1,.bool v4_0,.int .i64 v4_1,.bool v5_0,.int .i64 v5_1,.bool v6_0,.int .i64 v6_1,.bool v7_0,.int .i64 v7_1,.int .i64 v7_2,.int .i64 v7_3]:=by
  obtain⟨f0,f1,f2,f3,f4,f5,f6,f7,hs,hk,t0,t1,t2,t3,t4,t5,t6,t7⟩:=hg
  simp only [List.cons.injEq,and_true] at hk
  obtain⟨k0,o0,o1,o2,o3,o4,o5,o6,o7,m0,m1,m2,m3,m4,m5,m6,m7⟩:=hk
  obtain⟨xs,n,_,_,_,hxl,hf⟩:=DataW.trod_struct hs h
  match xs,hxl with
  | [y0,y1,y2,y3,y4,y5,y6,y7],_=>
    have e0:=hf 0 f0 rfl
    rw [o0,m0] at e0
    have e0:DataW.trod enc P w base spare held n f0.type [c0,c1,c2,c3,c4]=some y0:=e0
    obtain⟨v0_0,v0_1,v0_2,v0_3,v0_4,q0⟩:=trod_isclk t0 e0
    simp only [List.cons.injEq,and_true] at q0
    obtain⟨rfl,rfl,rfl,rfl,rfl⟩:=q0
    have e1:=hf 1 f1 rfl
    rw [o1,m1] at e1
    have e1:DataW.trod enc P w base spare held n f1.type [c5]=some y1:=e1
    obtain⟨v1,q1,_⟩:=DataW.trod_bool t1 e1
    simp at q1
    subst q1
    have e2:=hf 2 f2 rfl
    rw [o2,m2] at e2
    have e2:DataW.trod enc P w base spare held n f2.type [c6,c7]=some y2:=e2
    obtain⟨v2_0,v2_1,q2⟩:=trod_isnum t2 e2
    simp only [List.cons.injEq,and_true] at q2
    obtain⟨rfl,rfl⟩:=q2
    have e3:=hf 3 f3 rfl
    rw [o3,m3] at e3
    have e3:DataW.trod enc P w base spare held n f3.type [c8,c9]=some y3:=e3
    obtain⟨v3_0,v3_1,q3⟩:=trod_isnum t3 e3
    simp only [List.cons.injEq,and_true] at q3
    obtain⟨rfl,rfl⟩:=q3
    have e4:=hf 4 f4 rfl
    rw [o4,m4] at e4
    have e4:DataW.trod enc P w base spare held n f4.type [c10,c11]=some y4:=e4
    obtain⟨v4_0,v4_1,q4⟩:=trod_isnum t4 e4
    simp only [List.cons.injEq,and_true] at q4
    obtain⟨rfl,rfl⟩:=q4
    have e5:=hf 5 f5 rfl
    rw [o5,m5] at e5
    have e5:DataW.trod enc P w base spare held n f5.type [c12,c13]=some y5:=e5
    obtain⟨v5_0,v5_1,q5⟩:=trod_isnum t5 e5
    simp only [List.cons.injEq,and_true] at q5
    obtain⟨rfl,rfl⟩:=q5
    have e6:=hf 6 f6 rfl
    rw [o6,m6] at e6
    have e6:DataW.trod enc P w base spare held n f6.type [c14,c15]=some y6:=e6
    obtain⟨v6_0,v6_1,q6⟩:=trod_isnum t6 e6
    simp only [List.cons.injEq,and_true] at q6
    obtain⟨rfl,rfl⟩:=q6
    have e7:=hf 7 f7 rfl
    rw [o7,m7] at e7
    have e7:DataW.trod enc P w base spare held n f7.type [c16,c17,c18,c19]=some y7:=e7
    obtain⟨v7_0,v7_1,v7_2,v7_3,q7⟩:=trod_isdat t7 e7
    simp only [List.cons.injEq,and_true] at q7
    obtain⟨rfl,rfl,rfl,rfl⟩:=q7
    exact⟨v0_0,v0_1,v0_2,v0_3,v0_4,v1,v2_0,v2_1,v3_0,v3_1,v4_0,v4_1,v5_0,v5_1,v6_0,v6_1,v7_0,v7_1,v7_2,v7_3,rfl⟩
end
open Go.ChangeShapes Go.WideShapes Go.ChangeAt Go.RowKit Go.Joins Go.Deep
theorem list_of {α:Type} {p:Nat→α→Prop}:∀ n:Nat,(∀ i,i < n→∃ x,p i x)→∃ l:List α,l.length=n∧∀ (i:Nat) (h:i < l.length),p i l[i]
  | 0,_=>⟨[],rfl,fun i h=>absurd h (Nat.not_lt_zero _)⟩
  | n+1,h=>by
    obtain⟨l,h1,h2⟩:=list_of n (fun i hi=>h i (by omega))
    obtain⟨x,hx⟩:=h n (by omega)
    refine⟨l++[x],by simp [h1],fun i hi=>?_⟩
    rcases Nat.lt_or_ge i l.length with q | q
    · rw [List.getElem_append_left q];exact h2 i q
    · have e:i=n:=by simp at hi;omega
      subst e
      rw [List.getElem_append_right q]
      simpa using hx
section
variable {H : Type} {enc : TypeId × Value → H} {P : Program} {w : World} {base : Nat} {spare : Nat → Bool} {held : Bool}
theorem trod_view {t tn:TypeId} {f0 f1 f2 f3 n0 n1:Field} {fuel:Nat} {cs:List Value} {x:DataW H×List MemPlace} (hs:P.underlying t=some (.struct #[f0,f1,f2,f3])) (hn:P.underlying tn=some (.struct #[n0,n1]))
    (hk:[P.cellsOf t,f0.offset,f1.offset,f2.offset,f3.offset,P.cellsOf tn,n0.offset,n1.offset,P.cellsOf n0.type,P.cellsOf n1.type]=[8,0,2,4,6,2,0,1,1,1]) (ht:[f0.type,f1.type,f2.type,f3.type]=[tn,tn,tn,tn])
    (u0:P.underlying n0.type=some .bool) (u1:P.underlying n1.type=some (.int .i64)) (hl:cs.length=8) (h:DataW.trod enc P w base spare held fuel t cs=some x):∃ v:V4,cs=viewC v:=by
  simp only [List.cons.injEq,and_true] at hk ht
  obtain⟨k1,k2,k3,k4,k5,k6,k7,k8,k9,k10⟩:=hk
  obtain⟨t0,t1,t2,t3⟩:=ht
  match cs,hl with
  | [c0,c1,c2,c3,c4,c5,c6,c7],_=>
    obtain⟨y0,y1,y2,y3,n,e0,e1,e2,e3⟩:=trod_struct4 hs h
    rw [t0] at e0
    rw [t1] at e1
    rw [t2] at e2
    rw [t3] at e3
    simp [k2,k3,k4,k5,k6] at e0 e1 e2 e3
    obtain⟨m0,x0,rfl,rfl⟩:=trod_num hn k7 k8 k9 k10 u0 u1 e0
    obtain⟨m1,x1,rfl,rfl⟩:=trod_num hn k7 k8 k9 k10 u0 u1 e1
    obtain⟨m2,x2,rfl,rfl⟩:=trod_num hn k7 k8 k9 k10 u0 u1 e2
    obtain⟨m3,x3,rfl,rfl⟩:=trod_num hn k7 k8 k9 k10 u0 u1 e3
    exact⟨((m0,x0),(m1,x1),(m2,x2),(m3,x3)),rfl⟩
theorem open_views {t e tn:TypeId} {f0 f1 f2 f3 n0 n1:Field} {fuel:Nat} {v:Value} {x:DataW H×List MemPlace} (ht:P.underlying t=some (.slice e)) (hs:P.underlying e=some (.struct #[f0,f1,f2,f3])) (hn:P.underlying tn=some (.struct #[n0,n1]))
    (hk:[P.cellsOf e,f0.offset,f1.offset,f2.offset,f3.offset,P.cellsOf tn,n0.offset,n1.offset,P.cellsOf n0.type,P.cellsOf n1.type]=[8,0,2,4,6,2,0,1,1,1]) (hf:[f0.type,f1.type,f2.type,f3.type]=[tn,tn,tn,tn])
    (u0:P.underlying n0.type=some .bool) (u1:P.underlying n1.type=some (.int .i64)) (h:DataW.trod enc P w base spare held fuel t [v]=some x) :
    ∃ (A:Option Addr) (c:Nat) (L:List V4),v=.slice A L.length c∧L.length≤maxLen∧Vws w w.heap.size A L:=by
  have hk0:=hk
  simp only [List.cons.injEq,and_true] at hk
  obtain⟨k1,-⟩:=hk
  rcases open_slice ht h with ⟨hcs,_⟩ | ⟨a,len,cap,m,n,D,Pl,hcs,_,hl,hm,hmm,_,hx⟩
  · simp at hcs
    subst hcs
    exact⟨none,0,[],rfl,Nat.zero_le _,fun k hk=>absurd hk (Nat.not_lt_zero _)⟩
  · simp at hcs
    subst hcs
    have hlm:len≤m:=by rw [hmm];split <;> omega
    obtain⟨b,off,spot⟩:=a
    have e1:∀ j,(⟨b,off,none⟩:Addr).add j=⟨b,off+j,none⟩:=fun j=>by unfold Addr.add;split <;> simp_all
    obtain⟨L,hL,hLL⟩:=list_of (p:=fun i (v:V4)=>spot=none∧b < w.heap.size∧∀ (j:Nat) u,(viewC v)[j]?=some u→w.cell? ⟨b,off+8 * i+j,none⟩=some u) len (fun i hi=>by
      obtain⟨cs',h1,h2⟩:=hx i (by omega)
      rw [k1] at h1
      obtain⟨_,hlen,hcell⟩:=World.cells?_some h1
      obtain⟨v,hv⟩:=trod_view hs hn hk0 hf u0 u1 hlen h2
      have hspot:spot=none:=by
        obtain⟨cz,y1,_⟩:=hx 0 (by omega)
        rw [k1] at y1
        obtain⟨_,hl0,hc0⟩:=World.cells?_some y1
        have h0:=hc0 0 (by omega)
        rw [List.getElem?_eq_getElem (by omega)] at h0
        have h3:w.cell? ⟨b,off,spot⟩=some cz[0]:=by simpa [Addr.add] using h0
        exact World.cell?_spot h3
      subst hspot
      have hadd:∀ j,j < 8→w.cell? ⟨b,off+8 * i+j,none⟩=(viewC v)[j]?:=fun j hj=>by
        have h3:=hcell j hj
        rw [hv,add_add,e1] at h3
        rw [show off+8 * i+j=off+(i * 8+j) from by omega]
        exact h3
      refine⟨v,rfl,?_,fun j u hu=>?_⟩
      · exact World.block_lt_of_cell? w _ (hadd 0 (by omega))
      · have hj:j < 8:=by
          rcases Nat.lt_or_ge j 8 with q | q
          · exact q
          · rw [List.getElem?_eq_none (by show 8≤j;exact q)] at hu;cases hu
        exact (hadd j hj).trans hu)
    refine⟨some ⟨b,off,spot⟩,cap,L,by rw [hL],by omega,fun k hk=>?_⟩
    obtain⟨rfl,g2,g3⟩:=hLL k hk
    exact⟨b,off,rfl,g2,g3⟩
end
open Go.ChangeShapes Go.WideShapes Go.ChangeAt Go.RowKit Go.Joins Go.Deep
section
variable {H : Type} {enc : TypeId × Value → H} {P : Program} {w : World} {base : Nat} {spare : Nat → Bool} {held : Bool}
theorem list_succ {α:Type} {l:List α} {n:Nat} (h:l.length=n+1):∃ c l',l=c :: l'∧l'.length=n:=by
  cases l with
  | nil=>cases h
  | cons c l'=>exact⟨c,l',rfl,Nat.succ.inj h⟩
def IsViews (P:Program) (t:TypeId):Prop:=∃ (te tn:TypeId) (f0 f1 f2 f3 n0 n1:Field),P.underlying t=some (.slice te)∧P.underlying te=some (.struct #[f0,f1,f2,f3])∧P.underlying tn=some (.struct #[n0,n1]) ∧
  [P.cellsOf te,f0.offset,f1.offset,f2.offset,f3.offset,P.cellsOf tn,n0.offset,n1.offset,P.cellsOf n0.type,P.cellsOf n1.type]=[8,0,2,4,6,2,0,1,1,1]∧[f0.type,f1.type,f2.type,f3.type]=[tn,tn,tn,tn]∧P.underlying n0.type=some .bool∧P.underlying n1.type=some (.int .i64)
theorem trod_views {t:TypeId} {fuel:Nat} {v:Value} {x:DataW H×List MemPlace} (hg:IsViews P t) (h:DataW.trod enc P w base spare held fuel t [v]=some x) :
    ∃ (A:Option Addr) (c:Nat) (L:List V4),v=.slice A L.length c∧L.length≤maxLen∧Vws w w.heap.size A L:=by
  obtain⟨te,tn,f0,f1,f2,f3,n0,n1,h1,h2,h3,h4,h5,h6,h7⟩:=hg
  exact open_views h1 h2 h3 h4 h5 h6 h7 h
def IsVtg (P:Program) (t:TypeId):Prop:=∃ f0 f1 f2 f3:Field,P.underlying t=some (.struct #[f0,f1,f2,f3])∧[P.cellsOf t,f0.offset,f1.offset,f2.offset,f3.offset,P.cellsOf f0.type,P.cellsOf f1.type,P.cellsOf f2.type,P.cellsOf f3.type]=[8,0,2,4,6,2,2,2,2]∧IsNum P f0.type∧IsNum P f1.type∧IsNum P f2.type∧IsNum P f3.type
theorem trod_isvtg {t:TypeId} {fuel:Nat} {c0 c1 c2 c3 c4 c5 c6 c7:Value} {x:DataW H×List MemPlace} (hg:IsVtg P t) (h:DataW.trod enc P w base spare held fuel t [c0,c1,c2,c3,c4,c5,c6,c7]=some x):∃ (v0_0:Bool) (v0_1:Int) (v1_0:Bool) (v1_1:Int) (v2_0:Bool) (v2_1:Int) (v3_0:Bool) (v3_1:Int),[c0,c1,c2,c3,c4,c5,c6,c7]=[.bool v0_0,.int .i64 v0_1,.bool v1_0,.int .i64 v1_1,.bool v2_0,.int .i64 v2_1,.bool v3_0,.int .i64 v3_1]:=by
  obtain⟨f0,f1,f2,f3,hs,hk,t0,t1,t2,t3⟩:=hg
  simp only [List.cons.injEq,and_true] at hk
  obtain⟨k0,o0,o1,o2,o3,m0,m1,m2,m3⟩:=hk
  obtain⟨xs,n,_,_,_,hxl,hf⟩:=DataW.trod_struct hs h
  match xs,hxl with
  | [y0,y1,y2,y3],_=>
    have e0:=hf 0 f0 rfl
    rw [o0,m0] at e0
    have e0:DataW.trod enc P w base spare held n f0.type [c0,c1]=some y0:=e0
    obtain⟨v0_0,v0_1,q0⟩:=trod_isnum t0 e0
    simp only [List.cons.injEq,and_true] at q0
    obtain⟨rfl,rfl⟩:=q0
    have e1:=hf 1 f1 rfl
    rw [o1,m1] at e1
    have e1:DataW.trod enc P w base spare held n f1.type [c2,c3]=some y1:=e1
    obtain⟨v1_0,v1_1,q1⟩:=trod_isnum t1 e1
    simp only [List.cons.injEq,and_true] at q1
    obtain⟨rfl,rfl⟩:=q1
    have e2:=hf 2 f2 rfl
    rw [o2,m2] at e2
    have e2:DataW.trod enc P w base spare held n f2.type [c4,c5]=some y2:=e2
    obtain⟨v2_0,v2_1,q2⟩:=trod_isnum t2 e2
    simp only [List.cons.injEq,and_true] at q2
    obtain⟨rfl,rfl⟩:=q2
    have e3:=hf 3 f3 rfl
    rw [o3,m3] at e3
    have e3:DataW.trod enc P w base spare held n f3.type [c6,c7]=some y3:=e3
    obtain⟨v3_0,v3_1,q3⟩:=trod_isnum t3 e3
    simp only [List.cons.injEq,and_true] at q3
    obtain⟨rfl,rfl⟩:=q3
    exact⟨v0_0,v0_1,v1_0,v1_1,v2_0,v2_1,v3_0,v3_1,rfl⟩
def IsGsv (P:Program) (t:TypeId):Prop:=∃ f0 f1 f2 f3:Field,P.underlying t=some (.struct #[f0,f1,f2,f3])∧[P.cellsOf t,f0.offset,f1.offset,f2.offset,f3.offset,P.cellsOf f0.type,P.cellsOf f1.type,P.cellsOf f2.type,P.cellsOf f3.type]=[4,0,1,2,3,1,1,1,1]∧P.underlying f0.type=some (.int .i64)∧P.underlying f1.type=some (.int .i64)∧P.underlying f2.type=some (.int .i64)∧IsViews P f3.type
theorem trod_isgsv {t:TypeId} {fuel:Nat} {c0 c1 c2 c3:Value} {x:DataW H×List MemPlace} (hg:IsGsv P t) (h:DataW.trod enc P w base spare held fuel t [c0,c1,c2,c3]=some x):∃ (v0:Int) (v1:Int) (v2:Int) (Av3:Option Addr) (cv3:Nat) (Lv3:List V4),[c0,c1,c2,c3]=[.int .i64 v0,.int .i64 v1,.int .i64 v2,.slice Av3 Lv3.length cv3]∧Lv3.length≤maxLen∧Vws w w.heap.size Av3 Lv3:=by
  obtain⟨f0,f1,f2,f3,hs,hk,t0,t1,t2,t3⟩:=hg
  simp only [List.cons.injEq,and_true] at hk
  obtain⟨k0,o0,o1,o2,o3,m0,m1,m2,m3⟩:=hk
  obtain⟨xs,n,_,_,_,hxl,hf⟩:=DataW.trod_struct hs h
  match xs,hxl with
  | [y0,y1,y2,y3],_=>
    have e0:=hf 0 f0 rfl
    rw [o0,m0] at e0
    have e0:DataW.trod enc P w base spare held n f0.type [c0]=some y0:=e0
    obtain⟨v0,q0,_⟩:=DataW.trod_int t0 e0
    simp at q0
    subst q0
    have e1:=hf 1 f1 rfl
    rw [o1,m1] at e1
    have e1:DataW.trod enc P w base spare held n f1.type [c1]=some y1:=e1
    obtain⟨v1,q1,_⟩:=DataW.trod_int t1 e1
    simp at q1
    subst q1
    have e2:=hf 2 f2 rfl
    rw [o2,m2] at e2
    have e2:DataW.trod enc P w base spare held n f2.type [c2]=some y2:=e2
    obtain⟨v2,q2,_⟩:=DataW.trod_int t2 e2
    simp at q2
    subst q2
    have e3:=hf 3 f3 rfl
    rw [o3,m3] at e3
    have e3:DataW.trod enc P w base spare held n f3.type [c3]=some y3:=e3
    obtain⟨Av3,cv3,Lv3,rfl,Bv3,Wv3⟩:=trod_views t3 e3
    exact⟨v0,v1,v2,Av3,cv3,Lv3,rfl,Bv3,Wv3⟩
def IsNmea (P:Program) (t:TypeId):Prop:=∃ f0 f1 f2 f3 f4 f5 f6:Field,P.underlying t=some (.struct #[f0,f1,f2,f3,f4,f5,f6])∧[P.cellsOf t,f0.offset,f1.offset,f2.offset,f3.offset,f4.offset,f5.offset,f6.offset,P.cellsOf f0.type,P.cellsOf f1.type,P.cellsOf f2.type,P.cellsOf f3.type,P.cellsOf f4.type,P.cellsOf f5.type,P.cellsOf f6.type]=[65,0,1,2,24,44,53,61,1,1,22,20,9,8,4]∧P.underlying f0.type=some (.int .i64)∧P.underlying f1.type=some .string∧IsGga P f2.type∧IsRmc P f3.type∧IsGsa P f4.type∧IsVtg P f5.type∧IsGsv P f6.type
theorem trod_isnmea {t:TypeId} {fuel:Nat} {c0 c1 c2 c3 c4 c5 c6 c7 c8 c9 c10 c11 c12 c13 c14 c15 c16 c17 c18 c19 c20 c21 c22 c23 c24 c25 c26 c27 c28 c29 c30 c31 c32 c33 c34 c35 c36 c37 c38 c39 c40 c41 c42 c43 c44 c45 c46 c47 c48 c49 c50 c51 c52 c53 c54 c55 c56 c57 c58 c59 c60 c61 c62 c63 c64:Value} {x:DataW H×List MemPlace} (hg:IsNmea P t) (h:DataW.trod enc P w base spare held fuel t [c0,c1,c2,c3,c4,c5,c6,c7,c8,c9,c10,c11,c12,c13,c14,c15,c16,c17,c18,c19,c20,c21,c22,c23,c24,c25,c26,c27,c28,c29,c30,c31,c32,c33,c34,c35,c36,c37,c38,c39,c40,c41,c42,c43,c44,c45,c46,c47,c48,c49,c50,c51,c52,c53,c54,c55,c56,c57,c58,c59,c60,c61,c62,c63,c64]=some x):∃ (v0:Int) (v1:ByteArray) (v2_0_0:Bool) (v2_0_1:Int) (v2_0_2:Int) (v2_0_3:Int) (v2_0_4:Int) (v2_1_0:Bool) (v2_1_1:Int) (v2_2_0:Bool) (v2_2_1:Int) (v2_3:Int) (v2_4_0:Bool) (v2_4_1:Int) (v2_5_0:Bool) (v2_5_1:Int) (v2_6_0:Bool) (v2_6_1:Int) (v2_7_0:Bool) (v2_7_1:Int) (v2_8_0:Bool) (v2_8_1:Int) (v2_9_0:Bool) (v2_9_1:Int) (v3_0_0:Bool) (v3_0_1:Int) (v3_0_2:Int) (v3_0_3:Int) (v3_0_4:Int) (v3_1:Bool) (v3_2_0:Bool) (v3_2_1:Int) (v3_3_0:Bool) (v3_3_1:Int) (v3_4_0:Bool) (v3_4_1:Int) (v3_5_0:Bool) (v3_5_1:Int) (v3_6_0:Bool) (v3_6_1:Int) (v3_7_0:Bool) (v3_7_1:Int) (v3_7_2:Int) (v3_7_3:Int) (v4_0:Bool) (v4_1:Int) (Av4_2:Option Addr) (cv4_2:Nat) (Lv4_2:List Int) (v4_3_0:Bool) (v4_3_1:Int) (v4_4_0:Bool) (v4_4_1:Int) (v4_5_0:Bool) (v4_5_1:Int) (v5_0_0:Bool) (v5_0_1:Int) (v5_1_0:Bool) (v5_1_1:Int) (v5_2_0:Bool) (v5_2_1:Int) (v5_3_0:Bool) (v5_3_1:Int) (v6_0:Int) (v6_1:Int) (v6_2:Int) (Av6_3:Option Addr) (cv6_3:Nat) (Lv6_3:List V4),[c0,c1,c2,c3,c4,c5,c6,c7,c8,c9,c10,c11,c12,c13,c14,c15,c16,c17,c18,c19,c20,c21,c22,c23,c24,c25,c26,c27,c28,c29,c30,c31,c32,c33,c34,c35,c36,c37,c38,c39,c40,c41,c42,c43,c44,c45,c46,c47,c48,c49,c50,c51,c52,c53,c54,c55,c56,c57,c58,c59,c60,c61,c62,c63,c64]=[.int .i64 v0,.string v1,.bool v2_0_0,.int .i64 v2_0_1,.int .i64 v2_0_2,.int .i64 v2_0_3,.int .i64 v2_0_4,.bool v2_1_0,.int .i64 v2_1_1,.bool v2_2_0,.int .i64 v2_2_1,.int .i64 v2_3,.bool v2_4_0,.int .i64 v2_4_1,.bool v2_5_0,.int .i64 v2_5_1,.bool v2_6_0,.int .i64 v2_6_1,.bool v2_7_0,.int .i64 v2_7_1,.bool v2_8_0,.int .i64 v2_8_1,.bool v2_9_0,.int .i64 v2_9_1,.bool v3_0_0,.int .i64 v3_0_1,.int .i64 v3_0_2,.int .i64 v3_0_3,.int .i64 v3_0_4,.bool v3_1,.bool v3_2_0,.int .i64 v3_2_1,.bool v3_3_0,.int .i64 v3_3_1,.bool v3_4_0,.int .i64 v3_4_1,.bool v3_5_0,.int .i64 v3_5_1,.bool v3_6_0,.int .i64 v3_6_1,.bool v3_7_0,.int .i64 v3_7_1,.int .i64 v3_7_2,.int .i64 v3_7_3,.bool v4_0,.int .i64 v4_1,.slice Av4_2 Lv4_2.length cv4_2,.bool v4_3_0,.int .i64 v4_3_1,.bool v4_4_0,.int .i64 v4_4_1,.bool v4_5_0,.int .i64 v4_5_1,.bool v5_0_0,.int .i64 v5_0_1,.bool v5_1_0,.int .i64 v5_1_1,.bool v5_2_0,.int .i64 v5_2_1,.bool v5_3_0,.int .i64 v5_3_1,.int .i64 v6_0,.int .i64 v6_1,.int .i64 v6_2,.slice Av6_3 Lv6_3.length cv6_3]∧Lv4_2.length≤maxLen∧Ints w w.heap.size Av4_2 Lv4_2∧Lv6_3.length≤maxLen∧Vws w w.heap.size Av6_3 Lv6_3∧v1.size≤maxLen:=by
  obtain⟨f0,f1,f2,f3,f4,f5,f6,hs,hk,t0,t1,t2,t3,t4,t5,t6⟩:=hg
  simp only [List.cons.injEq,and_true] at hk
  obtain⟨k0,o0,o1,o2,o3,o4,o5,o6,m0,m1,m2,m3,m4,m5,m6⟩:=hk
  obtain⟨xs,n,_,_,_,hxl,hf⟩:=DataW.trod_struct hs h
  match xs,hxl with
  | [y0,y1,y2,y3,y4,y5,y6],_=>
    have e0:=hf 0 f0 rfl
    rw [o0,m0] at e0
    have e0:DataW.trod enc P w base spare held n f0.type [c0]=some y0:=e0
    obtain⟨v0,q0,_⟩:=DataW.trod_int t0 e0
    simp at q0
    subst q0
    have e1:=hf 1 f1 rfl
    rw [o1,m1] at e1
    have e1:DataW.trod enc P w base spare held n f1.type [c1]=some y1:=e1
    obtain⟨v1,q1,_,z1⟩:=DataW.trod_string t1 e1
    simp at q1
    subst q1
    have e2:=hf 2 f2 rfl
    rw [o2,m2] at e2
    have e2:DataW.trod enc P w base spare held n f2.type [c2,c3,c4,c5,c6,c7,c8,c9,c10,c11,c12,c13,c14,c15,c16,c17,c18,c19,c20,c21,c22,c23]=some y2:=e2
    obtain⟨v2_0_0,v2_0_1,v2_0_2,v2_0_3,v2_0_4,v2_1_0,v2_1_1,v2_2_0,v2_2_1,v2_3,v2_4_0,v2_4_1,v2_5_0,v2_5_1,v2_6_0,v2_6_1,v2_7_0,v2_7_1,v2_8_0,v2_8_1,v2_9_0,v2_9_1,q2⟩:=trod_isgga t2 e2
    simp only [List.cons.injEq,and_true] at q2
    obtain⟨rfl,rfl,rfl,rfl,rfl,rfl,rfl,rfl,rfl,rfl,rfl,rfl,rfl,rfl,rfl,rfl,rfl,rfl,rfl,rfl,rfl,rfl⟩:=q2
    have e3:=hf 3 f3 rfl
    rw [o3,m3] at e3
    have e3:DataW.trod enc P w base spare held n f3.type [c24,c25,c26,c27,c28,c29,c30,c31,c32,c33,c34,c35,c36,c37,c38,c39,c40,c41,c42,c43]=some y3:=e3
    obtain⟨v3_0_0,v3_0_1,v3_0_2,v3_0_3,v3_0_4,v3_1,v3_2_0,v3_2_1,v3_3_0,v3_3_1,v3_4_0,v3_4_1,v3_5_0,v3_5_1,v3_6_0,v3_6_1,v3_7_0,v3_7_1,v3_7_2,v3_7_3,q3⟩:=trod_isrmc t3 e3
    simp only [List.cons.injEq,and_true] at q3
    obtain⟨rfl,rfl,rfl,rfl,rfl,rfl,rfl,rfl,rfl,rfl,rfl,rfl,rfl,rfl,rfl,rfl,rfl,rfl,rfl,rfl⟩:=q3
    have e4:=hf 4 f4 rfl
    rw [o4,m4] at e4
    have e4:DataW.trod enc P w base spare held n f4.type [c44,c45,c46,c47,c48,c49,c50,c51,c52]=some y4:=e4
    obtain⟨v4_0,v4_1,Av4_2,cv4_2,Lv4_2,v4_3_0,v4_3_1,v4_4_0,v4_4_1,v4_5_0,v4_5_1,q4,Bv4_2,Wv4_2⟩:=trod_isgsa t4 e4
    simp only [List.cons.injEq,and_true] at q4
    obtain⟨rfl,rfl,rfl,rfl,rfl,rfl,rfl,rfl,rfl⟩:=q4
    have e5:=hf 5 f5 rfl
    rw [o5,m5] at e5
    have e5:DataW.trod enc P w base spare held n f5.type [c53,c54,c55,c56,c57,c58,c59,c60]=some y5:=e5
    obtain⟨v5_0_0,v5_0_1,v5_1_0,v5_1_1,v5_2_0,v5_2_1,v5_3_0,v5_3_1,q5⟩:=trod_isvtg t5 e5
    simp only [List.cons.injEq,and_true] at q5
    obtain⟨rfl,rfl,rfl,rfl,rfl,rfl,rfl,rfl⟩:=q5
    have e6:=hf 6 f6 rfl
    rw [o6,m6] at e6
    have e6:DataW.trod enc P w base spare held n f6.type [c61,c62,c63,c64]=some y6:=e6
    obtain⟨v6_0,v6_1,v6_2,Av6_3,cv6_3,Lv6_3,q6,Bv6_3,Wv6_3⟩:=trod_isgsv t6 e6
    simp only [List.cons.injEq,and_true] at q6
    obtain⟨rfl,rfl,rfl,rfl⟩:=q6
    exact⟨v0,v1,v2_0_0,v2_0_1,v2_0_2,v2_0_3,v2_0_4,v2_1_0,v2_1_1,v2_2_0,v2_2_1,v2_3,v2_4_0,v2_4_1,v2_5_0,v2_5_1,v2_6_0,v2_6_1,v2_7_0,v2_7_1,v2_8_0,v2_8_1,v2_9_0,v2_9_1,v3_0_0,v3_0_1,v3_0_2,v3_0_3,v3_0_4,v3_1,v3_2_0,v3_2_1,v3_3_0,v3_3_1,v3_4_0,v3_4_1,v3_5_0,v3_5_1,v3_6_0,v3_6_1,v3_7_0,v3_7_1,v3_7_2,v3_7_3,v4_0,v4_1,Av4_2,cv4_2,Lv4_2,v4_3_0,v4_3_1,v4_4_0,v4_4_1,v4_5_0,v4_5_1,v5_0_0,v5_0_1,v5_1_0,v5_1_1,v5_2_0,v5_2_1,v5_3_0,v5_3_1,v6_0,v6_1,v6_2,Av6_3,cv6_3,Lv6_3,rfl,Bv4_2,Wv4_2,Bv6_3,Wv6_3,z1⟩
theorem open_nmea {r:Reach} {b0:Nat} {t:TypeId} {v:Value} {d:DataW H} {p:List MemPlace} (hg:IsNmea P t) (hv:Value.okWide P w r b0 t v) (h:DataW.Trod enc P w base spare held t v d p):∃ (m:NmD) (C:Array Value),v=.agg C∧NmV 0 w C m∧m.t.size≤maxLen∧m.s.ids.length≤maxLen∧m.u.L.length≤maxLen:=by
  have hg0:=hg
  obtain⟨f0,f1,f2,f3,f4,f5,f6,hs,hk,-⟩:=hg0
  have k0:=(List.cons.inj hk).1
  obtain⟨cs,rfl,hsz⟩:=okWide_struct hs hv
  obtain⟨fuel,hf⟩:=h
  obtain⟨l⟩:=cs
  have hn0:l.length=65:=hsz.trans k0
  obtain⟨c0,l1,rfl,hn1⟩:=list_succ hn0
  obtain⟨c1,l2,rfl,hn2⟩:=list_succ hn1
  obtain⟨c2,l3,rfl,hn3⟩:=list_succ hn2
  obtain⟨c3,l4,rfl,hn4⟩:=list_succ hn3
  obtain⟨c4,l5,rfl,hn5⟩:=list_succ hn4
  obtain⟨c5,l6,rfl,hn6⟩:=list_succ hn5
  obtain⟨c6,l7,rfl,hn7⟩:=list_succ hn6
  obtain⟨c7,l8,rfl,hn8⟩:=list_succ hn7
  obtain⟨c8,l9,rfl,hn9⟩:=list_succ hn8
  obtain⟨c9,l10,rfl,hn10⟩:=list_succ hn9
  obtain⟨c10,l11,rfl,hn11⟩:=list_succ hn10
  obtain⟨c11,l12,rfl,hn12⟩:=list_succ hn11
  obtain⟨c12,l13,rfl,hn13⟩:=list_succ hn12
  obtain⟨c13,l14,rfl,hn14⟩:=list_succ hn13
  obtain⟨c14,l15,rfl,hn15⟩:=list_succ hn14
  obtain⟨c15,l16,rfl,hn16⟩:=list_succ hn15
  obtain⟨c16,l17,rfl,hn17⟩:=list_succ hn16
  obtain⟨c17,l18,rfl,hn18⟩:=list_succ hn17
  obtain⟨c18,l19,rfl,hn19⟩:=list_succ hn18
  obtain⟨c19,l20,rfl,hn20⟩:=list_succ hn19
  obtain⟨c20,l21,rfl,hn21⟩:=list_succ hn20
  obtain⟨c21,l22,rfl,hn22⟩:=list_succ hn21
  obtain⟨c22,l23,rfl,hn23⟩:=list_succ hn22
  obtain⟨c23,l24,rfl,hn24⟩:=list_succ hn23
  obtain⟨c24,l25,rfl,hn25⟩:=list_succ hn24
  obtain⟨c25,l26,rfl,hn26⟩:=list_succ hn25
  obtain⟨c26,l27,rfl,hn27⟩:=list_succ hn26
  obtain⟨c27,l28,rfl,hn28⟩:=list_succ hn27
  obtain⟨c28,l29,rfl,hn29⟩:=list_succ hn28
  obtain⟨c29,l30,rfl,hn30⟩:=list_succ hn29
  obtain⟨c30,l31,rfl,hn31⟩:=list_succ hn30
  obtain⟨c31,l32,rfl,hn32⟩:=list_succ hn31
  obtain⟨c32,l33,rfl,hn33⟩:=list_succ hn32
  obtain⟨c33,l34,rfl,hn34⟩:=list_succ hn33
  obtain⟨c34,l35,rfl,hn35⟩:=list_succ hn34
  obtain⟨c35,l36,rfl,hn36⟩:=list_succ hn35
  obtain⟨c36,l37,rfl,hn37⟩:=list_succ hn36
  obtain⟨c37,l38,rfl,hn38⟩:=list_succ hn37
  obtain⟨c38,l39,rfl,hn39⟩:=list_succ hn38
  obtain⟨c39,l40,rfl,hn40⟩:=list_succ hn39
  obtain⟨c40,l41,rfl,hn41⟩:=list_succ hn40
  obtain⟨c41,l42,rfl,hn42⟩:=list_succ hn41
  obtain⟨c42,l43,rfl,hn43⟩:=list_succ hn42
  obtain⟨c43,l44,rfl,hn44⟩:=list_succ hn43
  obtain⟨c44,l45,rfl,hn45⟩:=list_succ hn44
  obtain⟨c45,l46,rfl,hn46⟩:=list_succ hn45
  obtain⟨c46,l47,rfl,hn47⟩:=list_succ hn46
  obtain⟨c47,l48,rfl,hn48⟩:=list_succ hn47
  obtain⟨c48,l49,rfl,hn49⟩:=list_succ hn48
  obtain⟨c49,l50,rfl,hn50⟩:=list_succ hn49
  obtain⟨c50,l51,rfl,hn51⟩:=list_succ hn50
  obtain⟨c51,l52,rfl,hn52⟩:=list_succ hn51
  obtain⟨c52,l53,rfl,hn53⟩:=list_succ hn52
  obtain⟨c53,l54,rfl,hn54⟩:=list_succ hn53
  obtain⟨c54,l55,rfl,hn55⟩:=list_succ hn54
  obtain⟨c55,l56,rfl,hn56⟩:=list_succ hn55
  obtain⟨c56,l57,rfl,hn57⟩:=list_succ hn56
  obtain⟨c57,l58,rfl,hn58⟩:=list_succ hn57
  obtain⟨c58,l59,rfl,hn59⟩:=list_succ hn58
  obtain⟨c59,l60,rfl,hn60⟩:=list_succ hn59
  obtain⟨c60,l61,rfl,hn61⟩:=list_succ hn60
  obtain⟨c61,l62,rfl,hn62⟩:=list_succ hn61
  obtain⟨c62,l63,rfl,hn63⟩:=list_succ hn62
  obtain⟨c63,l64,rfl,hn64⟩:=list_succ hn63
  obtain⟨c64,l65,rfl,hn65⟩:=list_succ hn64
  obtain rfl:=List.eq_nil_of_length_eq_zero hn65
  obtain⟨v0,v1,v2_0_0,v2_0_1,v2_0_2,v2_0_3,v2_0_4,v2_1_0,v2_1_1,v2_2_0,v2_2_1,v2_3,v2_4_0,v2_4_1,v2_5_0,v2_5_1,v2_6_0,v2_6_1,v2_7_0,v2_7_1,v2_8_0,v2_8_1,v2_9_0,v2_9_1,v3_0_0,v3_0_1,v3_0_2,v3_0_3,v3_0_4,v3_1,v3_2_0,v3_2_1,v3_3_0,v3_3_1,v3_4_0,v3_4_1,v3_5_0,v3_5_1,v3_6_0,v3_6_1,v3_7_0,v3_7_1,v3_7_2,v3_7_3,v4_0,v4_1,Av4_2,cv4_2,Lv4_2,v4_3_0,v4_3_1,v4_4_0,v4_4_1,v4_5_0,v4_5_1,v5_0_0,v5_0_1,v5_1_0,v5_1_1,v5_2_0,v5_2_1,v5_3_0,v5_3_1,v6_0,v6_1,v6_2,Av6_3,cv6_3,Lv6_3,e,Bv4_2,Wv4_2,Bv6_3,Wv6_3,z1⟩:=trod_isnmea hg hf
  exact⟨⟨v0,v1,((v2_0_0,v2_0_1,v2_0_2,v2_0_3,v2_0_4),(v2_1_0,v2_1_1),(v2_2_0,v2_2_1),v2_3,(v2_4_0,v2_4_1),(v2_5_0,v2_5_1),(v2_6_0,v2_6_1),(v2_7_0,v2_7_1),(v2_8_0,v2_8_1),(v2_9_0,v2_9_1)),((v3_0_0,v3_0_1,v3_0_2,v3_0_3,v3_0_4),v3_1,(v3_2_0,v3_2_1),(v3_3_0,v3_3_1),(v3_4_0,v3_4_1),(v3_5_0,v3_5_1),(v3_7_0,v3_7_1,v3_7_2,v3_7_3),(v3_6_0,v3_6_1)),{a:=v4_0,f:=v4_1,ids:=Lv4_2,p0:=(v4_3_0,v4_3_1),p1:=(v4_4_0,v4_4_1),p2:=(v4_5_0,v4_5_1)},((v5_0_0,v5_0_1),(v5_1_0,v5_1_1),(v5_2_0,v5_2_1),(v5_3_0,v5_3_1)),{T:=v6_0,N:=v6_1,S:=v6_2,L:=Lv6_3}⟩,_,rfl,⟨.slice Av4_2 Lv4_2.length cv4_2,.slice Av6_3 Lv6_3.length cv6_3,by rw [e];rfl,⟨_,_,rfl,bk_ints Wv4_2⟩,⟨_,_,rfl,bk_vws Wv6_3⟩⟩,z1,Bv4_2,Bv6_3⟩
end
end Go.Proofs.YtoabkoniegmkaaaGreat
