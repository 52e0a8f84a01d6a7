/- Values that can be compared: what '==' says of them. -/
import Derived.Test.YtafkadhijljmkaaGreatBlk
import Derived.Test.YtafkadhijljmkaaGreatFlt
import Derived.Test.YtafkadhijljmkaaGreatProg
import Derived.DeepKeys
import Derived.DeepKeys2
import Derived.OrdersHeld
namespace Go.Proofs.YtafkadhijljmkaaGreat
set_option linter.unusedVariables false
open Go.RowKit

instance litDec : DecidableEq Lit
  | .bool x, .bool y => decidable_of_iff (x = y) ⟨fun h => by rw [h], fun h => by cases h; rfl⟩
  | .int k x, .int j y => decidable_of_iff (k = j ∧ x = y) ⟨fun h => by rw [h.1, h.2], fun h => by cases h; exact ⟨rfl, rfl⟩⟩
  | .float k x, .float j y => decidable_of_iff (k = j ∧ x = y) ⟨fun h => by rw [h.1, h.2], fun h => by cases h; exact ⟨rfl, rfl⟩⟩
  | .string x, .string y => decidable_of_iff (x = y) ⟨fun h => by rw [h], fun h => by cases h; rfl⟩
  | .nil, .nil => isTrue rfl
  | .bool _, .int _ _ => isFalse (fun h => by cases h)
  | .bool _, .float _ _ => isFalse (fun h => by cases h)
  | .bool _, .string _ => isFalse (fun h => by cases h)
  | .bool _, .nil => isFalse (fun h => by cases h)
  | .int _ _, .bool _ => isFalse (fun h => by cases h)
  | .int _ _, .float _ _ => isFalse (fun h => by cases h)
  | .int _ _, .string _ => isFalse (fun h => by cases h)
  | .int _ _, .nil => isFalse (fun h => by cases h)
  | .float _ _, .bool _ => isFalse (fun h => by cases h)
  | .float _ _, .int _ _ => isFalse (fun h => by cases h)
  | .float _ _, .string _ => isFalse (fun h => by cases h)
  | .float _ _, .nil => isFalse (fun h => by cases h)
  | .string _, .bool _ => isFalse (fun h => by cases h)
  | .string _, .int _ _ => isFalse (fun h => by cases h)
  | .string _, .float _ _ => isFalse (fun h => by cases h)
  | .string _, .nil => isFalse (fun h => by cases h)
  | .nil, .bool _ => isFalse (fun h => by cases h)
  | .nil, .int _ _ => isFalse (fun h => by cases h)
  | .nil, .float _ _ => isFalse (fun h => by cases h)
  | .nil, .string _ => isFalse (fun h => by cases h)
/-- The cells of a value of a type that can be compared, and what they say. -/
def KV (t : TypeId) (X : List Value) (l : List Lit) : Prop := ∃ D, Tryz.prog.keyLits D t X = some l
theorem KV.struct_len {t : TypeId} {fs : Array Field} {X : List Value} {l : List Lit} (hu : Tryz.prog.underlying t = some (.struct fs)) (h : KV t X l) : X.length = Tryz.prog.cellsOf t := by
  obtain ⟨D, h⟩ := h
  cases D with
  | zero => simp [Program.keyLits] at h
  | succ D =>
    simp only [Program.keyLits, hu] at h
    split at h
    · next hc => exact hc.1
    · cases h
theorem KV.ones {m : Nat} {t : TypeId} {X : List Value} {l : List Lit} (ht : Tryz.prog.tiled m t = true) (h : KV t X l) : ∀ v ∈ X, v.oneCell' = true := by
  obtain ⟨D, h⟩ := h
  rw [cells_of_lits m t ht D X l h]
  intro v hv
  obtain ⟨x, -, rfl⟩ := List.mem_map.1 hv
  cases x <;> rfl
theorem eqAt_of {m n : Nat} {t : TypeId} (hk : Tryz.prog.keyTypeAt m t = true) (hm : m ≤ n) : EqAt Tryz.prog n t := by
  have := run_equalIn_deep (P := Tryz.prog) (n - m) m t hk
  rwa [Nat.sub_add_cancel hm] at this
theorem run_equal_key {m : Nat} {t : TypeId} {fs : Array Field} (hu : Tryz.prog.underlying t = some (.struct fs)) (hk : Tryz.prog.keyTypeAt m t = true) (hm : m ≤ 10000) {X Y : List Value} {lx ly : List Lit} (hx : KV t X lx) (hy : KV t Y ly) (w : World) :
    (Op.equalIn 10000 t (.agg X.toArray) (.agg Y.toArray)).run Tryz.prog w = .ok (decide (lx = ly)) w := by
  have l1 := hx.struct_len hu
  have l2 := hy.struct_len hu
  obtain ⟨D, hx⟩ := hx
  obtain ⟨D', hy⟩ := hy
  obtain ⟨r, hr, hiff⟩ := (eqAt_of hk hm : EqAt Tryz.prog 10000 t) w D D' (.agg X.toArray) (.agg Y.toArray) lx ly (by simp [Value.formed, hu, l1]) (by simp [Value.formed, hu, l2]) (by simpa [Value.cells] using hx) (by simpa [Value.cells] using hy)
  have e : r = decide (lx = ly) := by rw [Bool.eq_iff_iff, hiff, decide_eq_true_iff]
  rw [hr, e]
theorem eql_key {m : Nat} {t : TypeId} {fs : Array Field} (hu : Tryz.prog.underlying t = some (.struct fs)) (hk : Tryz.prog.keyTypeAt m t = true) (hm : m ≤ 10000) {X Y : List Value} {lx ly : List Lit} (hx : KV t X lx) (hy : KV t Y ly) (w : World) :
    (binOp .eql t (.agg X.toArray) (.agg Y.toArray)).run Tryz.prog w = .ok (.bool (decide (lx = ly))) w := by
  rw [run_eql_struct, run_equal_key hu hk hm hx hy]
  rfl
theorem neq_key {m : Nat} {t : TypeId} {fs : Array Field} (hu : Tryz.prog.underlying t = some (.struct fs)) (hk : Tryz.prog.keyTypeAt m t = true) (hm : m ≤ 10000) {X Y : List Value} {lx ly : List Lit} (hx : KV t X lx) (hy : KV t Y ly) (w : World) :
    (binOp .neq t (.agg X.toArray) (.agg Y.toArray)).run Tryz.prog w = .ok (.bool (!decide (lx = ly))) w := by
  rw [run_neq_struct, run_equal_key hu hk hm hx hy]
  rfl
/-- A slice of such values: n of them, size cells each. -/
def SlK (t : TypeId) (size : Nat) (Q : Nat → Prop) (w : World) (A : Option Addr) (X : List (List Lit)) : Prop :=
  ∀ k (h : k < X.length), ∃ b off L, A = some ⟨b, off, none⟩ ∧ Q b ∧ w.rangeAt b (off + k * size) L ∧ KV t L X[k]
theorem SlK.below {t : TypeId} {size : Nat} {Q : Nat → Prop} {w w' : World} {B : Nat} {A : Option Addr} {X : List (List Lit)} (h : SlK t size Q w A X) (hb : Below B w w') (hq : ∀ b, Q b → b < B) : SlK t size Q w' A X := fun k hk => by
  obtain ⟨b, off, L, h1, h2, h3, h4⟩ := h k hk
  exact ⟨b, off, L, h1, h2, range_below h3 hb (hq b h2), h4⟩
theorem yieldsIf_binopE {P : Program} {ops : Array Oper} {S : World → Prop} {o : Oper} {a : Act} (hw : Region.wanted o (yielded ops a.tmps) = true) (bo : BinOp) (xT : TypeId) (x y : Operand) (yT : TypeId) (ho : o.op = .binOp bo xT x y yT) {u v r : Value} (hx : a.eval x = u) (hy : a.eval y = v) (hg : ∀ w, (eqGuard bo xT x y u v).run P w = .ok () w) (hr : ∀ w, (binOp bo xT u v).run P w = .ok r w) : YieldsIf P ops S o r a :=
  .inl ⟨hw, fun w _ => by
    unfold execOp
    rw [ho]
    simp only [hx, hy, Sem.run_bind, hg, hr, Result.andThen_ok, Sem.run_pure]⟩
theorem wp_binopE {P : Program} {o : Oper} {a : Act} {w : World} {Q : Exit → Act → World → Prop} {K : Act → World → Prop} (bo : BinOp) (xT : TypeId) (x y : Operand) (yT : TypeId) (ho : o.op = .binOp bo xT x y yT) {u v r : Value} (hx : a.eval x = u) (hy : a.eval y = v) (hg : (eqGuard bo xT x y u v).run P w = .ok () w) (hr : (binOp bo xT u v).run P w = .ok r w)
    (h : K (a.put o.dst r) w) : o.wp P a w K Q := by
  unfold Oper.wp execOp
  rw [ho]
  simp only [hx, hy, Sem.run_bind, hg, hr, Result.andThen_ok, Sem.run_pure]
  exact h
end Go.Proofs.YtafkadhijljmkaaGreat
