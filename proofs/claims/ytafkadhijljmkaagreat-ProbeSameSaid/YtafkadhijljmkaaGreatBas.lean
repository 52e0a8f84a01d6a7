/- General small lemmas over any program: texts, bytes, the worlds of a walk. -/
import Derived.WalkKit
import Derived.WalkSpells
import Derived.WalkLawsBesides
import Derived.Lib.Hide
namespace Go.Proofs.YtafkadhijljmkaaGreat
set_option linter.unusedVariables false
open Go.RowKit

theorem ret_u8 {a b : Int} (h : a = b) : Ending.returned (.int .u8 a) = .returned (.int .u8 b) := by rw [h]
theorem ret_i64 {a b : Int} (h : a = b) : Ending.returned (.int .i64 a) = .returned (.int .i64 b) := by rw [h]
theorem ret_str {a b : ByteArray} (h : a = b) : Ending.returned (.string a) = .returned (.string b) := by rw [h]
theorem ret_bool {a b : Bool} (h : a = b) : Ending.returned (.bool a) = .returned (.bool b) := by rw [h]

theorem bthen {w w1 w2 : World} (h1 : Below w.heap.size w w1) (h2 : Below w1.heap.size w1 w2) : Below w.heap.size w w2 := h1.trans (h2.mono h1.size)
theorem hb_le {B : Nat} {a w : World} (h : Below B a w) (hB : B ≤ a.heap.size := by exact Nat.le_refl _) : B ≤ w.heap.size := Nat.le_trans hB h.size
theorem bdrewN {B : Nat} {a w : World} (h : Below B a w) (n : Nat) : Below B a (w.drewN n) := ⟨h.os, h.tape, h.output, h.size, h.block⟩

theorem bdrew {B : Nat} {a w : World} (h : Below B a w) : Below B a w.drew := ⟨h.os, h.tape, h.output, h.size, h.block⟩

theorem take_snoc (s : ByteArray) (k : Nat) (h : k < s.size) : s.data.toList.take (k + 1) = s.data.toList.take k ++ [s[k]] := by
  rw [List.take_succ_eq_append_getElem (by simpa using h)]; rfl

theorem xor_u8 (a b : UInt8) : Value.int IntKind.u8 (bits BinOp.xor IntKind.u8 (a.toNat : Int) (b.toNat : Int)) = Value.int IntKind.u8 ((a ^^^ b).toNat : Int) := by
  rw [u8_xor_nat _ _ a.toNat_lt b.toNat_lt, UInt8.toNat_xor]

/-- A row of bytes becomes a text. -/
theorem run_conv_row {P : Program} (w : World) (src dst e : TypeId) (a : Addr) (cap : Nat) (ns : List Int)
    (hs : P.underlying src = some (.slice e)) (he : P.underlying e = some (.int .u8)) (hd : P.underlying dst = some .string)
    (hc : ∀ j (hj : j < ns.length), w.cell? (a.add j) = some (.int .u8 ns[j])) :
    (convert src dst (.slice (some a) ns.length cap)).run P w = .ok (.string ⟨(ns.map fun n => UInt8.ofNat n.toNat).toArray⟩) w := by
  rw [run_convert_bytes_string w src dst e (some a) ns.length cap hs he hd]
  have hl := run_loadCells_list (P := P) w a (ns.map (Value.int .u8)) (fun j v hj => by
    have hjl : j < ns.length := by
      rcases Nat.lt_or_ge j ns.length with h | h
      · exact h
      · simp [List.getElem?_eq_none (show (ns.map (Value.int .u8)).length ≤ j by simpa using h)] at hj
    rw [hc j hjl]
    simpa [List.getElem?_eq_getElem hjl] using hj)
  rw [List.length_map] at hl
  rw [run_bytesToString w a ns.length cap ns hl]
  congr 2
  have : ∀ (l : List Int) (r : ByteArray), l.foldl (fun r n => r.push (UInt8.ofNat n.toNat)) r = ⟨r.data ++ (l.map fun n => UInt8.ofNat n.toNat).toArray⟩ := by
    intro l
    induction l with
    | nil => intro r; simp
    | cons n l ih =>
      intro r
      simp only [List.foldl_cons, List.map_cons]
      rw [ih]
      congr 1
      apply Array.ext'
      simp [ByteArray.push]
  rw [this]
  simp

theorem run_conv1 {P : Program} (src dst e : TypeId) (hs : P.underlying src = some (.slice e)) (he : P.underlying e = some (.int .u8)) (hd : P.underlying dst = some .string)
    (w : World) (a : Int) (n : Nat) (hn : n = w.heap.size) :
    (convert src dst (.slice (some ⟨n, 0, none⟩) 1 1)).run P (w.alloc (.cells #[.int .u8 a] e)) = .ok (.string ⟨#[UInt8.ofNat a.toNat]⟩) (w.alloc (.cells #[.int .u8 a] e)) := by
  subst hn
  exact run_conv_row (w.alloc (.cells #[.int .u8 a] e)) src dst e ⟨w.heap.size, 0, none⟩ 1 [a] hs he hd (fun j hj => by
    have : j = 0 := by simp at hj; omega
    subst this
    simp [Addr.add, World.cell?_alloc_new])

theorem run_conv1d {P : Program} (src dst e : TypeId) (hs : P.underlying src = some (.slice e)) (he : P.underlying e = some (.int .u8)) (hd : P.underlying dst = some .string)
    (w : World) (a : Int) (n : Nat) (hn : n = w.heap.size) :
    (convert src dst (.slice (some ⟨n, 0, none⟩) 1 1)).run P (w.alloc (.cells #[.int .u8 a] e)).drew = .ok (.string ⟨#[UInt8.ofNat a.toNat]⟩) (w.alloc (.cells #[.int .u8 a] e)).drew := by
  subst hn
  exact run_conv_row (w.alloc (.cells #[.int .u8 a] e)).drew src dst e ⟨w.heap.size, 0, none⟩ 1 [a] hs he hd (fun j hj => by
    have : j = 0 := by simp at hj; omega
    subst this
    show (w.alloc _).cell? _ = _
    simp [Addr.add, World.cell?_alloc_new])

theorem run_conv2 {P : Program} (src dst e : TypeId) (hs : P.underlying src = some (.slice e)) (he : P.underlying e = some (.int .u8)) (hd : P.underlying dst = some .string)
    (w : World) (a b : Int) (n : Nat) (hn : n = w.heap.size) :
    (convert src dst (.slice (some ⟨n, 0, none⟩) 2 2)).run P (w.alloc (.cells #[.int .u8 a, .int .u8 b] e)) = .ok (.string ⟨#[UInt8.ofNat a.toNat, UInt8.ofNat b.toNat]⟩) (w.alloc (.cells #[.int .u8 a, .int .u8 b] e)) := by
  subst hn
  exact run_conv_row (w.alloc (.cells #[.int .u8 a, .int .u8 b] e)) src dst e ⟨w.heap.size, 0, none⟩ 2 [a, b] hs he hd (fun j hj => by
    have hj2 : j < 2 := by simpa using hj
    have : j = 0 ∨ j = 1 := by omega
    rcases this with rfl | rfl <;> simp [Addr.add, World.cell?_alloc_new])

/-- A slice that came in (or was made), read as a list of texts: the address is told only where there is an element. -/
def Strs (w : World) (B : Nat) (A : Option Addr) (fs : List ByteArray) : Prop :=
  ∀ k (hk : k < fs.length), ∃ b off, A = some ⟨b, off, none⟩ ∧ b < B ∧ w.cell? ⟨b, off + k, none⟩ = some (.string (fs[k]'hk))
theorem Strs.keep {w w' : World} {B : Nat} {A : Option Addr} {fs : List ByteArray} (h : Strs w B A fs) (hk : ∀ p : Addr, p.block < B → w'.cell? p = w.cell? p) : Strs w' B A fs := by
  intro k hk'
  obtain ⟨b, off, hA, hb, hc⟩ := h k hk'
  exact ⟨b, off, hA, hb, (hk _ hb).trans hc⟩
theorem Strs.below {w w' : World} {B B' : Nat} {A : Option Addr} {fs : List ByteArray} (h : Strs w B A fs) (hb : Below B' w w') (hB : B ≤ B') : Strs w' B A fs :=
  h.keep fun _ hp => hb.cell (Nat.lt_of_lt_of_le hp hB)
theorem Strs.more {w : World} {B B' : Nat} {A : Option Addr} {fs : List ByteArray} (h : Strs w B A fs) (hB : B ≤ B') : Strs w B' A fs := by
  intro k hk'
  obtain ⟨b, off, hA, hb, hc⟩ := h k hk'
  exact ⟨b, off, hA, by omega, hc⟩
/-- The address lies at or behind block lo. -/
def FreshA (lo : Nat) (A : Option Addr) : Prop := ∀ a, A = some a → lo ≤ a.block
theorem FreshA.none_ {lo : Nat} : FreshA lo none := fun a h => by cases h
theorem FreshA.less {lo lo' : Nat} {A : Option Addr} (h : FreshA lo A) (hl : lo' ≤ lo) : FreshA lo' A := fun a e => Nat.le_trans hl (h a e)
theorem Strs.setCell {w : World} {B lo : Nat} {A : Option Addr} {fs : List ByteArray} (h : Strs w B A fs) (hf : FreshA lo A) {p : Addr} (hp : p.block < lo) (v : Value) : Strs (w.setCell p v) B A fs := by
  intro k hk'
  obtain ⟨b, off, hA, hb, hc⟩ := h k hk'
  have hlo := hf _ hA
  exact ⟨b, off, hA, hb, (World.cell?_setCell_other w p _ v (fun e => by subst e; exact absurd hp (Nat.not_lt.2 hlo))).trans hc⟩
theorem below_new (w : World) (o : Obj) : Below w.heap.size w (w.alloc o) := (Below.refl _ _).alloc (Nat.le_refl _) _
theorem bcell {B : Nat} {W w1 : World} (hb : Below B W w1) : (∀ b o, b < B → w1.cell? ⟨b, o, none⟩ = W.cell? ⟨b, o, none⟩) ∧ (∀ b o, b < B → w1.frozen? ⟨b, o, none⟩ = W.frozen? ⟨b, o, none⟩) :=
  ⟨fun b o h => hb.cell (p := ⟨b, o, none⟩) h, fun b o h => hb.frozen (p := ⟨b, o, none⟩) h⟩

end Go.Proofs.YtafkadhijljmkaaGreat
