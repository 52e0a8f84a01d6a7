/- Layer 43: slices.SortFunc over timers. -/
import Derived.Test.YtcageojgfnihpaaDueB
import Derived.Shelf.SlSortCmp.WholeK
import Derived.Shelf.SlSortCmp.NoneTotal
import Derived.Shelf.SlGeneric
import Derived.Ground.SlsfProg
namespace Go.Proofs.Ytcageojgfnihpaa
set_option linter.unusedVariables false
open Go.RowKit Go.Shelf Go.Sort

def cmpT (x y : Tm) : Int := if befT x y then -1 else 1
theorem allCmp_any (x y : Tm) (w : World) (h0 : w.cell? ⟨x.b, 0, none⟩ = some (.int .i64 x.id)) (h1 : w.cell? ⟨x.b, 1, none⟩ = some (.int .i64 x.t)) (k0 : w.cell? ⟨y.b, 0, none⟩ = some (.int .i64 y.id)) (k1 : w.cell? ⟨y.b, 1, none⟩ = some (.int .i64 y.t)) :
    Calls Try.prog 27 #[.pointer (some ⟨x.b, 0, none⟩), .pointer (some ⟨y.b, 0, none⟩)] w fun e w' => e = .returned (.int .i64 (cmpT x y)) ∧ ∃ k, w' = w.drewN k := by
  have HC := Lib.hid (before_any x.b y.b x.id x.t y.id y.t (befT x y) w rfl h0 h1 k0 k1)
  unfold cmpT
  clear h0 h1 k0 k1
  cases hb : befT x y with
  | true =>
    rw [hb] at HC
    clear hb
    go_enter Try.func27, Try.ntmps27
    go_wp2_with fail
    refine HC.out.mono ?_
    rintro e w1 ⟨rfl, k, rfl⟩
    go_wp2_with fail
    go_ret
    exact ⟨rfl, _, rfl⟩
  | false =>
    rw [hb] at HC
    clear hb
    go_enter Try.func27, Try.ntmps27
    go_wp2_with fail
    refine HC.out.mono ?_
    rintro e w1 ⟨rfl, k, rfl⟩
    go_wp2_with fail
    go_ret
    exact ⟨rfl, _, rfl⟩
shelf_lay_g SlLaysF.n14 Slsf 14 at Try 31 as duePdqL
shelf_lay_g SlLaysF0.n14 Slsf 14 at Try 31 as duePdqL0
shelf_lay_g SlLaysF0.n15 Slsf 15 at Try 32 as dueLenL
theorem cmpT_lt (x y : Tm) : decide (cmpT x y < 0) = befT x y := by
  unfold cmpT
  cases befT x y <;> decide
theorem bitsLen_any (n : Nat) (w : World) (h : n ≤ 1000000) : Calls Try.prog 32 #[.int .u64 (n : Int)] w fun e w' => e = .returned (.int .i64 (Lib.bitLen n : Nat)) ∧ w' = w := by
  have h := Any.bits_Len (SlLaysF0.n15.bits dueLenL) (n : Int) w (by omega) (by omega)
  rwa [Int.toNat_natCast] at h
theorem sortNone_any (p : Option Addr) (cap : Nat) (fv : Value) (w : World) : Calls Try.prog 26 #[.slice p 0 cap, fv] w fun e w' => e = .returned (.tuple #[]) ∧ w = w' := by
  have HP := fun l => Lib.hid (AnyF.pdqsortCmpFunc_none duePdqL0 p cap l fv w)
  have HB := Lib.hid (bitsLen_any 0 w (by omega))
  go_enter Try.func26, Try.ntmps26
  go_wp2_with fail
  refine HB.out.mono ?_
  rintro e w' ⟨rfl, rfl⟩
  go_wp2_with fail
  refine (HP _).out.mono ?_
  rintro e w' ⟨rfl, rfl⟩
  go_wp2_with fail
  go_end0
  exact ⟨rfl, rfl⟩
/-- A timer that reads so in a world, and not in this block. -/
def AtT (w : World) (blk : Nat) (x : Tm) : Prop := x.b ≠ blk ∧ w.cell? ⟨x.b, 0, none⟩ = some (.int .i64 x.id) ∧ w.cell? ⟨x.b, 1, none⟩ = some (.int .i64 x.t)
abbrev encT {w : World} {blk : Nat} (x : {x : Tm // AtT w blk x}) : Value := .pointer (some ⟨x.1.b, 0, none⟩)
theorem swoT {w : World} {blk : Nat} : SWO (ltOf (fun x y : {x : Tm // AtT w blk x} => cmpT x.1 y.1)) := by
  have e : ∀ x y : {x : Tm // AtT w blk x}, ltOf (fun x y => cmpT x.1 y.1) x y = befT x.1 y.1 := fun x y => by
    exact cmpT_lt x.1 y.1
  refine ⟨fun x => ?_, fun x y z h k => ?_, fun x y z h k => ?_⟩
  · rw [e, befT_no]; omega
  · rw [e, befT_iff] at *; omega
  · rw [e] at *; exact not_trans h k
theorem ltT {w : World} {blk : Nat} (x y : {x : Tm // AtT w blk x}) : ltOf (fun x y => cmpT x.1 y.1) x y = befT x.1 y.1 := by
  exact cmpT_lt x.1 y.1
theorem sortWorld_cell {α : Type} [Inhabited α] (enc : α → Value) (w : World) (blk off m : Nat) (dk : Array α) (os : Array Obj) {b o : Nat} (hne : b ≠ blk) (hlt : b < w.heap.size) : (sortWorld enc w blk off m dk os).cell? ⟨b, o, none⟩ = w.cell? ⟨b, o, none⟩ := by
  unfold sortWorld
  rw [cell?_grow _ _ _ (by simpa [putRow, mapBlock, Sort.ahead] using hlt), cell?_putRow_other _ _ _ _ _ _ (.inl hne)]
  rfl
/-- Sorted by what comes first. -/
def SortedT (l : List Tm) : Prop := l.Pairwise (fun x y => befT x y = true)
theorem sortWorld_below {α : Type} [Inhabited α] (enc : α → Value) (w : World) (blk off m : Nat) (dk : Array α) (os : Array Obj) : KeptS (fun k => k ≠ blk ∧ k < w.heap.size) w (sortWorld enc w blk off m dk os) := by
  refine ⟨rfl, rfl, rfl, by simp [sortWorld, grow, putRow, mapBlock, Sort.ahead], fun k hk => ?_⟩
  unfold sortWorld
  rw [heap_grow_old _ _ (by simpa [putRow, mapBlock, Sort.ahead] using hk.2)]
  have : blk ≠ k := fun e => hk.1 e.symm
  simp [putRow, mapBlock, Sort.ahead, Array.getElem?_modify, this]
theorem duePdq_any (blk cap : Nat) (l : List Tm) (w : World) (hl : l ≠ []) (hH : ∀ j (hj : j < l.length), w.cell? ⟨blk, j, none⟩ = some (.pointer (some ⟨(l[j]).b, 0, none⟩)) ∧ w.frozen? ⟨blk, j, none⟩ = false) (hat : ∀ x ∈ l, AtT w blk x) (hblk : blk < w.heap.size) (hsz : l.length ≤ 1000000) (hd : l.Pairwise (fun x y => x.id ≠ y.id)) :
    Calls Try.prog 31 #[.slice (some ⟨blk, 0, none⟩) l.length cap, .int .i64 0, .int .i64 (l.length : Int), .int .i64 (Lib.bitLen l.length : Nat), .func (.func 27) #[] #[]] w fun e w' => e = .returned (.tuple #[]) ∧ ∃ l' : List Tm, l.Perm l' ∧ SortedT l' ∧ (∀ j (hj : j < l'.length), w'.cell? ⟨blk, j, none⟩ = some (.pointer (some ⟨(l'[j]).b, 0, none⟩))) ∧ KeptS (fun k => k ≠ blk ∧ k < w.heap.size) w w' := by
  obtain ⟨x0, hx0⟩ := List.exists_mem_of_ne_nil l hl
  haveI : Inhabited {x : Tm // AtT w blk x} := ⟨⟨x0, hat x0 hx0⟩⟩
  have eg : ∀ args w, (callFunc 27 args).run Try.prog w = .ok (.enter 27 args) w := enters_of Try.func27 (by kernel_rfl) rfl
  let d : Array {x : Tm // AtT w blk x} := (l.attachWith (AtT w blk) hat).toArray
  have hds : d.size = l.length := by simp [d]
  have hval : d.toList.map (·.1) = l := by simp [d]
  have hdj : ∀ j (hj : j < l.length), (d[j]!).1 = l[j] := fun j hj => by
    rw [getElem!_pos d j (by omega)]
    simp [d]
  have hH' : Holds encT w blk 0 d := fun j hj => by
    have hj' : j < l.length := by omega
    rw [Nat.zero_add]
    refine ⟨?_, (hH j hj').2⟩
    rw [(hH j hj').1]
    show _ = some (Value.pointer (some ⟨(d[j]!).1.b, 0, none⟩))
    rw [hdj j hj']
  have hcmp : CmpLays1 Try.prog 27 #[] encT (fun x y : {x : Tm // AtT w blk x} => cmpT x.1 y.1) blk 0 d.size w := CmpReads.lays fun m os dk hdk x y => by
    obtain ⟨x, x1, x2, x3⟩ := x
    obtain ⟨y, y1, y2, y3⟩ := y
    exact allCmp_any x y _ ((sortWorld_cell _ w blk 0 m dk os x1 (lt_of_cell x2)).trans x2) ((sortWorld_cell _ w blk 0 m dk os x1 (lt_of_cell x2)).trans x3) ((sortWorld_cell _ w blk 0 m dk os y1 (lt_of_cell y2)).trans y2) ((sortWorld_cell _ w blk 0 m dk os y1 (lt_of_cell y2)).trans y3)
  have hlim : Lib.bitLen d.size < 4611686018427387904 := Nat.lt_of_le_of_lt (Lib.bitLen_le d.size 62 (by omega) (by omega)) (by omega)
  have hp := Any.pdqsortCmpFunc_all duePdqL encT (fun x y : {x : Tm // AtT w blk x} => cmpT x.1 y.1) 27 #[] swoT blk 0 cap d w eg hcmp ⟨fun _ => rfl, hH', hblk⟩ (d.size + 1) 0 d.size (Lib.bitLen d.size) d w (by omega) rfl (SW.start hH') (Nat.zero_le _) (Nat.le_refl _) (by omega) hlim (Or.inl rfl)
  have hso := pdq_sorts (ltOf (fun x y : {x : Tm // AtT w blk x} => cmpT x.1 y.1)) swoT d 0 d.size (Lib.bitLen d.size) true true (Nat.zero_le _) (Nat.le_refl _) (Or.inl rfl)
  obtain ⟨d', hd'⟩ : ∃ d', pdq (ltOf (fun x y : {x : Tm // AtT w blk x} => cmpT x.1 y.1)) d 0 d.size (Lib.bitLen d.size) true true = d' := ⟨_, rfl⟩
  rw [hd'] at hso
  have hsd : d'.size = l.length := hso.1.1.trans hds
  have hH2 : ∀ n os, ∀ j, j < l.length → (sortWorld encT w blk 0 n d' os).cell? ⟨blk, j, none⟩ = some (Value.pointer (some ⟨(d'[j]!).1.b, 0, none⟩)) := fun n os j hj => by
    have := (holds_sortWorld encT w blk 0 n d d' os hblk hH' (by omega) j (by omega)).1
    rwa [Nat.zero_add] at this
  have hpm : d.toList.Perm d'.toList := by
    have h3 := hso.1.2.2
    rw [Array.extract_size, hds, ← hsd, Array.extract_size] at h3
    exact h3.symm
  have hpl : l.Perm (d'.toList.map (·.1)) := by
    have := hpm.map (·.1)
    rwa [hval] at this
  have hlen : (d'.toList.map (·.1)).length = l.length := by simp [hsd]
  have hget : ∀ j (hj : j < (d'.toList.map (·.1)).length), (d'.toList.map (·.1))[j] = (d'[j]!).1 := fun j hj => by
    rw [getElem!_pos d' j (by omega)]; simp
  have hsorted : SortedT (d'.toList.map (·.1)) := by
    refine List.pairwise_iff_getElem.2 fun i j hi hj hij => ?_
    have h1 := hso.2 i j (Nat.zero_le _) hij (by omega)
    rw [ltT] at h1
    rw [hget i hi, hget j hj]
    have hdd := List.pairwise_iff_getElem.1 ((hpl.pairwise_iff (R := fun x y : Tm => x.id ≠ y.id) (fun h e => h e.symm)).1 hd) i j hi hj hij
    rw [hget i hi, hget j hj] at hdd
    rw [befT_no] at h1
    rw [befT_iff]
    omega
  rw [hd', hds] at hp
  refine Calls.mono hp ?_
  rintro e w' ⟨rfl, n, os, rfl⟩
  exact ⟨rfl, _, hpl, hsorted, fun j hj => by rw [hget j hj]; exact hH2 n os j (by omega), sortWorld_below _ _ _ _ _ _ _⟩
theorem dueSort_any (blk cap : Nat) (l : List Tm) (w : World) (hl : l ≠ []) (hH : ∀ j (hj : j < l.length), w.cell? ⟨blk, j, none⟩ = some (.pointer (some ⟨(l[j]).b, 0, none⟩)) ∧ w.frozen? ⟨blk, j, none⟩ = false) (hat : ∀ x ∈ l, AtT w blk x) (hblk : blk < w.heap.size) (hsz : l.length ≤ 1000000) (hd : l.Pairwise (fun x y => x.id ≠ y.id)) :
    Calls Try.prog 26 #[.slice (some ⟨blk, 0, none⟩) l.length cap, .func (.func 27) #[] #[]] w fun e w' => e = .returned (.tuple #[]) ∧ ∃ l' : List Tm, l.Perm l' ∧ SortedT l' ∧ (∀ j (hj : j < l'.length), w'.cell? ⟨blk, j, none⟩ = some (.pointer (some ⟨(l'[j]).b, 0, none⟩))) ∧ KeptS (fun k => k ≠ blk ∧ k < w.heap.size) w w' := by
  have HP := Lib.hid (duePdq_any blk cap l w hl hH hat hblk hsz hd)
  have HB := Lib.hid (bitsLen_any l.length w hsz)
  clear hH hat hd hl
  obtain ⟨n, hn⟩ : ∃ n, l.length = n := ⟨_, rfl⟩
  rw [hn] at HP HB hsz ⊢
  clear hn
  generalize Lib.bitLen n = bl at *
  go_enter Try.func26, Try.ntmps26
  go_wp2_with fail
  refine HB.out.mono ?_
  rintro e w' ⟨rfl, rfl⟩
  go_wp2_with fail
  refine HP.out.mono ?_
  rintro e w' ⟨rfl, hq⟩
  have HQ := Lib.hid hq
  clear hq
  go_wp2_with fail
  go_end0
  exact ⟨rfl, HQ.out⟩
end Go.Proofs.Ytcageojgfnihpaa
