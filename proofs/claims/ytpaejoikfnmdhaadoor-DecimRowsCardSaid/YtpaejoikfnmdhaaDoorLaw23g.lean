/- The law DecimRows, walked. -/
import Derived.Test.YtpaejoikfnmdhaaDoorMix23b
import Derived.Deep.RegionHeld3
namespace Go.Proofs.YtpaejoikfnmdhaaDoor
set_option linter.unusedVariables false
open Go.RowKit

/-- The state ahead of a call: both sides alike. -/
def Even (w : World) (Qr Qs : Nat → Prop) (gp gr gq gs base k : Nat) (wx : World) : Prop :=
  ∃ e vp L vq er R, Mix w Qr Qs gp gr gq gs base e vp L e vq L er R er R wx ∧ L.length ≤ 2 * k ∧ ∀ s ∈ R, s.size ≤ 100

theorem mix_start {w w1 w2 w3 : World} {fs : List ByteArray} {A2 : Option Addr} {c2 g : Nat} (hb1 : Below w.heap.size w w1) (hpen : PenOk w2 w1.heap.size 0 (.slice none 0 0) []) (hb2 : Below w1.heap.size w1 w2) (hz2 : w2.heap.size = w1.heap.size + 1) (hey : EyeR (fun b => w2.heap.size ≤ b ∧ b < g) w3 g 0 fs) (hg : w2.heap.size ≤ g) (hz3 : w3.heap.size = g + 1) (hb3 : Below w2.heap.size w2 w3) (hs : Strs w w.heap.size A2 fs) (hn : fs.length ≤ 40) :
    Lay4 w (fun b => w2.heap.size ≤ b ∧ b < g) (fun b => b < w.heap.size) w1.heap.size g w3.heap.size (w3.heap.size + 1) (w3.heap.size + 2) ∧
    Mix w (fun b => w2.heap.size ≤ b ∧ b < g) (fun b => b < w.heap.size) w1.heap.size g w3.heap.size (w3.heap.size + 1) (w3.heap.size + 2) 0 (.slice none 0 0) [] 0 (.slice none 0 0) [] 0 fs 0 fs ((w3.alloc (.cells #[.slice none 0 0, .int .i64 0, .int .i64 0] 66)).alloc (.cells #[.slice A2 fs.length c2, .int .i64 0, .int .i64 0] 66)) := by
  have z1 := hb1.size
  have zz : (w3.alloc (.cells #[.slice none 0 0, .int .i64 0, .int .i64 0] 66)).heap.size = w3.heap.size + 1 := by simp
  have hall : Below w.heap.size w w3 := bthen (bthen hb1 hb2) hb3
  have hbx : Below w3.heap.size w3 ((w3.alloc (.cells #[.slice none 0 0, .int .i64 0, .int .i64 0] 66)).alloc (.cells #[.slice A2 fs.length c2, .int .i64 0, .int .i64 0] 66)) := bthen (below_new _ _) (below_new _ _)
  have k : ∀ o, ((w3.alloc (.cells #[.slice none 0 0, .int .i64 0, .int .i64 0] 66)).alloc (.cells #[.slice A2 fs.length c2, .int .i64 0, .int .i64 0] 66)).cell? ⟨w3.heap.size, o, none⟩ = (#[Value.slice none 0 0, .int .i64 0, .int .i64 0] : Array Value)[o]? := fun o => by
    rw [World.cell?_alloc_past _ _ _ (by omega), World.cell?_alloc_at _ _ _ _ rfl]
  have k2 : ∀ o, ((w3.alloc (.cells #[.slice none 0 0, .int .i64 0, .int .i64 0] 66)).alloc (.cells #[.slice A2 fs.length c2, .int .i64 0, .int .i64 0] 66)).cell? ⟨w3.heap.size + 1, o, none⟩ = (#[Value.slice A2 fs.length c2, .int .i64 0, .int .i64 0] : Array Value)[o]? := fun o => by
    rw [World.cell?_alloc_at _ _ _ _ zz.symm]
  have hf : ∀ b o, w3.heap.size ≤ b → ((w3.alloc (.cells #[.slice none 0 0, .int .i64 0, .int .i64 0] 66)).alloc (.cells #[.slice A2 fs.length c2, .int .i64 0, .int .i64 0] 66)).frozen? ⟨b, o, none⟩ = false := fun b o hb => by
    rw [frozen?_alloc_cells, frozen?_alloc_cells]; exact frozen_past _ _ _ hb
  refine ⟨⟨z1, by omega, by omega, by omega, by omega, fun b q => by omega, fun b q => q⟩, (hpen.keep hb3).keep hbx, ⟨k 0, k 2, fun o => hf _ o (Nat.le_refl _), by simp; omega, World.ownsRow_nil _ _ _ _⟩, hey.keep hbx, ⟨A2, c2, fs, 0, k2 0, k2 1, k2 2, fun o => hf _ o (by omega), by simp, fun j hj => ?_, (fun b q => by have := (bthen hall hbx).size; omega), (fun b q => by omega), by omega, Nat.zero_le _, rfl⟩, (fun j hj => by cases hj), (fun j hj => by cases hj), bthen hall hbx, by simp⟩
  · obtain ⟨b, off, e1, e2, e3⟩ := hs j hj
    exact ⟨b, off, e1, e2, ((bthen hall hbx).cell (p := ⟨b, off + j, none⟩) e2).trans e3⟩

theorem Scr.all {G : Nat} {d : OpD} {X1 Y1 : Bool} {X2 Y2 : Int} {w : World} (h : Scr G d X1 X2 Y1 Y2 w) :
    w.cell? ⟨G, 0, none⟩ = some (.int .i64 d.kind) ∧ w.cell? ⟨G, 1, none⟩ = some (.bool d.b) ∧ w.cell? ⟨G, 2, none⟩ = some (.int .i64 d.n) ∧ w.cell? ⟨G, 3, none⟩ = some (.int .i64 d.W) ∧ w.cell? ⟨G, 4, none⟩ = some (.int .i64 d.M) ∧ w.cell? ⟨G, 5, none⟩ = some (.int .i64 d.F) ∧ w.cell? ⟨G, 6, none⟩ = some (.int .i64 d.L) ∧ w.cell? ⟨G, 7, none⟩ = some (.int .i64 d.H) ∧ w.cell? ⟨G, 8, none⟩ = some (.bool d.lat) ∧ w.cell? ⟨G, 9, none⟩ = some (.string d.s) ∧ w.cell? ⟨G, 10, none⟩ = some (.int .i64 d.e) ∧
    w.cell? ⟨G + 1, 0, none⟩ = some (.bool X1) ∧ w.cell? ⟨G + 1, 1, none⟩ = some (.int .i64 X2) ∧ w.cell? ⟨G + 2, 0, none⟩ = some (.bool Y1) ∧ w.cell? ⟨G + 2, 1, none⟩ = some (.int .i64 Y2) ∧ w.frozen? ⟨G + 1, 0, none⟩ = false ∧ w.frozen? ⟨G + 1, 1, none⟩ = false ∧ w.frozen? ⟨G + 2, 0, none⟩ = false ∧ w.frozen? ⟨G + 2, 1, none⟩ = false := by
  obtain ⟨h1, h2, h3, h4, h5, h6, h7, h8⟩ := h
  exact ⟨h1 0 _ rfl, h1 1 _ rfl, h1 2 _ rfl, h1 3 _ rfl, h1 4 _ rfl, h1 5 _ rfl, h1 6 _ rfl, h1 7 _ rfl, h1 8 _ rfl, h1 9 _ rfl, h1 10 _ rfl, h2, h3, h4, h5, h6 0, h6 1, h7 0, h7 1⟩
/-- Behind a call: both sides alike. -/
def After (w : World) (Qr Qs : Nat → Prop) (gp gr gq gs base G k : Nat) (d : OpD) (t u : Value) (wx : World) : Prop :=
  ∃ e vp L vq er R X1 X2 s, t = .string s ∧ u = .string s ∧ St w Qr Qs gp gr gq gs base G d e vp L e vq L er R er R X1 X2 X1 X2 wx ∧ L.length ≤ 2 * (k + 1) ∧ ∀ x ∈ R, x.size ≤ 100
theorem EyeR.bd {Q : Nat → Prop} {w : World} {g : Nat} {e : Int} {R : List ByteArray} (h : EyeR Q w g e R) : (∀ b, Q b → b < w.heap.size) ∧ g < w.heap.size := by
  obtain ⟨A, c, h0, h1, h2, h3, h4, h5, hB, h6, h7, h8⟩ := h
  exact ⟨hB, h4⟩
theorem RowR.bd {Q : Nat → Prop} {w : World} {g : Nat} {e : Int} {R : List ByteArray} (h : RowR Q w g e R) : (∀ b, Q b → b < w.heap.size) ∧ g < w.heap.size := by
  obtain ⟨A, c, fs, at_, h0, h1, h2, h3, h4, h5, hB, h6, h7, h8, h9⟩ := h
  exact ⟨hB, h4⟩
theorem headD_size {R : List ByteArray} (h : ∀ x ∈ R, x.size ≤ 100) : (R.headD ByteArray.empty).size ≤ 1000000 := by
  cases R with
  | nil => decide
  | cons a l => have := h a (by simp); show a.size ≤ _; omega
theorem tail_size {R : List ByteArray} (h : ∀ x ∈ R, x.size ≤ 100) : ∀ x ∈ R.tail, x.size ≤ 100 := fun x hx => h x (List.mem_of_mem_tail hx)
theorem RowR.errCell {Q : Nat → Prop} {w : World} {g : Nat} {e : Int} {R : List ByteArray} (h : RowR Q w g e R) : w.cell? ⟨g, 2, none⟩ = some (.int .i64 e) := by
  obtain ⟨A, c, fs, at_, h0, h1, h2, h3⟩ := h
  exact h2
theorem drewN_two (w : World) (n q : Nat) : (w.drewN n).drewN q = w.drewN (n + q) := by
  simp [World.drewN, Nat.add_assoc]
/-- Both readers, asked for a number. -/
theorem num_pair {Qr Qs : Nat → Prop} (g gs : Nat) (e : Int) (R : List ByteArray) (W M F L H : Int) (h : ∀ x ∈ R, x.size ≤ 100) :
    ∃ X1 X2 e1 R1, Hid (∀ x ∈ (R1 : List ByteArray), x.size ≤ 100) ∧ Hid (∀ w, EyeR Qr w g e R → Calls Tryd.prog 27 #[.pointer (some ⟨g, 0, none⟩), colV W M F L H] w (EyePost Qr g (numV X1 X2) e1 R1 w)) ∧
      Hid (∀ w, RowR Qs w gs e R → Calls Tryd.prog 35 #[.pointer (some ⟨gs, 0, none⟩), colV W M F L H] w (RowRPost Qs gs (numV X1 X2) e1 R1 w)) :=
  ⟨_, _, _, _, tail_size h, fun w hw => EyeNum_any g e R W M F L H w hw hw.bd.1 hw.bd.2 (headD_size h), fun w hw => RowTNum_any gs e R W M F L H w hw hw.bd.1 hw.bd.2 (headD_size h)⟩
theorem ang_pair {Qr Qs : Nat → Prop} (g gs : Nat) (e : Int) (R : List ByteArray) (lat : Bool) (h : ∀ x ∈ R, x.size ≤ 100) :
    ∃ X1 X2 e1 R1, Hid (∀ x ∈ (R1 : List ByteArray), x.size ≤ 100) ∧ Hid (∀ w, EyeR Qr w g e R → Calls Tryd.prog 28 #[.pointer (some ⟨g, 0, none⟩), .bool lat] w (EyePost Qr g (numV X1 X2) e1 R1 w)) ∧
      Hid (∀ w, RowR Qs w gs e R → Calls Tryd.prog 37 #[.pointer (some ⟨gs, 0, none⟩), .bool lat] w (RowRPost Qs gs (numV X1 X2) e1 R1 w)) :=
  ⟨_, _, _, _, tail_size (tail_size h), fun w hw => EyeAngle_any g e R lat w hw hw.bd.1 hw.bd.2 (headD_size h), fun w hw => RowTAngle_any gs e R lat w hw hw.bd.1 hw.bd.2 (headD_size h)⟩
theorem text_pair {Qr Qs : Nat → Prop} (g gs : Nat) (e : Int) (R : List ByteArray) (h : ∀ x ∈ R, x.size ≤ 100) :
    ∃ s e1 R1, Hid (∀ x ∈ (R1 : List ByteArray), x.size ≤ 100) ∧ Hid (∀ w, EyeR Qr w g e R → Calls Tryd.prog 29 #[.pointer (some ⟨g, 0, none⟩)] w (EyePost Qr g (.string s) e1 R1 w)) ∧
      Hid (∀ w, RowR Qs w gs e R → Calls Tryd.prog 39 #[.pointer (some ⟨gs, 0, none⟩)] w (RowRPost Qs gs (.string s) e1 R1 w)) :=
  ⟨_, _, _, tail_size h, fun w hw => EyeText_any g e R w hw, fun w hw => RowText1_any gs e R w hw⟩

set_option maxRecDepth 8000 in
set_option maxHeartbeats 8000000 in
theorem decimRows_main (A A2 : Option Addr) (n c c2 : Nat) (fs : List ByteArray) (w : World) (hn : n ≤ 30) (hm : fs.length ≤ 40) (ho : Ops w w.heap.size A n) (hA2 : A2 = none → c2 = 0) (hs : Strs w w.heap.size A2 fs) (hsz : ∀ s ∈ fs, s.size ≤ maxLen) :
    Calls Tryd.prog 7 #[.slice A n c, .slice A2 fs.length c2] w fun e w' => e = .returned (.bool true) ∧ Below w.heap.size w w' := by
  have HK := fun W => Lib.hid (knows23_any W)
  have HO := Lib.hid ho
  have HS := Lib.hid hs
  have HZ := Lib.hid hsz
  have HA2 := Lib.hid hA2
  clear ho hs hsz hA2
  obtain ⟨m, hml⟩ : ∃ m, fs.length = m := ⟨_, rfl⟩
  have HM := Lib.hid hml
  rw [hml] at hm ⊢
  clear hml
  have i1 : (n : Int) ≤ 30 := by omega
  have i2 : (m : Int) ≤ 40 := by omega
  go_enter Tryd.func7, Tryd.ntmps7
  go_wp2_with fail
  refine ((HK _).out).mono ?_
  rintro e w1 ⟨rfl, hb1⟩
  have HB1 := Lib.hid hb1
  clear hb1
  go_wp2_with fail
  go_loop [5] (fun v => ∃ k : Nat, v = .int .i64 (k : Int) ∧ k ≤ m ∧ Hid (∀ (j : Nat) (h : j < fs.length), j < k → fs[j].size ≤ 100)) (fun v => m - (intOf v).toNat)
  case atStart => exact ⟨0, rfl, Nat.zero_le _, fun j _ h => absurd h (Nat.not_lt_zero _)⟩
  case round =>
    obtain ⟨k, rfl, hk, hall⟩ := hrel
    by_cases hlt : k < m
    · have hkl : k < fs.length := by rw [HM.out]; exact hlt
      obtain ⟨b, off, hAb, hb, hc⟩ := HS.out k hkl
      subst hAb
      have hc1 : w1.cell? ⟨b, off + k, none⟩ = some (.string fs[k]) := (HB1.out.cell (p := ⟨b, off + k, none⟩) hb).trans hc
      have hz1 : fs[k].size ≤ maxLen := HZ.out _ (List.getElem_mem _)
      have HE : Hid (fs[k] = fs[k]) := rfl
      have i3 : (k : Int) < (m : Int) := by omega
      have i4 : (0 : Int) ≤ (k : Int) := by omega
      by_cases hbig : fs[k].size ≤ 100
      · have HN : Hid (∀ (j : Nat) (h : j < fs.length), j < k + 1 → fs[j].size ≤ 100) := fun j h hj => by
          rcases Nat.lt_or_ge j k with q | q
          · exact hall.out j h q
          · obtain rfl : j = k := by omega
            exact hbig
        have i5 : (fs[k].size : Int) ≤ 100 := by omega
        generalize fs[k] = f at hc1 hbig i5 hz1
        clear hc HE hall
        go_wp2_with fail
        go_round
        case rel => exact ⟨k + 1, by go_num, by omega, HN⟩
        case measure => simp [intOf]; omega
      · have i5 : (100 : Int) < (fs[k].size : Int) := by omega
        unfold maxLen at hz1
        generalize fs[k] = f at hc1 hbig i5 hz1
        clear hc HE hall
        go_wp2_with fail
        refine ((HK _).out).mono ?_
        rintro e w2 ⟨rfl, hb2⟩
        go_wp2_with fail
        go_ret
        exact ⟨rfl, bthen HB1.out hb2⟩
    · have hall2 : ∀ s ∈ fs, s.size ≤ 100 := fun s hs => by
        obtain ⟨j, hj, rfl⟩ := List.mem_iff_getElem.1 hs
        exact hall.out j hj (by rw [HM.out] at hj; omega)
      have HALL := Lib.hid hall2
      have i3 : (m : Int) ≤ (k : Int) := by omega
      clear hall hall2 hlt hk HZ
      go_wp2_with fail
      refine (Row_any _).mono ?_
      rintro r w2 ⟨rfl, hpen, hb2, hsz2⟩
      have HL := Look_any A2 fs c2 w2 HA2.out ((HS.out.below (bthen HB1.out hb2) (Nat.le_refl _)).more (Nat.le_trans HB1.out.size hb2.size)) (by rw [HM.out]; omega)
      rw [HM.out] at HL
      have HL2 := Lib.hid HL
      have HPEN := Lib.hid hpen
      have HB2 := Lib.hid hb2
      have HZ2 := Lib.hid hsz2
      clear HL hpen hb2 hsz2
      go_wp2_with fail
      refine HL2.out.mono ?_
      rintro r w3 ⟨g, rfl, hey, hg, hz3, hb3⟩
      have hst := mix_start (c2 := c2) HB1.out HPEN.out HB2.out HZ2.out hey hg hz3 hb3 HS.out (by rw [HM.out]; exact hm)
      rw [HM.out] at hst
      have HST := Lib.hid hst
      clear hst hey hg hz3 hb3 HL2 HPEN HB2 HZ2
      go_wp2_with fail
      have HEV : Hid (Even w (fun b => w2.heap.size ≤ b ∧ b < g) (fun b => b < w.heap.size) w1.heap.size g w3.heap.size (w3.heap.size + 1) (w3.heap.size + 2) 0 ((w3.alloc (.cells #[.slice none 0 0, .int .i64 0, .int .i64 0] 66)).alloc (.cells #[.slice A2 m c2, .int .i64 0, .int .i64 0] 66))) :=
        ⟨0, _, [], _, 0, fs, HST.out.2, Nat.zero_le _, HALL.out⟩
      have HLAY := Lib.hid HST.out.1
      clear HST HALL HA2 HS HB1 HM
      generalize (fun b => w2.heap.size ≤ b ∧ b < g) = Qr at *
      generalize ((w3.alloc (.cells #[.slice none 0 0, .int .i64 0, .int .i64 0] 66)).alloc (.cells #[.slice A2 m c2, .int .i64 0, .int .i64 0] 66)) = W0 at *
      generalize w1.heap.size = gp at *
      generalize w3.heap.size + 2 = base at *
      generalize w3.heap.size + 1 = gs at *
      generalize w3.heap.size = gq at *
      clear i3
      go_loopw [10] (fun v wr => ∃ k : Nat, v = .int .i64 (k : Int) ∧ k ≤ n ∧ Hid (Even w Qr (fun b => b < w.heap.size) gp g gq gs base k wr)) (fun v _ => n - (intOf v).toNat)
      case atStart => exact ⟨0, rfl, Nat.zero_le _, HEV⟩
      case round =>
        obtain ⟨k, rfl, hk, hev⟩ := hrel
        by_cases hlt : k < n
        · obtain ⟨b, off, d, hAb, hb, hds, hcs⟩ := HO.out k hlt
          subst hAb
          obtain ⟨e, vp, L, vq, er, R, hmix, hL, hR⟩ := hev.out
          have i3 : (k : Int) < (n : Int) := by omega
          have i4 : (0 : Int) ≤ (k : Int) := by omega
          have hc : ∀ (j : Nat) u, d.vals[j]? = some u → wr.cell? ⟨b, off + k * 11 + j, none⟩ = some u := fun j u hu => by
            rw [show off + k * 11 + j = off + 11 * k + j from by omega]
            exact (hmix.2.2.2.2.2.2.1.cell (p := ⟨b, off + 11 * k + j, none⟩) hb).trans (hcs j u hu)
          have x0 : wr.cell? ⟨b, off + k * 11, none⟩ = some (.int .i64 d.kind) := hc 0 _ rfl
          have x1 := hc 1 _ rfl
          have x2 := hc 2 _ rfl
          have x3 := hc 3 _ rfl
          have x4 := hc 4 _ rfl
          have x5 := hc 5 _ rfl
          have x6 := hc 6 _ rfl
          have x7 := hc 7 _ rfl
          have x8 := hc 8 _ rfl
          have x9 := hc 9 _ rfl
          have x10 := hc 10 _ rfl
          have HMIX := Lib.hid hmix
          have HL := Lib.hid hL
          have HR := Lib.hid hR
          clear hc hcs hmix hL hR hev HEV
          try dsimp only
          repeat (fail_if_success (show Code.wp _ (Code.seq (Code.region 18 _ _) _) _ _ _)
                  first | go_values | go_skip | go_guarded | go_step | go_upon | go_back | (simp only [Int.not_lt, Int.not_le] at *; go_simp) | (go_ite <;> go_prune <;> (try go_simp)))
          have HS0 : Hid (St w Qr (fun b => b < w.heap.size) gp g gq gs base wr.heap.size d e vp L e vq L er R er R false 0 false 0 (((wr.alloc (.cells #[.int .i64 d.kind, .bool d.b, .int .i64 d.n, .int .i64 d.W, .int .i64 d.M, .int .i64 d.F, .int .i64 d.L, .int .i64 d.H, .bool d.lat, .string d.s, .int .i64 d.e] 68)).alloc (numO false 0)).alloc (numO false 0))) := St.start HMIX.out (fun j u hu => by simpa [OpD.vals] using hu)
          clear HMIX x0 x1 x2 x3 x4 x5 x6 x7 x8 x9 x10
          have hds2 : d.s.size ≤ maxLen := hds
          generalize (((wr.alloc (.cells #[.int .i64 d.kind, .bool d.b, .int .i64 d.n, .int .i64 d.W, .int .i64 d.M, .int .i64 d.F, .int .i64 d.L, .int .i64 d.H, .bool d.lat, .string d.s, .int .i64 d.e] 68)).alloc (numO false 0)).alloc (numO false 0)) = W10 at *
          generalize wr.heap.size = G at *
          go_cut [14, 15] (fun t u wx => Hid (After w Qr (fun b => b < w.heap.size) gp g gq gs base G k d t u wx))
          case first =>
            by_cases hk0 : d.kind = 0
            · have hkk : (d.kind == 0) = true := by rw [beq_iff_eq]; exact hk0
              obtain ⟨X1, X2, e1, R1, HR1, CE, CR⟩ := num_pair (Qr := Qr) (Qs := fun b => b < w.heap.size) g gs er R d.W d.M d.F d.L d.H HR.out
              obtain ⟨y0, y1, y2, y3, y4, y5, y6, y7, y8, y9, y10, a0, a1, b0, b1, f0, f1, f2, f3⟩ := HS0.out.2.1.all
              go_wp2_with fail
              refine (PenNum_any gp e vp L d.b d.n d.W d.M d.F d.L d.H _ (HS0.out).1.1 (by have := HL.out; omega)).mono ?_
              rintro r w10 hpost
              obtain ⟨rfl, v1, hst⟩ := (HS0.out).pen HLAY.out hpost
              have HS1 := Lib.hid hst
              clear hst hpost y0 y1 y2 y3 y4 y5 y6 y7 y8 y9 y10 a0 a1 b0 b1 f0 f1 f2 f3 HS0
              obtain ⟨y0, y1, y2, y3, y4, y5, y6, y7, y8, y9, y10, a0, a1, b0, b1, f0, f1, f2, f3⟩ := HS1.out.2.1.all
              go_wp2_with fail
              refine (RowNum_any gq e vq L d.b d.n d.W d.M d.F d.L d.H _ (HS1.out).1.2.1 (by have := HL.out; omega)).mono ?_
              rintro r w11 hpost
              obtain ⟨rfl, v2, hst⟩ := (HS1.out).row HLAY.out hpost
              have HS2 := Lib.hid hst
              clear hst hpost y0 y1 y2 y3 y4 y5 y6 y7 y8 y9 y10 a0 a1 b0 b1 f0 f1 f2 f3 HS1
              obtain ⟨y0, y1, y2, y3, y4, y5, y6, y7, y8, y9, y10, a0, a1, b0, b1, f0, f1, f2, f3⟩ := (HS2.out).2.1.all
              go_wp2_with fail
              refine (CE.out _ (HS2.out).1.2.2.1).mono ?_
              rintro r w12 hpost
              obtain ⟨rfl, hst⟩ := (HS2.out).eye HLAY.out hpost
              have HS3 := Lib.hid hst
              clear hst hpost y0 y1 y2 y3 y4 y5 y6 y7 y8 y9 y10 a0 a1 b0 b1 f0 f1 f2 f3
              clear HS2
              have HS33 := Lib.hid (HS3.out.setA HLAY.out X1 X2)
              obtain ⟨y0, y1, y2, y3, y4, y5, y6, y7, y8, y9, y10, a0, a1, b0, b1, f0, f1, f2, f3⟩ := HS3.out.2.1.all
              go_wp2_with fail
              refine (CR.out _ HS33.out.1.2.2.2.1).mono ?_
              rintro r w13 hpost
              obtain ⟨rfl, hst⟩ := HS33.out.rowR HLAY.out hpost
              have HS4 := Lib.hid hst
              clear hst hpost y0 y1 y2 y3 y4 y5 y6 y7 y8 y9 y10 a0 a1 b0 b1 f0 f1 f2 f3 HS3 HS33
              obtain ⟨y0, y1, y2, y3, y4, y5, y6, y7, y8, y9, y10, a0, a1, b0, b1, f0, f1, f2, f3⟩ := HS4.out.2.1.all
              go_wp2_with fail
              go_meet
              have hl := HL.out
              exact Lib.hid ⟨_, _, _, _, _, _, _, _, ByteArray.empty, rfl, rfl, HS4.out.setB HLAY.out _ _, by simp; omega, HR1.out⟩
            · have hk0' : (d.kind == 0) = false := by rw [beq_eq_false_iff_ne]; exact hk0
              clear hk0
              by_cases hk1 : d.kind = 1
              · have hkk : (d.kind == 1) = true := by rw [beq_iff_eq]; exact hk1
                obtain ⟨X1, X2, e1, R1, HR1, CE, CR⟩ := ang_pair (Qr := Qr) (Qs := fun b => b < w.heap.size) g gs er R d.lat HR.out
                obtain ⟨y0, y1, y2, y3, y4, y5, y6, y7, y8, y9, y10, a0, a1, b0, b1, f0, f1, f2, f3⟩ := HS0.out.2.1.all
                go_wp2_with fail
                refine (PenAngle_any gp e vp L d.b d.n d.lat _ (HS0.out).1.1 (by have := HL.out; omega)).mono ?_
                rintro r w10 hpost
                obtain ⟨rfl, v1, hst⟩ := (HS0.out).pen HLAY.out hpost
                have HS1 := Lib.hid hst
                clear hst hpost y0 y1 y2 y3 y4 y5 y6 y7 y8 y9 y10 a0 a1 b0 b1 f0 f1 f2 f3 HS0
                obtain ⟨y0, y1, y2, y3, y4, y5, y6, y7, y8, y9, y10, a0, a1, b0, b1, f0, f1, f2, f3⟩ := HS1.out.2.1.all
                go_wp2_with fail
                refine (RowAngle_any gq e vq L d.b d.n d.lat _ (HS1.out).1.2.1 (by have := HL.out; omega)).mono ?_
                rintro r w11 hpost
                obtain ⟨rfl, v2, hst⟩ := (HS1.out).row HLAY.out hpost
                have HS2 := Lib.hid hst
                clear hst hpost y0 y1 y2 y3 y4 y5 y6 y7 y8 y9 y10 a0 a1 b0 b1 f0 f1 f2 f3 HS1
                obtain ⟨y0, y1, y2, y3, y4, y5, y6, y7, y8, y9, y10, a0, a1, b0, b1, f0, f1, f2, f3⟩ := (HS2.out).2.1.all
                go_wp2_with fail
                refine (CE.out _ (HS2.out).1.2.2.1).mono ?_
                rintro r w12 hpost
                obtain ⟨rfl, hst⟩ := (HS2.out).eye HLAY.out hpost
                have HS3 := Lib.hid hst
                clear hst hpost y0 y1 y2 y3 y4 y5 y6 y7 y8 y9 y10 a0 a1 b0 b1 f0 f1 f2 f3
                clear HS2
                have HS33 := Lib.hid (HS3.out.setA HLAY.out X1 X2)
                obtain ⟨y0, y1, y2, y3, y4, y5, y6, y7, y8, y9, y10, a0, a1, b0, b1, f0, f1, f2, f3⟩ := HS3.out.2.1.all
                go_wp2_with fail
                refine (CR.out _ HS33.out.1.2.2.2.1).mono ?_
                rintro r w13 hpost
                obtain ⟨rfl, hst⟩ := HS33.out.rowR HLAY.out hpost
                have HS4 := Lib.hid hst
                clear hst hpost y0 y1 y2 y3 y4 y5 y6 y7 y8 y9 y10 a0 a1 b0 b1 f0 f1 f2 f3 HS3 HS33
                obtain ⟨y0, y1, y2, y3, y4, y5, y6, y7, y8, y9, y10, a0, a1, b0, b1, f0, f1, f2, f3⟩ := HS4.out.2.1.all
                go_wp2_with fail
                go_meet
                have hl := HL.out
                exact Lib.hid ⟨_, _, _, _, _, _, _, _, ByteArray.empty, rfl, rfl, HS4.out.setB HLAY.out _ _, by simp; omega, HR1.out⟩
              · have hk1' : (d.kind == 1) = false := by rw [beq_eq_false_iff_ne]; exact hk1
                clear hk1
                by_cases hk2 : d.kind = 2
                · have hkk : (d.kind == 2) = true := by rw [beq_iff_eq]; exact hk2
                  obtain ⟨s1, e1, R1, HR1, CE, CR⟩ := text_pair (Qr := Qr) (Qs := fun b => b < w.heap.size) g gs er R HR.out
                  obtain ⟨y0, y1, y2, y3, y4, y5, y6, y7, y8, y9, y10, a0, a1, b0, b1, f0, f1, f2, f3⟩ := HS0.out.2.1.all
                  go_wp2_with fail
                  refine (PenText_any gp e d.e vp L d.s _ (HS0.out).1.1 (by have := HL.out; omega)).mono ?_
                  rintro r w10 hpost
                  obtain ⟨rfl, v1, hst⟩ := (HS0.out).pen HLAY.out hpost
                  have HS1 := Lib.hid hst
                  clear hst hpost y0 y1 y2 y3 y4 y5 y6 y7 y8 y9 y10 a0 a1 b0 b1 f0 f1 f2 f3 HS0
                  obtain ⟨y0, y1, y2, y3, y4, y5, y6, y7, y8, y9, y10, a0, a1, b0, b1, f0, f1, f2, f3⟩ := HS1.out.2.1.all
                  go_wp2_with fail
                  refine (RowText_any gq e vq L d.s d.e _ (HS1.out).1.2.1 (by have := HL.out; omega)).mono ?_
                  rintro r w11 hpost
                  obtain ⟨rfl, v2, hst⟩ := (HS1.out).row HLAY.out hpost
                  have HS2 := Lib.hid hst
                  clear hst hpost y0 y1 y2 y3 y4 y5 y6 y7 y8 y9 y10 a0 a1 b0 b1 f0 f1 f2 f3 HS1
                  obtain ⟨y0, y1, y2, y3, y4, y5, y6, y7, y8, y9, y10, a0, a1, b0, b1, f0, f1, f2, f3⟩ := (HS2.out).2.1.all
                  go_wp2_with fail
                  refine (CE.out _ (HS2.out).1.2.2.1).mono ?_
                  rintro r w12 hpost
                  obtain ⟨rfl, hst⟩ := (HS2.out).eye HLAY.out hpost
                  have HS3 := Lib.hid hst
                  clear hst hpost y0 y1 y2 y3 y4 y5 y6 y7 y8 y9 y10 a0 a1 b0 b1 f0 f1 f2 f3
                  clear HS2
                  obtain ⟨y0, y1, y2, y3, y4, y5, y6, y7, y8, y9, y10, a0, a1, b0, b1, f0, f1, f2, f3⟩ := (HS3.out).2.1.all
                  go_wp2_with fail
                  refine (CR.out _ (HS3.out).1.2.2.2.1).mono ?_
                  rintro r w13 hpost
                  obtain ⟨rfl, hst⟩ := (HS3.out).rowR HLAY.out hpost
                  have HS4 := Lib.hid hst
                  clear hst hpost y0 y1 y2 y3 y4 y5 y6 y7 y8 y9 y10 a0 a1 b0 b1 f0 f1 f2 f3
                  clear HS3
                  obtain ⟨y0, y1, y2, y3, y4, y5, y6, y7, y8, y9, y10, a0, a1, b0, b1, f0, f1, f2, f3⟩ := HS4.out.2.1.all
                  go_wp2_with fail
                  go_meet
                  have hl := HL.out
                  exact Lib.hid ⟨_, _, _, _, _, _, _, _, s1, rfl, rfl, HS4.out, by simp; omega, HR1.out⟩
                · have hk2' : (d.kind == 2) = false := by rw [beq_eq_false_iff_ne]; exact hk2
                  clear hk2
                  obtain ⟨y0, y1, y2, y3, y4, y5, y6, y7, y8, y9, y10, a0, a1, b0, b1, f0, f1, f2, f3⟩ := (HS0.out).2.1.all
                  go_wp2_with fail
                  refine (EyeFail_any g er d.e R _ (HS0.out).1.2.2.1).mono ?_
                  rintro r w10 hpost
                  obtain ⟨rfl, hst⟩ := (HS0.out).eye HLAY.out hpost
                  have HS1 := Lib.hid hst
                  clear hst hpost y0 y1 y2 y3 y4 y5 y6 y7 y8 y9 y10 a0 a1 b0 b1 f0 f1 f2 f3
                  clear HS0
                  obtain ⟨y0, y1, y2, y3, y4, y5, y6, y7, y8, y9, y10, a0, a1, b0, b1, f0, f1, f2, f3⟩ := (HS1.out).2.1.all
                  go_wp2_with fail
                  refine (RowFirst_any gs er d.e R _ (HS1.out).1.2.2.2.1).mono ?_
                  rintro r w11 hpost
                  obtain ⟨rfl, hst⟩ := (HS1.out).rowR HLAY.out hpost
                  have HS2 := Lib.hid hst
                  clear hst hpost y0 y1 y2 y3 y4 y5 y6 y7 y8 y9 y10 a0 a1 b0 b1 f0 f1 f2 f3
                  clear HS1
                  go_wp2_with fail
                  go_meet
                  have hl := HL.out
                  exact Lib.hid ⟨_, _, _, _, _, _, _, _, ByteArray.empty, rfl, rfl, HS2.out, by omega, HR.out⟩
          case rest =>
            obtain ⟨e', vp', L', vq', er', R', X1, X2, s', rfl, rfl, hst, hLL, hRR⟩ := hcut.out
            have kb : ∀ n, Below wc.heap.size wc (wc.drewN n) := fun n => bdrewN (Below.refl _ _) n
            have HEL := fun n => Lib.hid (quiet_eq (EyeLeft_any g er' R' (wc.drewN n) (hst.1.2.2.1.keep (kb n))))
            have HRL := fun n => Lib.hid ((RowLeft_any gs er' R' (wc.drewN n) (hst.1.2.2.2.1.keep (kb n))).mono fun _ _ ⟨he, q, hq⟩ => (⟨he, n + q, hq.trans (drewN_two _ _ _)⟩ : _ ∧ ∃ m, _ = wc.drewN m))
            have HEE := fun n => Lib.hid (quiet_eq (EyeErr_any g er' R' (wc.drewN n) (hst.1.2.2.1.keep (kb n))))
            have HNN := fun n => Lib.hid (quiet_eq (num23_any er' (wc.drewN n)))
            have hse := hst.1.2.2.2.1.errCell
            have HST := Lib.hid hst
            have HR2 := Lib.hid hRR
            obtain ⟨y0, y1, y2, y3, y4, y5, y6, y7, y8, y9, y10, a0, a1, b0, b1, f0, f1, f2, f3⟩ := hst.2.1.all
            clear hst hRR kb hcut HS0 HL HR
            generalize (R'.length : Int) = rl at HEL HRL
            go_wp2_with fail
            go_quiet (first | (go_at_call 30; exact (HEL _).out) | (go_at_call 41; exact (HRL _).out) | (go_at_call 31; exact (HEE _).out) | (go_at_call 13; exact (HNN _).out))
            have HM2 := Lib.hid (HST.out.1.keep (bdrewN (Below.refl wc.heap.size _) nq))
            clear HST y0 y1 y2 y3 y4 y5 y6 y7 y8 y9 y10 a0 a1 b0 b1 f0 f1 f2 f3
            go_wp2_with fail
            go_roundw
            case rel => exact ⟨k + 1, by go_num, by omega, Lib.hid ⟨_, _, _, _, _, _, HM2.out, hLL, HR2.out⟩⟩
            case measure => simp [intOf]; omega
        · obtain ⟨e, vp, L, vq, er, R, hmix, hL, hR⟩ := hev.out
          have i3 : (n : Int) ≤ (k : Int) := by omega
          obtain ⟨X, q, hq, HX, HD⟩ : ∃ (X : List ByteArray) (q : Nat), q ≤ 60 ∧ Hid (X.length = q) ∧ ∀ W r w', DonePost e L W r w' → ∃ A c, r = .returned (.tuple #[.slice A q c, .int .i64 e]) ∧ Hid (Strs w' w'.heap.size A X) ∧ Hid (Below W.heap.size W w') := by
            refine ⟨if e = 0 then L else [], _, ?_, rfl, ?_⟩
            · split
              · omega
              · simp
            · rintro W r w' ⟨v, rfl, A, c, rfl, -, h1, -, h2⟩
              exact ⟨A, c, rfl, h1, h2⟩
          have HP := Lib.hid ((PenDone_any gp e vp L wr hmix.1 (by omega)).mono (HD _))
          have HQ := fun W hb => Lib.hid ((RowDone_any gq e vq L W (hmix.2.1.keep (w' := W) hb) (by omega)).mono (HD W))
          have HB0 := Lib.hid hmix.2.2.2.2.2.2.1
          clear hmix hR hev HEV HLAY HD hL HO
          go_wp2_with fail
          refine HP.out.mono ?_
          rintro r w4 ⟨A4, c4, rfl, h4, b4⟩
          have HQ2 := HQ w4 b4.out
          clear HQ HP
          go_wp2_with fail
          refine HQ2.out.mono ?_
          rintro r w5 ⟨A5, c5, rfl, h5, b5⟩
          have H4 : Hid (Strs w5 w5.heap.size A4 X) := (h4.out.below b5.out (Nat.le_refl _)).more b5.out.size
          have HB5 := Lib.hid (bthen HB0.out (bthen b4.out b5.out))
          have hqi : (q : Int) ≤ 60 := by omega
          clear HQ2 h4 b4 b5 HB0
          go_wp2_with fail
          refine (num23_any _ _).mono ?_
          rintro e w6 ⟨rfl, rfl⟩
          go_wp2_with fail
          refine (num23_any _ _).mono ?_
          rintro e w7 ⟨rfl, rfl⟩
          go_wp2_with fail
          go_loopw [20] (fun v wr => ∃ j nq : Nat, v = .int .i64 (j : Int) ∧ j ≤ q ∧ wr = w5.drewN nq) (fun v _ => q - (intOf v).toNat)
          case atStart => exact ⟨0, 0, rfl, Nat.zero_le _, rfl⟩
          case round =>
            obtain ⟨j, nq, rfl, hj, rfl⟩ := hrel
            by_cases hlt2 : j < q
            · have hkf : j < X.length := by rw [HX.out]; exact hlt2
              obtain ⟨a1, o1, hA1, hb1, hc1⟩ := H4.out j hkf
              obtain ⟨a2, o2, hA2, hb2, hc2⟩ := h5.out j hkf
              subst hA1 hA2
              have i6 : (0 : Int) ≤ (j : Int) := Int.natCast_nonneg _
              have i7 : (j : Int) < (q : Int) := by omega
              generalize X[j] = f at hc1 hc2
              have ht : (f.toList == f.toList) = true := beq_self_eq_true _
              go_wp2_with fail
              go_quiet (fail)
              go_wp2_with fail
              go_roundw
              case rel => exact ⟨j + 1, _, by go_num, by omega, rfl⟩
              case measure => simp [intOf]; omega
            · go_wp2_with fail
              go_ret
              exact ⟨rfl, bdrewN HB5.out _⟩

set_option maxRecDepth 8000 in
set_option maxHeartbeats 2000000 in
theorem decimRows_n (A A2 : Option Addr) (n c m c2 : Nat) (w : World) (hn : n ≤ maxLen) (hm : m ≤ maxLen) (h : 30 < n) :
    Calls Tryd.prog 7 #[.slice A n c, .slice A2 m c2] w fun e w' => e = .returned (.bool true) ∧ Below w.heap.size w w' := by
  have HK := fun W => Lib.hid (knows23_any W)
  unfold maxLen at hn hm
  have i1 : (30 : Int) < (n : Int) := by omega
  go_enter Tryd.func7, Tryd.ntmps7
  go_wp2_with fail
  refine ((HK _).out).mono ?_
  rintro e w1 ⟨rfl, hb1⟩
  go_wp2_with fail
  go_ret
  exact ⟨rfl, hb1⟩
set_option maxRecDepth 8000 in
set_option maxHeartbeats 2000000 in
theorem decimRows_m (A A2 : Option Addr) (n c m c2 : Nat) (w : World) (hn : n ≤ 30) (hm : m ≤ maxLen) (h : 40 < m) :
    Calls Tryd.prog 7 #[.slice A n c, .slice A2 m c2] w fun e w' => e = .returned (.bool true) ∧ Below w.heap.size w w' := by
  have HK := fun W => Lib.hid (knows23_any W)
  unfold maxLen at hm
  have i1 : (n : Int) ≤ 30 := by omega
  have i2 : (40 : Int) < (m : Int) := by omega
  go_enter Tryd.func7, Tryd.ntmps7
  go_wp2_with fail
  refine ((HK _).out).mono ?_
  rintro e w1 ⟨rfl, hb1⟩
  go_wp2_with fail
  go_ret
  exact ⟨rfl, hb1⟩
theorem decimRows_any (A A2 : Option Addr) (n c c2 : Nat) (fs : List ByteArray) (w : World) (hn : n ≤ maxLen) (hm : fs.length ≤ maxLen) (ho : Ops w w.heap.size A n) (hA2 : A2 = none → c2 = 0) (hs : Strs w w.heap.size A2 fs) (hsz : ∀ s ∈ fs, s.size ≤ maxLen) :
    Calls Tryd.prog 7 #[.slice A n c, .slice A2 fs.length c2] w fun e w' => e = .returned (.bool true) ∧ Below w.heap.size w w' := by
  by_cases h1 : 30 < n
  · exact decimRows_n A A2 n c _ c2 w hn hm h1
  · by_cases h2 : 40 < fs.length
    · exact decimRows_m A A2 n c _ c2 w (by omega) hm h2
    · exact decimRows_main A A2 n c c2 fs w (by omega) (by omega) ho hA2 hs hsz

end Go.Proofs.YtpaejoikfnmdhaaDoor
