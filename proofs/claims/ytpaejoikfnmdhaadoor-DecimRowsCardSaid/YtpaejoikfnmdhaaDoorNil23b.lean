/- Layer 23: Num of an eye that there is not, or that no call made. -/
import Derived.Test.YtpaejoikfnmdhaaDoorNil23
import Derived.Deep.RegionWith
import Derived.Deep.DeepCutAuto
namespace Go.Proofs.YtpaejoikfnmdhaaDoor
set_option linter.unusedVariables false
open Go.RowKit

theorem drew_size (w : World) : w.drew.heap.size = w.heap.size := rfl

/-- What the eye's Num has behind its statement that draws its order. -/
def NumAt (w : World) (b : Bool) (n E : Int) (s5 s6 : Value) (wx : World) : Prop :=
  ∃ G, s5 = .pointer (some ⟨G, 0, none⟩) ∧ s6 = .int .i64 E ∧ wx.cell? ⟨G, 0, none⟩ = some (.bool b) ∧ wx.cell? ⟨G, 1, none⟩ = some (.int .i64 n) ∧ wx.cell? ⟨w.heap.size + 1, 0, none⟩ = some (.bool false) ∧ wx.cell? ⟨w.heap.size + 1, 1, none⟩ = some (.int .i64 0) ∧ Hid (Below w.heap.size w wx) ∧ G < wx.heap.size ∧ w.heap.size + 1 < G ∧ ∀ o, wx.frozen? ⟨w.heap.size + 1, o, none⟩ = false
theorem numAt_late {w W0 w1 : World} {b : Bool} {n E : Int} (hb : Below W0.heap.size W0 w1) (h0 : W0.cell? ⟨w.heap.size + 1, 0, none⟩ = some (.bool false)) (h1 : W0.cell? ⟨w.heap.size + 1, 1, none⟩ = some (.int .i64 0)) (hz : w.heap.size + 1 < W0.heap.size) (hfz : ∀ o, W0.frozen? ⟨w.heap.size + 1, o, none⟩ = false) (hb0 : Below w.heap.size w W0) :
    NumAt w b n E (.pointer (some ⟨w1.heap.size, 0, none⟩)) (.int .i64 E) (w1.alloc (.cells #[.bool b, .int .i64 n] 23)) := by
  have hz1 := hb.size
  exact ⟨w1.heap.size, rfl, rfl, by simp [World.cell?_alloc_at], by simp [World.cell?_alloc_at], (World.cell?_alloc_past _ _ _ (by omega)).trans (((bcell hb).1 _ 0 hz).trans h0), (World.cell?_alloc_past _ _ _ (by omega)).trans (((bcell hb).1 _ 1 hz).trans h1), Lib.hid (bthen (bthen hb0 hb) (below_new _ _)), by simp, by omega, fun o => by rw [frozen?_alloc_cells, (bcell hb).2 _ o hz, hfz]⟩
theorem numAt_early {w W0 w1 : World} {b : Bool} {n E : Int} {G : Nat} (hb : Below W0.heap.size W0 w1) (g0 : W0.cell? ⟨G, 0, none⟩ = some (.bool false)) (g1 : W0.cell? ⟨G, 1, none⟩ = some (.int .i64 0)) (hG : w.heap.size + 1 < G) (hG2 : G < W0.heap.size) (hfz : ∀ o, W0.frozen? ⟨w.heap.size + 1, o, none⟩ = false) (h0 : W0.cell? ⟨w.heap.size + 1, 0, none⟩ = some (.bool false)) (h1 : W0.cell? ⟨w.heap.size + 1, 1, none⟩ = some (.int .i64 0)) (hb0 : Below w.heap.size w W0) :
    NumAt w b n E (.pointer (some ⟨G, 0, none⟩)) (.int .i64 E) ((w1.setCell ⟨G, 0, none⟩ (.bool b)).setCell ⟨G, 1, none⟩ (.int .i64 n)) := by
  have hz1 := hb.size
  obtain ⟨p0, p1⟩ := two_cells w1 G (.bool b) (.int .i64 n) _ _ (((bcell hb).1 G 0 hG2).trans g0) (((bcell hb).1 G 1 hG2).trans g1)
  have hne : ∀ o j, (⟨G, j, none⟩ : Addr) ≠ ⟨w.heap.size + 1, o, none⟩ := fun o j e => by injection e with e; omega
  have k : ∀ o, ((w1.setCell ⟨G, 0, none⟩ (.bool b)).setCell ⟨G, 1, none⟩ (.int .i64 n)).cell? ⟨w.heap.size + 1, o, none⟩ = w1.cell? ⟨w.heap.size + 1, o, none⟩ := fun o => by
    rw [World.cell?_setCell_other _ _ _ _ (hne o 1), World.cell?_setCell_other _ _ _ _ (hne o 0)]
  refine ⟨G, rfl, rfl, p0, p1, (k 0).trans (((bcell hb).1 _ 0 (by omega)).trans h0), (k 1).trans (((bcell hb).1 _ 1 (by omega)).trans h1), Lib.hid ?_, ?_, hG, fun o => ?_⟩
  · exact Below.setCell (Below.setCell (bthen hb0 hb) (p := ⟨G, 0, none⟩) (by show w.heap.size ≤ G; omega) _) (p := ⟨G, 1, none⟩) (by show w.heap.size ≤ G; omega) _
  · simp; omega
  · simp only [World.frozen?_setCell]
    rw [(bcell hb).2 _ o (by omega), hfz]

set_option maxRecDepth 8000 in
set_option maxHeartbeats 4000000 in
theorem EyeNum_dead (p : Value) (W M F L H : Int) (w : World) (h : DeadP p w) : Calls Tryd.prog 27 #[p, colV W M F L H] w fun e w' => e = .returned (numV false 0) ∧ Below w.heap.size w w' := by
  have HT := fun W' hb => Lib.hid (EyeText_dead p W' (h.keep hb))
  have HF := fun W' hb => Lib.hid (fun e => EyeFail_dead p e W' (h.keep hb))
  obtain ⟨E, hE⟩ := takeN_none W M F L H
  have HA := fun W' => Lib.hid (Take23_any ByteArray.empty W M F L H W' (by decide))
  rw [show takeN ByteArray.empty.data.toList W M F L H = (false, 0, E) from hE] at HA
  clear h hE
  have HS : Hid (∀ o, ((w.alloc (.cells #[.int .i64 W, .int .i64 M, .int .i64 F, .int .i64 L, .int .i64 H] 25)).alloc (.cells #[.bool false, .int .i64 0] 23)).cell? ⟨w.heap.size + 1, o, none⟩ = (#[Value.bool false, .int .i64 0] : Array Value)[o]?) := fun o => by rw [World.cell?_alloc_at _ _ _ _ (by simp)]
  have HBl : Hid (Below w.heap.size w ((w.alloc (.cells #[.int .i64 W, .int .i64 M, .int .i64 F, .int .i64 L, .int .i64 H] 25)).alloc (.cells #[.bool false, .int .i64 0] 23))) := bthen (below_new w _) (below_new _ _)
  go_enter Tryd.func27, Tryd.ntmps27
  go_upto_region 1 with fail
  go_cut [5, 6] (fun s5 s6 wx => Hid (NumAt w false 0 E s5 s6 wx))
  case first =>
    go_region_with (first | (go_at_call 29; refine (HT _ (by repeat (first | exact HBl.out | apply bdrew | refine bthen ?_ (below_new _ _)))).out.mono ?_; rintro e w' ⟨rfl, rfl⟩) | (go_at_call 11; refine (HA _).out.mono ?_; rintro e w1 ⟨rfl, hb1⟩; obtain ⟨c1, f1⟩ := bcell hb1; have hz := hb1.size; have hz2 : w.heap.size + 1 + 1 ≤ w1.heap.size := by refine Nat.le_trans ?_ hz; show _ ≤ (World.alloc _ _).heap.size; simp))
    all_goals go_wp2_with fail
    all_goals go_meet
    all_goals first
      | exact Lib.hid (numAt_late hb1 (HS.out 0) (HS.out 1) (by show _ < (World.alloc _ _).heap.size; simp) (fun o => by show (World.alloc _ _).frozen? _ = false; rw [frozen?_alloc_cells, frozen?_alloc_cells]; exact frozen_past _ _ _ (by omega)) (bdrew HBl.out))
      | exact Lib.hid (numAt_early hb1 (World.cell?_alloc_at _ _ _ _ (by simp)) (World.cell?_alloc_at _ _ _ _ (by simp)) (by omega) (by show _ < (World.alloc _ _).heap.size; simp) (fun o => by show (World.alloc _ _).frozen? _ = false; rw [frozen?_alloc_cells, frozen?_alloc_cells, frozen?_alloc_cells]; exact frozen_past _ _ _ (by omega))
          ((World.cell?_alloc_past _ _ _ (by simp)).trans (HS.out 0)) ((World.cell?_alloc_past _ _ _ (by simp)).trans (HS.out 1)) (bdrew (bthen HBl.out (below_new _ _))))
  case rest =>
    obtain ⟨G, rfl, rfl, g0, g1, q0, q1, hb, hG, hG2, hfz⟩ := hcut.out
    have z0 := hfz 0
    have z1 := hfz 1
    clear hfz HA HT HS HBl
    go_wp2_with fail
    refine (((HF _ hb.out).out _)).mono ?_
    rintro e w' ⟨rfl, rfl⟩
    go_wp2_with fail
    obtain ⟨p0, p1⟩ := two_cells _ (w.heap.size + 1) (.bool false) (.int .i64 0) _ _ q0 q1
    refine bodyPost_ret (v := numV false 0) (by simp [results, Tryd.results27, go_sem, p0, p1]) rfl ⟨rfl, ?_⟩
    exact (Below.setCell (Below.setCell hb.out (p := ⟨w.heap.size + 1, 0, none⟩) (by show w.heap.size ≤ w.heap.size + 1; omega) _) (p := ⟨w.heap.size + 1, 1, none⟩) (by show w.heap.size ≤ w.heap.size + 1; omega) _)

end Go.Proofs.YtpaejoikfnmdhaaDoor
