/- Layer 38: items as what their parts say; Same of both kinds. -/
import Derived.Test.YtafkadhijljmkaaGreatChn
import Derived.Test.YtafkadhijljmkaaGreatChu
import Derived.Test.YtafkadhijljmkaaGreatChm
import Derived.Test.YtafkadhijljmkaaGreatChi
namespace Go.Proofs.YtafkadhijljmkaaGreat
set_option linter.unusedVariables false
open Go.RowKit

structure UbxK where
  kd : Int
  P : List Lit
  tw : Int
  X : List (List Lit)
  D : List Lit
  A : List Lit
  ly : Int
  Y : List (List Lit)
structure GsaK where
  au : Bool
  fx : Int
  I : List (List Lit)
  P : List Lit
  H : List Lit
  D : List Lit
structure GsvK where
  T : Int
  N : Int
  S : Int
  L : List (List Lit)
structure NmeK where
  kd : Int
  tk : ByteArray
  G : List Lit
  R : List Lit
  A : GsaK
  V : List Lit
  U : GsvK
structure TlmK where
  sq : Int
  sy : Int
  cm : Int
  id : Int
  V : List (List Lit)
structure ItmK where
  pr : Int
  od : Bool
  U : UbxK
  N : NmeK
  T : TlmK
/-- A slice's value, and what its elements say. -/
def SliceV (t : TypeId) (size : Nat) (w : World) (v : Value) (X : List (List Lit)) : Prop := ∃ A c, v = .slice A X.length c ∧ SlK t size (fun b => b < w.heap.size) w A X ∧ X.length ≤ maxLen
theorem SliceV.on {t : TypeId} {size : Nat} {w w' : World} {v : Value} {X : List (List Lit)} (h : SliceV t size w v X) (hb : Below w.heap.size w w') : SliceV t size w' v X := by
  obtain ⟨A, c, rfl, h, hl⟩ := h
  refine ⟨A, c, rfl, fun k hk => ?_, hl⟩
  obtain ⟨b, off, L, h1, h2, h3, h4⟩ := h.below hb (fun _ q => q) k hk
  exact ⟨b, off, L, h1, Nat.lt_of_lt_of_le h2 hb.size, h3, h4⟩
theorem SliceV.one {t : TypeId} {size : Nat} {w : World} {v : Value} {X : List (List Lit)} (h : SliceV t size w v X) : v.oneCell' = true := by obtain ⟨A, c, rfl, -⟩ := h; rfl
def UbxV (w : World) (L : List Value) (u : UbxK) : Prop := ∃ P ss D A sp, L = [Value.int .i64 u.kd] ++ (P ++ ([Value.int .i64 u.tw] ++ ([ss] ++ (D ++ (A ++ ([Value.int .i64 u.ly] ++ ([sp]))))))) ∧ KV 23 P u.P ∧ SliceV 97 7 w ss u.X ∧ KV 28 D u.D ∧ KV 30 A u.A ∧ SliceV 100 2 w sp u.Y
def GsaV (w : World) (L : List Value) (a : GsaK) : Prop := ∃ is P H D, L = [Value.bool a.au] ++ ([Value.int .i64 a.fx] ++ ([is] ++ (P ++ (H ++ (D))))) ∧ SliceV 2 1 w is a.I ∧ KV 39 P a.P ∧ KV 39 H a.H ∧ KV 39 D a.D
def GsvV (w : World) (L : List Value) (a : GsvK) : Prop := ∃ ls, L = [Value.int .i64 a.T] ++ ([Value.int .i64 a.N] ++ ([Value.int .i64 a.S] ++ ([ls]))) ∧ SliceV 121 8 w ls a.L
def NmeV (w : World) (L : List Value) (n : NmeK) : Prop := ∃ G R A V U, L = [Value.int .i64 n.kd] ++ ([Value.string n.tk] ++ (G ++ (R ++ (A ++ (V ++ (U)))))) ∧ KV 41 G n.G ∧ KV 45 R n.R ∧ GsaV w A n.A ∧ KV 50 V n.V ∧ GsvV w U n.U
def TlmV (w : World) (L : List Value) (p : TlmK) : Prop := ∃ vs, L = [Value.int .i64 p.sq] ++ ([Value.int .i64 p.sy] ++ ([Value.int .i64 p.cm] ++ ([Value.int .i64 p.id] ++ ([vs])))) ∧ SliceV 2 1 w vs p.V
def ItmV (w : World) (L : List Value) (x : ItmK) : Prop := ∃ U N T, L = [Value.int .i64 x.pr] ++ ([Value.bool x.od] ++ (U ++ (N ++ (T)))) ∧ UbxV w U x.U ∧ NmeV w N x.N ∧ TlmV w T x.T
theorem pvt_len {P : List Value} {l : List Lit} (h : KV 23 P l) : P.length = 32 := (h.struct_len Tryz.underlying23).trans (by kernel_rfl)
theorem dop_len {P : List Value} {l : List Lit} (h : KV 28 P l) : P.length = 8 := (h.struct_len Tryz.underlying28).trans (by kernel_rfl)
theorem ack_len {P : List Value} {l : List Lit} (h : KV 30 P l) : P.length = 3 := (h.struct_len Tryz.underlying30).trans (by kernel_rfl)
theorem num_len {P : List Value} {l : List Lit} (h : KV 39 P l) : P.length = 2 := (h.struct_len Tryz.underlying39).trans (by kernel_rfl)
theorem gga_len {P : List Value} {l : List Lit} (h : KV 41 P l) : P.length = 22 := (h.struct_len Tryz.underlying41).trans (by kernel_rfl)
theorem rmc_len {P : List Value} {l : List Lit} (h : KV 45 P l) : P.length = 20 := (h.struct_len Tryz.underlying45).trans (by kernel_rfl)
theorem vtg_len {P : List Value} {l : List Lit} (h : KV 50 P l) : P.length = 8 := (h.struct_len Tryz.underlying50).trans (by kernel_rfl)
theorem GsaV.len {w : World} {L : List Value} {a : GsaK} (h : GsaV w L a) : L.length = 9 := by
  obtain ⟨is, P, H, D, rfl, -, h1, h2, h3⟩ := h
  simp [num_len h1, num_len h2, num_len h3]
theorem GsvV.len {w : World} {L : List Value} {a : GsvK} (h : GsvV w L a) : L.length = 4 := by
  obtain ⟨ls, rfl, -⟩ := h
  rfl
theorem TlmV.len {w : World} {L : List Value} {a : TlmK} (h : TlmV w L a) : L.length = 5 := by
  obtain ⟨ls, rfl, -⟩ := h
  rfl
theorem UbxV.len {w : World} {L : List Value} {u : UbxK} (h : UbxV w L u) : L.length = 48 := by
  obtain ⟨P, ss, D, A, sp, rfl, h1, -, h2, h3, -⟩ := h
  simp [pvt_len h1, dop_len h2, ack_len h3]
theorem NmeV.len {w : World} {L : List Value} {n : NmeK} (h : NmeV w L n) : L.length = 65 := by
  obtain ⟨G, R, A, V, U, rfl, h1, h2, h3, h4, h5⟩ := h
  simp [gga_len h1, rmc_len h2, h3.len, vtg_len h4, h5.len]
theorem ItmV.len {w : World} {L : List Value} {x : ItmK} (h : ItmV w L x) : L.length = 120 := by
  obtain ⟨U, N, T, rfl, h1, h2, h3⟩ := h
  simp [h1.len, h2.len, h3.len]
theorem GsaV.on {w w' : World} {L : List Value} {a : GsaK} (h : GsaV w L a) (hb : Below w.heap.size w w') : GsaV w' L a := by
  obtain ⟨is, P, H, D, e, h1, h2, h3, h4⟩ := h
  exact ⟨is, P, H, D, e, h1.on hb, h2, h3, h4⟩
theorem GsvV.on {w w' : World} {L : List Value} {a : GsvK} (h : GsvV w L a) (hb : Below w.heap.size w w') : GsvV w' L a := by
  obtain ⟨ls, e, h1⟩ := h
  exact ⟨ls, e, h1.on hb⟩
theorem TlmV.on {w w' : World} {L : List Value} {a : TlmK} (h : TlmV w L a) (hb : Below w.heap.size w w') : TlmV w' L a := by
  obtain ⟨ls, e, h1⟩ := h
  exact ⟨ls, e, h1.on hb⟩
theorem UbxV.on {w w' : World} {L : List Value} {a : UbxK} (h : UbxV w L a) (hb : Below w.heap.size w w') : UbxV w' L a := by
  obtain ⟨P, ss, D, A, sp, e, h1, h2, h3, h4, h5⟩ := h
  exact ⟨P, ss, D, A, sp, e, h1, h2.on hb, h3, h4, h5.on hb⟩
theorem NmeV.on {w w' : World} {L : List Value} {a : NmeK} (h : NmeV w L a) (hb : Below w.heap.size w w') : NmeV w' L a := by
  obtain ⟨G, R, A, V, U, e, h1, h2, h3, h4, h5⟩ := h
  exact ⟨G, R, A, V, U, e, h1, h2, h3.on hb, h4, h5.on hb⟩
theorem ItmV.on {w w' : World} {L : List Value} {a : ItmK} (h : ItmV w L a) (hb : Below w.heap.size w w') : ItmV w' L a := by
  obtain ⟨U, N, T, e, h1, h2, h3⟩ := h
  exact ⟨U, N, T, e, h1.on hb, h2.on hb, h3.on hb⟩
def eqUbx (u v : UbxK) : Bool := (u.kd == v.kd) && (decide (u.P = v.P) && (decide (u.D = v.D) && (decide (u.A = v.A) && ((u.tw == v.tw) && (decide (u.X = v.X) && ((u.ly == v.ly) && decide (u.Y = v.Y)))))))
def eqGsa (a b : GsaK) : Bool := (a.au == b.au) && ((a.fx == b.fx) && (decide (a.I = b.I) && (decide (a.P = b.P) && (decide (a.H = b.H) && decide (a.D = b.D)))))
def eqGsv (a b : GsvK) : Bool := (a.T == b.T) && ((a.N == b.N) && ((a.S == b.S) && decide (a.L = b.L)))
def eqNme (a b : NmeK) : Bool := (a.kd == b.kd) && ((a.tk.toList == b.tk.toList) && (decide (a.G = b.G) && (decide (a.R = b.R) && (decide (a.V = b.V) && (eqGsa a.A b.A && eqGsv a.U b.U)))))
def eqTlm (a b : TlmK) : Bool := (a.sq == b.sq) && ((a.sy == b.sy) && ((a.cm == b.cm) && ((a.id == b.id) && decide (a.V = b.V))))
def eqItm (a b : ItmK) : Bool := (a.pr == b.pr) && ((a.od == b.od) && (eqUbx a.U b.U && (eqNme a.N b.N && eqTlm a.T b.T)))
theorem eqItm_self (a : ItmK) : eqItm a a = true := by simp [eqItm, eqUbx, eqNme, eqTlm, eqGsa, eqGsv]
/-- What a function that compares says. -/
def SameC (f : Nat) (v v' : Value) (b : Bool) (w : World) : Prop := Calls Tryz.prog f #[v, v'] w fun e w' => e = .returned (.bool b) ∧ Below w.heap.size w w'
theorem slice_same {f : Nat} {t : TypeId} {size : Nat} (hf : ∀ (A B : Option Addr) (n m c d : Nat) (X Y : List (List Lit)) (w : World), Hid (X.length = n) → Hid (Y.length = m) → Hid (SlK t size (fun b => b < w.heap.size) w A X) → Hid (SlK t size (fun b => b < w.heap.size) w B Y) → n ≤ maxLen → m ≤ maxLen →
      Calls Tryz.prog f #[.slice A n c, .slice B m d] w fun e w' => e = .returned (.bool (decide (X = Y))) ∧ Below w.heap.size w w')
    {w : World} {v v' : Value} {X Y : List (List Lit)} (h : SliceV t size w v X) (h' : SliceV t size w v' Y) : SameC f v v' (decide (X = Y)) w := by
  obtain ⟨A, c, rfl, h1, h2⟩ := h
  obtain ⟨B, d, rfl, h3, h4⟩ := h'
  exact hf A B _ _ c d X Y w rfl rfl h1 h3 h2 h4
theorem sameUbx_any {w : World} {L M : List Value} {u v : UbxK} (h : UbxV w L u) (h' : UbxV w M v) : SameC 16 (.agg L.toArray) (.agg M.toArray) (eqUbx u v) w := by
  obtain ⟨P, ss, D, A, sp, rfl, h1, h2, h3, h4, h5⟩ := h
  obtain ⟨P', ss', D', A', sp', rfl, k1, k2, k3, k4, k5⟩ := h'
  exact sameUbx_go (b0 := u.kd == v.kd) (b1 := decide (u.P = v.P)) (b2 := decide (u.D = v.D)) (b3 := decide (u.A = v.A)) (b4 := u.tw == v.tw) (b5 := decide (u.X = v.X)) (b6 := u.ly == v.ly) (b7 := decide (u.Y = v.Y))
    (pvt_len h1) (pvt_len k1) (dop_len h3) (dop_len k3) (ack_len h4) (ack_len k4) rfl
    (Lib.hid fun W => eql_key (m := 10) Tryz.underlying23 (by kernel_rfl) (by decide) h1 k1 W)
    (Lib.hid fun W => eql_key (m := 10) Tryz.underlying28 (by kernel_rfl) (by decide) h3 k3 W)
    (Lib.hid fun W => eql_key (m := 10) Tryz.underlying30 (by kernel_rfl) (by decide) h4 k4 W) rfl
    (Lib.hid fun W hb => slice_same slEq_Sat (h2.on hb) (k2.on hb)) rfl
    (Lib.hid fun W hb => slice_same slEq_Pair (h5.on hb) (k5.on hb))
theorem r21Same_any {w : World} {L M : List Value} {u v : UbxK} (h : UbxV w L u) (h' : UbxV w M v) : SameC 19 (.agg L.toArray) (.agg M.toArray) (eqUbx u v) w := by
  obtain ⟨P, ss, D, A, sp, rfl, h1, h2, h3, h4, h5⟩ := h
  obtain ⟨P', ss', D', A', sp', rfl, k1, k2, k3, k4, k5⟩ := h'
  have hs : ∀ W, Below w.heap.size w W → SameC 33 (.agg [Value.int .i64 u.tw, ss].toArray) (.agg [Value.int .i64 v.tw, ss'].toArray) ((u.tw == v.tw) && decide (u.X = v.X)) W := fun W hb => by
    obtain ⟨B, c, rfl, q1, q2⟩ := h2.on hb
    obtain ⟨B', c', rfl, q3, q4⟩ := k2.on hb
    exact r17Same_eq u.tw v.tw B B' _ _ c c' u.X v.X W rfl rfl q1 q3 q2 q4
  have hp : ∀ W, Below w.heap.size w W → SameC 34 (.agg [Value.int .i64 u.ly, sp].toArray) (.agg [Value.int .i64 v.ly, sp'].toArray) ((u.ly == v.ly) && decide (u.Y = v.Y)) W := fun W hb => by
    obtain ⟨B, c, rfl, q1, q2⟩ := h5.on hb
    obtain ⟨B', c', rfl, q3, q4⟩ := k5.on hb
    exact r20Same_eq u.ly v.ly B B' _ _ c c' u.Y v.Y W rfl rfl q1 q3 q2 q4
  have e : eqUbx u v = ((u.kd == v.kd) && (decide (u.P = v.P) && (((u.tw == v.tw) && decide (u.X = v.X)) && (decide (u.D = v.D) && (decide (u.A = v.A) && ((u.ly == v.ly) && decide (u.Y = v.Y))))))) := by
    unfold eqUbx
    generalize (u.kd == v.kd) = b0
    generalize decide (u.P = v.P) = b1
    generalize (u.tw == v.tw) = b2
    generalize decide (u.X = v.X) = b3
    generalize decide (u.D = v.D) = b4
    generalize decide (u.A = v.A) = b5
    generalize (u.ly == v.ly) = b6
    generalize decide (u.Y = v.Y) = b7
    cases b0 <;> cases b1 <;> cases b2 <;> cases b3 <;> cases b4 <;> cases b5 <;> cases b6 <;> rfl
  rw [e]
  exact r21Same_go (Z := [Value.int .i64 u.tw, ss]) (Zq := [Value.int .i64 v.tw, ss']) (Y := [Value.int .i64 u.ly, sp]) (Yq := [Value.int .i64 v.ly, sp'])
    (pvt_len h1) (pvt_len k1) rfl rfl (dop_len h3) (dop_len k3) (ack_len h4) (ack_len k4) rfl rfl rfl
    (Lib.hid fun W => eql_key (m := 10) Tryz.underlying23 (by kernel_rfl) (by decide) h1 k1 W)
    (Lib.hid hs)
    (Lib.hid fun W => eql_key (m := 10) Tryz.underlying28 (by kernel_rfl) (by decide) h3 k3 W)
    (Lib.hid fun W => eql_key (m := 10) Tryz.underlying30 (by kernel_rfl) (by decide) h4 k4 W)
    (Lib.hid hp)
theorem sameGsa_any {w : World} {L M : List Value} {a b : GsaK} (h : GsaV w L a) (h' : GsaV w M b) : SameC 30 (.agg L.toArray) (.agg M.toArray) (eqGsa a b) w := by
  obtain ⟨is, P, H, D, rfl, h1, h2, h3, h4⟩ := h
  obtain ⟨is', P', H', D', rfl, k1, k2, k3, k4⟩ := h'
  exact sameGsa_go (num_len h2) (num_len k2) (num_len h3) (num_len k3) (num_len h4) (num_len k4) rfl rfl
    (Lib.hid fun W hb => slice_same slEq_Int (h1.on hb) (k1.on hb))
    (Lib.hid fun W => eql_key (m := 10) Tryz.underlying39 (by kernel_rfl) (by decide) h2 k2 W)
    (Lib.hid fun W => eql_key (m := 10) Tryz.underlying39 (by kernel_rfl) (by decide) h3 k3 W)
    (Lib.hid fun W => eql_key (m := 10) Tryz.underlying39 (by kernel_rfl) (by decide) h4 k4 W)
theorem r27Same_any {w : World} {L M : List Value} {a b : GsaK} (h : GsaV w L a) (h' : GsaV w M b) : SameC 35 (.agg L.toArray) (.agg M.toArray) (eqGsa a b) w := by
  obtain ⟨is, P, H, D, rfl, h1, h2, h3, h4⟩ := h
  obtain ⟨is', P', H', D', rfl, k1, k2, k3, k4⟩ := h'
  exact r27Same_go (num_len h2) (num_len k2) (num_len h3) (num_len k3) (num_len h4) (num_len k4) rfl rfl
    (Lib.hid fun W hb => slice_same r03Same_eq (h1.on hb) (k1.on hb))
    (Lib.hid fun W => eql_key (m := 10) Tryz.underlying39 (by kernel_rfl) (by decide) h2 k2 W)
    (Lib.hid fun W => eql_key (m := 10) Tryz.underlying39 (by kernel_rfl) (by decide) h3 k3 W)
    (Lib.hid fun W => eql_key (m := 10) Tryz.underlying39 (by kernel_rfl) (by decide) h4 k4 W)
theorem sameGsv_any {w : World} {L M : List Value} {a b : GsvK} (h : GsvV w L a) (h' : GsvV w M b) : SameC 31 (.agg L.toArray) (.agg M.toArray) (eqGsv a b) w := by
  obtain ⟨ls, rfl, h1⟩ := h
  obtain ⟨ls', rfl, k1⟩ := h'
  exact sameGsv_go rfl rfl rfl (Lib.hid fun W hb => slice_same slEq_View (h1.on hb) (k1.on hb))
theorem r29Same_any {w : World} {L M : List Value} {a b : GsvK} (h : GsvV w L a) (h' : GsvV w M b) : SameC 36 (.agg L.toArray) (.agg M.toArray) (eqGsv a b) w := by
  obtain ⟨ls, rfl, h1⟩ := h
  obtain ⟨ls', rfl, k1⟩ := h'
  exact r29Same_go rfl rfl rfl (Lib.hid fun W hb => slice_same r29Views_eq (h1.on hb) (k1.on hb))
theorem sameTlm_any {w : World} {L M : List Value} {a b : TlmK} (h : TlmV w L a) (h' : TlmV w M b) : SameC 18 (.agg L.toArray) (.agg M.toArray) (eqTlm a b) w := by
  obtain ⟨ls, rfl, h1⟩ := h
  obtain ⟨ls', rfl, k1⟩ := h'
  exact sameTlm_go rfl rfl rfl rfl (Lib.hid fun W hb => slice_same slEq_Int (h1.on hb) (k1.on hb))
theorem r32Same_any {w : World} {L M : List Value} {a b : TlmK} (h : TlmV w L a) (h' : TlmV w M b) : SameC 21 (.agg L.toArray) (.agg M.toArray) (eqTlm a b) w := by
  obtain ⟨ls, rfl, h1⟩ := h
  obtain ⟨ls', rfl, k1⟩ := h'
  exact r32Same_go rfl rfl rfl rfl (Lib.hid fun W hb => slice_same r03Same_eq (h1.on hb) (k1.on hb))
theorem sameNmea_any {w : World} {L M : List Value} {a b : NmeK} (h : NmeV w L a) (h' : NmeV w M b) : SameC 17 (.agg L.toArray) (.agg M.toArray) (eqNme a b) w := by
  obtain ⟨G, R, A, V, U, rfl, h1, h2, h3, h4, h5⟩ := h
  obtain ⟨G', R', A', V', U', rfl, k1, k2, k3, k4, k5⟩ := h'
  exact sameNmea_go (gga_len h1) (gga_len k1) (rmc_len h2) (rmc_len k2) h3.len k3.len (vtg_len h4) (vtg_len k4) h5.len k5.len rfl rfl
    (Lib.hid fun W => eql_key (m := 10) Tryz.underlying41 (by kernel_rfl) (by decide) h1 k1 W)
    (Lib.hid fun W => eql_key (m := 10) Tryz.underlying45 (by kernel_rfl) (by decide) h2 k2 W)
    (Lib.hid fun W => eql_key (m := 10) Tryz.underlying50 (by kernel_rfl) (by decide) h4 k4 W)
    (Lib.hid fun W hb => sameGsa_any (h3.on hb) (k3.on hb)) (Lib.hid fun W hb => sameGsv_any (h5.on hb) (k5.on hb))
theorem r30Same_eq {w : World} {L M : List Value} {a b : NmeK} (h : NmeV w L a) (h' : NmeV w M b) : SameC 20 (.agg L.toArray) (.agg M.toArray) (eqNme a b) w := by
  obtain ⟨G, R, A, V, U, rfl, h1, h2, h3, h4, h5⟩ := h
  obtain ⟨G', R', A', V', U', rfl, k1, k2, k3, k4, k5⟩ := h'
  have e : eqNme a b = ((a.kd == b.kd) && ((a.tk.toList == b.tk.toList) && (decide (a.G = b.G) && (decide (a.R = b.R) && (eqGsa a.A b.A && (decide (a.V = b.V) && eqGsv a.U b.U)))))) := by
    unfold eqNme
    generalize eqGsa a.A b.A = x
    generalize eqGsv a.U b.U = y
    generalize decide (a.V = b.V) = z
    cases x <;> cases z <;> cases y <;> rfl
  rw [e]
  exact r30Same_chn (gga_len h1) (gga_len k1) (rmc_len h2) (rmc_len k2) h3.len k3.len (vtg_len h4) (vtg_len k4) h5.len k5.len rfl rfl
    (Lib.hid fun W => eql_key (m := 10) Tryz.underlying41 (by kernel_rfl) (by decide) h1 k1 W)
    (Lib.hid fun W => eql_key (m := 10) Tryz.underlying45 (by kernel_rfl) (by decide) h2 k2 W)
    (Lib.hid fun W hb => r27Same_any (h3.on hb) (k3.on hb))
    (Lib.hid fun W => eql_key (m := 10) Tryz.underlying50 (by kernel_rfl) (by decide) h4 k4 W)
    (Lib.hid fun W hb => r29Same_any (h5.on hb) (k5.on hb))
theorem prbSame_any {w : World} {L M : List Value} {a b : ItmK} (h : ItmV w L a) (h' : ItmV w M b) : SameC 7 (.agg L.toArray) (.agg M.toArray) (eqItm a b) w := by
  obtain ⟨U, N, T, rfl, h1, h2, h3⟩ := h
  obtain ⟨U', N', T', rfl, k1, k2, k3⟩ := h'
  exact prbSame_go h1.len k1.len h2.len k2.len h3.len k3.len rfl rfl (Lib.hid fun W hb => sameUbx_any (h1.on hb) (k1.on hb)) (Lib.hid fun W hb => sameNmea_any (h2.on hb) (k2.on hb)) (Lib.hid fun W hb => sameTlm_any (h3.on hb) (k3.on hb))
theorem r38Same_any {w : World} {L M : List Value} {a b : ItmK} (h : ItmV w L a) (h' : ItmV w M b) : SameC 8 (.agg L.toArray) (.agg M.toArray) (eqItm a b) w := by
  obtain ⟨U, N, T, rfl, h1, h2, h3⟩ := h
  obtain ⟨U', N', T', rfl, k1, k2, k3⟩ := h'
  exact r38Same_go h1.len k1.len h2.len k2.len h3.len k3.len rfl rfl (Lib.hid fun W hb => r21Same_any (h1.on hb) (k1.on hb)) (Lib.hid fun W hb => r30Same_eq (h2.on hb) (k2.on hb)) (Lib.hid fun W hb => r32Same_any (h3.on hb) (k3.on hb))
end Go.Proofs.YtafkadhijljmkaaGreat
