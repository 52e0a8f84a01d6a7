/- Layer 30: a message's value, its part. Printed by gennm1.py. -/
import Derived.Test.YtdkhlkfleggbaaaGreatR00
namespace Go.Proofs.YtdkhlkfleggbaaaGreat
open Lib (hid)
open Tryz
set_option linter.unusedVariables false
open Go.RowKit
def nmL (k:Int) (t:ByteArray) (G R S V U:List Value):List Value:=.int .i64 k::.string t::(G ++(R ++(S ++(V++U))))
structure ab9 (G R S V U:List Value):Prop where
 g:G.length=22
 r:R.length=20
 s:S.length=9
 v:V.length=8
 u:U.length=4
theorem aaz {k:Int} {t:ByteArray} {G R S V U:List Value} (h:ab9 G R S V U):(nmL k t G R S V U).length=65:=by
 obtain⟨h1,h2,h3,h4,h5⟩:=h;simp[nmL];omega
theorem a6z:(Tryz.prog.info? 58).map (·.size)=some 65:=by kernel_rfl
theorem ajf:(Tryz.prog.info? 44).map (·.size)=some 22:=by kernel_rfl
theorem axv (G:List Value) (h:G.length=22) (w:World):(Instr.build 239 #[(0,.agg G.toArray)]).run Tryz.prog w=.ok (.agg G.toArray) w:=by
 match G,h with
 | [g0,g1,g2,g3,g4,g5,g6,g7,g8,g9,g10,g11,g12,g13,g14,g15,g16,g17,g18,g19,g20,g21],_=>
  show _=_;kernel_rfl
theorem aji:(Tryz.prog.info? 48).map (·.size)=some 20:=by kernel_rfl
theorem axy (G:List Value) (h:G.length=20) (w:World):(Instr.build 243 #[(0,.agg G.toArray)]).run Tryz.prog w=.ok (.agg G.toArray) w:=by
 match G,h with
 | [g0,g1,g2,g3,g4,g5,g6,g7,g8,g9,g10,g11,g12,g13,g14,g15,g16,g17,g18,g19],_=>
  show _=_;kernel_rfl
theorem ajg:(Tryz.prog.info? 51).map (·.size)=some 9:=by kernel_rfl
theorem axw (G:List Value) (h:G.length=9) (w:World):(Instr.build 247 #[(0,.agg G.toArray)]).run Tryz.prog w=.ok (.agg G.toArray) w:=by
 match G,h with
 | [g0,g1,g2,g3,g4,g5,g6,g7,g8],_=>
  show _=_;kernel_rfl
theorem ajj:(Tryz.prog.info? 53).map (·.size)=some 8:=by kernel_rfl
theorem axz (G:List Value) (h:G.length=8) (w:World):(Instr.build 251 #[(0,.agg G.toArray)]).run Tryz.prog w=.ok (.agg G.toArray) w:=by
 match G,h with
 | [g0,g1,g2,g3,g4,g5,g6,g7],_=>
  show _=_;kernel_rfl
theorem ajh:(Tryz.prog.info? 56).map (·.size)=some 4:=by kernel_rfl
theorem axx (G:List Value) (h:G.length=4) (w:World):(Instr.build 255 #[(0,.agg G.toArray)]).run Tryz.prog w=.ok (.agg G.toArray) w:=by
 match G,h with
 | [g0,g1,g2,g3],_=>
  show _=_;kernel_rfl
def xg (L:List Value):Prop:=∀v∈L,v.oneCell'=true
theorem xg.of {L:List Value} (h:L.all (·.oneCell')=true):xg L:=List.all_eq_true.1 h
theorem xg.arr {L:List Value} (h:xg L):L.toArray.all (·.oneCell')=true:=all_oneCell_toArray h
def zw:List Value:=[.bool false,.int .i64 0,.int .i64 0,.int .i64 0,.int .i64 0,.bool false,.int .i64 0,.bool false,.int .i64 0,.int .i64 0,.bool false,.int .i64 0,.bool false,.int .i64 0,.bool false,.int .i64 0,.bool false,.int .i64 0,.bool false,.int .i64 0,.bool false,.int .i64 0]
def zx:List Value:=[.bool false,.int .i64 0,.int .i64 0,.int .i64 0,.int .i64 0,.bool false,.bool false,.int .i64 0,.bool false,.int .i64 0,.bool false,.int .i64 0,.bool false,.int .i64 0,.bool false,.int .i64 0,.bool false,.int .i64 0,.int .i64 0,.int .i64 0]
def xp:List Value:=[.bool false,.int .i64 0,.slice none 0 0,.bool false,.int .i64 0,.bool false,.int .i64 0,.bool false,.int .i64 0]
def xe:List Value:=[.bool false,.int .i64 0,.bool false,.int .i64 0,.bool false,.int .i64 0,.bool false,.int .i64 0]
def xt:List Value:=[.int .i64 0,.int .i64 0,.int .i64 0,.slice none 0 0]
theorem qq:ab9 zw zx xp xe xt:=⟨rfl,rfl,rfl,rfl,rfl⟩
def zNm:Array Value:=(nmL 0 ByteArray.empty zw zx xp xe xt).toArray
theorem aco (w:World):(zeroValue 58).run Tryz.prog w=.ok (.agg zNm) w:=by kernel_rfl
theorem aer (t:ByteArray) (w:World):(Instr.build 58 #[(1,.string t)]).run Tryz.prog w=.ok (.agg (nmL 0 t zw zx xp xe xt).toArray) w:=by kernel_rfl
theorem asl (w:World):(Instr.build 58 #[]).run Tryz.prog w=.ok (.agg zNm) w:=by kernel_rfl
theorem a6f (w:World):(zeroValue 239).run Tryz.prog w=.ok (.agg zw.toArray) w:=by kernel_rfl
theorem a5d:(Tryz.prog.info? 239).map (·.size)=some 22:=by kernel_rfl
theorem a6i (w:World):(zeroValue 243).run Tryz.prog w=.ok (.agg zx.toArray) w:=by kernel_rfl
theorem a5g:(Tryz.prog.info? 243).map (·.size)=some 20:=by kernel_rfl
theorem a6g (w:World):(zeroValue 247).run Tryz.prog w=.ok (.agg xp.toArray) w:=by kernel_rfl
theorem a5e:(Tryz.prog.info? 247).map (·.size)=some 9:=by kernel_rfl
theorem a6j (w:World):(zeroValue 251).run Tryz.prog w=.ok (.agg xe.toArray) w:=by kernel_rfl
theorem a5h:(Tryz.prog.info? 251).map (·.size)=some 8:=by kernel_rfl
theorem a6h (w:World):(zeroValue 255).run Tryz.prog w=.ok (.agg xt.toArray) w:=by kernel_rfl
theorem a5f:(Tryz.prog.info? 255).map (·.size)=some 4:=by kernel_rfl
theorem aoc (G:List Value) (w:World):(Instr.typeAssert (.iface 239 (.agg G.toArray)) 187 239 true).run Tryz.prog w=.ok (.tuple #[.agg G.toArray,.bool true]) w:=by kernel_rfl
theorem aol (G:List Value) (w:World):(Instr.typeAssert (.iface 243 (.agg G.toArray)) 187 239 true).run Tryz.prog w=.ok (.tuple #[.agg zw.toArray,.bool false]) w:=by kernel_rfl
theorem aom (G:List Value) (w:World):(Instr.typeAssert (.iface 243 (.agg G.toArray)) 187 243 true).run Tryz.prog w=.ok (.tuple #[.agg G.toArray,.bool true]) w:=by kernel_rfl
theorem aod (G:List Value) (w:World):(Instr.typeAssert (.iface 247 (.agg G.toArray)) 187 239 true).run Tryz.prog w=.ok (.tuple #[.agg zw.toArray,.bool false]) w:=by kernel_rfl
theorem aof (G:List Value) (w:World):(Instr.typeAssert (.iface 247 (.agg G.toArray)) 187 243 true).run Tryz.prog w=.ok (.tuple #[.agg zx.toArray,.bool false]) w:=by kernel_rfl
theorem aoe (G:List Value) (w:World):(Instr.typeAssert (.iface 247 (.agg G.toArray)) 187 247 true).run Tryz.prog w=.ok (.tuple #[.agg G.toArray,.bool true]) w:=by kernel_rfl
theorem aon (G:List Value) (w:World):(Instr.typeAssert (.iface 251 (.agg G.toArray)) 187 239 true).run Tryz.prog w=.ok (.tuple #[.agg zw.toArray,.bool false]) w:=by kernel_rfl
theorem aop (G:List Value) (w:World):(Instr.typeAssert (.iface 251 (.agg G.toArray)) 187 243 true).run Tryz.prog w=.ok (.tuple #[.agg zx.toArray,.bool false]) w:=by kernel_rfl
theorem aoo (G:List Value) (w:World):(Instr.typeAssert (.iface 251 (.agg G.toArray)) 187 247 true).run Tryz.prog w=.ok (.tuple #[.agg xp.toArray,.bool false]) w:=by kernel_rfl
theorem aoq (G:List Value) (w:World):(Instr.typeAssert (.iface 251 (.agg G.toArray)) 187 251 true).run Tryz.prog w=.ok (.tuple #[.agg G.toArray,.bool true]) w:=by kernel_rfl
theorem aog (G:List Value) (w:World):(Instr.typeAssert (.iface 255 (.agg G.toArray)) 187 239 true).run Tryz.prog w=.ok (.tuple #[.agg zw.toArray,.bool false]) w:=by kernel_rfl
theorem aoj (G:List Value) (w:World):(Instr.typeAssert (.iface 255 (.agg G.toArray)) 187 243 true).run Tryz.prog w=.ok (.tuple #[.agg zx.toArray,.bool false]) w:=by kernel_rfl
theorem aoh (G:List Value) (w:World):(Instr.typeAssert (.iface 255 (.agg G.toArray)) 187 247 true).run Tryz.prog w=.ok (.tuple #[.agg xp.toArray,.bool false]) w:=by kernel_rfl
theorem aok (G:List Value) (w:World):(Instr.typeAssert (.iface 255 (.agg G.toArray)) 187 251 true).run Tryz.prog w=.ok (.tuple #[.agg xe.toArray,.bool false]) w:=by kernel_rfl
theorem aoi (G:List Value) (w:World):(Instr.typeAssert (.iface 255 (.agg G.toArray)) 187 255 true).run Tryz.prog w=.ok (.tuple #[.agg G.toArray,.bool true]) w:=by kernel_rfl
theorem aor (w:World):(Instr.typeAssert .nilIface 187 239 true).run Tryz.prog w=.ok (.tuple #[.agg zw.toArray,.bool false]) w:=by kernel_rfl
theorem aou (w:World):(Instr.typeAssert .nilIface 187 243 true).run Tryz.prog w=.ok (.tuple #[.agg zx.toArray,.bool false]) w:=by kernel_rfl
theorem aos (w:World):(Instr.typeAssert .nilIface 187 247 true).run Tryz.prog w=.ok (.tuple #[.agg xp.toArray,.bool false]) w:=by kernel_rfl
theorem aov (w:World):(Instr.typeAssert .nilIface 187 251 true).run Tryz.prog w=.ok (.tuple #[.agg xe.toArray,.bool false]) w:=by kernel_rfl
theorem aot (w:World):(Instr.typeAssert .nilIface 187 255 true).run Tryz.prog w=.ok (.tuple #[.agg xt.toArray,.bool false]) w:=by kernel_rfl
theorem vm {k:Int} {t:ByteArray} {G R S V U:List Value} (h1:xg G) (h2:xg R) (h3:xg S) (h4:xg V) (h5:xg U):xg (nmL k t G R S V U):=fun v hv=>by
 simp only[nmL,List.mem_cons,List.mem_append]at hv;rcases hv with rfl|rfl|hv|hv|hv|hv|hv
 ·rfl
 ·rfl
 ·exact h1 v hv
 ·exact h2 v hv
 ·exact h3 v hv
 ·exact h4 v hv
 ·exact h5 v hv
theorem xf:xg zw∧xg zx∧xg xp∧xg xe∧xg xt:=⟨xg.of rfl,xg.of rfl,xg.of rfl,xg.of rfl,xg.of rfl⟩
theorem Blk.putK {w W:World} {b:Nat} {k k':Int} {t:ByteArray} {G R S V U:List Value} (h:Blk w b (nmL k t G R S V U)) (hs:qp w W b 0 [.int .i64 k']):Blk W b (nmL k' t G R S V U):=
 Blk.put (A:=[]) (M:=[.int .i64 k]) (D:=.string t::(G ++(R ++(S ++(V++U))))) h hs rfl rfl
theorem xx {k:Int} {t:ByteArray} {G R S V U:List Value} (h:ab9 G R S V U):(Tryz.prog.info? 58).map (·.size)=some (nmL k t G R S V U).toArray.size:=by rw[a6z,List.size_toArray,aaz h]
theorem Blk.thereA {w:World} {b:Nat} {L M:List Value} (h:Blk w b L) (hl:M.length=L.length):w.there b 0 M.toArray.size:=h.there 0 _ (by simp[hl])
theorem xw {k k':Int} {t t':ByteArray} {G R S V U G' R' S' V' U':List Value} (h:ab9 G R S V U) (h':ab9 G' R' S' V' U'):(nmL k t G R S V U).length=(nmL k' t' G' R' S' V' U').length:=(aaz h).trans (aaz h').symm
theorem Blk.nm65 {w:World} {b:Nat} {k:Int} {t:ByteArray} {G R S V U:List Value} (h:Blk w b (nmL k t G R S V U)) (hl:ab9 G R S V U):w.there b 0 65:=h.there 0 65 (by rw[aaz hl];exact Nat.le_refl _)
theorem Blk.putG {w W:World} {b:Nat} {k:Int} {t:ByteArray} {G R S V U G':List Value} (h:Blk w b (nmL k t G R S V U)) (hs:qp w W b 2 G') (hl:ab9 G R S V U) (he:G'.length=22):Blk W b (nmL k t G' R S V U):=by
 have:=Blk.put (A:=[.int .i64 k,.string t]) (M:=G) (D:=R++S++V++U) (by simpa [nmL]using h) hs (rfl) (by rw[he];exact hl.g.symm)
 simpa [nmL]using this
theorem ab9.withG {G R S V U G':List Value} (h:ab9 G R S V U) (hl:G'.length=22):ab9 G' R S V U:=⟨hl,h.r,h.s,h.v,h.u⟩
theorem Blk.putR {w W:World} {b:Nat} {k:Int} {t:ByteArray} {G R S V U R':List Value} (h:Blk w b (nmL k t G R S V U)) (hs:qp w W b 24 R') (hl:ab9 G R S V U) (he:R'.length=20):Blk W b (nmL k t G R' S V U):=by
 have:=Blk.put (A:=[.int .i64 k,.string t]++G) (M:=R) (D:=S++V++U) (by simpa [nmL]using h) hs (by simp[hl.g]) (by rw[he];exact hl.r.symm)
 simpa [nmL]using this
theorem ab9.withR {G R S V U R':List Value} (h:ab9 G R S V U) (hl:R'.length=20):ab9 G R' S V U:=⟨h.g,hl,h.s,h.v,h.u⟩
theorem Blk.putS {w W:World} {b:Nat} {k:Int} {t:ByteArray} {G R S V U S':List Value} (h:Blk w b (nmL k t G R S V U)) (hs:qp w W b 44 S') (hl:ab9 G R S V U) (he:S'.length=9):Blk W b (nmL k t G R S' V U):=by
 have:=Blk.put (A:=[.int .i64 k,.string t]++G++R) (M:=S) (D:=V++U) (by simpa [nmL]using h) hs (by simp[hl.g,hl.r]) (by rw[he];exact hl.s.symm)
 simpa [nmL]using this
theorem ab9.withS {G R S V U S':List Value} (h:ab9 G R S V U) (hl:S'.length=9):ab9 G R S' V U:=⟨h.g,h.r,hl,h.v,h.u⟩
theorem Blk.putV {w W:World} {b:Nat} {k:Int} {t:ByteArray} {G R S V U V':List Value} (h:Blk w b (nmL k t G R S V U)) (hs:qp w W b 53 V') (hl:ab9 G R S V U) (he:V'.length=8):Blk W b (nmL k t G R S V' U):=by
 have:=Blk.put (A:=[.int .i64 k,.string t]++G++R++S) (M:=V) (D:=U) (by simpa [nmL]using h) hs (by simp[hl.g,hl.r,hl.s]) (by rw[he];exact hl.v.symm)
 simpa [nmL]using this
theorem ab9.withV {G R S V U V':List Value} (h:ab9 G R S V U) (hl:V'.length=8):ab9 G R S V' U:=⟨h.g,h.r,h.s,hl,h.u⟩
theorem Blk.putU {w W:World} {b:Nat} {k:Int} {t:ByteArray} {G R S V U U':List Value} (h:Blk w b (nmL k t G R S V U)) (hs:qp w W b 61 U') (hl:ab9 G R S V U) (he:U'.length=4):Blk W b (nmL k t G R S V U'):=by
 have:=Blk.put (A:=[.int .i64 k,.string t]++G++R++S++V) (M:=U) (D:=[]) (by simpa [nmL]using h) hs (by simp[hl.g,hl.r,hl.s,hl.v]) (by rw[he];exact hl.u.symm)
 simpa [nmL]using this
theorem ab9.withU {G R S V U U':List Value} (h:ab9 G R S V U) (hl:U'.length=4):ab9 G R S V U':=⟨h.g,h.r,h.s,h.v,hl⟩
end Go.Proofs.YtdkhlkfleggbaaaGreat
