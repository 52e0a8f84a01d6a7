/- Parts. -/
import Derived.Test.YtdkhlkfleggbaaaGreatU00
namespace Go.Proofs.YtdkhlkfleggbaaaGreat
open Lib (hid)
open Tryz
set_option linter.unusedVariables false
open Go.RowKit
def nmL (k:Int) (t:ByteArray) (G R S V U:List Value):List Value:=.int .i64 k::.string t::(G ++(R ++(S ++(V++U))))
structure ab8 (G R S V U:List Value):Prop where
 g:G.length=22
 r:R.length=20
 s:S.length=9
 v:V.length=8
 u:U.length=4
theorem abb {k:Int} {t:ByteArray} {G R S V U:List Value} (h:ab8 G R S V U):(nmL k t G R S V U).length=65:=by
 obtain⟨h1,h2,h3,h4,h5⟩:=h;simp[nmL];omega
theorem a75:(prog.info? 58).map (·.size)=some 65:=by kernel_rfl
structure bmh (W:World) (b:Nat) (k:Int) (t:ByteArray) (G R S V U:List Value):Prop where
 c0:W.cell? ⟨b,0,none⟩=some (.int .i64 k)
 c1:W.cell? ⟨b,1,none⟩=some (.string t)
 g:W.rangeAt b 2 G
 r:W.rangeAt b 24 R
 s:W.rangeAt b 44 S
 v:W.rangeAt b 53 V
 u:W.rangeAt b 61 U
theorem beu {W:World} {b:Nat} {k:Int} {t:ByteArray} {G R S V U:List Value} (h:ab8 G R S V U):W.rangeAt b 0 (nmL k t G R S V U)↔bmh W b k t G R S V U:=by
 unfold nmL;rw[World.rangeAt_cons,World.rangeAt_cons,World.rangeAt_append,World.rangeAt_append,World.rangeAt_append,World.rangeAt_append,h.g,h.r,h.s,h.v];exact⟨fun⟨a,b,c,d,e,f,g⟩=>⟨a,b,c,d,e,f,g⟩,fun⟨a,b,c,d,e,f,g⟩=>⟨a,b,c,d,e,f,g⟩⟩
theorem ad6:(prog.info? 44).map (·.size)=some 22:=by kernel_rfl
theorem aym (G:List Value) (h:G.length=22) (w:World):(Instr.build 239 #[(0,.agg G.toArray)]).run prog w=.ok (.agg G.toArray) w:=by
 match G,h with
 | [g0,g1,g2,g3,g4,g5,g6,g7,g8,g9,g10,g11,g12,g13,g14,g15,g16,g17,g18,g19,g20,g21],_=>
  show _=_;kernel_rfl
theorem ad9:(prog.info? 48).map (·.size)=some 20:=by kernel_rfl
theorem ayp (G:List Value) (h:G.length=20) (w:World):(Instr.build 243 #[(0,.agg G.toArray)]).run prog w=.ok (.agg G.toArray) w:=by
 match G,h with
 | [g0,g1,g2,g3,g4,g5,g6,g7,g8,g9,g10,g11,g12,g13,g14,g15,g16,g17,g18,g19],_=>
  show _=_;kernel_rfl
theorem ad7:(prog.info? 51).map (·.size)=some 9:=by kernel_rfl
theorem ayn (G:List Value) (h:G.length=9) (w:World):(Instr.build 247 #[(0,.agg G.toArray)]).run prog w=.ok (.agg G.toArray) w:=by
 match G,h with
 | [g0,g1,g2,g3,g4,g5,g6,g7,g8],_=>
  show _=_;kernel_rfl
theorem aea:(prog.info? 53).map (·.size)=some 8:=by kernel_rfl
theorem ayq (G:List Value) (h:G.length=8) (w:World):(Instr.build 251 #[(0,.agg G.toArray)]).run prog w=.ok (.agg G.toArray) w:=by
 match G,h with
 | [g0,g1,g2,g3,g4,g5,g6,g7],_=>
  show _=_;kernel_rfl
theorem ad8:(prog.info? 56).map (·.size)=some 4:=by kernel_rfl
theorem ayo (G:List Value) (h:G.length=4) (w:World):(Instr.build 255 #[(0,.agg G.toArray)]).run prog w=.ok (.agg G.toArray) w:=by
 match G,h with
 | [g0,g1,g2,g3],_=>
  show _=_;kernel_rfl
def xj (L:List Value):Prop:=∀v∈L,v.oneCell'=true
theorem xj.of {L:List Value} (h:L.all (·.oneCell')=true):xj L:=b11.1 h
theorem xj.arr {L:List Value} (h:xj L):L.toArray.all (·.oneCell')=true:=all_oneCell_toArray h
def zy:List Value:=[.bool false,.int .i64 0,.int .i64 0,.int .i64 0,.int .i64 0,.bool false,.int .i64 0,.bool false,.int .i64 0,.int .i64 0,.bool false,.int .i64 0,.bool false,.int .i64 0,.bool false,.int .i64 0,.bool false,.int .i64 0,.bool false,.int .i64 0,.bool false,.int .i64 0]
def xd:List Value:=[.bool false,.int .i64 0,.int .i64 0,.int .i64 0,.int .i64 0,.bool false,.bool false,.int .i64 0,.bool false,.int .i64 0,.bool false,.int .i64 0,.bool false,.int .i64 0,.bool false,.int .i64 0,.bool false,.int .i64 0,.int .i64 0,.int .i64 0]
def xw:List Value:=[.bool false,.int .i64 0,.slice none 0 0,.bool false,.int .i64 0,.bool false,.int .i64 0,.bool false,.int .i64 0]
def xh:List Value:=[.bool false,.int .i64 0,.bool false,.int .i64 0,.bool false,.int .i64 0,.bool false,.int .i64 0]
def ja:List Value:=[.int .i64 0,.int .i64 0,.int .i64 0,.slice none 0 0]
theorem qq:ab8 zy xd xw xh ja:=⟨rfl,rfl,rfl,rfl,rfl⟩
def zNm:Array Value:=(nmL 0 ByteArray.empty zy xd xw xh ja).toArray
theorem acz (w:World):(zeroValue 58).run prog w=.ok (.agg zNm) w:=by kernel_rfl
theorem afc (t:ByteArray) (w:World):(Instr.build 58 #[(1,.string t)]).run prog w=.ok (.agg (nmL 0 t zy xd xw xh ja).toArray) w:=by kernel_rfl
theorem as8 (w:World):(Instr.build 58 #[]).run prog w=.ok (.agg zNm) w:=by kernel_rfl
theorem a7k (w:World):(zeroValue 239).run prog w=.ok (.agg zy.toArray) w:=by kernel_rfl
theorem a6h:(prog.info? 239).map (·.size)=some 22:=by kernel_rfl
theorem a7n (w:World):(zeroValue 243).run prog w=.ok (.agg xd.toArray) w:=by kernel_rfl
theorem a6k:(prog.info? 243).map (·.size)=some 20:=by kernel_rfl
theorem a7l (w:World):(zeroValue 247).run prog w=.ok (.agg xw.toArray) w:=by kernel_rfl
theorem a6i:(prog.info? 247).map (·.size)=some 9:=by kernel_rfl
theorem a7o (w:World):(zeroValue 251).run prog w=.ok (.agg xh.toArray) w:=by kernel_rfl
theorem a6l:(prog.info? 251).map (·.size)=some 8:=by kernel_rfl
theorem a7m (w:World):(zeroValue 255).run prog w=.ok (.agg ja.toArray) w:=by kernel_rfl
theorem a6j:(prog.info? 255).map (·.size)=some 4:=by kernel_rfl
theorem ao2 (G:List Value) (w:World):(Instr.typeAssert (.iface 239 (.agg G.toArray)) 187 239 true).run prog w=.ok (.tuple #[.agg G.toArray,.bool true]) w:=by kernel_rfl
theorem apb (G:List Value) (w:World):(Instr.typeAssert (.iface 243 (.agg G.toArray)) 187 239 true).run prog w=.ok (.tuple #[.agg zy.toArray,.bool false]) w:=by kernel_rfl
theorem apc (G:List Value) (w:World):(Instr.typeAssert (.iface 243 (.agg G.toArray)) 187 243 true).run prog w=.ok (.tuple #[.agg G.toArray,.bool true]) w:=by kernel_rfl
theorem ao3 (G:List Value) (w:World):(Instr.typeAssert (.iface 247 (.agg G.toArray)) 187 239 true).run prog w=.ok (.tuple #[.agg zy.toArray,.bool false]) w:=by kernel_rfl
theorem ao5 (G:List Value) (w:World):(Instr.typeAssert (.iface 247 (.agg G.toArray)) 187 243 true).run prog w=.ok (.tuple #[.agg xd.toArray,.bool false]) w:=by kernel_rfl
theorem ao4 (G:List Value) (w:World):(Instr.typeAssert (.iface 247 (.agg G.toArray)) 187 247 true).run prog w=.ok (.tuple #[.agg G.toArray,.bool true]) w:=by kernel_rfl
theorem apd (G:List Value) (w:World):(Instr.typeAssert (.iface 251 (.agg G.toArray)) 187 239 true).run prog w=.ok (.tuple #[.agg zy.toArray,.bool false]) w:=by kernel_rfl
theorem apf (G:List Value) (w:World):(Instr.typeAssert (.iface 251 (.agg G.toArray)) 187 243 true).run prog w=.ok (.tuple #[.agg xd.toArray,.bool false]) w:=by kernel_rfl
theorem ape (G:List Value) (w:World):(Instr.typeAssert (.iface 251 (.agg G.toArray)) 187 247 true).run prog w=.ok (.tuple #[.agg xw.toArray,.bool false]) w:=by kernel_rfl
theorem apg (G:List Value) (w:World):(Instr.typeAssert (.iface 251 (.agg G.toArray)) 187 251 true).run prog w=.ok (.tuple #[.agg G.toArray,.bool true]) w:=by kernel_rfl
theorem ao6 (G:List Value) (w:World):(Instr.typeAssert (.iface 255 (.agg G.toArray)) 187 239 true).run prog w=.ok (.tuple #[.agg zy.toArray,.bool false]) w:=by kernel_rfl
theorem ao9 (G:List Value) (w:World):(Instr.typeAssert (.iface 255 (.agg G.toArray)) 187 243 true).run prog w=.ok (.tuple #[.agg xd.toArray,.bool false]) w:=by kernel_rfl
theorem ao7 (G:List Value) (w:World):(Instr.typeAssert (.iface 255 (.agg G.toArray)) 187 247 true).run prog w=.ok (.tuple #[.agg xw.toArray,.bool false]) w:=by kernel_rfl
theorem apa (G:List Value) (w:World):(Instr.typeAssert (.iface 255 (.agg G.toArray)) 187 251 true).run prog w=.ok (.tuple #[.agg xh.toArray,.bool false]) w:=by kernel_rfl
theorem ao8 (G:List Value) (w:World):(Instr.typeAssert (.iface 255 (.agg G.toArray)) 187 255 true).run prog w=.ok (.tuple #[.agg G.toArray,.bool true]) w:=by kernel_rfl
theorem aph (w:World):(Instr.typeAssert .nilIface 187 239 true).run prog w=.ok (.tuple #[.agg zy.toArray,.bool false]) w:=by kernel_rfl
theorem apk (w:World):(Instr.typeAssert .nilIface 187 243 true).run prog w=.ok (.tuple #[.agg xd.toArray,.bool false]) w:=by kernel_rfl
theorem api (w:World):(Instr.typeAssert .nilIface 187 247 true).run prog w=.ok (.tuple #[.agg xw.toArray,.bool false]) w:=by kernel_rfl
theorem apl (w:World):(Instr.typeAssert .nilIface 187 251 true).run prog w=.ok (.tuple #[.agg xh.toArray,.bool false]) w:=by kernel_rfl
theorem apj (w:World):(Instr.typeAssert .nilIface 187 255 true).run prog w=.ok (.tuple #[.agg ja.toArray,.bool false]) w:=by kernel_rfl
theorem ya {k:Int} {t:ByteArray} {G R S V U:List Value} (h1:xj G) (h2:xj R) (h3:xj S) (h4:xj V) (h5:xj U):xj (nmL k t G R S V U):=fun v hv=>by
 simp only[nmL,b0z,b1u]at hv;rcases hv with rfl|rfl|hv|hv|hv|hv|hv
 ·rfl
 ·rfl
 ·exact h1 v hv
 ·exact h2 v hv
 ·exact h3 v hv
 ·exact h4 v hv
 ·exact h5 v hv
theorem xi:xj zy∧xj xd∧xj xw∧xj xh∧xj ja:=⟨xj.of rfl,xj.of rfl,xj.of rfl,xj.of rfl,xj.of rfl⟩
theorem Blk.putK {w W:World} {b:Nat} {k k':Int} {t:ByteArray} {G R S V U:List Value} (h:Blk w b (nmL k t G R S V U)) (hs:qp w W b 0 [.int .i64 k']):Blk W b (nmL k' t G R S V U):=
 Blk.put (A:=[]) (M:=[.int .i64 k]) (D:=.string t::(G ++(R ++(S ++(V++U))))) h hs rfl rfl
theorem jd {k:Int} {t:ByteArray} {G R S V U:List Value} (h:ab8 G R S V U):(prog.info? 58).map (·.size)=some (nmL k t G R S V U).toArray.size:=by rw[a75,o6,abb h]
theorem Blk.thereA {w:World} {b:Nat} {L M:List Value} (h:Blk w b L) (hl:M.length=L.length):w.there b 0 M.toArray.size:=h.there 0 _ (by simp[hl])
theorem jc {k k':Int} {t t':ByteArray} {G R S V U G' R' S' V' U':List Value} (h:ab8 G R S V U) (h':ab8 G' R' S' V' U'):(nmL k t G R S V U).length=(nmL k' t' G' R' S' V' U').length:=(abb h).trans (abb h').symm
theorem Blk.nm65 {w:World} {b:Nat} {k:Int} {t:ByteArray} {G R S V U:List Value} (h:Blk w b (nmL k t G R S V U)) (hl:ab8 G R S V U):w.there b 0 65:=h.there 0 65 (by rw[abb hl];exact a8 _)
theorem Blk.putG {w W:World} {b:Nat} {k:Int} {t:ByteArray} {G R S V U G':List Value} (h:Blk w b (nmL k t G R S V U)) (hs:qp w W b 2 G') (hl:ab8 G R S V U) (he:G'.length=22):Blk W b (nmL k t G' R S V U):=by
 have:=Blk.put (A:=[.int .i64 k,.string t]) (M:=G) (D:=R++S++V++U) (by simpa [nmL]using h) hs (rfl) (by rw[he];exact hl.g.symm)
 simpa [nmL]using this
theorem ab8.withG {G R S V U G':List Value} (h:ab8 G R S V U) (hl:G'.length=22):ab8 G' R S V U:=⟨hl,h.r,h.s,h.v,h.u⟩
theorem Blk.putR {w W:World} {b:Nat} {k:Int} {t:ByteArray} {G R S V U R':List Value} (h:Blk w b (nmL k t G R S V U)) (hs:qp w W b 24 R') (hl:ab8 G R S V U) (he:R'.length=20):Blk W b (nmL k t G R' S V U):=by
 have:=Blk.put (A:=[.int .i64 k,.string t]++G) (M:=R) (D:=S++V++U) (by simpa [nmL]using h) hs (by simp[hl.g]) (by rw[he];exact hl.r.symm)
 simpa [nmL]using this
theorem ab8.withR {G R S V U R':List Value} (h:ab8 G R S V U) (hl:R'.length=20):ab8 G R' S V U:=⟨h.g,hl,h.s,h.v,h.u⟩
theorem Blk.putS {w W:World} {b:Nat} {k:Int} {t:ByteArray} {G R S V U S':List Value} (h:Blk w b (nmL k t G R S V U)) (hs:qp w W b 44 S') (hl:ab8 G R S V U) (he:S'.length=9):Blk W b (nmL k t G R S' V U):=by
 have:=Blk.put (A:=[.int .i64 k,.string t]++G++R) (M:=S) (D:=V++U) (by simpa [nmL]using h) hs (by simp[hl.g,hl.r]) (by rw[he];exact hl.s.symm)
 simpa [nmL]using this
theorem ab8.withS {G R S V U S':List Value} (h:ab8 G R S V U) (hl:S'.length=9):ab8 G R S' V U:=⟨h.g,h.r,hl,h.v,h.u⟩
theorem Blk.putV {w W:World} {b:Nat} {k:Int} {t:ByteArray} {G R S V U V':List Value} (h:Blk w b (nmL k t G R S V U)) (hs:qp w W b 53 V') (hl:ab8 G R S V U) (he:V'.length=8):Blk W b (nmL k t G R S V' U):=by
 have:=Blk.put (A:=[.int .i64 k,.string t]++G++R++S) (M:=V) (D:=U) (by simpa [nmL]using h) hs (by simp[hl.g,hl.r,hl.s]) (by rw[he];exact hl.v.symm)
 simpa [nmL]using this
theorem ab8.withV {G R S V U V':List Value} (h:ab8 G R S V U) (hl:V'.length=8):ab8 G R S V' U:=⟨h.g,h.r,h.s,hl,h.u⟩
theorem Blk.putU {w W:World} {b:Nat} {k:Int} {t:ByteArray} {G R S V U U':List Value} (h:Blk w b (nmL k t G R S V U)) (hs:qp w W b 61 U') (hl:ab8 G R S V U) (he:U'.length=4):Blk W b (nmL k t G R S V U'):=by
 have:=Blk.put (A:=[.int .i64 k,.string t]++G++R++S++V) (M:=U) (D:=[]) (by simpa [nmL]using h) hs (by simp[hl.g,hl.r,hl.s,hl.v]) (by rw[he];exact hl.u.symm)
 simpa [nmL]using this
theorem ab8.withU {G R S V U U':List Value} (h:ab8 G R S V U) (hl:U'.length=4):ab8 G R S V U':=⟨h.g,h.r,h.s,h.v,hl⟩
