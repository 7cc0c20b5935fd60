/- What a configuration's reading gives a walk. -/
import Derived.Test.YtgkahcchekiogaaProg
import Derived.Test.YtgkahcchekiogaaConfG
namespace Go.Proofs.Ytgkahcchekiogaa.Conf
open Go.ChangeShapes Go.WideShapes Go.ChangeAt Go.RowKit Go.Deep Base Go.Joins Kit
set_option linter.unusedVariables false
set_option linter.unusedSimpArgs false

/-- a platform's configuration -/
structure PowC where
  (la : Option Addr) (ln lc : Nat) (lf : Nat → Nat → Int) (na : Option Addr) (nn nc : Nat) (nf : Nat → Nat → Int) (sw id ch qu sl pp : Int)
def PowC.vals (p : PowC) : List Value := [.slice p.la p.ln p.lc, .slice p.na p.nn p.nc, .int .i64 p.sw, .int .i64 p.id, .int .i64 p.ch, .int .i64 p.qu, .int .i64 p.sl, .int .i64 p.pp]
structure PowC.Ok (w : World) (p : PowC) : Prop where
  lev : Hid (Open.RowsIn w p.la p.ln 2 p.lf)
  nap : Hid (Open.RowsIn w p.na p.nn 3 p.nf)
  sw : I64 p.sw
  id : I64 p.id
  ch : I64 p.ch
  qu : I64 p.qu
  sl : I64 p.sl
  pp : I64 p.pp
theorem PowC.Ok.below {w w1 : World} {B : Nat} {p : PowC} (h : p.Ok w) (hb : Below B w w1) (hB : w.heap.size ≤ B) : p.Ok w1 :=
  ⟨Lib.hid (rows_below h.lev.out hb hB), Lib.hid (rows_below h.nap.out hb hB), h.sw, h.id, h.ch, h.qu, h.sl, h.pp⟩

section
variable {H : Type} {enc : TypeId × Value → H} {w : World} {held : Bool}
theorem pow_in {fuel : Nat} {cs : List Value} {x : DataW H × List MemPlace} (h : DataW.trod enc Try.prog w 0 (fun _ => true) held fuel 25 cs = some x) : ∃ p : PowC, cs = p.vals ∧ p.Ok w := by
  have hl := struct_len Try.underlying25 h
  rw [show Try.prog.cellsOf 25 = 8 from by kernel_rfl] at hl
  match cs, hl with
  | [v0, v1, v2, v3, v4, v5, v6, v7], _ =>
    obtain ⟨m0, y0, h0⟩ := struct_at Try.underlying25 h 0 rfl (o := 0) rfl rfl (k := 1) (by kernel_rfl)
    obtain ⟨m1, y1, h1⟩ := struct_at Try.underlying25 h 1 rfl (o := 1) rfl rfl (k := 1) (by kernel_rfl)
    obtain ⟨m2, y2, h2⟩ := struct_at Try.underlying25 h 2 rfl (o := 2) rfl rfl (k := 1) (by kernel_rfl)
    obtain ⟨m3, y3, h3⟩ := struct_at Try.underlying25 h 3 rfl (o := 3) rfl rfl (k := 1) (by kernel_rfl)
    obtain ⟨m4, y4, h4⟩ := struct_at Try.underlying25 h 4 rfl (o := 4) rfl rfl (k := 1) (by kernel_rfl)
    obtain ⟨m5, y5, h5⟩ := struct_at Try.underlying25 h 5 rfl (o := 5) rfl rfl (k := 1) (by kernel_rfl)
    obtain ⟨m6, y6, h6⟩ := struct_at Try.underlying25 h 6 rfl (o := 6) rfl rfl (k := 1) (by kernel_rfl)
    obtain ⟨m7, y7, h7⟩ := struct_at Try.underlying25 h 7 rfl (o := 7) rfl rfl (k := 1) (by kernel_rfl)
    simp only [List.drop, List.take] at h0 h1 h2 h3 h4 h5 h6 h7
    obtain ⟨la, ln, lc, lf, rfl, r0⟩ := rows_at_ Try.underlying22 Try.underlying119 (by kernel_rfl) (by kernel_rfl) (by decide) (sz := 2) rfl h0
    obtain ⟨na, nn, nc, nf, rfl, r1⟩ := rows_at_ Try.underlying23 Try.underlying131 (by kernel_rfl) (by kernel_rfl) (by decide) (sz := 3) rfl h1
    obtain ⟨sw, rfl, r2⟩ := int_at Try.underlying3 h2
    obtain ⟨id, rfl, r3⟩ := int_at Try.underlying3 h3
    obtain ⟨ch, rfl, r4⟩ := int_at Try.underlying3 h4
    obtain ⟨qu, rfl, r5⟩ := int_at Try.underlying3 h5
    obtain ⟨sl, rfl, r6⟩ := int_at Try.underlying3 h6
    obtain ⟨pp, rfl, r7⟩ := int_at Try.underlying3 h7
    exact ⟨⟨la, ln, lc, lf, na, nn, nc, nf, sw, id, ch, qu, sl, pp⟩, rfl, ⟨Lib.hid r0, Lib.hid r1, r2, r3, r4, r5, r6, r7⟩⟩
end
end Go.Proofs.Ytgkahcchekiogaa.Conf
