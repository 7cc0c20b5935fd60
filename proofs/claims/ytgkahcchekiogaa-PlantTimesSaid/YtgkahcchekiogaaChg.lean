/- What a charge's reading gives a walk. -/
import Derived.Test.YtgkahcchekiogaaConf
namespace Go.Proofs.Ytgkahcchekiogaa.Chg
open Go.ChangeShapes Go.WideShapes Go.ChangeAt Go.RowKit Go.Deep Base Go.Joins Kit Conf
set_option linter.unusedVariables false
set_option linter.unusedSimpArgs false
variable {H : Type} {enc : TypeId × Value → H} {w : World} {held : Bool}
theorem ints_at2 {P : Program} {t e : TypeId} {fuel : Nat} {v : Value} {x : DataW H × List MemPlace} (ht : P.underlying t = some (.slice e)) (he : P.underlying e = some (.int .i64)) (hc : P.cellsOf e = 1)
    (h : DataW.trod enc P w 0 (fun _ => true) held fuel t [v] = some x) : ∃ (a : Option Addr) (n c : Nat) (f : Nat → Int), v = .slice a n c ∧ Open.RowsIn w a n 1 (fun i _ => f i) ∧ (a = none → c = 0 ∧ n = 0) := by
  obtain ⟨a, n, c, f, e1, hr⟩ := ints_at_ ht he hc h
  refine ⟨a, n, c, f, e1, hr, fun ha => ?_⟩
  rcases open_slice ht h with ⟨hcs, hx⟩ | ⟨a', len, cap, m, n', D, Pl, hcs, _⟩
  · rw [e1] at hcs
    simp at hcs
    exact ⟨hcs.2.2, hcs.2.1⟩
  · rw [e1, ha] at hcs
    simp at hcs
structure ChgC where
  (a : Option Addr) (n c : Nat) (f : Nat → Int) (x y z : Int)
def ChgC.vals (p : ChgC) : List Value := [.slice p.a p.n p.c, .int .i64 p.x, .int .i64 p.y, .int .i64 p.z]
structure ChgC.Ok (w : World) (p : ChgC) : Prop where
  run : Hid (Open.RowsIn w p.a p.n 1 (fun i _ => p.f i))
  nil : p.a = none → p.c = 0 ∧ p.n = 0
  x : I64 p.x
  y : I64 p.y
  z : I64 p.z
theorem chg_in {fuel : Nat} {cs : List Value} {x : DataW H × List MemPlace} (h : DataW.trod enc Try.prog w 0 (fun _ => true) held fuel 113 cs = some x) : ∃ p : ChgC, cs = p.vals ∧ p.Ok w := by
  have hl := struct_len Try.underlying113 h
  rw [show Try.prog.cellsOf 113 = 4 from by kernel_rfl] at hl
  match cs, hl with
  | [v0, v1, v2, v3], _ =>
    obtain ⟨m0, y0, h0⟩ := struct_at Try.underlying113 h 0 rfl (o := 0) rfl rfl (k := 1) (by kernel_rfl)
    obtain ⟨m1, y1, h1⟩ := struct_at Try.underlying113 h 1 rfl (o := 1) rfl rfl (k := 1) (by kernel_rfl)
    obtain ⟨m2, y2, h2⟩ := struct_at Try.underlying113 h 2 rfl (o := 2) rfl rfl (k := 1) (by kernel_rfl)
    obtain ⟨m3, y3, h3⟩ := struct_at Try.underlying113 h 3 rfl (o := 3) rfl rfl (k := 1) (by kernel_rfl)
    simp only [List.drop, List.take] at h0 h1 h2 h3
    obtain ⟨a, n, c, f, rfl, r0, rn⟩ := ints_at2 Try.underlying55 Try.underlying3 (by kernel_rfl) h0
    obtain ⟨a1, rfl, r1⟩ := int_at Try.underlying3 h1
    obtain ⟨a2, rfl, r2⟩ := int_at Try.underlying3 h2
    obtain ⟨a3, rfl, r3⟩ := int_at Try.underlying3 h3
    exact ⟨⟨a, n, c, f, a1, a2, a3⟩, rfl, ⟨Lib.hid r0, rn, r1, r2, r3⟩⟩
end Go.Proofs.Ytgkahcchekiogaa.Chg
