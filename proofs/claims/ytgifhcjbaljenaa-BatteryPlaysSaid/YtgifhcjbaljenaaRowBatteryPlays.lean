/- BatteryPlays: the law holds, for every input. -/
import Derived.Test.YtgifhcjbaljenaaLift
import Derived.Test.YtgifhcjbaljenaaOpen
import Derived.Test.YtgifhcjbaljenaaBatP
namespace Go.Proofs.Ytgifhcjbaljenaa.batteryPlays
open Go.ChangeShapes Go.WideShapes Go.ChangeAt Go.RowKit
open BatA BatB BatD BatP
set_option linter.unusedVariables false

theorem own : ownKnob Try.prog.godebug = none := by kernel_rfl

set_option maxRecDepth 100000 in
theorem lifted (os : Os) (started : os.Started) (H : Type) (enc : TypeId × Value → H) :
    ReturnsInHanded {} Try.checked os 8 .any (Rows.batteryPlaysSpec.pre6 enc Try.prog Try.f8 Rows.batteryPlaysRow.domain false) (Rows.batteryPlaysSpec.post enc Try.prog Try.f8 false true false false) := by
  refine returnsInHanded_of_change (C := Try.checked) own started (by kernel_rfl) Try.func8
    (ChangeSpec.witness6 (enc := enc) (C := Try.checked) false ⟨#[], #[.agg #[.int .i64 0, .int .i64 0, .int .i64 0], .slice none 0 0], []⟩ 8 (by kernel_rfl) (by kernel_rfl) (by kernel_rfl) (by kernel_rfl)) ?_
  intro W base args ds gs before hval0 hW hcnd _
  have hval : ∀ (j : Nat) t v, Try.f8.params[j]? = some t → args[j]? = some v → Value.okWide Try.prog W .any base t v := hval0
  have hW' := hW
  obtain ⟨p, q, hA0, hV, rfl, hfz, hnd⟩ := hW
  have hA : DataW.TrodAll enc Try.prog W 0 (fun _ => true) true Try.f8.params.toList args.toList ds p := hA0
  rw [Try.params8] at hA hval
  obtain ⟨v0, vs0, d0, ds0, p0, q0, hargs, rfl, rfl, h0, r0⟩ := trodAll_cons hA
  obtain ⟨v1, vs1, d1, ds1, p1, q1, rfl, rfl, rfl, h1, r1⟩ := trodAll_cons r0
  obtain ⟨rfl, rfl, rfl⟩ := trodAll_nil r1
  obtain rfl : args = #[v0, v1] := by cases args; simp_all
  obtain ⟨rfl, rfl⟩ := trodVars_none hV
  obtain ⟨cs, g, rfl, hsz, hg⟩ := Open.struct_in Try.underlying42 (by kernel_rfl) (by kernel_rfl) (hval 0 42 v0 rfl rfl) h0
  have hsz3 : cs.size = 3 := hsz
  have g0 := hg 0 (by show 0 < 3; omega)
  have g1 := hg 1 (by show 1 < 3; omega)
  have g2 := hg 2 (by show 2 < 3; omega)
  obtain rfl : cs = #[.int .i64 (g 0), .int .i64 (g 1), .int .i64 (g 2)] := by
    apply Array.ext_getElem?
    intro i
    match i with
    | 0 => exact g0.1
    | 1 => exact g1.1
    | 2 => exact g2.1
    | i + 3 => rw [Array.getElem?_eq_none (by omega)]; simp
  obtain ⟨s0, l0, c0, rfl⟩ := okWide_slice Try.underlying43 (hval 1 43 v1 rfl rfl)
  obtain ⟨fuel, hf⟩ := h1
  obtain ⟨sa, sn, scap, f, hcs, hle, hmax, hin⟩ := Open.rows_in Try.underlying43 Try.underlying55 (Open.allInts_of (by kernel_rfl)) (by kernel_rfl) (by decide) hf
  simp only [Value.cells, List.cons.injEq, Value.slice.injEq, and_true] at hcs
  obtain ⟨rfl, rfl, rfl⟩ := hcs
  clear hA0 hval0
  have walk : Calls Try.prog 8 #[.agg #[.int .i64 (g 0), .int .i64 (g 1), .int .i64 (g 2)], .slice s0 l0 c0] W fun e w' => e = .returned (.bool true) ∧ Below W.heap.size W w' := by
    by_cases hb : bad (g 0) (g 1) (g 2)
    · exact plays_bad (g 0) (g 1) (g 2) s0 l0 c0 W hb
    · exact plays_good (g 0) (g 1) (g 2) s0 l0 c0 f W hb (Lib.hid hin)
  refine walk.mono fun e W' ⟨he, hg⟩ => ?_
  subst he
  exact ⟨_, rfl, Lift.law_post (by kernel_rfl) (by kernel_rfl) Try.underlying4 rfl rfl hW' rfl rfl rfl hg⟩

theorem over : Rows.batteryPlaysRow.holds Try.pinned (OpenSpec.ofChange Rows.batteryPlaysSpec) :=
  OpenClaim.holds_of_wide 8 Try.f8 rfl rfl rfl rfl rfl rfl rfl ⟨rfl, rfl, rfl, rfl, rfl⟩ rfl rfl rfl rfl rfl (by kernel_rfl) Try.func8 (by kernel_rfl)
    (of_decide_eq_true (by kernel_rfl)) (by unfold Func.isWrapper; first | (rw [if_pos (by decide +kernel)]; kernel_rfl) | (rw [if_neg (by decide +kernel)]; exact ⟨rfl, rfl⟩))
    (fun os started H enc _ => lifted os started H enc)

theorem proved : Rows.BatteryPlaysSaid :=
  over
end Go.Proofs.Ytgifhcjbaljenaa.batteryPlays
