/- PlantNone: the law holds, for every input. -/
import Derived.Test.YtgkahcchekiogaaLift
import Derived.Test.YtgkahcchekiogaaOpen
import Derived.Test.YtgkahcchekiogaaPln
namespace Go.Proofs.Ytgkahcchekiogaa.plantNone
open Go.ChangeShapes Go.WideShapes Go.ChangeAt Go.RowKit
set_option linter.unusedVariables false

theorem own : ownKnob Try.prog.godebug = none := by kernel_rfl

set_option maxRecDepth 100000 in
theorem lifted (os : Os) (started : os.Started) (H : Type) (enc : TypeId × Value → H) :
    ReturnsInHanded {} Try.checked os 4 .any (Rows.plantNoneSpec.pre6 enc Try.prog Try.f4 Rows.plantNoneRow.domain false) (Rows.plantNoneSpec.post enc Try.prog Try.f4 false true false false) := by
  refine returnsInHanded_of_change (C := Try.checked) own started (by kernel_rfl) Try.func4
    (ChangeSpec.witness6 (enc := enc) (C := Try.checked) false ⟨#[], #[.agg #[.int .i64 0, .int .i64 0, .int .i64 0, .int .i64 0]], []⟩ 8 (by kernel_rfl) (by kernel_rfl) (by kernel_rfl) (by kernel_rfl)) ?_
  intro W base args ds gs before hval0 hW hcnd _
  have hval : ∀ (j : Nat) t v, Try.f4.params[j]? = some t → args[j]? = some v → Value.okWide Try.prog W .any base t v := hval0
  have hW' := hW
  obtain ⟨p, q, hA0, hV, rfl, hfz, hnd⟩ := hW
  have hA : DataW.TrodAll enc Try.prog W 0 (fun _ => true) true Try.f4.params.toList args.toList ds p := hA0
  rw [Try.params4] at hA hval
  obtain ⟨v0, vs0, d0, ds0, p0, q0, hargs, rfl, rfl, h0, r0⟩ := trodAll_cons hA
  obtain ⟨rfl, rfl, rfl⟩ := trodAll_nil r0
  obtain rfl : args = #[v0] := by cases args; simp_all
  obtain ⟨rfl, rfl⟩ := trodVars_none hV
  obtain ⟨cs0, g0, rfl, hsz0, hg0⟩ := Open.struct_in Try.underlying36 (by kernel_rfl) (by kernel_rfl) (hval 0 36 v0 rfl rfl) h0
  have hsz0 : cs0.size = 4 := hsz0
  have g0_0 := hg0 0 (by show 0 < 4; omega)
  have g0_1 := hg0 1 (by show 1 < 4; omega)
  have g0_2 := hg0 2 (by show 2 < 4; omega)
  have g0_3 := hg0 3 (by show 3 < 4; omega)
  obtain rfl : cs0 = #[.int .i64 (g0 0), .int .i64 (g0 1), .int .i64 (g0 2), .int .i64 (g0 3)] := by
    apply Array.ext_getElem?
    intro i
    match i with
    | 0 => exact g0_0.1
    | 1 => exact g0_1.1
    | 2 => exact g0_2.1
    | 3 => exact g0_3.1
    | i + 4 => rw [Array.getElem?_eq_none (by omega)]; simp
  clear hA0 hval0
  refine (Pln.law (g0 0) (g0 1) (g0 2) (g0 3) W g0_0.2 g0_1.2 g0_2.2 g0_3.2).mono fun e W' ⟨he, hg⟩ => ?_
  subst he
  exact ⟨_, rfl, Lift.law_post (by kernel_rfl) (by kernel_rfl) Try.underlying4 rfl rfl hW' rfl rfl rfl hg⟩

theorem over : Rows.plantNoneRow.holds Try.pinned (OpenSpec.ofChange Rows.plantNoneSpec) :=
  OpenClaim.holds_of_wide 4 Try.f4 rfl rfl rfl rfl rfl rfl rfl ⟨rfl, rfl, rfl, rfl, rfl⟩ rfl rfl rfl rfl rfl (by kernel_rfl) Try.func4 (by kernel_rfl)
    (of_decide_eq_true (by kernel_rfl)) (by unfold Func.isWrapper; first | (rw [if_pos (by decide +kernel)]; kernel_rfl) | (rw [if_neg (by decide +kernel)]; exact ⟨rfl, rfl⟩))
    (fun os started H enc _ => lifted os started H enc)

theorem proved : Rows.PlantNoneSaid :=
  over
end Go.Proofs.Ytgkahcchekiogaa.plantNone
