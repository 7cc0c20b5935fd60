/- NapWorth: the law holds, for every input. -/
import Derived.Test.YtigknchcjlieoaaLift
import Derived.Test.YtigknchcjlieoaaOpen
import Derived.Test.YtigknchcjlieoaaNapN
import Derived.Test.YtigknchcjlieoaaConf
namespace Go.Proofs.Ytigknchcjlieoaa.napWorth
open Go.ChangeShapes Go.WideShapes Go.ChangeAt Go.RowKit
set_option linter.unusedVariables false

theorem own : ownKnob Try.prog.godebug = none := by kernel_rfl

set_option maxRecDepth 100000 in
theorem lifted (os : Os) (started : os.Started) (H : Type) (enc : TypeId × Value → H) :
    ReturnsInHanded {} Try.checked os 9 .any (Rows.napWorthSpec.pre6 enc Try.prog Try.f9 Rows.napWorthRow.domain false) (Rows.napWorthSpec.post enc Try.prog Try.f9 false true false false) := by
  refine returnsInHanded_of_change (C := Try.checked) own started (by kernel_rfl) Try.func9
    (ChangeSpec.witness6 (enc := enc) (C := Try.checked) false ⟨#[], #[.agg #[.slice none 0 0, .slice none 0 0, .int .i64 0, .int .i64 0, .int .i64 0, .int .i64 0, .int .i64 0, .int .i64 0], .agg #[.int .i64 0, .int .i64 0]], []⟩ 8 (by kernel_rfl) (by kernel_rfl) (by kernel_rfl) (by kernel_rfl)) ?_
  intro W base args ds gs before hval0 hW hcnd _
  have hval : ∀ (j : Nat) t v, Try.f9.params[j]? = some t → args[j]? = some v → Value.okWide Try.prog W .any base t v := hval0
  have hW' := hW
  obtain ⟨p, q, hA0, hV, rfl, hfz, hnd⟩ := hW
  have hA : DataW.TrodAll enc Try.prog W 0 (fun _ => true) true Try.f9.params.toList args.toList ds p := hA0
  rw [Try.params9] at hA hval
  obtain ⟨v0, vs0, d0, ds0, p0, q0, hargs, rfl, rfl, h0, r0⟩ := trodAll_cons hA
  obtain ⟨v1, vs1, d1, ds1, p1, q1, rfl, rfl, rfl, h1, r1⟩ := trodAll_cons r0
  obtain ⟨rfl, rfl, rfl⟩ := trodAll_nil r1
  obtain rfl : args = #[v0, v1] := by cases args; simp_all
  obtain ⟨rfl, rfl⟩ := trodVars_none hV
  obtain ⟨cs0, rfl, hsz0⟩ := okWide_struct Try.underlying25 (hval 0 25 v0 rfl rfl)
  obtain ⟨fuel0, hf0⟩ := h0
  obtain ⟨c0, e0, ok0⟩ := Conf.pow_in hf0
  obtain rfl := Conf.agg_list e0
  obtain ⟨cs1, rfl, hsz1⟩ := Conf.okWide_array Try.underlying28 (hval 1 28 v1 rfl rfl)
  obtain ⟨fuel1, hf1⟩ := h1
  obtain ⟨g1, hl1, hg1⟩ := Conf.arr_in Try.underlying28 Try.underlying3 (by kernel_rfl) (by kernel_rfl) hf1
  have hsz1 : cs1.size = 2 := by simpa [Value.cells] using hl1
  have g1_0 : cs1[0]? = some (.int .i64 (g1 0)) := by simpa [Value.cells] using (hg1 0 (by omega)).1
  have g1_1 : cs1[1]? = some (.int .i64 (g1 1)) := by simpa [Value.cells] using (hg1 1 (by omega)).1
  obtain rfl : cs1 = #[.int .i64 (g1 0), .int .i64 (g1 1)] := by
    apply Array.ext_getElem?
    intro i
    match i with
    | 0 => exact g1_0
    | 1 => exact g1_1
    | i + 2 => rw [Array.getElem?_eq_none (by omega)]; simp
  clear hA0 hval0
  refine (NapN.worth_law c0 (g1 0) (g1 1) W ok0 (hg1 0 (by omega)).2 (hg1 1 (by omega)).2).mono fun e W' ⟨he, hg⟩ => ?_
  subst he
  exact ⟨_, rfl, Lift.law_post (by kernel_rfl) (by kernel_rfl) Try.underlying4 rfl rfl hW' rfl rfl rfl hg⟩

theorem over : Rows.napWorthRow.holds Try.pinned (OpenSpec.ofChange Rows.napWorthSpec) :=
  OpenClaim.holds_of_wide 9 Try.f9 rfl rfl rfl rfl rfl rfl rfl ⟨rfl, rfl, rfl, rfl, rfl⟩ rfl rfl rfl rfl rfl (by kernel_rfl) Try.func9 (by kernel_rfl)
    (of_decide_eq_true (by kernel_rfl)) (by unfold Func.isWrapper; first | (rw [if_pos (by decide +kernel)]; kernel_rfl) | (rw [if_neg (by decide +kernel)]; exact ⟨rfl, rfl⟩))
    (fun os started H enc _ => lifted os started H enc)

theorem proved : Rows.NapWorthSaid :=
  over
end Go.Proofs.Ytigknchcjlieoaa.napWorth
