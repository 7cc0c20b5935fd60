/- BatteryReads: the law holds, for every input. -/
import Derived.Test.YtgifhcjbaljenaaLift
import Derived.Test.YtgifhcjbaljenaaOpen
import Derived.Test.YtgifhcjbaljenaaBatW
namespace Go.Proofs.Ytgifhcjbaljenaa.batteryReads
open Go.ChangeShapes Go.WideShapes Go.ChangeAt Go.RowKit
set_option linter.unusedVariables false

theorem own : ownKnob Try.prog.godebug = none := by kernel_rfl

set_option maxRecDepth 100000 in
theorem lifted (os : Os) (started : os.Started) (H : Type) (enc : TypeId × Value → H) :
    ReturnsInHanded {} Try.checked os 11 .any (Rows.batteryReadsSpec.pre6 enc Try.prog Try.f11 Rows.batteryReadsRow.domain false) (Rows.batteryReadsSpec.post enc Try.prog Try.f11 false true false false) := by
  refine returnsInHanded_of_change (C := Try.checked) own started (by kernel_rfl) Try.func11
    (ChangeSpec.witness6 (enc := enc) (C := Try.checked) false ⟨#[], #[.agg #[.int .i64 0, .int .i64 0, .int .i64 0], .slice none 0 0, .slice none 0 0], []⟩ 8 (by kernel_rfl) (by kernel_rfl) (by kernel_rfl) (by kernel_rfl)) ?_
  intro W base args ds gs before hval0 hW hcnd _
  have hval : ∀ (j : Nat) t v, Try.f11.params[j]? = some t → args[j]? = some v → Value.okWide Try.prog W .any base t v := hval0
  have hW' := hW
  obtain ⟨p, q, hA0, hV, rfl, hfz, hnd⟩ := hW
  have hA : DataW.TrodAll enc Try.prog W 0 (fun _ => true) true Try.f11.params.toList args.toList ds p := hA0
  rw [Try.params11] at hA hval
  obtain ⟨v0, vs0, d0, ds0, p0, q0, hargs, rfl, rfl, h0, r0⟩ := trodAll_cons hA
  obtain ⟨v1, vs1, d1, ds1, p1, q1, rfl, rfl, rfl, h1, r1⟩ := trodAll_cons r0
  obtain ⟨v2, vs2, d2, ds2, p2, q2, rfl, rfl, rfl, h2, r2⟩ := trodAll_cons r1
  obtain ⟨rfl, rfl, rfl⟩ := trodAll_nil r2
  obtain rfl : args = #[v0, v1, v2] := by cases args; simp_all
  obtain ⟨rfl, rfl⟩ := trodVars_none hV
  obtain ⟨cs0, g0, rfl, hsz0, hg0⟩ := Open.struct_in Try.underlying42 (by kernel_rfl) (by kernel_rfl) (hval 0 42 v0 rfl rfl) h0
  have hsz0 : cs0.size = 3 := hsz0
  have g0_0 := hg0 0 (by show 0 < 3; omega)
  have g0_1 := hg0 1 (by show 1 < 3; omega)
  have g0_2 := hg0 2 (by show 2 < 3; omega)
  obtain rfl : cs0 = #[.int .i64 (g0 0), .int .i64 (g0 1), .int .i64 (g0 2)] := by
    apply Array.ext_getElem?
    intro i
    match i with
    | 0 => exact g0_0.1
    | 1 => exact g0_1.1
    | 2 => exact g0_2.1
    | i + 3 => rw [Array.getElem?_eq_none (by omega)]; simp
  obtain ⟨s1, l1, c1, rfl⟩ := okWide_slice Try.underlying63 (hval 1 63 v1 rfl rfl)
  obtain ⟨fuel1, hf1⟩ := h1
  obtain ⟨sa1, sn1, scap1, f1, hcs1, hle1, hmax1, hin1⟩ := Open.ints_in Try.underlying63 Try.underlying3 (by kernel_rfl) hf1
  simp only [Value.cells, List.cons.injEq, Value.slice.injEq, and_true] at hcs1
  obtain ⟨rfl, rfl, rfl⟩ := hcs1
  obtain ⟨s2, l2, c2, rfl⟩ := okWide_slice Try.underlying63 (hval 2 63 v2 rfl rfl)
  obtain ⟨fuel2, hf2⟩ := h2
  obtain ⟨sa2, sn2, scap2, f2, hcs2, hle2, hmax2, hin2⟩ := Open.ints_in Try.underlying63 Try.underlying3 (by kernel_rfl) hf2
  simp only [Value.cells, List.cons.injEq, Value.slice.injEq, and_true] at hcs2
  obtain ⟨rfl, rfl, rfl⟩ := hcs2
  clear hA0 hval0
  refine (BatW.law (g0 0) (g0 1) (g0 2) s1 l1 c1 f1 s2 l2 c2 f2 W g0_0.2 g0_1.2 g0_2.2 (Lib.hid hin1) (Lib.hid hin2)).mono fun e W' ⟨he, hg⟩ => ?_
  subst he
  exact ⟨_, rfl, Lift.law_post (by kernel_rfl) (by kernel_rfl) Try.underlying4 rfl rfl hW' rfl rfl rfl hg⟩

theorem over : Rows.batteryReadsRow.holds Try.pinned (OpenSpec.ofChange Rows.batteryReadsSpec) :=
  OpenClaim.holds_of_wide 11 Try.f11 rfl rfl rfl rfl rfl rfl rfl ⟨rfl, rfl, rfl, rfl, rfl⟩ rfl rfl rfl rfl rfl (by kernel_rfl) Try.func11 (by kernel_rfl)
    (of_decide_eq_true (by kernel_rfl)) (by unfold Func.isWrapper; first | (rw [if_pos (by decide +kernel)]; kernel_rfl) | (rw [if_neg (by decide +kernel)]; exact ⟨rfl, rfl⟩))
    (fun os started H enc _ => lifted os started H enc)

theorem proved : Rows.BatteryReadsSaid :=
  over
end Go.Proofs.Ytgifhcjbaljenaa.batteryReads
