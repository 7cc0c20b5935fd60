/- WideSums: the walk, and the statement. -/
import Derived.Test.YtaoghiijgcdbgaaRefS
import Derived.Test.YtaoghiijgcdbgaaLaw01
import Derived.Test.YtaoghiijgcdbgaaOpen
import Derived.Test.YtaoghiijgcdbgaaLift
namespace Go.Proofs.Ytaoghiijgcdbgaa.wideSums
open Go.ChangeShapes Go.WideShapes Go.ChangeAt Go.RowKit
open Base WideA WideB WideS RefS Law01 Plain
set_option linter.unusedVariables false
set_option linter.unusedSimpArgs false

theorem long_any (a : Option Addr) (n cap : Nat) (x y : Int) (w : World) (hn : 1000 < n) (hn' : n ≤ 9223372036854775807) :
    Calls Try.prog 10 #[.slice a n cap, .int .i64 x, .int .i64 y] w fun e w' => e = .returned (.bool true) ∧ Below w.heap.size w w' := by
  go_enter Try.func10, Try.ntmps10
  go_wp2_with fail
  refine (works_any _).mono ?_
  rintro e1 w7 ⟨rfl, hb7⟩
  go_wp2_with fail
  go_ret
  exact ⟨rfl, hb7⟩

theorem short_any (a : Option Addr) (n cap : Nat) (f : Nat → Int) (x y : Int) (w : World) (h : IntsIn w a n f) (hn : n ≤ 1000) (hx : -9223372036854775808 ≤ x) (hx' : x ≤ 9223372036854775807) (hy : -9223372036854775808 ≤ y) (hy' : y ≤ 9223372036854775807) :
    Calls Try.prog 10 #[.slice a n cap, .int .i64 x, .int .i64 y] w fun e w' => e = .returned (.bool true) ∧ Below w.heap.size w w' := by
  have c1 := sum_any a n cap f w h
  have c2 := fun w1 (hb : Below w.heap.size w w1) => sumr_any a n cap f w1 (RefS.IntsIn.below h hb)
  have C3 := Lib.hid (fun w => sat_any x y w hx hx' hy hy')
  have C4 := Lib.hid (fun w => satr_any x y w hx hx' hy hy')
  obtain ⟨p1, p2⟩ := sumR_bd f n
  generalize (sumR f n).1 = u at *
  generalize (sumR f n).2 = v at *
  generalize satI x y = t at *
  have C1 := Lib.hid c1; have C2 := Lib.hid c2
  clear c1 c2 h
  go_enter Try.func10, Try.ntmps10
  go_wp2_with fail
  refine C1.out.mono ?_
  rintro e1 w1 ⟨rfl, hb1⟩
  have HB := Lib.hid hb1
  clear hb1
  go_wp2_with fail
  refine (C2.out _ HB.out).mono ?_
  rintro e1 w2 ⟨rfl, rfl⟩
  go_wp2_with fail
  refine (C3.out _).mono ?_
  rintro e1 w2 ⟨rfl, rfl⟩
  go_wp2_with fail
  refine (C4.out _).mono ?_
  rintro e1 w2 ⟨rfl, rfl⟩
  go_wp2_with fail
  refine (works_any _).mono ?_
  rintro e1 w7 ⟨rfl, hb7⟩
  go_wp2_with fail
  go_ret
  exact ⟨rfl, HB.out.trans (hb7.mono HB.out.size)⟩

theorem own : ownKnob Try.prog.godebug = none := by kernel_rfl

set_option maxRecDepth 100000 in
theorem lifted (os : Os) (started : os.Started) (H : Type) (enc : TypeId × Value → H) :
    ReturnsInHanded {} Try.checked os 10 .any (Rows.wideSumsSpec.pre6 enc Try.prog Try.f10 Rows.wideSumsRow.domain false) (Rows.wideSumsSpec.post enc Try.prog Try.f10 false true false false) := by
  refine returnsInHanded_of_change (C := Try.checked) own started (by kernel_rfl) Try.func10
    (ChangeSpec.witness6 (enc := enc) (C := Try.checked) false ⟨#[], #[.slice none 0 0, .int .i64 0, .int .i64 0], []⟩ 8 (by kernel_rfl) (by kernel_rfl) (by kernel_rfl) (by kernel_rfl)) ?_
  intro W base args ds gs before hval0 hW hcnd _
  have hval : ∀ (j : Nat) t v, Try.f10.params[j]? = some t → args[j]? = some v → Value.okWide Try.prog W .any base t v := hval0
  have hW' := hW
  obtain ⟨p, q, hA0, hV, rfl, hfz, hnd⟩ := hW
  have hA : DataW.TrodAll enc Try.prog W 0 (fun _ => true) true Try.f10.params.toList args.toList ds p := hA0
  rw [Try.params10] at hA hval
  obtain ⟨v0, vs0, d0, ds0, p0, q0, hargs, rfl, rfl, h0, r0⟩ := trodAll_cons hA
  obtain ⟨v1, vs1, d1, ds1, p1, q1, rfl, rfl, rfl, h1, r1⟩ := trodAll_cons r0
  obtain ⟨v2, vs2, d2, ds2, p2, q2, rfl, rfl, rfl, h2, r2⟩ := trodAll_cons r1
  obtain ⟨rfl, rfl, rfl⟩ := trodAll_nil r2
  obtain rfl : args = #[v0, v1, v2] := by cases args; simp_all
  obtain ⟨rfl, rfl⟩ := trodVars_none hV
  obtain ⟨s0, l0, c0, rfl⟩ := okWide_slice Try.underlying27 (hval 0 27 v0 rfl rfl)
  obtain ⟨fuel, hf⟩ := h0
  obtain ⟨sa, sn, scap, f, hcs, hle, hmax, hin⟩ := Open.ints_in Try.underlying27 Try.underlying3 (by kernel_rfl) hf
  simp only [Value.cells, List.cons.injEq, Value.slice.injEq, and_true] at hcs
  obtain ⟨rfl, rfl, rfl⟩ := hcs
  obtain ⟨a1, rfl, rfl, rfl, w1⟩ := open_int Try.underlying3 (hval 1 3 v1 rfl rfl) h1
  obtain ⟨a2, rfl, rfl, rfl, w2⟩ := open_int Try.underlying3 (hval 2 3 v2 rfl rfl) h2
  clear hA0 hval0
  have hI : IntsIn W s0 l0 f := ⟨hin.1, by
    rcases hin.2.1 with e | ⟨b, off, e, hlt, hc⟩
    · exact .inl e
    · exact .inr ⟨b, off, e, hlt, fun i hi => by have h9 := hc i hi 0 (by omega); rw [show i * 1 + 0 = i from by omega] at h9; exact h9⟩, fun i hi => hin.2.2 i hi 0 (by omega)⟩
  have walk : Calls Try.prog 10 #[.slice s0 l0 c0, .int .i64 a1, .int .i64 a2] W fun e w' => e = .returned (.bool true) ∧ Below W.heap.size W w' := by
    by_cases hl : 1000 < l0
    · exact long_any s0 l0 c0 a1 a2 W hl hin.1
    · exact short_any s0 l0 c0 f a1 a2 W hI (by omega) (Lift.bd64 w1).1 (Lift.bd64 w1).2 (Lift.bd64 w2).1 (Lift.bd64 w2).2
  refine walk.mono fun e W' ⟨he, hg⟩ => ?_
  subst he
  exact ⟨_, rfl, Lift.law_post (by kernel_rfl) (by kernel_rfl) Try.underlying4 rfl rfl hW' rfl rfl rfl hg⟩

theorem over : Rows.wideSumsRow.holds Try.pinned (OpenSpec.ofChange Rows.wideSumsSpec) :=
  OpenClaim.holds_of_wide 10 Try.f10 rfl rfl rfl rfl rfl rfl rfl ⟨rfl, rfl, rfl, rfl, rfl⟩ rfl rfl rfl rfl rfl (by kernel_rfl) Try.func10 (by kernel_rfl)
    (of_decide_eq_true (by kernel_rfl)) (by unfold Func.isWrapper; first | (rw [if_pos (by decide +kernel)]; kernel_rfl) | (rw [if_neg (by decide +kernel)]; exact ⟨rfl, rfl⟩))
    (fun os started H enc _ => lifted os started H enc)

theorem proved : Rows.WideSumsSaid :=
  over
end Go.Proofs.Ytaoghiijgcdbgaa.wideSums
