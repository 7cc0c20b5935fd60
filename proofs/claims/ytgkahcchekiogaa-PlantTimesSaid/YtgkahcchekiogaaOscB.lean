/- Walks of package osc: the search by halves, and what counts on it. -/
import Derived.Test.YtgkahcchekiogaaOscA
namespace Go.Proofs.Ytgkahcchekiogaa.OscB
open Go.RowKit Base WideA WideB OscPlain OscA
set_option linter.unusedVariables false
set_option linter.unusedSimpArgs false

theorem elapsedr_any (h p n : Int) (x e : Int) (w : World) (hx : Hid (el h p n = (x, e))) (hn : I64 n) :
    Calls Try.prog 121 #[.agg #[.int .i64 h, .int .i64 p], .int .i64 n] w fun e' w' => e' = .returned (.tuple #[.int .i64 x, .int .i64 e]) ∧ Below w.heap.size w w' := by
  have C := fun w => checkr_any h p w
  by_cases hb : bad h p
  · have e1 : chk h p = 2 := by unfold chk; rw [if_pos hb]
    simp only [e1] at C
    obtain ⟨rfl, rfl⟩ : x = 0 ∧ e = 2 := by have := hx.out; rw [el, if_pos (.inl hb)] at this; simpa using this.symm
    have C := Lib.hid C
    clear hb e1
    go_enter Try.func121, Try.ntmps121
    go_wp2_with fail
    refine (C.out _).mono ?_
    rintro e1 w1 ⟨rfl, hb1⟩
    go_wp2_with fail
    go_ret2
    exact ⟨rfl, ((Below.refl _ _).alloc (Nat.le_refl _) _).trans (hb1.mono (by simp))⟩
  · have e1 : chk h p = 0 := by unfold chk; rw [if_neg hb]
    simp only [e1] at C
    have C := Lib.hid C
    clear e1
    by_cases hr : n < 0 ∨ 1000000000000 < n
    · obtain ⟨rfl, rfl⟩ : x = 0 ∧ e = 2 := by have := hx.out; rw [el, if_pos (.inr hr)] at this; simpa using this.symm
      rcases (show n < 0 ∨ (0 ≤ n ∧ 1000000000000 < n) by omega) with k | ⟨k, k2⟩
      all_goals
        clear hr hb
        go_enter Try.func121, Try.ntmps121
        go_wp2_with fail
        refine (C.out _).mono ?_
        rintro e1 w1 ⟨rfl, hb1⟩
        go_wp2_with fail
        go_ret2
        exact ⟨rfl, ((Below.refl _ _).alloc (Nat.le_refl _) _).trans (hb1.mono (by simp))⟩
    · obtain ⟨d1, d2, d3, d4, d5, d6⟩ := dd_bd hb
      have M := fun w => RefC.mdr_any n 1000000000000000 (dd h p) true w hn.1 hn.2 (by omega) (by omega) (by omega) (by omega)
      have hx' : md n 1000000000000000 (dd h p) true = (x, e) := by have := hx.out; rw [el, if_neg (by intro h; rcases h with h | h; exact hb h; exact hr h)] at this; exact this
      simp only [hx'] at M
      have M := Lib.hid M
      obtain ⟨d, hd⟩ : ∃ d, dd h p = d := ⟨_, rfl⟩
      rw [hd] at M d1 d2
      have W1 : wrap64 (h * (1000000 + p)) = d := by rw [show h * (1000000 + p) = dd h p from rfl, hd]; exact IntWalk.wrap64_in _ ⟨by omega, by omega⟩
      have W2 : IntKind.i64.wrap (h * (1000000 + p)) = d := by rw [show h * (1000000 + p) = dd h p from rfl, hd]; exact IntWalk.i64_in _ ⟨by omega, by omega⟩
      clear hd hx' hb
      obtain ⟨k1, k2⟩ : 0 ≤ n ∧ n ≤ 1000000000000 := by omega
      clear hr
      go_enter Try.func121, Try.ntmps121
      go_wp2_with fail
      refine (C.out _).mono ?_
      rintro e1 w1 ⟨rfl, hb1⟩
      have c0 := (show Cell _ w.heap.size 0 (.int .i64 h) from ⟨by go_simp, by go_simp⟩ : Cell (w.alloc (Obj.cells #[Value.int IntKind.i64 h, Value.int IntKind.i64 p] 180)) _ _ _).below hb1 (by simp)
      have c1 := (show Cell _ w.heap.size 1 (.int .i64 p) from ⟨by go_simp, by go_simp⟩ : Cell (w.alloc (Obj.cells #[Value.int IntKind.i64 h, Value.int IntKind.i64 p] 180)) _ _ _).below hb1 (by simp)
      obtain ⟨c0, _⟩ := c0
      obtain ⟨c1, _⟩ := c1
      have hB : Below w.heap.size w w1 := ((Below.refl _ _).alloc (Nat.le_refl _) _).trans (hb1.mono (by simp))
      have HB := Lib.hid hB
      clear hb1 hB
      go_wp2_with fail
      refine (M.out _).mono ?_
      rintro e1 w2 ⟨rfl, hb2⟩
      go_wp2_with fail
      go_ret2
      exact ⟨rfl, HB.out.trans (hb2.mono HB.out.size)⟩


end Go.Proofs.Ytgkahcchekiogaa.OscB
