/- Walks of package osc: the search by halves, and what counts on it. -/
import Derived.Test.YtigknchcjlieoaaOscA
namespace Go.Proofs.Ytigknchcjlieoaa.OscB
open Go.RowKit Base WideA WideB OscPlain OscA
set_option linter.unusedVariables false
set_option linter.unusedSimpArgs false

theorem elapsedr_any (h p n : Int) (x e : Int) (w : World) (hx : Hid (el h p n = (x, e))) (hn : I64 n) :
    Calls Try.prog 52 #[.agg #[.int .i64 h, .int .i64 p], .int .i64 n] w fun e' w' => e' = .returned (.tuple #[.int .i64 x, .int .i64 e]) ∧ Below w.heap.size w w' := by
  have C := fun w => checkr_any h p w
  by_cases hb : bad h p
  · have e1 : chk h p = 2 := by unfold chk; rw [if_pos hb]
    simp only [e1] at C
    obtain ⟨rfl, rfl⟩ : x = 0 ∧ e = 2 := by have := hx.out; rw [el, if_pos (.inl hb)] at this; simpa using this.symm
    have C := Lib.hid C
    clear hb e1
    go_enter Try.func52, Try.ntmps52
    go_wp2_with fail
    refine (C.out _).mono ?_
    rintro e1 w1 ⟨rfl, hb1⟩
    go_wp2_with fail
    go_ret2
    exact ⟨rfl, ((Below.refl _ _).alloc (Nat.le_refl _) _).trans (hb1.mono (by simp))⟩
  · have e1 : chk h p = 0 := by unfold chk; rw [if_neg hb]
    simp only [e1] at C
    have C := Lib.hid C
    clear e1
    by_cases hr : n < 0 ∨ 1000000000000 < n
    · obtain ⟨rfl, rfl⟩ : x = 0 ∧ e = 2 := by have := hx.out; rw [el, if_pos (.inr hr)] at this; simpa using this.symm
      rcases (show n < 0 ∨ (0 ≤ n ∧ 1000000000000 < n) by omega) with k | ⟨k, k2⟩
      all_goals
        clear hr hb
        go_enter Try.func52, Try.ntmps52
        go_wp2_with fail
        refine (C.out _).mono ?_
        rintro e1 w1 ⟨rfl, hb1⟩
        go_wp2_with fail
        go_ret2
        exact ⟨rfl, ((Below.refl _ _).alloc (Nat.le_refl _) _).trans (hb1.mono (by simp))⟩
    · obtain ⟨d1, d2, d3, d4, d5, d6⟩ := dd_bd hb
      have M := fun w => RefC.mdr_any n 1000000000000000 (dd h p) true w hn.1 hn.2 (by omega) (by omega) (by omega) (by omega)
      have hx' : md n 1000000000000000 (dd h p) true = (x, e) := by have := hx.out; rw [el, if_neg (by intro h; rcases h with h | h; exact hb h; exact hr h)] at this; exact this
      simp only [hx'] at M
      have M := Lib.hid M
      obtain ⟨d, hd⟩ : ∃ d, dd h p = d := ⟨_, rfl⟩
      rw [hd] at M d1 d2
      have W1 : wrap64 (h * (1000000 + p)) = d := by rw [show h * (1000000 + p) = dd h p from rfl, hd]; exact IntWalk.wrap64_in _ ⟨by omega, by omega⟩
      have W2 : IntKind.i64.wrap (h * (1000000 + p)) = d := by rw [show h * (1000000 + p) = dd h p from rfl, hd]; exact IntWalk.i64_in _ ⟨by omega, by omega⟩
      clear hd hx' hb
      obtain ⟨k1, k2⟩ : 0 ≤ n ∧ n ≤ 1000000000000 := by omega
      clear hr
      go_enter Try.func52, Try.ntmps52
      go_wp2_with fail
      refine (C.out _).mono ?_
      rintro e1 w1 ⟨rfl, hb1⟩
      have c0 := (show Cell _ w.heap.size 0 (.int .i64 h) from ⟨by go_simp, by go_simp⟩ : Cell (w.alloc (Obj.cells #[Value.int IntKind.i64 h, Value.int IntKind.i64 p] 77)) _ _ _).below hb1 (by simp)
      have c1 := (show Cell _ w.heap.size 1 (.int .i64 p) from ⟨by go_simp, by go_simp⟩ : Cell (w.alloc (Obj.cells #[Value.int IntKind.i64 h, Value.int IntKind.i64 p] 77)) _ _ _).below hb1 (by simp)
      obtain ⟨c0, _⟩ := c0
      obtain ⟨c1, _⟩ := c1
      have hB : Below w.heap.size w w1 := ((Below.refl _ _).alloc (Nat.le_refl _) _).trans (hb1.mono (by simp))
      have HB := Lib.hid hB
      clear hb1 hB
      go_wp2_with fail
      refine (M.out _).mono ?_
      rintro e1 w2 ⟨rfl, hb2⟩
      go_wp2_with fail
      go_ret2
      exact ⟨rfl, HB.out.trans (hb2.mono HB.out.size)⟩


theorem fits_any (h p n ns : Int) (b : Bool) (w : World) (hb : Hid (fits h p n ns = b)) (hn : I64 n) :
    Calls Try.prog 84 #[.agg #[.int .i64 h, .int .i64 p], .int .i64 n, .int .i64 ns] w fun e w' => e = .returned (.bool b) ∧ Below w.heap.size w w' := by
  obtain ⟨x, hx⟩ : ∃ x, (el h p n).1 = x := ⟨_, rfl⟩
  obtain ⟨e, he⟩ : ∃ e, (el h p n).2 = e := ⟨_, rfl⟩
  have C := Lib.hid (fun w => elapsed_any h p n x e w (by rw [← hx, ← he]; rfl) hn)
  have hb' : ((e == 0) && decide (x ≤ ns)) = b := by rw [← hx, ← he]; exact hb.out
  clear hb hx he
  by_cases h0 : e = 0
  · subst h0
    have hb2 : decide (x ≤ ns) = b := by simpa using hb'
    subst hb2
    clear hb'
    go_enter Try.func84, Try.ntmps84
    go_wp2_with fail
    refine (C.out _).mono ?_
    rintro e1 w1 ⟨rfl, hb1⟩
    go_wp2_with fail
    go_ret
    exact ⟨rfl, ((Below.refl _ _).alloc (Nat.le_refl _) _).trans (hb1.mono (by simp))⟩
  · have hz : (e == 0) = false := by simp [h0]
    have : b = false := by rw [← hb', hz]; rfl
    subst this
    clear hb' h0
    go_enter Try.func84, Try.ntmps84
    go_wp2_with fail
    refine (C.out _).mono ?_
    rintro e1 w1 ⟨rfl, hb1⟩
    go_wp2_with fail
    go_ret
    exact ⟨rfl, ((Below.refl _ _).alloc (Nat.le_refl _) _).trans (hb1.mono (by simp))⟩

/-- WHAT A FUNCTION VALUE THAT ANSWERS A BOOL MUST KEEP: asked of any number between two, in any world over W0, it tells p, and turns nothing below B. -/
def Asks (B : Nat) (W0 : World) (g : FuncId) (caps : Array Value) (f t : Int) (p : Int → Bool) : Prop :=
  ∀ (n : Int) (w : World), f ≤ n → n ≤ t → Below B W0 w → Calls Try.prog g (#[.int .i64 n] ++ caps) w fun e w' => e = .returned (.bool (p n)) ∧ Below B w w'

theorem last_any (B : Nat) (W0 w : World) (g : FuncId) (caps : Array Value) (f t : Int) (p : Int → Bool) (ha : Asks B W0 g caps f t p) (hw : Below B W0 w) (henter : ∀ args w, (callFunc g args).run Try.prog w = .ok (.enter g args) w) (h1 : -1000000000000000 ≤ f) (h2 : t ≤ 1000000000000000) (h3 : f - 1 ≤ t) :
    Calls Try.prog 82 #[.int .i64 f, .int .i64 t, .func (.func g) #[] caps] w fun e w' => (∃ r : Int, e = .returned (.int .i64 r) ∧ Last f t p r) ∧ Below B W0 w' := by
  have HA := Lib.hid ha
  have HW := Lib.hid hw
  clear ha hw
  go_enter Try.func82, Try.ntmps82
  go_wp2_with fail
  go_step3
  go_wp2_with fail
  go_step3
  go_wp2_with fail
  go_loopw [7, 8] (fun l h wr => ∃ lo hi : Int, l = .int .i64 lo ∧ h = .int .i64 hi ∧ f - 1 ≤ lo ∧ lo ≤ hi ∧ hi ≤ t ∧ Hid (f ≤ lo → p lo = true) ∧ Hid (hi < t → p (hi + 1) = false) ∧ Hid (Below B W0 wr)) (fun l h _ => (intOf h - intOf l).toNat)
  case atStart => exact ⟨f - 1, t, rfl, rfl, by omega, by omega, by omega, (fun h => by omega), (fun h => by omega), HW⟩
  case round =>
    clear HW
    obtain ⟨lo, hi, rfl, rfl, g1, g2, g3, P1, P2, HB⟩ := hrel
    by_cases hlt : lo < hi
    · obtain ⟨m, hm⟩ : ∃ m, lo + (hi - lo + 1) / 2 = m := ⟨_, rfl⟩
      have m1 : lo < m := by omega
      have m2 : m ≤ hi := by omega
      have HM := Lib.hid hm
      clear hm
      go_wp2_with fail
      rw [HM.out]
      refine (HA.out m _ (by omega) (by omega) HB.out).mono ?_
      rintro e w1 ⟨rfl, hb1⟩
      have HB1 := Lib.hid (HB.out.trans hb1)
      clear hb1
      cases hpm : p m
      · have P := Lib.hid hpm
        clear hpm
        go_wp2_with fail
        go_roundw
        case rel => exact ⟨lo, m - 1, rfl, rfl, by omega, by omega, by omega, P1, (fun _ => by rw [show m - 1 + 1 = m from by omega]; exact P.out), HB1⟩
        case measure => simp [intOf]; omega
      · have P := Lib.hid hpm
        clear hpm
        go_wp2_with fail
        go_roundw
        case rel => exact ⟨m, hi, rfl, rfl, by omega, by omega, by omega, (fun _ => P.out), P2, HB1⟩
        case measure => simp [intOf]; omega
    · obtain rfl : lo = hi := by omega
      go_wp2_with fail
      go_goals
      go_ret
      exact ⟨⟨lo, rfl, ⟨g1, g3, P1.out, P2.out⟩⟩, HB.out⟩

end Go.Proofs.Ytigknchcjlieoaa.OscB
