/- Walks of package osc: Safe, Within; and the laws. -/
import Derived.Test.YtgifhcjbaljenaaOscC
namespace Go.Proofs.Ytgifhcjbaljenaa.OscD
open Go.RowKit Base WideA WideB OscPlain OscA OscB OscC
set_option linter.unusedVariables false
set_option linter.unusedSimpArgs false

theorem ret_bool {a b : Bool} (h : a = b) : Ending.returned (.bool a) = .returned (.bool b) := by rw [h]

def sf (h b ns : Int) : Int × Int := if b < 0 ∨ 100000 < b then (0, 2) else cn h (-b) ns

theorem safe_any (h b ns : Int) (x e : Int) (w : World) (hx : Hid (sf h b ns = (x, e))) (hb : I64 b) (hn : I64 ns) :
    Calls Try.prog 19 #[.int .i64 h, .int .i64 b, .int .i64 ns] w fun e' w' => e' = .returned (.tuple #[.int .i64 x, .int .i64 e]) ∧ Below w.heap.size w w' := by
  by_cases hr : b < 0 ∨ 100000 < b
  · obtain ⟨rfl, rfl⟩ : x = 0 ∧ e = 2 := by have := hx.out; rw [sf, if_pos hr] at this; simpa using this.symm
    rcases (show b < 0 ∨ (0 ≤ b ∧ 100000 < b) by omega) with k | ⟨k, k2⟩
    all_goals
      clear hr
      go_enter Try.func19, Try.ntmps19
      go_wp2_with fail
      go_ret2
      exact ⟨rfl, Below.refl _ _⟩
  · obtain ⟨k1, k2⟩ : 0 ≤ b ∧ b ≤ 100000 := by omega
    have hx' : cn h (-b) ns = (x, e) := by have := hx.out; rw [sf, if_neg hr] at this; exact this
    have C := Lib.hid (fun w => counts_any h (-b) ns x e w hx' hn)
    clear hr hx'
    go_enter Try.func19, Try.ntmps19
    go_wp2_with fail
    refine (C.out _).mono ?_
    rintro e1 w1 ⟨rfl, hb1⟩
    go_wp2_with fail
    go_ret2
    exact ⟨rfl, hb1⟩

def wi (h p b : Int) : Bool := decide (¬ bad h p ∧ -b ≤ p ∧ p ≤ b)

theorem within_any (h p b : Int) (r : Bool) (w : World) (hr : Hid (wi h p b = r)) (hb : I64 b) :
    Calls Try.prog 20 #[.agg #[.int .i64 h, .int .i64 p], .int .i64 b] w fun e w' => e = .returned (.bool r) ∧ Below w.heap.size w w' := by
  have C := fun w => check_any h p w
  obtain ⟨hb1, hb2⟩ := hb
  by_cases hbad : bad h p
  · have e1 : chk h p = 2 := by unfold chk; rw [if_pos hbad]
    simp only [e1] at C
    obtain rfl : r = false := by rw [← hr.out, wi]; simp [hbad]
    have C := Lib.hid C
    clear hbad e1 hr
    go_enter Try.func20, Try.ntmps20
    go_wp2_with fail
    refine (C.out _).mono ?_
    rintro e1 w1 ⟨rfl, hb1⟩
    go_wp2_with fail
    go_ret
    exact ⟨rfl, ((Below.refl _ _).alloc (Nat.le_refl _) _).trans (hb1.mono (by simp))⟩
  · have e1 : chk h p = 0 := by unfold chk; rw [if_neg hbad]
    simp only [e1] at C
    have C := Lib.hid C
    have hpb : -999999 ≤ p ∧ p ≤ 999999 := by unfold bad at hbad; omega
    have hwi : wi h p b = decide (-b ≤ p ∧ p ≤ b) := by unfold wi; simp [hbad]
    have hr' : decide (-b ≤ p ∧ p ≤ b) = r := by rw [← hwi]; exact hr.out
    clear hbad e1 hr hwi
    by_cases hm : b = -9223372036854775808
    · obtain rfl : r = false := by rw [← hr', decide_eq_false_iff_not]; omega
      subst hm
      clear hr'
      go_enter Try.func20, Try.ntmps20
      go_wp2_with fail
      refine (C.out _).mono ?_
      rintro e1 w1 ⟨rfl, hb1⟩
      have c1 := (show Cell _ w.heap.size 1 (.int .i64 p) from ⟨by go_simp, by go_simp⟩ : Cell (w.alloc (Obj.cells #[Value.int IntKind.i64 h, Value.int IntKind.i64 p] 24)) _ _ _).below hb1 (by simp)
      obtain ⟨c1, _⟩ := c1
      have hB : Below w.heap.size w w1 := ((Below.refl _ _).alloc (Nat.le_refl _) _).trans (hb1.mono (by simp))
      have HB := Lib.hid hB
      clear hb1 hB
      go_wp2_with fail
      all_goals
        go_ret
        exact ⟨ret_bool (by first | rfl | (simp; done) | (simp; omega)), HB.out⟩
    · by_cases h1 : p < -b
      · obtain rfl : r = false := by rw [← hr', decide_eq_false_iff_not]; omega
        have hb3 : -9223372036854775807 ≤ b := by omega
        clear hr' hm
        go_enter Try.func20, Try.ntmps20
        go_wp2_with fail
        refine (C.out _).mono ?_
        rintro e1 w1 ⟨rfl, hb1⟩
        have c1 := (show Cell _ w.heap.size 1 (.int .i64 p) from ⟨by go_simp, by go_simp⟩ : Cell (w.alloc (Obj.cells #[Value.int IntKind.i64 h, Value.int IntKind.i64 p] 24)) _ _ _).below hb1 (by simp)
        obtain ⟨c1, _⟩ := c1
        have hB : Below w.heap.size w w1 := ((Below.refl _ _).alloc (Nat.le_refl _) _).trans (hb1.mono (by simp))
        have HB := Lib.hid hB
        clear hb1 hB
        go_wp2_with fail
        all_goals
          go_ret
          exact ⟨ret_bool (by first | rfl | (simp; done) | (simp; omega)), HB.out⟩
      · by_cases h2 : b < p
        · obtain rfl : r = false := by rw [← hr', decide_eq_false_iff_not]; omega
          have hb3 : -9223372036854775807 ≤ b := by omega
          have h3 : -b ≤ p := by omega
          clear hr' hm h1
          go_enter Try.func20, Try.ntmps20
          go_wp2_with fail
          refine (C.out _).mono ?_
          rintro e1 w1 ⟨rfl, hb1⟩
          have c1 := (show Cell _ w.heap.size 1 (.int .i64 p) from ⟨by go_simp, by go_simp⟩ : Cell (w.alloc (Obj.cells #[Value.int IntKind.i64 h, Value.int IntKind.i64 p] 24)) _ _ _).below hb1 (by simp)
          obtain ⟨c1, _⟩ := c1
          have hB : Below w.heap.size w w1 := ((Below.refl _ _).alloc (Nat.le_refl _) _).trans (hb1.mono (by simp))
          have HB := Lib.hid hB
          clear hb1 hB
          go_wp2_with fail
          all_goals
            go_ret
            exact ⟨ret_bool (by first | rfl | (simp; done) | (simp; omega)), HB.out⟩
        · obtain rfl : r = true := by rw [← hr', decide_eq_true_iff]; omega
          have hb3 : -9223372036854775807 ≤ b := by omega
          have h3 : -b ≤ p := by omega
          have h4 : p ≤ b := by omega
          clear hr' hm h1 h2
          go_enter Try.func20, Try.ntmps20
          go_wp2_with fail
          refine (C.out _).mono ?_
          rintro e1 w1 ⟨rfl, hb1⟩
          have c1 := (show Cell _ w.heap.size 1 (.int .i64 p) from ⟨by go_simp, by go_simp⟩ : Cell (w.alloc (Obj.cells #[Value.int IntKind.i64 h, Value.int IntKind.i64 p] 24)) _ _ _).below hb1 (by simp)
          obtain ⟨c1, _⟩ := c1
          have hB : Below w.heap.size w w1 := ((Below.refl _ _).alloc (Nat.le_refl _) _).trans (hb1.mono (by simp))
          have HB := Lib.hid hB
          clear hb1 hB
          go_wp2_with fail
          all_goals
            go_ret
            exact ⟨ret_bool (by first | rfl | (simp; done) | (simp; omega)), HB.out⟩

theorem works_any (w : World) : Calls Try.prog 18 #[] w fun e w' => e = .returned (.bool true) ∧ Below w.heap.size w w' := by
  have C1 := Lib.hid (fun w => elapsed_any 32768 0 32768 1000000000 0 w (Lib.hid (by decide)) ⟨by omega, by omega⟩)
  have C2 := Lib.hid (fun w => counts_any 32768 0 1000000000 32768 0 w (Lib.hid (by decide)) ⟨by omega, by omega⟩)
  go_enter Try.func18, Try.ntmps18
  go_wp2_with fail
  refine (C1.out _).mono ?_
  rintro e w1 ⟨rfl, hb1⟩
  go_wp2_with fail
  refine (C2.out _).mono ?_
  rintro e w2 ⟨rfl, hb2⟩
  go_wp2_with fail
  go_ret
  exact ⟨rfl, hb1.trans (hb2.mono hb1.size)⟩


/-- the two boxes of a law: the reference's oscillator, and the program's -/
theorem turns_any (h p ns : Int) (w : World) (hh : I64 h) (hp : I64 p) (hn : I64 ns) :
    Calls Try.prog 4 #[.agg #[.int .i64 h, .int .i64 p], .int .i64 ns] w fun e w' => e = .returned (.bool true) ∧ Below w.heap.size w w' := by
  have C := fun w => check_any h p w
  by_cases hbad : bad h p ∨ ns < 0 ∨ 1000000000000000 < ns
  · by_cases hb : bad h p
    · have e1 : chk h p = 2 := by unfold chk; rw [if_pos hb]
      simp only [e1] at C
      have C := Lib.hid C
      clear e1 hb hbad
      go_enter Try.func4, Try.ntmps4
      go_wp2_with fail
      refine (C.out _).mono ?_
      rintro e1 w1 ⟨rfl, hb1⟩
      have c1 := (show Cell _ (w.heap.size + 1) 0 (.int .i64 h) from ⟨by go_simp, by go_simp⟩ : Cell ((w.alloc (Obj.cells #[Value.int IntKind.i64 h, Value.int IntKind.i64 p] 23)).alloc (Obj.cells #[Value.int IntKind.i64 h, Value.int IntKind.i64 p] 24)) _ _ _).below hb1 (by simp)
      have c2 := (show Cell _ (w.heap.size + 1) 1 (.int .i64 p) from ⟨by go_simp, by go_simp⟩ : Cell ((w.alloc (Obj.cells #[Value.int IntKind.i64 h, Value.int IntKind.i64 p] 23)).alloc (Obj.cells #[Value.int IntKind.i64 h, Value.int IntKind.i64 p] 24)) _ _ _).below hb1 (by simp)
      obtain ⟨c1, _⟩ := c1
      obtain ⟨c2, _⟩ := c2
      have hz1 : w.heap.size + 1 < w1.heap.size := by have := hb1.size; simp at this; omega
      have hB : Below w.heap.size w w1 := (((Below.refl _ _).alloc (Nat.le_refl _) _).alloc (by simp) _).trans (hb1.mono (by simp; omega))
      have HB := Lib.hid hB
      clear hb1 hB
      go_wp2_with fail
      refine (works_any _).mono ?_
      rintro e1 w7 ⟨rfl, hb7⟩
      go_wp2_with fail
      go_ret
      exact ⟨rfl, HB.out.trans (hb7.mono HB.out.size)⟩
    · have e1 : chk h p = 0 := by unfold chk; rw [if_neg hb]
      simp only [e1] at C
      have C := Lib.hid C
      rcases (show ns < 0 ∨ (0 ≤ ns ∧ 1000000000000000 < ns) by rcases hbad with k | k; exact absurd k hb; omega) with k | ⟨k, k2⟩
      all_goals
        clear e1 hb hbad
        go_enter Try.func4, Try.ntmps4
        go_wp2_with fail
        refine (C.out _).mono ?_
        rintro e1 w1 ⟨rfl, hb1⟩
        have c1 := (show Cell _ (w.heap.size + 1) 0 (.int .i64 h) from ⟨by go_simp, by go_simp⟩ : Cell ((w.alloc (Obj.cells #[Value.int IntKind.i64 h, Value.int IntKind.i64 p] 23)).alloc (Obj.cells #[Value.int IntKind.i64 h, Value.int IntKind.i64 p] 24)) _ _ _).below hb1 (by simp)
        have c2 := (show Cell _ (w.heap.size + 1) 1 (.int .i64 p) from ⟨by go_simp, by go_simp⟩ : Cell ((w.alloc (Obj.cells #[Value.int IntKind.i64 h, Value.int IntKind.i64 p] 23)).alloc (Obj.cells #[Value.int IntKind.i64 h, Value.int IntKind.i64 p] 24)) _ _ _).below hb1 (by simp)
        obtain ⟨c1, _⟩ := c1
        obtain ⟨c2, _⟩ := c2
        have hz1 : w.heap.size + 1 < w1.heap.size := by have := hb1.size; simp at this; omega
        have hB : Below w.heap.size w w1 := (((Below.refl _ _).alloc (Nat.le_refl _) _).alloc (by simp) _).trans (hb1.mono (by simp; omega))
        have HB := Lib.hid hB
        clear hb1 hB
        go_wp2_with fail
        refine (works_any _).mono ?_
        rintro e1 w7 ⟨rfl, hb7⟩
        go_wp2_with fail
        go_ret
        exact ⟨rfl, HB.out.trans (hb7.mono HB.out.size)⟩
  · have hb : ¬ bad h p := fun h => hbad (.inl h)
    have hn0 : 0 ≤ ns := by omega
    have hn1 : ns ≤ 1000000000000000 := by omega
    have e1 : chk h p = 0 := by unfold chk; rw [if_neg hb]
    simp only [e1] at C
    have C := Lib.hid C
    obtain ⟨f1, f2⟩ := cnt_fits hb hn0
    obtain ⟨b1, b2⟩ := cnt_bd hb hn0
    have hcn : cn h p ns = (cnt h p ns, 0) := by rw [cn, if_neg (by intro h; rcases h with h | h; exact hb h; omega)]
    have hf := (fits_iff (n := cnt h p ns) hb b1 b2 hn.2).2 f1
    have hf2 : cnt h p ns < 1000000000000 → fits h p (cnt h p ns + 1) ns = false := fun hlt => by
      have h2 := f2 hlt
      cases hx : fits h p (cnt h p ns + 1) ns with
      | false => rfl
      | true => have := (fits_iff (n := cnt h p ns + 1) hb (by omega) (by omega) hn.2).1 hx; omega
    generalize cnt h p ns = k at *
    have C2 := Lib.hid (fun w => counts_any h p ns k 0 w hcn hn)
    obtain ⟨a, ha⟩ : ∃ a, (el h p k).1 = a := ⟨_, rfl⟩
    obtain ⟨x, hx⟩ : ∃ x, (el h p k).2 = x := ⟨_, rfl⟩
    have ha' : x = 0 ∧ a ≤ ns := by unfold fits at hf; rw [ha, hx] at hf; simpa using hf
    obtain ⟨rfl, hale⟩ := ha'
    have C3 := Lib.hid (fun w => elapsed_any h p k a 0 w (by rw [← ha, ← hx]; rfl) ⟨by omega, by omega⟩)
    by_cases hlt : k < 1000000000000
    · have hg := hf2 hlt
      obtain ⟨b, hb'⟩ : ∃ b, (el h p (k + 1)).1 = b := ⟨_, rfl⟩
      obtain ⟨g, hg'⟩ : ∃ g, (el h p (k + 1)).2 = g := ⟨_, rfl⟩
      have C4 := Lib.hid (fun w => elapsed_any h p (k + 1) b g w (by rw [← hb', ← hg']; rfl) ⟨by omega, by omega⟩)
      have hgg : g = 6 ∨ (g = 0 ∧ ns < b) := by
        unfold fits at hg; rw [hb', hg'] at hg
        have : g = 0 ∨ g = 6 := by
          rw [← hg', el, if_neg (by intro h; rcases h with h | h | h; exact hb h; omega; omega)]
          unfold md; split
          · rename_i hh; obtain ⟨d1, d2, _⟩ := dd_bd hb; omega
          · split <;> simp
        rcases this with rfl | rfl
        · right; exact ⟨rfl, by simpa using hg⟩
        · left; rfl
      have hz : (k == 1000000000000) = false := by simp; omega
      clear hbad hb e1 f1 f2 hcn hf hf2 ha hx hb' hg' hg
      rcases hgg with rfl | ⟨rfl, hgl⟩
      all_goals
        go_enter Try.func4, Try.ntmps4
        go_wp2_with fail
        refine (C.out _).mono ?_
        rintro e1 w1 ⟨rfl, hb1⟩
        have c1 := (show Cell _ (w.heap.size + 1) 0 (.int .i64 h) from ⟨by go_simp, by go_simp⟩ : Cell ((w.alloc (Obj.cells #[Value.int IntKind.i64 h, Value.int IntKind.i64 p] 23)).alloc (Obj.cells #[Value.int IntKind.i64 h, Value.int IntKind.i64 p] 24)) _ _ _).below hb1 (by simp)
        have c2 := (show Cell _ (w.heap.size + 1) 1 (.int .i64 p) from ⟨by go_simp, by go_simp⟩ : Cell ((w.alloc (Obj.cells #[Value.int IntKind.i64 h, Value.int IntKind.i64 p] 23)).alloc (Obj.cells #[Value.int IntKind.i64 h, Value.int IntKind.i64 p] 24)) _ _ _).below hb1 (by simp)
        obtain ⟨c1, _⟩ := c1
        obtain ⟨c2, _⟩ := c2
        have hz1 : w.heap.size + 1 < w1.heap.size := by have := hb1.size; simp at this; omega
        have hB : Below w.heap.size w w1 := (((Below.refl _ _).alloc (Nat.le_refl _) _).alloc (by simp) _).trans (hb1.mono (by simp; omega))
        have HB := Lib.hid hB
        clear hb1 hB
        go_wp2_with fail
        refine (C2.out _).mono ?_
        rintro e1 w2 ⟨rfl, hb2⟩
        have c1 := keep hb2 c1 (by go_simp)
        have c2 := keep hb2 c2 (by go_simp)
        have hz2 : w.heap.size + 1 < w2.heap.size := Nat.lt_of_lt_of_le hz1 hb2.size
        have HB := Lib.hid (HB.out.trans (hb2.mono HB.out.size))
        clear hb2
        go_wp2_with fail
        refine (C3.out _).mono ?_
        rintro e1 w3 ⟨rfl, hb2⟩
        have c1 := keep hb2 c1 (by go_simp)
        have c2 := keep hb2 c2 (by go_simp)
        have hz3 : w.heap.size + 1 < w3.heap.size := Nat.lt_of_lt_of_le hz2 hb2.size
        have HB := Lib.hid (HB.out.trans (hb2.mono HB.out.size))
        clear hb2
        go_wp2_with fail
        refine (C4.out _).mono ?_
        rintro e1 w4 ⟨rfl, hb2⟩
        have c1 := keep hb2 c1 (by go_simp)
        have c2 := keep hb2 c2 (by go_simp)
        have hz4 : w.heap.size + 1 < w4.heap.size := Nat.lt_of_lt_of_le hz3 hb2.size
        have HB := Lib.hid (HB.out.trans (hb2.mono HB.out.size))
        clear hb2
        go_wp2_with fail
        refine (works_any _).mono ?_
        rintro e1 w7 ⟨rfl, hb7⟩
        go_wp2_with fail
        go_ret
        exact ⟨rfl, HB.out.trans (hb7.mono HB.out.size)⟩
    · obtain rfl : k = 1000000000000 := by omega
      clear hbad hb e1 f1 f2 hcn hf hf2 ha hx hlt
      go_enter Try.func4, Try.ntmps4
      go_wp2_with fail
      refine (C.out _).mono ?_
      rintro e1 w1 ⟨rfl, hb1⟩
      have c1 := (show Cell _ (w.heap.size + 1) 0 (.int .i64 h) from ⟨by go_simp, by go_simp⟩ : Cell ((w.alloc (Obj.cells #[Value.int IntKind.i64 h, Value.int IntKind.i64 p] 23)).alloc (Obj.cells #[Value.int IntKind.i64 h, Value.int IntKind.i64 p] 24)) _ _ _).below hb1 (by simp)
      have c2 := (show Cell _ (w.heap.size + 1) 1 (.int .i64 p) from ⟨by go_simp, by go_simp⟩ : Cell ((w.alloc (Obj.cells #[Value.int IntKind.i64 h, Value.int IntKind.i64 p] 23)).alloc (Obj.cells #[Value.int IntKind.i64 h, Value.int IntKind.i64 p] 24)) _ _ _).below hb1 (by simp)
      obtain ⟨c1, _⟩ := c1
      obtain ⟨c2, _⟩ := c2
      have hz1 : w.heap.size + 1 < w1.heap.size := by have := hb1.size; simp at this; omega
      have hB : Below w.heap.size w w1 := (((Below.refl _ _).alloc (Nat.le_refl _) _).alloc (by simp) _).trans (hb1.mono (by simp; omega))
      have HB := Lib.hid hB
      clear hb1 hB
      go_wp2_with fail
      refine (C2.out _).mono ?_
      rintro e1 w2 ⟨rfl, hb2⟩
      have c1 := keep hb2 c1 (by go_simp)
      have c2 := keep hb2 c2 (by go_simp)
      have hz2 : w.heap.size + 1 < w2.heap.size := Nat.lt_of_lt_of_le hz1 hb2.size
      have HB := Lib.hid (HB.out.trans (hb2.mono HB.out.size))
      clear hb2
      go_wp2_with fail
      refine (C3.out _).mono ?_
      rintro e1 w3 ⟨rfl, hb2⟩
      have c1 := keep hb2 c1 (by go_simp)
      have c2 := keep hb2 c2 (by go_simp)
      have hz3 : w.heap.size + 1 < w3.heap.size := Nat.lt_of_lt_of_le hz2 hb2.size
      have HB := Lib.hid (HB.out.trans (hb2.mono HB.out.size))
      clear hb2
      go_wp2_with fail
      refine (works_any _).mono ?_
      rintro e1 w7 ⟨rfl, hb7⟩
      go_wp2_with fail
      go_ret
      exact ⟨rfl, HB.out.trans (hb7.mono HB.out.size)⟩

end Go.Proofs.Ytgifhcjbaljenaa.OscD
