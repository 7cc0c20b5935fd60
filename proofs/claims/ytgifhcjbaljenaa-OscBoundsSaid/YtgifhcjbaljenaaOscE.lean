/- Walks of the laws of osc: Guards, Safe. -/
import Derived.Test.YtgifhcjbaljenaaOscD
namespace Go.Proofs.Ytgifhcjbaljenaa.OscE
open Go.RowKit Base WideA WideB OscPlain OscA OscB OscC OscD
set_option linter.unusedVariables false
set_option linter.unusedSimpArgs false

theorem guard_fits {h p b ns : Int} (hw : ¬ bad h p ∧ -b ≤ p ∧ p ≤ b) (hb0 : 0 ≤ b) (hb1 : b ≤ 100000) (hns : 0 ≤ ns) (hns1 : ns ≤ 9223372036854775807) :
    0 ≤ cnt h (-b) ns ∧ cnt h (-b) ns ≤ 1000000000000 ∧ fits h p (cnt h (-b) ns) ns = true := by
  have hbb : ¬ bad h (-b) := by have := hw.1; unfold bad at *; omega
  obtain ⟨f1, _⟩ := cnt_fits hbb hns
  obtain ⟨b1, b2⟩ := cnt_bd hbb hns
  refine ⟨b1, b2, (fits_iff hw.1 b1 b2 hns1).2 ?_⟩
  obtain ⟨_, _, d3, d4, d5, d6⟩ := dd_bd hw.1
  have m1 : dd h (-b) ≤ dd h p := by unfold dd; exact Int.mul_le_mul_of_nonneg_left (by omega) (by omega)
  have m2 : ns * dd h (-b) ≤ ns * dd h p := Int.mul_le_mul_of_nonneg_left m1 hns
  omega

theorem guards_any (h p b ns : Int) (w : World) (hh : I64 h) (hp : I64 p) (hb : I64 b) (hn : I64 ns) :
    Calls Try.prog 6 #[.agg #[.int .i64 h, .int .i64 p], .int .i64 b, .int .i64 ns] w fun e w' => e = .returned (.bool true) ∧ Below w.heap.size w w' := by
  cases hwi : wi h p b with
  | false =>
    have C := Lib.hid (fun w => within_any h p b false w hwi hb)
    clear hwi hh hp hb hn
    go_enter Try.func6, Try.ntmps6
    go_wp2_with fail
    refine (C.out _).mono ?_
    rintro e1 w1 ⟨rfl, hb1⟩
    have o1 := (show Cell _ w.heap.size 0 (.int .i64 h) from ⟨by go_simp, by go_simp⟩ : Cell ((w.alloc (Obj.cells #[Value.int IntKind.i64 h, Value.int IntKind.i64 p] 23)).alloc (Obj.cells #[Value.int IntKind.i64 h, Value.int IntKind.i64 p] 24)) _ _ _).below hb1 (by simp; omega)
    have o2 := (show Cell _ w.heap.size 1 (.int .i64 p) from ⟨by go_simp, by go_simp⟩ : Cell ((w.alloc (Obj.cells #[Value.int IntKind.i64 h, Value.int IntKind.i64 p] 23)).alloc (Obj.cells #[Value.int IntKind.i64 h, Value.int IntKind.i64 p] 24)) _ _ _).below hb1 (by simp; omega)
    have c1 := (show Cell _ (w.heap.size + 1) 0 (.int .i64 h) from ⟨by go_simp, by go_simp⟩ : Cell ((w.alloc (Obj.cells #[Value.int IntKind.i64 h, Value.int IntKind.i64 p] 23)).alloc (Obj.cells #[Value.int IntKind.i64 h, Value.int IntKind.i64 p] 24)) _ _ _).below hb1 (by simp)
    have c2 := (show Cell _ (w.heap.size + 1) 1 (.int .i64 p) from ⟨by go_simp, by go_simp⟩ : Cell ((w.alloc (Obj.cells #[Value.int IntKind.i64 h, Value.int IntKind.i64 p] 23)).alloc (Obj.cells #[Value.int IntKind.i64 h, Value.int IntKind.i64 p] 24)) _ _ _).below hb1 (by simp)
    obtain ⟨o1, _⟩ := o1
    obtain ⟨o2, _⟩ := o2
    obtain ⟨c1, _⟩ := c1
    obtain ⟨c2, _⟩ := c2
    have hz1 : w.heap.size + 1 < w1.heap.size := by have := hb1.size; simp at this; omega
    have hB : Below w.heap.size w w1 := (((Below.refl _ _).alloc (Nat.le_refl _) _).alloc (by simp) _).trans (hb1.mono (by simp; omega))
    have HB := Lib.hid hB
    clear hb1 hB
    go_wp2_with fail
    refine (works_any _).mono ?_
    rintro e1 w7 ⟨rfl, hb7⟩
    go_wp2_with fail
    go_ret
    exact ⟨rfl, HB.out.trans (hb7.mono HB.out.size)⟩
  | true =>
    have C := Lib.hid (fun w => within_any h p b true w hwi hb)
    have hw : ¬ bad h p ∧ -b ≤ p ∧ p ≤ b := by simpa [wi] using hwi
    by_cases hbig : 1000000000000 < ns
    · clear hwi hh hp hb hn hw
      go_enter Try.func6, Try.ntmps6
      go_wp2_with fail
      refine (C.out _).mono ?_
      rintro e1 w1 ⟨rfl, hb1⟩
      have o1 := (show Cell _ w.heap.size 0 (.int .i64 h) from ⟨by go_simp, by go_simp⟩ : Cell ((w.alloc (Obj.cells #[Value.int IntKind.i64 h, Value.int IntKind.i64 p] 23)).alloc (Obj.cells #[Value.int IntKind.i64 h, Value.int IntKind.i64 p] 24)) _ _ _).below hb1 (by simp; omega)
      have o2 := (show Cell _ w.heap.size 1 (.int .i64 p) from ⟨by go_simp, by go_simp⟩ : Cell ((w.alloc (Obj.cells #[Value.int IntKind.i64 h, Value.int IntKind.i64 p] 23)).alloc (Obj.cells #[Value.int IntKind.i64 h, Value.int IntKind.i64 p] 24)) _ _ _).below hb1 (by simp; omega)
      have c1 := (show Cell _ (w.heap.size + 1) 0 (.int .i64 h) from ⟨by go_simp, by go_simp⟩ : Cell ((w.alloc (Obj.cells #[Value.int IntKind.i64 h, Value.int IntKind.i64 p] 23)).alloc (Obj.cells #[Value.int IntKind.i64 h, Value.int IntKind.i64 p] 24)) _ _ _).below hb1 (by simp)
      have c2 := (show Cell _ (w.heap.size + 1) 1 (.int .i64 p) from ⟨by go_simp, by go_simp⟩ : Cell ((w.alloc (Obj.cells #[Value.int IntKind.i64 h, Value.int IntKind.i64 p] 23)).alloc (Obj.cells #[Value.int IntKind.i64 h, Value.int IntKind.i64 p] 24)) _ _ _).below hb1 (by simp)
      obtain ⟨o1, _⟩ := o1
      obtain ⟨o2, _⟩ := o2
      obtain ⟨c1, _⟩ := c1
      obtain ⟨c2, _⟩ := c2
      have hz1 : w.heap.size + 1 < w1.heap.size := by have := hb1.size; simp at this; omega
      have hB : Below w.heap.size w w1 := (((Below.refl _ _).alloc (Nat.le_refl _) _).alloc (by simp) _).trans (hb1.mono (by simp; omega))
      have HB := Lib.hid hB
      clear hb1 hB
      go_wp2_with fail
      refine (works_any _).mono ?_
      rintro e1 w7 ⟨rfl, hb7⟩
      go_wp2_with fail
      go_ret
      exact ⟨rfl, HB.out.trans (hb7.mono HB.out.size)⟩
    · have hns1 : ns ≤ 1000000000000 := by omega
      by_cases hbad : (b < 0 ∨ 100000 < b) ∨ (bad h (-b) ∨ ns < 0)
      · have hs : sf h b ns = (0, 2) := by
          unfold sf
          by_cases k : b < 0 ∨ 100000 < b
          · rw [if_pos k]
          · rw [if_neg k, cn, if_pos (by rcases hbad with j | j; exact absurd j k; exact j)]
        have C2 := Lib.hid (fun w => safe_any h b ns 0 2 w hs hb hn)
        clear hwi hh hp hb hn hw hbig hbad hs
        go_enter Try.func6, Try.ntmps6
        go_wp2_with fail
        refine (C.out _).mono ?_
        rintro e1 w1 ⟨rfl, hb1⟩
        have o1 := (show Cell _ w.heap.size 0 (.int .i64 h) from ⟨by go_simp, by go_simp⟩ : Cell ((w.alloc (Obj.cells #[Value.int IntKind.i64 h, Value.int IntKind.i64 p] 23)).alloc (Obj.cells #[Value.int IntKind.i64 h, Value.int IntKind.i64 p] 24)) _ _ _).below hb1 (by simp; omega)
        have o2 := (show Cell _ w.heap.size 1 (.int .i64 p) from ⟨by go_simp, by go_simp⟩ : Cell ((w.alloc (Obj.cells #[Value.int IntKind.i64 h, Value.int IntKind.i64 p] 23)).alloc (Obj.cells #[Value.int IntKind.i64 h, Value.int IntKind.i64 p] 24)) _ _ _).below hb1 (by simp; omega)
        have c1 := (show Cell _ (w.heap.size + 1) 0 (.int .i64 h) from ⟨by go_simp, by go_simp⟩ : Cell ((w.alloc (Obj.cells #[Value.int IntKind.i64 h, Value.int IntKind.i64 p] 23)).alloc (Obj.cells #[Value.int IntKind.i64 h, Value.int IntKind.i64 p] 24)) _ _ _).below hb1 (by simp)
        have c2 := (show Cell _ (w.heap.size + 1) 1 (.int .i64 p) from ⟨by go_simp, by go_simp⟩ : Cell ((w.alloc (Obj.cells #[Value.int IntKind.i64 h, Value.int IntKind.i64 p] 23)).alloc (Obj.cells #[Value.int IntKind.i64 h, Value.int IntKind.i64 p] 24)) _ _ _).below hb1 (by simp)
        obtain ⟨o1, _⟩ := o1
        obtain ⟨o2, _⟩ := o2
        obtain ⟨c1, _⟩ := c1
        obtain ⟨c2, _⟩ := c2
        have hz1 : w.heap.size + 1 < w1.heap.size := by have := hb1.size; simp at this; omega
        have hB : Below w.heap.size w w1 := (((Below.refl _ _).alloc (Nat.le_refl _) _).alloc (by simp) _).trans (hb1.mono (by simp; omega))
        have HB := Lib.hid hB
        clear hb1 hB
        go_wp2_with fail
        refine (C2.out _).mono ?_
        rintro e1 w2 ⟨rfl, hb2⟩
        have o1 := keep hb2 o1 (by first | (simp; done) | (simp; omega))
        have o2 := keep hb2 o2 (by first | (simp; done) | (simp; omega))
        have c1 := keep hb2 c1 (by first | (simp; done) | (simp; omega))
        have c2 := keep hb2 c2 (by first | (simp; done) | (simp; omega))
        have hz2 : w.heap.size + 1 < w2.heap.size := Nat.lt_of_lt_of_le hz1 hb2.size
        have HB := Lib.hid (HB.out.trans (hb2.mono HB.out.size))
        clear hb2
        go_wp2_with fail
        refine (works_any _).mono ?_
        rintro e1 w7 ⟨rfl, hb7⟩
        go_wp2_with fail
        go_ret
        exact ⟨rfl, HB.out.trans (hb7.mono HB.out.size)⟩
      · have k1 : ¬ (b < 0 ∨ 100000 < b) := fun j => hbad (.inl j)
        have k2 : ¬ (bad h (-b) ∨ ns < 0) := fun j => hbad (.inr j)
        have hs : sf h b ns = (cnt h (-b) ns, 0) := by unfold sf; rw [if_neg k1, cn, if_neg k2]
        have hns0 : 0 ≤ ns := by omega
        obtain ⟨g1, g2, g3⟩ := guard_fits hw (by omega) (by omega) hns0 hn.2
        generalize cnt h (-b) ns = n at *
        obtain ⟨a, ha⟩ : ∃ a, (el h p n).1 = a := ⟨_, rfl⟩
        obtain ⟨x, hx⟩ : ∃ x, (el h p n).2 = x := ⟨_, rfl⟩
        have ha' : x = 0 ∧ a ≤ ns := by unfold fits at g3; rw [ha, hx] at g3; simpa using g3
        obtain ⟨rfl, hale⟩ := ha'
        have C2 := Lib.hid (fun w => safe_any h b ns n 0 w hs hb hn)
        have C3 := Lib.hid (fun w => elapsed_any h p n a 0 w (by rw [← ha, ← hx]; rfl) ⟨by omega, by omega⟩)
        clear hwi hh hp hb hn hw hbig hbad hs k1 k2 g3 ha hx
        go_enter Try.func6, Try.ntmps6
        go_wp2_with fail
        refine (C.out _).mono ?_
        rintro e1 w1 ⟨rfl, hb1⟩
        have o1 := (show Cell _ w.heap.size 0 (.int .i64 h) from ⟨by go_simp, by go_simp⟩ : Cell ((w.alloc (Obj.cells #[Value.int IntKind.i64 h, Value.int IntKind.i64 p] 23)).alloc (Obj.cells #[Value.int IntKind.i64 h, Value.int IntKind.i64 p] 24)) _ _ _).below hb1 (by simp; omega)
        have o2 := (show Cell _ w.heap.size 1 (.int .i64 p) from ⟨by go_simp, by go_simp⟩ : Cell ((w.alloc (Obj.cells #[Value.int IntKind.i64 h, Value.int IntKind.i64 p] 23)).alloc (Obj.cells #[Value.int IntKind.i64 h, Value.int IntKind.i64 p] 24)) _ _ _).below hb1 (by simp; omega)
        have c1 := (show Cell _ (w.heap.size + 1) 0 (.int .i64 h) from ⟨by go_simp, by go_simp⟩ : Cell ((w.alloc (Obj.cells #[Value.int IntKind.i64 h, Value.int IntKind.i64 p] 23)).alloc (Obj.cells #[Value.int IntKind.i64 h, Value.int IntKind.i64 p] 24)) _ _ _).below hb1 (by simp)
        have c2 := (show Cell _ (w.heap.size + 1) 1 (.int .i64 p) from ⟨by go_simp, by go_simp⟩ : Cell ((w.alloc (Obj.cells #[Value.int IntKind.i64 h, Value.int IntKind.i64 p] 23)).alloc (Obj.cells #[Value.int IntKind.i64 h, Value.int IntKind.i64 p] 24)) _ _ _).below hb1 (by simp)
        obtain ⟨o1, _⟩ := o1
        obtain ⟨o2, _⟩ := o2
        obtain ⟨c1, _⟩ := c1
        obtain ⟨c2, _⟩ := c2
        have hz1 : w.heap.size + 1 < w1.heap.size := by have := hb1.size; simp at this; omega
        have hB : Below w.heap.size w w1 := (((Below.refl _ _).alloc (Nat.le_refl _) _).alloc (by simp) _).trans (hb1.mono (by simp; omega))
        have HB := Lib.hid hB
        clear hb1 hB
        go_wp2_with fail
        refine (C2.out _).mono ?_
        rintro e1 w2 ⟨rfl, hb2⟩
        have o1 := keep hb2 o1 (by first | (simp; done) | (simp; omega))
        have o2 := keep hb2 o2 (by first | (simp; done) | (simp; omega))
        have c1 := keep hb2 c1 (by first | (simp; done) | (simp; omega))
        have c2 := keep hb2 c2 (by first | (simp; done) | (simp; omega))
        have hz2 : w.heap.size + 1 < w2.heap.size := Nat.lt_of_lt_of_le hz1 hb2.size
        have HB := Lib.hid (HB.out.trans (hb2.mono HB.out.size))
        clear hb2
        go_wp2_with fail
        refine (C3.out _).mono ?_
        rintro e1 w3 ⟨rfl, hb2⟩
        have o1 := keep hb2 o1 (by first | (simp; done) | (simp; omega))
        have o2 := keep hb2 o2 (by first | (simp; done) | (simp; omega))
        have c1 := keep hb2 c1 (by first | (simp; done) | (simp; omega))
        have c2 := keep hb2 c2 (by first | (simp; done) | (simp; omega))
        have hz3 : w.heap.size + 1 < w3.heap.size := Nat.lt_of_lt_of_le hz2 hb2.size
        have HB := Lib.hid (HB.out.trans (hb2.mono HB.out.size))
        clear hb2
        go_wp2_with fail
        refine (works_any _).mono ?_
        rintro e1 w7 ⟨rfl, hb7⟩
        go_wp2_with fail
        go_ret
        exact ⟨rfl, HB.out.trans (hb7.mono HB.out.size)⟩

end Go.Proofs.Ytgifhcjbaljenaa.OscE
