/- Walks of package battery: what works. -/
import Derived.Test.YtgifhcjbaljenaaBatB
namespace Go.Proofs.Ytgifhcjbaljenaa.BatC
open Go.RowKit Base WideA WideB BatA BatB
set_option linter.unusedVariables false
set_option linter.unusedSimpArgs false

theorem Bat.below {w w1 : World} {b : Nat} {F F0 S L W : Int} (h : Bat w b F F0 S L W) (hb : Below w.heap.size w w1) : Bat w1 b F F0 S L W := by
  unfold Bat; rw [hb.block b h.cells.2.2.2.2.2.2.2]; exact h
theorem fromGrown {B : Nat} {w0 w w1 : World} {b : Nat} (h : Below B w0 w) (hg : w.grownBy w1 (some b)) (hB : B ≤ w.heap.size) (hb : B ≤ b) : Below B w0 w1 :=
  h.grown hg hB (fun k hk => by cases hk; exact hb)

theorem works_any (w : World) : Calls Try.prog 27 #[] w fun e w' => e = .returned (.bool true) ∧ Below w.heap.size w w' := by
  have C1 := Lib.hid (fun w => new_good 100 50 1000 w (by decide))
  have C2 := fun w b (h : Bat w b 100 50 1000 50 0) => reading_any w b 100 50 1000 50 0 h (by unfold I64; omega) (by unfold I64; omega) (by unfold I64; omega)
  have C3 := fun w b (h : Bat w b 100 50 1000 50 0) => take_any w b 100 50 1000 50 0 20 h (by unfold I64; omega) (by omega) (by omega)
  have C4 := fun w b (h : Bat w b 100 50 1000 30 0) => reading_any w b 100 50 1000 30 0 h (by unfold I64; omega) (by unfold I64; omega) (by unfold I64; omega)
  have C5 := fun w b (h : Bat w b 100 50 1000 30 0) => take_any w b 100 50 1000 30 0 50 h (by unfold I64; omega) (by omega) (by omega)
  have C6 := fun w b (h : Bat w b 100 50 1000 0 20) => empty_any w b 100 50 1000 0 20 h
  have C7 := fun w b (h : Bat w b 100 50 1000 0 20) => fill_any w b 100 50 1000 0 20 500 h (by unfold I64; omega) (by omega) (by omega)
  simp only [show rd 50 1000 100 = 500 from by decide] at C2
  simp only [show got 20 50 = 20 from by decide, show want 20 50 0 = 0 from by decide, show (50 : Int) - 20 = 30 from by decide] at C3
  simp only [show rd 30 1000 100 = 300 from by decide] at C4
  simp only [show got 50 30 = 30 from by decide, show want 50 30 0 = 20 from by decide, show (30 : Int) - 30 = 0 from by decide] at C5
  simp only [show fill 500 100 0 = 100 from by decide] at C7
  have C2 := Lib.hid C2; have C3 := Lib.hid C3; have C4 := Lib.hid C4; have C5 := Lib.hid C5; have C6 := Lib.hid C6; have C7 := Lib.hid C7
  go_enter Try.func27, Try.ntmps27
  go_wp2_with fail
  refine (C1.out _).mono ?_
  rintro e w1 ⟨b, rfl, hb1, hlt, hB⟩
  have HB := Lib.hid hb1; have HT := Lib.hid hB
  clear hb1 hB
  go_wp2_with fail
  refine (C2.out _ b HT.out).mono ?_
  rintro e w2 ⟨rfl, hb2⟩
  have HT := Lib.hid (Bat.below HT.out hb2)
  have HB := Lib.hid (HB.out.trans (hb2.mono HB.out.size))
  clear hb2
  go_wp2_with fail
  refine (C3.out _ b HT.out).mono ?_
  rintro e w3 ⟨rfl, hg, hB⟩
  have HT := Lib.hid hB
  have HB := Lib.hid (fromGrown HB.out hg HB.out.size hlt)
  clear hg hB
  go_wp2_with fail
  refine (C4.out _ b HT.out).mono ?_
  rintro e w4 ⟨rfl, hb2⟩
  have HT := Lib.hid (Bat.below HT.out hb2)
  have HB := Lib.hid (HB.out.trans (hb2.mono HB.out.size))
  clear hb2
  go_wp2_with fail
  refine (C5.out _ b HT.out).mono ?_
  rintro e w5 ⟨rfl, hg, hB⟩
  have HT := Lib.hid hB
  have HB := Lib.hid (fromGrown HB.out hg HB.out.size hlt)
  clear hg hB
  go_wp2_with fail
  refine (C6.out _ b HT.out).mono ?_
  rintro e w6 ⟨rfl, rfl⟩
  go_wp2_with fail
  refine (C7.out _ b HT.out).mono ?_
  rintro e w7 ⟨rfl, hg, hB⟩
  have HB := Lib.hid (fromGrown HB.out hg HB.out.size hlt)
  clear hg hB
  go_wp2_with fail
  go_ret
  exact ⟨rfl, HB.out⟩

end Go.Proofs.Ytgifhcjbaljenaa.BatC
