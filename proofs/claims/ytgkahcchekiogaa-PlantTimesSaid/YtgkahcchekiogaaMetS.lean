/- The law of meter: Sums. -/
import Derived.Test.YtgkahcchekiogaaMetL
import Derived.Test.YtgkahcchekiogaaChg
namespace Go.Proofs.Ytgkahcchekiogaa.MetS
open Go.RowKit Base Kit RefA Alt WideA WideB Plain MetA MetB MetC MetL
set_option linter.unusedVariables false
set_option linter.unusedSimpArgs false

theorem sumTo_three (x y z : Int) (f : Nat → Int) : ∀ n, sumTo (fun i => if i < 3 then (if i = 0 then x else if i = 1 then y else z) else f (i - 3)) (3 + n) = x + y + z + sumTo f n
  | 0 => by simp [sumTo]
  | n + 1 => by
    rw [show 3 + (n + 1) = (3 + n) + 1 from by omega, sumTo, sumTo_three x y z f n, sumTo]
    have e : (if 3 + n < 3 then (if 3 + n = 0 then x else if 3 + n = 1 then y else z) else f (3 + n - 3)) = f n := by
      rw [if_neg (by omega)]; congr 1; omega
    simp only [e]; omega
theorem sumC_tot {n : Nat} {s : MS} (ok : MOk n s) : sumC n s.id s.sl s.ch s.run = (tot n s, 0) := by
  have h1 := ok.id; have h2 := ok.sl; have h3 := ok.ch; have h4 := ok.tot
  unfold sumC sumR
  rw [negTo_false.2 (fun i hi => by
    by_cases h : i < 3
    · simp only [h, if_true]
      (repeat' split) <;> assumption
    · simp only [h, if_false]
      exact ok.run (i - 3) (by omega)), sumTo_three]
  unfold tot at *
  rw [if_neg (by simp), if_neg (by omega)]

theorem st_charge {w0 w : World} {m g n : Nat} {s : MS} (h : Hid (St w0 w m g n s)) :
    Calls Try.prog 70 #[.pointer (some ⟨m, 0, none⟩)] w fun e w' => ∃ g' c, e = .returned (.agg #[.slice (some ⟨g', 0, none⟩) n c, .int .i64 s.id, .int .i64 s.sl, .int .i64 s.ch]) ∧ Hid (St w0 w' m g n s) ∧ Hid (Open.RowsIn w' (some ⟨g', 0, none⟩) n 1 (fun i _ => s.run i)) := by
  refine (charge_any w m g n n s h.out.met h.out.ok).mono ?_
  rintro e w' ⟨g', c, rfl, hb, hr⟩
  exact ⟨g', c, rfl, st_next h hb, hr⟩
/-- what a take leaves -/
theorem tk_more (n : Nat) (s : MS) (k p pw ns : Int) (ok : MOk n s) : ((tk n s k p pw ns).1 = 0 ∨ ((tk n s k p pw ns).1 ≠ 0 ∧ (tk n s k p pw ns).2 = s)) ∧ tot n s ≤ tot n (tk n s k p pw ns).2 ∧ s.tim ≤ (tk n s k p pw ns).2.tim := by
  unfold tk
  by_cases hb : bad n k p pw ns
  · rw [if_pos hb]; exact ⟨.inr ⟨by simp, rfl⟩, Int.le_refl _, Int.le_refl _⟩
  · rw [if_neg hb]
    by_cases hf : far n s pw ns
    · rw [if_pos hf]; exact ⟨.inr ⟨by simp, rfl⟩, Int.le_refl _, Int.le_refl _⟩
    · rw [if_neg hf]
      obtain ⟨m0, m1, m2, m3⟩ := FitB.md_bd pw ns 1 false (fun _ _ _ => trivial)
      unfold bad at hb
      have ha := tot_add (n := n) (s := s) (k := k) (p := p) (x := (md pw ns 1 false).1) (ns := ns) (by omega) (by omega) (by omega)
      refine ⟨.inl rfl, ?_, ?_⟩
      · show _ ≤ tot n (add s k p _ ns)
        rw [ha]; omega
      · show _ ≤ s.tim + ns
        omega

end Go.Proofs.Ytgkahcchekiogaa.MetS
