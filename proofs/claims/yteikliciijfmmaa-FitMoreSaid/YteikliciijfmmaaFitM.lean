/- The law of fit: More. -/
import Derived.Test.YteikliciijfmmaaFitL
namespace Go.Proofs.Yteikliciijfmmaa.FitM
open Go.RowKit Base Kit WideA WideB Plain FitA FitB FitC Conf FitL
set_option linter.unusedVariables false
set_option linter.unusedSimpArgs false

theorem mdQ_mono (a a' b c : Int) (up : Bool) (h : a ≤ a') (hb : 0 ≤ b) (hc : 1 ≤ c) : mdQ a b c up ≤ mdQ a' b c up := by
  have := Int.mul_le_mul_of_nonneg_right h hb
  unfold mdQ; split
  · exact Int.ediv_le_ediv (by omega) (by omega)
  · exact Int.ediv_le_ediv (by omega) (by omega)
theorem md_mono (a a' b c : Int) (up : Bool) (h : a ≤ a') (h1 : (md a b c up).2 = 0) (h2 : (md a' b c up).2 = 0) : (md a b c up).1 ≤ (md a' b c up).1 := by
  unfold md at *
  by_cases k1 : a < 0 ∨ b < 0 ∨ c < 1
  · rw [if_pos k1] at h1; simp at h1
  · have k2 : ¬ (a' < 0 ∨ b < 0 ∨ c < 1) := by omega
    rw [if_neg k1] at *
    rw [if_neg k2] at *
    by_cases k3 : mdQ a b c up ≤ 9223372036854775807
    · rw [if_pos k3] at *
      by_cases k4 : mdQ a' b c up ≤ 9223372036854775807
      · rw [if_pos k4] at *
        exact mdQ_mono a a' b c up h (by omega) (by omega)
      · rw [if_neg k4] at h2; simp at h2
    · rw [if_neg k3] at h1; simp at h1
theorem md_pos (a b c : Int) (up : Bool) : 0 ≤ (md a b c up).1 := (md_bd a b c up (fun _ _ _ => trivial)).1
theorem sp_mono (fq sw a b : Int) (h : a ≤ b) (h1 : (sp fq sw a).2 = 0) (h2 : (sp fq sw b).2 = 0) : (sp fq sw a).1 ≤ (sp fq sw b).1 := by
  unfold sp at *
  by_cases k1 : a < 0 ∨ sw < 0 ∨ fq < 1
  · rw [if_pos k1] at h1; simp at h1
  · have k2 : ¬ (b < 0 ∨ sw < 0 ∨ fq < 1) := by omega
    rw [if_neg k1] at *
    rw [if_neg k2] at *
    by_cases k3 : a < sw
    · rw [if_pos k3] at *
      split
      · simp
      · exact md_pos _ _ _ _
    · have k4 : ¬ b < sw := by omega
      rw [if_neg k3] at *
      rw [if_neg k4] at *
      exact md_mono _ _ _ _ _ (by omega) h1 h2
theorem nd_mono (fq sw a b : Int) (h : a ≤ b) (h1 : (nd fq sw a).2 = 0) (h2 : (nd fq sw b).2 = 0) : (nd fq sw a).1 ≤ (nd fq sw b).1 := by
  unfold nd at *
  by_cases k1 : a < 0 ∨ sw < 0 ∨ fq < 1
  · rw [if_pos k1] at h1; simp at h1
  · have k2 : ¬ (b < 0 ∨ sw < 0 ∨ fq < 1) := by omega
    rw [if_neg k1] at *
    rw [if_neg k2] at *
    by_cases k3 : (md a 1000 fq true).2 ≠ 0
    · rw [if_pos k3] at h1; exact absurd h1 k3
    · rw [if_neg k3] at *
      by_cases k4 : (md b 1000 fq true).2 ≠ 0
      · rw [if_pos k4] at h2; exact absurd h2 k4
      · rw [if_neg k4] at *
        have hm := md_mono a b 1000 fq true h (by omega) (by omega)
        by_cases k5 : 9223372036854775807 < sw + (md a 1000 fq true).1
        · rw [if_pos k5] at h1; simp at h1
        · rw [if_neg k5] at *
          by_cases k6 : 9223372036854775807 < sw + (md b 1000 fq true).1
          · rw [if_pos k6] at h2; simp at h2
          · rw [if_neg k6] at *
            show sw + _ ≤ sw + _
            omega
theorem cs_mono (fq pw a b : Int) (h : a ≤ b) (h1 : (cs fq pw a).2 = 0) (h2 : (cs fq pw b).2 = 0) : (cs fq pw a).1 ≤ (cs fq pw b).1 := by
  unfold cs at *
  by_cases k1 : a < 0 ∨ fq < 1 ∨ pw < 0
  · rw [if_pos k1] at h1; simp at h1
  · have k2 : ¬ (b < 0 ∨ fq < 1 ∨ pw < 0) := by omega
    rw [if_neg k1] at *
    rw [if_neg k2] at *
    by_cases k3 : (md 1000 pw 1 false).2 ≠ 0
    · rw [if_pos k3] at h1; exact absurd h1 k3
    · simp only [if_neg k3] at *
      exact md_mono _ _ _ _ _ h h1 h2
/-- two numbers, each with an error: one of the errors is there, or the first one is at most the second one -/
theorem ways {a b e f : Int} (h : e = 0 → f = 0 → a ≤ b) : (e != 0) = true ∨ ((e = 0) ∧ (f != 0) = true) ∨ (e = 0 ∧ f = 0 ∧ a ≤ b) := by
  by_cases h1 : e = 0
  · by_cases h2 : f = 0
    · exact .inr (.inr ⟨h1, h2, h h1 h2⟩)
    · exact .inr (.inl ⟨h1, by simpa using h2⟩)
  · exact .inl (by simpa using h1)

set_option maxRecDepth 100000 in
set_option maxHeartbeats 4000000 in
theorem more_law (p : PowC) (n0 n1 : Int) (w : World) (hp : p.Ok w) (h1 : I64 n0) (h2 : I64 n1) :
    Calls Try.prog 5 #[.agg #[.slice p.la p.ln p.lc, .slice p.na p.nn p.nc, .int .i64 p.sw, .int .i64 p.id, .int .i64 p.ch, .int .i64 p.qu, .int .i64 p.sl, .int .i64 p.pp], .agg #[.int .i64 n0, .int .i64 n1]] w fun e w' => e = .returned (.bool true) ∧ Below w.heap.size w w' := by
  obtain ⟨la, ln, lc, lf, na, nn, nc, nf, sw, id, ch, qu, sl, pp⟩ := p
  obtain ⟨hl, hn, hsw, -, -, -, -, -⟩ := hp
  dsimp only at hl hn hsw ⊢
  have hm := hl.out.1
  by_cases hbad : 100 < ln ∨ n1 < n0
  · have wy : 100 < ln ∨ (ln ≤ 100 ∧ n1 < n0) := by omega
    clear hbad
    rcases wy with k | ⟨k1, k⟩
    all_goals
      go_enter Try.func5, Try.ntmps5
      go_wp2_with fail
      refine (works_any _).mono ?_
      rintro e1 w2 ⟨rfl, hb2⟩
      go_wp2_with fail
      go_ret
      exact ⟨rfl, below_next ((Below.refl _ _).alloc (Nat.le_refl _) _) (below_in _ hb2)⟩
  have k1 : ln ≤ 100 := by omega
  have k2 : n0 ≤ n1 := by omega
  clear hbad
  obtain ⟨a1, q1⟩ : ∃ a, (sp (top ln lf 0) sw n0).1 = a := ⟨_, rfl⟩
  obtain ⟨a2, q2⟩ : ∃ a, (sp (top ln lf 0) sw n0).2 = a := ⟨_, rfl⟩
  obtain ⟨b1, q3⟩ : ∃ a, (sp (top ln lf 0) sw n1).1 = a := ⟨_, rfl⟩
  obtain ⟨b2, q4⟩ : ∃ a, (sp (top ln lf 0) sw n1).2 = a := ⟨_, rfl⟩
  obtain ⟨c1, q5⟩ : ∃ a, (nd (top ln lf 0) sw n0).1 = a := ⟨_, rfl⟩
  obtain ⟨c2, q6⟩ : ∃ a, (nd (top ln lf 0) sw n0).2 = a := ⟨_, rfl⟩
  obtain ⟨d1, q7⟩ : ∃ a, (nd (top ln lf 0) sw n1).1 = a := ⟨_, rfl⟩
  obtain ⟨d2, q8⟩ : ∃ a, (nd (top ln lf 0) sw n1).2 = a := ⟨_, rfl⟩
  obtain ⟨x1, q9⟩ : ∃ a, (cs (top ln lf 0) (top ln lf 1) n0).1 = a := ⟨_, rfl⟩
  obtain ⟨x2, q10⟩ : ∃ a, (cs (top ln lf 0) (top ln lf 1) n0).2 = a := ⟨_, rfl⟩
  obtain ⟨y1, q11⟩ : ∃ a, (cs (top ln lf 0) (top ln lf 1) n1).1 = a := ⟨_, rfl⟩
  obtain ⟨y2, q12⟩ : ∃ a, (cs (top ln lf 0) (top ln lf 1) n1).2 = a := ⟨_, rfl⟩
  have W1 := Lib.hid (ways (a := a1) (b := b1) (e := a2) (f := b2) (by rw [← q1, ← q2, ← q3, ← q4]; exact sp_mono _ _ _ _ k2))
  have W2 := Lib.hid (ways (a := c1) (b := d1) (e := c2) (f := d2) (by rw [← q5, ← q6, ← q7, ← q8]; exact nd_mono _ _ _ _ k2))
  have W3 := Lib.hid (ways (a := x1) (b := y1) (e := x2) (f := y2) (by rw [← q9, ← q10, ← q11, ← q12]; exact cs_mono _ _ _ _ k2))
  have C1 := Lib.hid (fun w h => supply_any la ln lc lf (.slice na nn nc) sw (.int .i64 id) (.int .i64 ch) (.int .i64 qu) (.int .i64 sl) (.int .i64 pp) n0 a1 a2 w h hsw h1 (Lib.hid (by rw [← q1, ← q2])))
  have C2 := Lib.hid (fun w h => supply_any la ln lc lf (.slice na nn nc) sw (.int .i64 id) (.int .i64 ch) (.int .i64 qu) (.int .i64 sl) (.int .i64 pp) n1 b1 b2 w h hsw h2 (Lib.hid (by rw [← q3, ← q4])))
  have C3 := Lib.hid (fun w h => need_any la ln lc lf (.slice na nn nc) sw (.int .i64 id) (.int .i64 ch) (.int .i64 qu) (.int .i64 sl) (.int .i64 pp) n0 c1 c2 w h hsw h1 (Lib.hid (by rw [← q5, ← q6])))
  have C4 := Lib.hid (fun w h => need_any la ln lc lf (.slice na nn nc) sw (.int .i64 id) (.int .i64 ch) (.int .i64 qu) (.int .i64 sl) (.int .i64 pp) n1 d1 d2 w h hsw h2 (Lib.hid (by rw [← q7, ← q8])))
  have C5 := Lib.hid (fun w h => cost_any la ln lc lf (.slice na nn nc) sw (.int .i64 id) (.int .i64 ch) (.int .i64 qu) (.int .i64 sl) (.int .i64 pp) n0 x1 x2 w h h1 (Lib.hid (by rw [← q9, ← q10])))
  have C6 := Lib.hid (fun w h => cost_any la ln lc lf (.slice na nn nc) sw (.int .i64 id) (.int .i64 ch) (.int .i64 qu) (.int .i64 sl) (.int .i64 pp) n1 y1 y2 w h h2 (Lib.hid (by rw [← q11, ← q12])))
  clear q1 q2 q3 q4 q5 q6 q7 q8 q9 q10 q11 q12
  go_enter Try.func5, Try.ntmps5
  go_wp2_with fail
  have S : Hid (St w _ _ _ _ _ _ _) := Lib.hid ⟨(((Below.refl _ _).alloc (Nat.le_refl _) (.cells #[.slice la ln lc, .slice na nn nc, .int .i64 sw, .int .i64 id, .int .i64 ch, .int .i64 qu, .int .i64 sl, .int .i64 pp] 25)).alloc (by simp) (.cells #[.int .i64 n0, .int .i64 n1] 36)), (Box.new w #[.slice la ln lc, .slice na nn nc, .int .i64 sw, .int .i64 id, .int .i64 ch, .int .i64 qu, .int .i64 sl, .int .i64 pp] 25).alloc _, rows_alloc (rows_alloc hl _) _⟩
  have b1 := Box.new (w.alloc (.cells #[.slice la ln lc, .slice na nn nc, .int .i64 sw, .int .i64 id, .int .i64 ch, .int .i64 qu, .int .i64 sl, .int .i64 pp] 25)) #[.int .i64 n0, .int .i64 n1] 36
  rw [World.size_alloc] at b1
  have bc := S.out.box.cell
  have bd := b1.cell
  have B := Lib.hid b1
  clear b1
  generalize (w.alloc (.cells #[.slice la ln lc, .slice na nn nc, .int .i64 sw, .int .i64 id, .int .i64 ch, .int .i64 qu, .int .i64 sl, .int .i64 pp] 25)).alloc (.cells #[.int .i64 n0, .int .i64 n1] 36) = w1 at S bc B bd ⊢
  refine (C1.out _ S.out.rows).mono ?_
  rintro e1 w2 ⟨rfl, hb2⟩
  have S := st_next S hb2
  have B := Lib.hid (B.out.next hb2)
  clear hb2 bc bd
  rename_i w9
  have bc := S.out.box.cell
  have bd := B.out.cell
  go_wp2_with fail
  refine (C2.out _ S.out.rows).mono ?_
  rintro e1 w2 ⟨rfl, hb2⟩
  have S := st_next S hb2
  have B := Lib.hid (B.out.next hb2)
  clear hb2 bc bd
  rename_i w9
  have bc := S.out.box.cell
  have bd := B.out.cell
  go_wp2_with fail
  refine (C3.out _ S.out.rows).mono ?_
  rintro e1 w2 ⟨rfl, hb2⟩
  have S := st_next S hb2
  have B := Lib.hid (B.out.next hb2)
  clear hb2 bc bd
  rename_i w9
  have bc := S.out.box.cell
  have bd := B.out.cell
  go_wp2_with fail
  refine (C4.out _ S.out.rows).mono ?_
  rintro e1 w2 ⟨rfl, hb2⟩
  have S := st_next S hb2
  have B := Lib.hid (B.out.next hb2)
  clear hb2 bc bd
  rename_i w9
  have bc := S.out.box.cell
  have bd := B.out.cell
  go_wp2_with fail
  refine (C5.out _ S.out.rows).mono ?_
  rintro e1 w2 ⟨rfl, hb2⟩
  have S := st_next S hb2
  have B := Lib.hid (B.out.next hb2)
  clear hb2 bc bd
  rename_i w9
  have bc := S.out.box.cell
  have bd := B.out.cell
  go_wp2_with fail
  refine (C6.out _ S.out.rows).mono ?_
  rintro e1 w2 ⟨rfl, hb2⟩
  have S := st_next S hb2
  clear hb2 bc bd B C1 C2 C3 C4 C5 C6
  have W1 := W1.out
  have W2 := W2.out
  have W3 := W3.out
  rcases W1 with k | ⟨rfl, k⟩ | ⟨rfl, rfl, k⟩ <;> rcases W2 with l | ⟨rfl, l⟩ | ⟨rfl, rfl, l⟩ <;> rcases W3 with m | ⟨rfl, m⟩ | ⟨rfl, rfl, m⟩
  all_goals
    go_wp2_with fail
    refine (works_any _).mono ?_
    rintro e1 w3 ⟨rfl, hb3⟩
    have S := st_next S hb3
    clear hb3
    go_wp2_with fail
    go_ret
    exact ⟨rfl, S.out.bel⟩
end Go.Proofs.Yteikliciijfmmaa.FitM
