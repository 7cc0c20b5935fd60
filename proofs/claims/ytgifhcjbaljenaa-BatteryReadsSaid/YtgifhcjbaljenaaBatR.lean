/- Walks of the reference's battery. -/
import Derived.Test.YtgifhcjbaljenaaBatD
namespace Go.Proofs.Ytgifhcjbaljenaa.BatR
open Go.RowKit Base WideA WideB BatA BatB BatC BatD
set_option linter.unusedVariables false
set_option linter.unusedSimpArgs false

/-- the reference's battery in memory -/
def Ref (w : World) (b : Nat) (F F0 S L W : Int) : Prop :=
  w.heap[b]? = some (.cells #[.int .i64 F, .int .i64 F0, .int .i64 S, .int .i64 L, .int .i64 W] 53 (0, 0))
theorem Ref.cells {w : World} {b : Nat} {F F0 S L W : Int} (h : Ref w b F F0 S L W) :
    w.cell? ⟨b, 0, none⟩ = some (.int .i64 F) ∧ w.cell? ⟨b, 1, none⟩ = some (.int .i64 F0) ∧ w.cell? ⟨b, 2, none⟩ = some (.int .i64 S) ∧ w.cell? ⟨b, 3, none⟩ = some (.int .i64 L) ∧ w.cell? ⟨b, 4, none⟩ = some (.int .i64 W) ∧ (∀ o, w.frozen? ⟨b, o, none⟩ = false) ∧ b < w.heap.size := by
  unfold Ref at h
  refine ⟨by simp [World.cell?, h], by simp [World.cell?, h], by simp [World.cell?, h], by simp [World.cell?, h], by simp [World.cell?, h], fun o => by simp [World.frozen?, h], ?_⟩
  exact (Array.getElem?_eq_some_iff.1 h).1
theorem Ref.set3 {w : World} {b : Nat} {F F0 S L W : Int} (h : Ref w b F F0 S L W) (L' : Int) : Ref (w.setCell ⟨b, 3, none⟩ (.int .i64 L')) b F F0 S L' W := by
  have h1 := heap_setCell_same w b 3 _ _ (.int .i64 L') h
  unfold Ref; rw [h1]; rfl
theorem Ref.set4 {w : World} {b : Nat} {F F0 S L W : Int} (h : Ref w b F F0 S L W) (W' : Int) : Ref (w.setCell ⟨b, 4, none⟩ (.int .i64 W')) b F F0 S L W' := by
  have h1 := heap_setCell_same w b 4 _ _ (.int .i64 W') h
  unfold Ref; rw [h1]; rfl
theorem Ref_eq {w : World} {b : Nat} {F F0 S L W L' W' : Int} (h : Ref w b F F0 S L W) (e1 : L = L') (e2 : W = W') : Ref w b F F0 S L' W' := by subst e1 e2; exact h

theorem take_any (w : World) (b : Nat) (F F0 S L W n : Int) (h : Ref w b F F0 S L W) (hn : I64 n) (hL : 0 ≤ L ∧ L ≤ 1152921504606846976) (hW : 0 ≤ W ∧ W ≤ 1152921504606846976) :
    Calls Try.prog 29 #[.pointer (some ⟨b, 0, none⟩), .int .i64 n] w fun e w' => e = .returned (.int .i64 (got n L)) ∧ w.grownBy w' (some b) ∧ Ref w' b F F0 S (L - got n L) (want n L W) := by
  obtain ⟨c0, c1, c2, c3, c4, cf, hlt⟩ := h.cells
  obtain ⟨hn1, hn2⟩ := hn
  have HH := Lib.hid h
  clear h
  by_cases h0 : n < 1
  · have e1 : got n L = 0 := by unfold got; rw [if_pos h0]
    have e2 : want n L W = W := by unfold want; rw [if_pos h0]
    rw [e1, e2, Int.sub_zero]
    go_enter Try.func29, Try.ntmps29
    go_wp2_with fail
    go_ret
    exact ⟨rfl, grown_refl _ _, HH.out⟩
  · have h1 : 1 ≤ n := by omega
    by_cases hle : n ≤ L
    · have e1 : got n L = n := by unfold got; rw [if_neg h0, if_pos hle]
      have e2 : want n L W = W := by unfold want; rw [if_neg h0, e1, if_neg (by omega)]; omega
      rw [e1, e2]
      clear e1 e2 h0
      go_enter Try.func29, Try.ntmps29
      go_wp2_with fail
      go_ret
      exact ⟨rfl, grown_set _ _ _ _, HH.out.set3 _⟩
    · have hlt2 : L < n := by omega
      have e1 : got n L = L := by unfold got; rw [if_neg h0, if_neg hle]
      by_cases hbig : 1152921504606846976 < W + (n - L)
      · have e2 : want n L W = 1152921504606846976 := by unfold want; rw [if_neg h0, e1, if_pos hbig]
        rw [e1, e2]
        have hb2 : 1152921504606846976 - W < n - L := by omega
        clear e1 e2 h0 hle
        go_enter Try.func29, Try.ntmps29
        go_wp2_with fail
        go_ret
        exact ⟨rfl, grown_trans (grown_set _ _ _ _) (grown_set _ _ _ _), Ref_eq ((HH.out.set3 _).set4 _) (by omega) rfl⟩
      · have e2 : want n L W = W + (n - L) := by unfold want; rw [if_neg h0, e1, if_neg hbig]
        rw [e1, e2]
        have hb2 : n - L ≤ 1152921504606846976 - W := by omega
        clear e1 e2 h0 hle hbig
        go_enter Try.func29, Try.ntmps29
        go_wp2_with fail
        go_ret
        exact ⟨rfl, grown_trans (grown_set _ _ _ _) (grown_set _ _ _ _), Ref_eq ((HH.out.set3 _).set4 _) (by omega) (by omega)⟩

theorem fill_any (w : World) (b : Nat) (F F0 S L W n : Int) (h : Ref w b F F0 S L W) (hn : I64 n) (hL : 0 ≤ L ∧ L ≤ F) (hF : F ≤ 1152921504606846976) :
    Calls Try.prog 31 #[.pointer (some ⟨b, 0, none⟩), .int .i64 n] w fun e w' => e = .returned (.int .i64 (fill n F L)) ∧ w.grownBy w' (some b) ∧ Ref w' b F F0 S (L + fill n F L) W := by
  obtain ⟨c0, c1, c2, c3, c4, cf, hlt⟩ := h.cells
  obtain ⟨hn1, hn2⟩ := hn
  have HH := Lib.hid h
  clear h
  by_cases h0 : n < 1
  · have e1 : fill n F L = 0 := by unfold fill; rw [if_pos h0]
    rw [e1, Int.add_zero]
    go_enter Try.func31, Try.ntmps31
    go_wp2_with fail
    go_ret
    exact ⟨rfl, grown_refl _ _, HH.out⟩
  · have h1 : 1 ≤ n := by omega
    by_cases hle : n ≤ F - L
    · have e1 : fill n F L = n := by unfold fill; rw [if_neg h0, if_pos hle]
      rw [e1]
      clear e1 h0
      go_enter Try.func31, Try.ntmps31
      go_wp2_with fail
      all_goals go_quiet (fail)
      all_goals go_wp2_with fail
      all_goals go_ret
      all_goals exact ⟨rfl, grown_trans (show w.grownBy (w.drewN _) (some b) from ⟨rfl, rfl, rfl, Nat.le_refl _, fun _ _ _ => rfl⟩) (grown_set _ _ _ _), Ref.set3 (w := w.drewN _) HH.out _⟩
    · have e1 : fill n F L = F - L := by unfold fill; rw [if_neg h0, if_neg hle]
      have hlt2 : F - L < n := by omega
      rw [e1]
      clear e1 h0 hle
      go_enter Try.func31, Try.ntmps31
      go_wp2_with fail
      all_goals go_quiet (fail)
      all_goals go_wp2_with fail
      all_goals go_quiet (fail)
      all_goals go_wp2_with fail
      all_goals go_ret
      all_goals exact ⟨rfl, grown_trans (show w.grownBy (w.drewN _) (some b) from ⟨rfl, rfl, rfl, Nat.le_refl _, fun _ _ _ => rfl⟩) (grown_set _ _ _ _), Ref.set3 (w := w.drewN _) HH.out _⟩

theorem reading_any (w : World) (b : Nat) (F F0 S L W : Int) (h : Ref w b F F0 S L W) (hF : I64 F) (hS : I64 S) (hL : I64 L) :
    Calls Try.prog 35 #[.pointer (some ⟨b, 0, none⟩)] w fun e w' => e = .returned (.int .i64 (rd L S F)) ∧ Below w.heap.size w w' := by
  obtain ⟨c0, c1, c2, c3, c4, cf, hlt⟩ := h.cells
  have C := fun w => RefC.mdr_any L S F false w hL.1 hL.2 hS.1 hS.2 hF.1 hF.2
  unfold rd
  generalize (md L S F false).1 = x at *
  generalize (md L S F false).2 = y at *
  have C := Lib.hid C
  go_enter Try.func35, Try.ntmps35
  go_wp2_with fail
  go_region_held3 (fun w' => (w'.cell? ⟨b, 0, none⟩ = some (.int .i64 F) ∧ w'.cell? ⟨b, 2, none⟩ = some (.int .i64 S) ∧ w'.cell? ⟨b, 3, none⟩ = some (.int .i64 L)))
    (first
      | exact ⟨c0, c2, c3⟩
      | go_keep
      | (go_split_ands
         refine ⟨?_, ?_, ?_⟩ <;> exact keep' hb5 (by assumption)))
    (first
      | (go_at_call 40; refine (C.out _).mono ?_; rintro e1 w5 ⟨rfl, hb5⟩))
  go_wp2_with fail
  go_ret
  exact ⟨rfl, (show Below w.heap.size w w.drew from (Below.refl _ _).drew).trans hb5⟩
end Go.Proofs.Ytgifhcjbaljenaa.BatR
