/- Walks of package battery. -/
import Derived.Test.YtgifhcjbaljenaaRefC
import Derived.WalkLawsBesides
import Derived.BigQuiet
import Derived.Deep.QuietTactic
import Derived.Deep.RegionHeld3
namespace Go.Proofs.Ytgifhcjbaljenaa.BatA
open Go.RowKit Base WideA WideB
set_option linter.unusedVariables false
set_option linter.unusedSimpArgs false

/-- a battery in memory -/
def Bat (w : World) (b : Nat) (F F0 S L W : Int) : Prop :=
  w.heap[b]? = some (.cells #[.int .i64 F, .int .i64 F0, .int .i64 S, .int .i64 L, .int .i64 W, .bool true] 60 (0, 0))
theorem Bat.cells {w : World} {b : Nat} {F F0 S L W : Int} (h : Bat w b F F0 S L W) :
    w.cell? ⟨b, 0, none⟩ = some (.int .i64 F) ∧ w.cell? ⟨b, 1, none⟩ = some (.int .i64 F0) ∧ w.cell? ⟨b, 2, none⟩ = some (.int .i64 S) ∧ w.cell? ⟨b, 3, none⟩ = some (.int .i64 L) ∧ w.cell? ⟨b, 4, none⟩ = some (.int .i64 W) ∧ w.cell? ⟨b, 5, none⟩ = some (.bool true) ∧ (∀ o, w.frozen? ⟨b, o, none⟩ = false) ∧ b < w.heap.size := by
  unfold Bat at h
  refine ⟨by simp [World.cell?, h], by simp [World.cell?, h], by simp [World.cell?, h], by simp [World.cell?, h], by simp [World.cell?, h], by simp [World.cell?, h], fun o => by simp [World.frozen?, h], ?_⟩
  exact (Array.getElem?_eq_some_iff.1 h).1

theorem keep' {W w1 : World} (hb : Below W.heap.size W w1) {a : Addr} {v : Value} (h : W.cell? a = some v) : w1.cell? a = some v := keep hb h (lt_of_cell h)

theorem dead_any (w : World) (b : Nat) (c5 : w.cell? ⟨b, 5, none⟩ = some (.bool true)) :
    Calls Try.prog 46 #[.pointer (some ⟨b, 0, none⟩)] w fun e w' => e = .returned (.bool false) ∧ w = w' := by
  go_enter Try.func46, Try.ntmps46
  go_wp2
  go_ret
  exact ⟨rfl, rfl⟩

theorem level_any (w : World) (b : Nat) (F F0 S L W : Int) (h : Bat w b F F0 S L W) :
    Calls Try.prog 32 #[.pointer (some ⟨b, 0, none⟩)] w fun e w' => e = .returned (.int .i64 L) ∧ w = w' := by
  obtain ⟨c0, c1, c2, c3, c4, c5, cf, hlt⟩ := h.cells
  have D := Lib.hid (fun w c5 => dead_any w b c5)
  go_enter Try.func32, Try.ntmps32
  go_wp2_with fail
  refine (D.out _ c5).mono ?_
  rintro e w' ⟨rfl, rfl⟩
  go_wp2_with fail
  go_ret
  exact ⟨rfl, rfl⟩
theorem empty_any (w : World) (b : Nat) (F F0 S L W : Int) (h : Bat w b F F0 S L W) :
    Calls Try.prog 33 #[.pointer (some ⟨b, 0, none⟩)] w fun e w' => e = .returned (.int .i64 W) ∧ w = w' := by
  obtain ⟨c0, c1, c2, c3, c4, c5, cf, hlt⟩ := h.cells
  have D := Lib.hid (fun w c5 => dead_any w b c5)
  go_enter Try.func33, Try.ntmps33
  go_wp2_with fail
  refine (D.out _ c5).mono ?_
  rintro e w' ⟨rfl, rfl⟩
  go_wp2_with fail
  go_ret
  exact ⟨rfl, rfl⟩

def I64 (a : Int) : Prop := -9223372036854775808 ≤ a ∧ a ≤ 9223372036854775807
/-- what is got, and what is wanted behind it -/
def got (n L : Int) : Int := if n < 1 then 0 else if n ≤ L then n else L
def want (n L W : Int) : Int := if n < 1 then W else if 1152921504606846976 < W + (n - got n L) then 1152921504606846976 else W + (n - got n L)

theorem grown_set (w : World) (b i : Nat) (v : Value) : w.grownBy (w.setCell ⟨b, i, none⟩ v) (some b) :=
  ⟨rfl, rfl, rfl, by simp [World.setCell], fun k hk hne => Below.heap_setCell _ _ _ _ (fun e => hne (by rw [e]))⟩
theorem grown_trans {a b c : World} {row : Option Nat} (h : a.grownBy b row) (k : b.grownBy c row) : a.grownBy c row :=
  ⟨k.os.trans h.os, k.tape.trans h.tape, k.output.trans h.output, Nat.le_trans h.size k.size, fun i hi hne => (k.block i (Nat.lt_of_lt_of_le hi h.size) hne).trans (h.block i hi hne)⟩
theorem grown_refl (w : World) (row : Option Nat) : w.grownBy w row := ⟨rfl, rfl, rfl, Nat.le_refl _, fun _ _ _ => rfl⟩

theorem Bat.set3 {w : World} {b : Nat} {F F0 S L W : Int} (h : Bat w b F F0 S L W) (L' : Int) : Bat (w.setCell ⟨b, 3, none⟩ (.int .i64 L')) b F F0 S L' W := by
  have h1 := heap_setCell_same w b 3 _ _ (.int .i64 L') h
  unfold Bat; rw [h1]; rfl
theorem Bat.set4 {w : World} {b : Nat} {F F0 S L W : Int} (h : Bat w b F F0 S L W) (W' : Int) : Bat (w.setCell ⟨b, 4, none⟩ (.int .i64 W')) b F F0 S L W' := by
  have h1 := heap_setCell_same w b 4 _ _ (.int .i64 W') h
  unfold Bat; rw [h1]; rfl

theorem Bat_eq {w : World} {b : Nat} {F F0 S L W L' W' : Int} (h : Bat w b F F0 S L W) (e1 : L = L') (e2 : W = W') : Bat w b F F0 S L' W' := by subst e1 e2; exact h

theorem take_any (w : World) (b : Nat) (F F0 S L W n : Int) (h : Bat w b F F0 S L W) (hn : I64 n) (hL : 0 ≤ L ∧ L ≤ 1152921504606846976) (hW : 0 ≤ W ∧ W ≤ 1152921504606846976) :
    Calls Try.prog 28 #[.pointer (some ⟨b, 0, none⟩), .int .i64 n] w fun e w' => e = .returned (.int .i64 (got n L)) ∧ w.grownBy w' (some b) ∧ Bat w' b F F0 S (L - got n L) (want n L W) := by
  obtain ⟨c0, c1, c2, c3, c4, c5, cf, hlt⟩ := h.cells
  have D := Lib.hid (fun w c5 => dead_any w b c5)
  obtain ⟨hn1, hn2⟩ := hn
  have HH := Lib.hid h
  clear h
  by_cases h0 : n < 1
  · have e1 : got n L = 0 := by unfold got; rw [if_pos h0]
    have e2 : want n L W = W := by unfold want; rw [if_pos h0]
    rw [e1, e2, Int.sub_zero]
    go_enter Try.func28, Try.ntmps28
    go_wp2_with fail
    refine (D.out _ c5).mono ?_
    rintro e w' ⟨rfl, rfl⟩
    go_wp2_with fail
    go_ret
    exact ⟨rfl, grown_refl _ _, HH.out⟩
  · have h1 : 1 ≤ n := by omega
    by_cases hle : n ≤ L
    · have e1 : got n L = n := by unfold got; rw [if_neg h0, if_pos hle]
      have e2 : want n L W = W := by unfold want; rw [if_neg h0, e1, if_neg (by omega)]; omega
      rw [e1, e2]
      have C := fun w => sat_any W 0 w (by omega) (by omega) (by omega) (by omega)
      rw [show satI W 0 = W from by unfold satI; rw [if_neg (by omega), if_neg (by omega)]; omega] at C
      have C := Lib.hid C
      clear e1 e2 h0
      go_enter Try.func28, Try.ntmps28
      go_wp2_with fail
      refine (D.out _ c5).mono ?_
      rintro e w' ⟨rfl, rfl⟩
      go_wp2_with fail
      all_goals
        refine (C.out _).mono ?_
        rintro e w1 ⟨rfl, rfl⟩
        go_wp2_with fail
        all_goals
          go_ret
          exact ⟨rfl, grown_trans (grown_set _ _ _ _) (grown_set _ _ _ _), Bat_eq ((HH.out.set3 _).set4 _) (by omega) (by omega)⟩
    · have hlt2 : L < n := by omega
      have e1 : got n L = L := by unfold got; rw [if_neg h0, if_neg hle]
      have C := fun w => sat_any W (n - L) w (by omega) (by omega) (by omega) (by omega)
      obtain ⟨t, ht⟩ : ∃ t, satI W (n - L) = t := ⟨_, rfl⟩
      rw [ht] at C
      have e2 : want n L W = if 1152921504606846976 < t then 1152921504606846976 else t := by
        unfold want; rw [if_neg h0, e1, ← ht]; unfold satI; (repeat' split) <;> omega
      have tb : 0 ≤ t := by rw [← ht]; unfold satI; (repeat' split) <;> omega
      have E2 := Lib.hid e2
      rw [e1]
      have C := Lib.hid C
      clear e1 e2 h0 ht hle
      go_enter Try.func28, Try.ntmps28
      go_wp2_with fail
      refine (D.out _ c5).mono ?_
      rintro e w' ⟨rfl, rfl⟩
      go_wp2_with fail
      all_goals
        refine (C.out _).mono ?_
        rintro e w1 ⟨rfl, rfl⟩
        go_wp2_with fail
        all_goals
          go_ret
          exact ⟨ret_int (by omega), grown_trans (grown_set _ _ _ _) (grown_set _ _ _ _), Bat_eq ((HH.out.set3 _).set4 _) (by omega) (by rw [E2.out]; (repeat' split) <;> omega)⟩

def fill (n F L : Int) : Int := if n < 1 then 0 else if n ≤ F - L then n else F - L
theorem fill_any (w : World) (b : Nat) (F F0 S L W n : Int) (h : Bat w b F F0 S L W) (hn : I64 n) (hL : 0 ≤ L ∧ L ≤ F) (hF : F ≤ 1152921504606846976) :
    Calls Try.prog 30 #[.pointer (some ⟨b, 0, none⟩), .int .i64 n] w fun e w' => e = .returned (.int .i64 (fill n F L)) ∧ w.grownBy w' (some b) ∧ Bat w' b F F0 S (L + fill n F L) W := by
  obtain ⟨c0, c1, c2, c3, c4, c5, cf, hlt⟩ := h.cells
  have D := Lib.hid (fun w c5 => dead_any w b c5)
  obtain ⟨hn1, hn2⟩ := hn
  have HH := Lib.hid h
  clear h
  by_cases h0 : n < 1
  · have e1 : fill n F L = 0 := by unfold fill; rw [if_pos h0]
    rw [e1, Int.add_zero]
    go_enter Try.func30, Try.ntmps30
    go_wp2_with fail
    refine (D.out _ c5).mono ?_
    rintro e w' ⟨rfl, rfl⟩
    go_wp2_with fail
    go_ret
    exact ⟨rfl, grown_refl _ _, HH.out⟩
  · have h1 : 1 ≤ n := by omega
    obtain ⟨g, hg⟩ : ∃ g, fill n F L = g := ⟨_, rfl⟩
    rw [hg]
    have E1 := Lib.hid (show (if F - L < n then F - L else n) = g by rw [← hg]; unfold fill; rw [if_neg h0]; (repeat' split) <;> omega)
    have hg3 : 0 ≤ g ∧ g ≤ F - L := by rw [← E1.out]; split <;> omega
    clear hg h0
    go_enter Try.func30, Try.ntmps30
    go_wp2_with fail
    refine (D.out _ c5).mono ?_
    rintro e w' ⟨rfl, rfl⟩
    go_wp2_with fail
    go_quiet (fail)
    simp only [E1.out]
    clear E1
    go_wp2_with fail
    go_ret
    exact ⟨rfl, grown_trans (show w.grownBy (w.drewN nq) (some b) from ⟨rfl, rfl, rfl, Nat.le_refl _, fun _ _ _ => rfl⟩) (grown_set _ _ _ _), Bat.set3 (w := w.drewN nq) HH.out _⟩

/-- what is read of a level -/
def rd (L S F : Int) : Int := (md L S F false).1

theorem reads_any (w : World) (F F0 S L : Int) (hF : I64 F) (hS : I64 S) (hL : I64 L) :
    Calls Try.prog 48 #[.agg #[.int .i64 F, .int .i64 F0, .int .i64 S], .int .i64 L] w fun e w' => e = .returned (.int .i64 (rd L S F)) ∧ Below w.heap.size w w' := by
  have C := fun w => md_any L S F false w hL.1 hL.2 hS.1 hS.2 hF.1 hF.2
  unfold rd
  generalize (md L S F false).1 = x at *
  generalize (md L S F false).2 = y at *
  have C := Lib.hid C
  go_enter Try.func48, Try.ntmps48
  go_wp2_with fail
  refine (C.out _).mono ?_
  rintro e w1 ⟨rfl, hb1⟩
  go_wp2_with fail
  go_ret
  exact ⟨rfl, ((Below.refl _ _).alloc (Nat.le_refl _) _).trans (hb1.mono (by simp))⟩

theorem reading_any (w : World) (b : Nat) (F F0 S L W : Int) (h : Bat w b F F0 S L W) (hF : I64 F) (hS : I64 S) (hL : I64 L) :
    Calls Try.prog 34 #[.pointer (some ⟨b, 0, none⟩)] w fun e w' => e = .returned (.int .i64 (rd L S F)) ∧ Below w.heap.size w w' := by
  obtain ⟨c0, c1, c2, c3, c4, c5, cf, hlt⟩ := h.cells
  have D := Lib.hid (fun w c5 => dead_any w b c5)
  have C := Lib.hid (fun w => reads_any w F F0 S L hF hS hL)
  go_enter Try.func34, Try.ntmps34
  go_wp2_with fail
  refine (D.out _ c5).mono ?_
  rintro e w' ⟨rfl, rfl⟩
  go_wp2_with fail
  go_region_held3 (fun w' => (w'.cell? ⟨b, 0, none⟩ = some (.int .i64 F) ∧ w'.cell? ⟨b, 1, none⟩ = some (.int .i64 F0) ∧ w'.cell? ⟨b, 2, none⟩ = some (.int .i64 S) ∧ w'.cell? ⟨b, 3, none⟩ = some (.int .i64 L)))
    (first
      | exact ⟨c0, c1, c2, c3⟩
      | go_keep
      | (go_split_ands
         refine ⟨?_, ?_, ?_, ?_⟩ <;> exact keep' hb5 (by assumption)))
    (first
      | (go_at_call 48; refine (C.out _).mono ?_; rintro e1 w5 ⟨rfl, hb5⟩))
  go_wp2_with fail
  go_ret
  exact ⟨rfl, (show Below w.heap.size w w.drew from (Below.refl _ _).drew).trans hb5⟩

end Go.Proofs.Ytgifhcjbaljenaa.BatA
