/- valid.all over any function. -/
import Derived.Test.YtgkahcchekiogaaVfb
namespace Go.Proofs.Ytgkahcchekiogaa.Val
open Go.RowKit Base Kit Conf PowA Vfa Vfb
set_option linter.unusedVariables false
set_option linter.unusedSimpArgs false
set_option maxRecDepth 100000 in
theorem all1_proc (v0 : Int) (v1 : Int) (v2 : Int) (u0 : Int) (u1 : Int) (u2 : Int) (P : Int → Int → Int → Bool) (g : FuncId) (B : Nat) (w : World) (hen : ∀ args w, (callFunc g args).run Try.prog w = .ok (.enter g args) w) (hB : w.cell? ⟨B, 0, none⟩ = some (.func (.func g) #[] #[])) (hg : Hid (∀ (v0 : Int) (v1 : Int) (v2 : Int) wr, Calls Try.prog g #[.agg #[.int .i64 (v0), .int .i64 (v1), .int .i64 (v2)]] wr fun e w' => e = .returned (.bool (P v0 v1 v2)) ∧ Below wr.heap.size wr w')) :
    Calls Try.prog 134 #[.agg #[.int .i64 (v0), .int .i64 (v1), .int .i64 (v2)], .agg #[.int .i64 (u0), .int .i64 (u1), .int .i64 (u2)], .pointer (some ⟨B, 0, none⟩)] w fun e w' => e = .returned (.bool (P v0 v1 v2)) ∧ Below w.heap.size w w' := by
  have hlt := lt_of_cell hB
  obtain ⟨r, hr⟩ : ∃ r, P v0 v1 v2 = r := ⟨_, rfl⟩
  have C := fun wr => hg.out v0 v1 v2 wr
  rw [hr] at C ⊢
  have C := Lib.hid C
  clear hr
  go_enter Try.func134, Try.ntmps134
  go_wp2_with fail
  refine (C.out _).mono ?_
  rintro e1 w5 ⟨rfl, k5⟩
  have HB5 := Lib.hid ((((Below.refl w.heap.size w).alloc (Nat.le_refl _) (.cells #[.int .i64 (v0), .int .i64 (v1), .int .i64 (v2)] 102)).alloc (by simp) (.cells #[.int .i64 (u0), .int .i64 (u1), .int .i64 (u2)] 102)).trans (k5.mono (by simp; omega)))
  clear k5
  go_wp2_with fail
  go_ret
  exact ⟨rfl, HB5.out⟩
set_option maxRecDepth 100000 in
theorem all_proc (a : Option Addr) (n c most : Nat) (x0 : Nat → Int) (x1 : Nat → Int) (x2 : Nat → Int) (P : Int → Int → Int → Bool) (g : FuncId) (r : Bool) (w : World) (hrow : Hid (∀ k, k < n → ∃ b off, a = some ⟨b, off, none⟩ ∧ b < w.heap.size ∧ w.cell? ⟨b, off + k * 3, none⟩ = some (.int .i64 (x0 k)) ∧ w.cell? ⟨b, off + k * 3 + 1, none⟩ = some (.int .i64 (x1 k)) ∧ w.cell? ⟨b, off + k * 3 + 2, none⟩ = some (.int .i64 (x2 k)))) (hn63 : n ≤ 9223372036854775807) (hmo : most ≤ 1000) (hen : ∀ args w, (callFunc g args).run Try.prog w = .ok (.enter g args) w)
    (hg : Hid (∀ (v0 : Int) (v1 : Int) (v2 : Int) wr, Calls Try.prog g #[.agg #[.int .i64 (v0), .int .i64 (v1), .int .i64 (v2)]] wr fun e w' => e = .returned (.bool (P v0 v1 v2)) ∧ Below wr.heap.size wr w')) (hr : Hid (allB (fun k => P (x0 k) (x1 k) (x2 k)) n most = r)) :
    Calls Try.prog 82 #[.slice a n c, .int .i64 (most : Int), .func (.func g) #[] #[]] w fun e w' => e = .returned (.bool r) ∧ Below w.heap.size w w' := by
  have hr := hr.out
  unfold allB at hr
  by_cases hn : n ≤ most
  · have hn' : ((n : Nat) : Int) ≤ (most : Int) := by omega
    rw [show decide (n ≤ most) = true from by simpa using hn, Bool.true_and] at hr
    obtain ⟨z, hz⟩ : ∃ z, frI (fun k => P (x0 k) (x1 k) (x2 k)) n = z := ⟨_, rfl⟩
    have bx := Box.new w #[.func (.func g) #[] #[]] 137
    have C := Lib.hid (first_proc a n c x0 x1 x2 (fun k => P (x0 k) (x1 k) (x2 k)) 134 #[.pointer (some ⟨w.heap.size, 0, none⟩)] z (w.alloc (.cells #[.func (.func g) #[] #[]] 137)) (Lib.hid (fun k hk => by
      obtain ⟨b, off, ea, hb, c0, c1, c2⟩ := hrow.out k hk
      exact ⟨b, off, ea, by simp; omega, alloc_keep c0, alloc_keep c1, alloc_keep c2⟩)) (by omega) (fun args w => by go_simp) (Lib.hid (fun k wr hk hb _ => all1_proc (x0 k) (x1 k) (x2 k) (ahI x0 k) (ahI x1 k) (ahI x2 k) P g w.heap.size wr hen (keep hb (bx.cell 0) bx.lt) hg)) (Lib.hid hz))
    have zr : (z < 0 ∧ r = true) ∨ (0 ≤ z ∧ r = false) := by
      rw [← hz, ← hr]
      have := fb_le (fun k => P (x0 k) (x1 k) (x2 k)) n
      unfold frI
      by_cases e : fb (fun k => P (x0 k) (x1 k) (x2 k)) n < n
      · right; rw [if_pos e]; exact ⟨by omega, by simp; omega⟩
      · left; rw [if_neg e]; exact ⟨by omega, by simp; omega⟩
    clear hz hr bx hn
    rcases zr with ⟨hz, rfl⟩ | ⟨hz, rfl⟩
    all_goals
      go_enter Try.func82, Try.ntmps82
      go_wp2_with fail
      refine C.out.mono ?_
      rintro e1 w5 ⟨rfl, k5⟩
      have HB := Lib.hid (below_in _ k5)
      clear k5
      go_wp2_with fail
      go_ret
      refine ⟨ret_bool ?_, HB.out⟩
      first | rfl | (simp; done) | (simp; omega)
  · have hn' : (most : Int) < ((n : Nat) : Int) := by omega
    rw [show decide (n ≤ most) = false from by simpa using hn, Bool.false_and] at hr
    subst hr
    clear hn
    go_enter Try.func82, Try.ntmps82
    go_wp2_with fail
    first
      | go_ret
      | (refine ⟨fun _ h => (by cases h), ?_⟩; go_wp2; go_ret)
    refine ⟨ret_bool ?_, (Below.refl _ _).alloc (Nat.le_refl _) _⟩
    first | rfl | (simp; done) | (simp; omega)
set_option maxRecDepth 100000 in
theorem all1_port (v0 : Bool) (v1 : Bool) (v2 : Int) (v3 : Int) (u0 : Bool) (u1 : Bool) (u2 : Int) (u3 : Int) (P : Bool → Bool → Int → Int → Bool) (g : FuncId) (B : Nat) (w : World) (hen : ∀ args w, (callFunc g args).run Try.prog w = .ok (.enter g args) w) (hB : w.cell? ⟨B, 0, none⟩ = some (.func (.func g) #[] #[])) (hg : Hid (∀ (v0 : Bool) (v1 : Bool) (v2 : Int) (v3 : Int) wr, Calls Try.prog g #[.agg #[.bool (v0), .bool (v1), .int .i64 (v2), .int .i64 (v3)]] wr fun e w' => e = .returned (.bool (P v0 v1 v2 v3)) ∧ Below wr.heap.size wr w')) :
    Calls Try.prog 136 #[.agg #[.bool (v0), .bool (v1), .int .i64 (v2), .int .i64 (v3)], .agg #[.bool (u0), .bool (u1), .int .i64 (u2), .int .i64 (u3)], .pointer (some ⟨B, 0, none⟩)] w fun e w' => e = .returned (.bool (P v0 v1 v2 v3)) ∧ Below w.heap.size w w' := by
  have hlt := lt_of_cell hB
  obtain ⟨r, hr⟩ : ∃ r, P v0 v1 v2 v3 = r := ⟨_, rfl⟩
  have C := fun wr => hg.out v0 v1 v2 v3 wr
  rw [hr] at C ⊢
  have C := Lib.hid C
  clear hr
  go_enter Try.func136, Try.ntmps136
  go_wp2_with fail
  refine (C.out _).mono ?_
  rintro e1 w5 ⟨rfl, k5⟩
  have HB5 := Lib.hid ((((Below.refl w.heap.size w).alloc (Nat.le_refl _) (.cells #[.bool (v0), .bool (v1), .int .i64 (v2), .int .i64 (v3)] 140)).alloc (by simp) (.cells #[.bool (u0), .bool (u1), .int .i64 (u2), .int .i64 (u3)] 140)).trans (k5.mono (by simp; omega)))
  clear k5
  go_wp2_with fail
  go_ret
  exact ⟨rfl, HB5.out⟩
set_option maxRecDepth 100000 in
theorem all_port (a : Option Addr) (n c most : Nat) (x0 : Nat → Bool) (x1 : Nat → Bool) (x2 : Nat → Int) (x3 : Nat → Int) (P : Bool → Bool → Int → Int → Bool) (g : FuncId) (r : Bool) (w : World) (hrow : Hid (∀ k, k < n → ∃ b off, a = some ⟨b, off, none⟩ ∧ b < w.heap.size ∧ w.cell? ⟨b, off + k * 4, none⟩ = some (.bool (x0 k)) ∧ w.cell? ⟨b, off + k * 4 + 1, none⟩ = some (.bool (x1 k)) ∧ w.cell? ⟨b, off + k * 4 + 2, none⟩ = some (.int .i64 (x2 k)) ∧ w.cell? ⟨b, off + k * 4 + 3, none⟩ = some (.int .i64 (x3 k)))) (hn63 : n ≤ 9223372036854775807) (hmo : most ≤ 1000) (hen : ∀ args w, (callFunc g args).run Try.prog w = .ok (.enter g args) w)
    (hg : Hid (∀ (v0 : Bool) (v1 : Bool) (v2 : Int) (v3 : Int) wr, Calls Try.prog g #[.agg #[.bool (v0), .bool (v1), .int .i64 (v2), .int .i64 (v3)]] wr fun e w' => e = .returned (.bool (P v0 v1 v2 v3)) ∧ Below wr.heap.size wr w')) (hr : Hid (allB (fun k => P (x0 k) (x1 k) (x2 k) (x3 k)) n most = r)) :
    Calls Try.prog 84 #[.slice a n c, .int .i64 (most : Int), .func (.func g) #[] #[]] w fun e w' => e = .returned (.bool r) ∧ Below w.heap.size w w' := by
  have hr := hr.out
  unfold allB at hr
  by_cases hn : n ≤ most
  · have hn' : ((n : Nat) : Int) ≤ (most : Int) := by omega
    rw [show decide (n ≤ most) = true from by simpa using hn, Bool.true_and] at hr
    obtain ⟨z, hz⟩ : ∃ z, frI (fun k => P (x0 k) (x1 k) (x2 k) (x3 k)) n = z := ⟨_, rfl⟩
    have bx := Box.new w #[.func (.func g) #[] #[]] 141
    have C := Lib.hid (first_port a n c x0 x1 x2 x3 (fun k => P (x0 k) (x1 k) (x2 k) (x3 k)) 136 #[.pointer (some ⟨w.heap.size, 0, none⟩)] z (w.alloc (.cells #[.func (.func g) #[] #[]] 141)) (Lib.hid (fun k hk => by
      obtain ⟨b, off, ea, hb, c0, c1, c2, c3⟩ := hrow.out k hk
      exact ⟨b, off, ea, by simp; omega, alloc_keep c0, alloc_keep c1, alloc_keep c2, alloc_keep c3⟩)) (by omega) (fun args w => by go_simp) (Lib.hid (fun k wr hk hb _ => all1_port (x0 k) (x1 k) (x2 k) (x3 k) (ahB x0 k) (ahB x1 k) (ahI x2 k) (ahI x3 k) P g w.heap.size wr hen (keep hb (bx.cell 0) bx.lt) hg)) (Lib.hid hz))
    have zr : (z < 0 ∧ r = true) ∨ (0 ≤ z ∧ r = false) := by
      rw [← hz, ← hr]
      have := fb_le (fun k => P (x0 k) (x1 k) (x2 k) (x3 k)) n
      unfold frI
      by_cases e : fb (fun k => P (x0 k) (x1 k) (x2 k) (x3 k)) n < n
      · right; rw [if_pos e]; exact ⟨by omega, by simp; omega⟩
      · left; rw [if_neg e]; exact ⟨by omega, by simp; omega⟩
    clear hz hr bx hn
    rcases zr with ⟨hz, rfl⟩ | ⟨hz, rfl⟩
    all_goals
      go_enter Try.func84, Try.ntmps84
      go_wp2_with fail
      refine C.out.mono ?_
      rintro e1 w5 ⟨rfl, k5⟩
      have HB := Lib.hid (below_in _ k5)
      clear k5
      go_wp2_with fail
      go_ret
      refine ⟨ret_bool ?_, HB.out⟩
      first | rfl | (simp; done) | (simp; omega)
  · have hn' : (most : Int) < ((n : Nat) : Int) := by omega
    rw [show decide (n ≤ most) = false from by simpa using hn, Bool.false_and] at hr
    subst hr
    clear hn
    go_enter Try.func84, Try.ntmps84
    go_wp2_with fail
    first
      | go_ret
      | (refine ⟨fun _ h => (by cases h), ?_⟩; go_wp2; go_ret)
    refine ⟨ret_bool ?_, (Below.refl _ _).alloc (Nat.le_refl _) _⟩
    first | rfl | (simp; done) | (simp; omega)
set_option maxRecDepth 100000 in
theorem all1_sem (v0 : Int) (v1 : Int) (u0 : Int) (u1 : Int) (P : Int → Int → Bool) (g : FuncId) (B : Nat) (w : World) (hen : ∀ args w, (callFunc g args).run Try.prog w = .ok (.enter g args) w) (hB : w.cell? ⟨B, 0, none⟩ = some (.func (.func g) #[] #[])) (hg : Hid (∀ (v0 : Int) (v1 : Int) wr, Calls Try.prog g #[.agg #[.int .i64 (v0), .int .i64 (v1)]] wr fun e w' => e = .returned (.bool (P v0 v1)) ∧ Below wr.heap.size wr w')) :
    Calls Try.prog 162 #[.agg #[.int .i64 (v0), .int .i64 (v1)], .agg #[.int .i64 (u0), .int .i64 (u1)], .pointer (some ⟨B, 0, none⟩)] w fun e w' => e = .returned (.bool (P v0 v1)) ∧ Below w.heap.size w w' := by
  have hlt := lt_of_cell hB
  obtain ⟨r, hr⟩ : ∃ r, P v0 v1 = r := ⟨_, rfl⟩
  have C := fun wr => hg.out v0 v1 wr
  rw [hr] at C ⊢
  have C := Lib.hid C
  clear hr
  go_enter Try.func162, Try.ntmps162
  go_wp2_with fail
  refine (C.out _).mono ?_
  rintro e1 w5 ⟨rfl, k5⟩
  have HB5 := Lib.hid ((((Below.refl w.heap.size w).alloc (Nat.le_refl _) (.cells #[.int .i64 (v0), .int .i64 (v1)] 201)).alloc (by simp) (.cells #[.int .i64 (u0), .int .i64 (u1)] 201)).trans (k5.mono (by simp; omega)))
  clear k5
  go_wp2_with fail
  go_ret
  exact ⟨rfl, HB5.out⟩
set_option maxRecDepth 100000 in
theorem all_sem (a : Option Addr) (n c most : Nat) (x0 : Nat → Int) (x1 : Nat → Int) (P : Int → Int → Bool) (g : FuncId) (r : Bool) (w : World) (hrow : Hid (∀ k, k < n → ∃ b off, a = some ⟨b, off, none⟩ ∧ b < w.heap.size ∧ w.cell? ⟨b, off + k * 2, none⟩ = some (.int .i64 (x0 k)) ∧ w.cell? ⟨b, off + k * 2 + 1, none⟩ = some (.int .i64 (x1 k)))) (hn63 : n ≤ 9223372036854775807) (hmo : most ≤ 1000) (hen : ∀ args w, (callFunc g args).run Try.prog w = .ok (.enter g args) w)
    (hg : Hid (∀ (v0 : Int) (v1 : Int) wr, Calls Try.prog g #[.agg #[.int .i64 (v0), .int .i64 (v1)]] wr fun e w' => e = .returned (.bool (P v0 v1)) ∧ Below wr.heap.size wr w')) (hr : Hid (allB (fun k => P (x0 k) (x1 k)) n most = r)) :
    Calls Try.prog 140 #[.slice a n c, .int .i64 (most : Int), .func (.func g) #[] #[]] w fun e w' => e = .returned (.bool r) ∧ Below w.heap.size w w' := by
  have hr := hr.out
  unfold allB at hr
  by_cases hn : n ≤ most
  · have hn' : ((n : Nat) : Int) ≤ (most : Int) := by omega
    rw [show decide (n ≤ most) = true from by simpa using hn, Bool.true_and] at hr
    obtain ⟨z, hz⟩ : ∃ z, frI (fun k => P (x0 k) (x1 k)) n = z := ⟨_, rfl⟩
    have bx := Box.new w #[.func (.func g) #[] #[]] 202
    have C := Lib.hid (first_sem a n c x0 x1 (fun k => P (x0 k) (x1 k)) 162 #[.pointer (some ⟨w.heap.size, 0, none⟩)] z (w.alloc (.cells #[.func (.func g) #[] #[]] 202)) (Lib.hid (fun k hk => by
      obtain ⟨b, off, ea, hb, c0, c1⟩ := hrow.out k hk
      exact ⟨b, off, ea, by simp; omega, alloc_keep c0, alloc_keep c1⟩)) (by omega) (fun args w => by go_simp) (Lib.hid (fun k wr hk hb _ => all1_sem (x0 k) (x1 k) (ahI x0 k) (ahI x1 k) P g w.heap.size wr hen (keep hb (bx.cell 0) bx.lt) hg)) (Lib.hid hz))
    have zr : (z < 0 ∧ r = true) ∨ (0 ≤ z ∧ r = false) := by
      rw [← hz, ← hr]
      have := fb_le (fun k => P (x0 k) (x1 k)) n
      unfold frI
      by_cases e : fb (fun k => P (x0 k) (x1 k)) n < n
      · right; rw [if_pos e]; exact ⟨by omega, by simp; omega⟩
      · left; rw [if_neg e]; exact ⟨by omega, by simp; omega⟩
    clear hz hr bx hn
    rcases zr with ⟨hz, rfl⟩ | ⟨hz, rfl⟩
    all_goals
      go_enter Try.func140, Try.ntmps140
      go_wp2_with fail
      refine C.out.mono ?_
      rintro e1 w5 ⟨rfl, k5⟩
      have HB := Lib.hid (below_in _ k5)
      clear k5
      go_wp2_with fail
      go_ret
      refine ⟨ret_bool ?_, HB.out⟩
      first | rfl | (simp; done) | (simp; omega)
  · have hn' : (most : Int) < ((n : Nat) : Int) := by omega
    rw [show decide (n ≤ most) = false from by simpa using hn, Bool.false_and] at hr
    subst hr
    clear hn
    go_enter Try.func140, Try.ntmps140
    go_wp2_with fail
    first
      | go_ret
      | (refine ⟨fun _ h => (by cases h), ?_⟩; go_wp2; go_ret)
    refine ⟨ret_bool ?_, (Below.refl _ _).alloc (Nat.le_refl _) _⟩
    first | rfl | (simp; done) | (simp; omega)
set_option maxRecDepth 100000 in
theorem all1_pool (v0 : Int) (v1 : Int) (u0 : Int) (u1 : Int) (P : Int → Int → Bool) (g : FuncId) (B : Nat) (w : World) (hen : ∀ args w, (callFunc g args).run Try.prog w = .ok (.enter g args) w) (hB : w.cell? ⟨B, 0, none⟩ = some (.func (.func g) #[] #[])) (hg : Hid (∀ (v0 : Int) (v1 : Int) wr, Calls Try.prog g #[.agg #[.int .i64 (v0), .int .i64 (v1)]] wr fun e w' => e = .returned (.bool (P v0 v1)) ∧ Below wr.heap.size wr w')) :
    Calls Try.prog 164 #[.agg #[.int .i64 (v0), .int .i64 (v1)], .agg #[.int .i64 (u0), .int .i64 (u1)], .pointer (some ⟨B, 0, none⟩)] w fun e w' => e = .returned (.bool (P v0 v1)) ∧ Below w.heap.size w w' := by
  have hlt := lt_of_cell hB
  obtain ⟨r, hr⟩ : ∃ r, P v0 v1 = r := ⟨_, rfl⟩
  have C := fun wr => hg.out v0 v1 wr
  rw [hr] at C ⊢
  have C := Lib.hid C
  clear hr
  go_enter Try.func164, Try.ntmps164
  go_wp2_with fail
  refine (C.out _).mono ?_
  rintro e1 w5 ⟨rfl, k5⟩
  have HB5 := Lib.hid ((((Below.refl w.heap.size w).alloc (Nat.le_refl _) (.cells #[.int .i64 (v0), .int .i64 (v1)] 204)).alloc (by simp) (.cells #[.int .i64 (u0), .int .i64 (u1)] 204)).trans (k5.mono (by simp; omega)))
  clear k5
  go_wp2_with fail
  go_ret
  exact ⟨rfl, HB5.out⟩
set_option maxRecDepth 100000 in
theorem all_pool (a : Option Addr) (n c most : Nat) (x0 : Nat → Int) (x1 : Nat → Int) (P : Int → Int → Bool) (g : FuncId) (r : Bool) (w : World) (hrow : Hid (∀ k, k < n → ∃ b off, a = some ⟨b, off, none⟩ ∧ b < w.heap.size ∧ w.cell? ⟨b, off + k * 2, none⟩ = some (.int .i64 (x0 k)) ∧ w.cell? ⟨b, off + k * 2 + 1, none⟩ = some (.int .i64 (x1 k)))) (hn63 : n ≤ 9223372036854775807) (hmo : most ≤ 1000) (hen : ∀ args w, (callFunc g args).run Try.prog w = .ok (.enter g args) w)
    (hg : Hid (∀ (v0 : Int) (v1 : Int) wr, Calls Try.prog g #[.agg #[.int .i64 (v0), .int .i64 (v1)]] wr fun e w' => e = .returned (.bool (P v0 v1)) ∧ Below wr.heap.size wr w')) (hr : Hid (allB (fun k => P (x0 k) (x1 k)) n most = r)) :
    Calls Try.prog 141 #[.slice a n c, .int .i64 (most : Int), .func (.func g) #[] #[]] w fun e w' => e = .returned (.bool r) ∧ Below w.heap.size w w' := by
  have hr := hr.out
  unfold allB at hr
  by_cases hn : n ≤ most
  · have hn' : ((n : Nat) : Int) ≤ (most : Int) := by omega
    rw [show decide (n ≤ most) = true from by simpa using hn, Bool.true_and] at hr
    obtain ⟨z, hz⟩ : ∃ z, frI (fun k => P (x0 k) (x1 k)) n = z := ⟨_, rfl⟩
    have bx := Box.new w #[.func (.func g) #[] #[]] 205
    have C := Lib.hid (first_pool a n c x0 x1 (fun k => P (x0 k) (x1 k)) 164 #[.pointer (some ⟨w.heap.size, 0, none⟩)] z (w.alloc (.cells #[.func (.func g) #[] #[]] 205)) (Lib.hid (fun k hk => by
      obtain ⟨b, off, ea, hb, c0, c1⟩ := hrow.out k hk
      exact ⟨b, off, ea, by simp; omega, alloc_keep c0, alloc_keep c1⟩)) (by omega) (fun args w => by go_simp) (Lib.hid (fun k wr hk hb _ => all1_pool (x0 k) (x1 k) (ahI x0 k) (ahI x1 k) P g w.heap.size wr hen (keep hb (bx.cell 0) bx.lt) hg)) (Lib.hid hz))
    have zr : (z < 0 ∧ r = true) ∨ (0 ≤ z ∧ r = false) := by
      rw [← hz, ← hr]
      have := fb_le (fun k => P (x0 k) (x1 k)) n
      unfold frI
      by_cases e : fb (fun k => P (x0 k) (x1 k)) n < n
      · right; rw [if_pos e]; exact ⟨by omega, by simp; omega⟩
      · left; rw [if_neg e]; exact ⟨by omega, by simp; omega⟩
    clear hz hr bx hn
    rcases zr with ⟨hz, rfl⟩ | ⟨hz, rfl⟩
    all_goals
      go_enter Try.func141, Try.ntmps141
      go_wp2_with fail
      refine C.out.mono ?_
      rintro e1 w5 ⟨rfl, k5⟩
      have HB := Lib.hid (below_in _ k5)
      clear k5
      go_wp2_with fail
      go_ret
      refine ⟨ret_bool ?_, HB.out⟩
      first | rfl | (simp; done) | (simp; omega)
  · have hn' : (most : Int) < ((n : Nat) : Int) := by omega
    rw [show decide (n ≤ most) = false from by simpa using hn, Bool.false_and] at hr
    subst hr
    clear hn
    go_enter Try.func141, Try.ntmps141
    go_wp2_with fail
    first
      | go_ret
      | (refine ⟨fun _ h => (by cases h), ?_⟩; go_wp2; go_ret)
    refine ⟨ret_bool ?_, (Below.refl _ _).alloc (Nat.le_refl _) _⟩
    first | rfl | (simp; done) | (simp; omega)
set_option maxRecDepth 100000 in
theorem all1_num (v0 : Int) (u0 : Int) (P : Int → Bool) (g : FuncId) (B : Nat) (w : World) (hen : ∀ args w, (callFunc g args).run Try.prog w = .ok (.enter g args) w) (hB : w.cell? ⟨B, 0, none⟩ = some (.func (.func g) #[] #[])) (hg : Hid (∀ (v0 : Int) wr, Calls Try.prog g #[.int .i64 (v0)] wr fun e w' => e = .returned (.bool (P v0)) ∧ Below wr.heap.size wr w')) :
    Calls Try.prog 143 #[.int .i64 (v0), .int .i64 (u0), .pointer (some ⟨B, 0, none⟩)] w fun e w' => e = .returned (.bool (P v0)) ∧ Below w.heap.size w w' := by
  have hlt := lt_of_cell hB
  obtain ⟨r, hr⟩ : ∃ r, P v0 = r := ⟨_, rfl⟩
  have C := fun wr => hg.out v0 wr
  rw [hr] at C ⊢
  have C := Lib.hid C
  clear hr
  go_enter Try.func143, Try.ntmps143
  go_wp2_with fail
  refine (C.out _).mono ?_
  rintro e1 w5 ⟨rfl, k5⟩
  have HB5 := Lib.hid k5
  clear k5
  go_wp2_with fail
  go_ret
  exact ⟨rfl, HB5.out⟩
set_option maxRecDepth 100000 in
theorem all_num (a : Option Addr) (n c most : Nat) (x0 : Nat → Int) (P : Int → Bool) (g : FuncId) (r : Bool) (w : World) (hrow : Hid (∀ k, k < n → ∃ b off, a = some ⟨b, off, none⟩ ∧ b < w.heap.size ∧ w.cell? ⟨b, off + k, none⟩ = some (.int .i64 (x0 k)))) (hn63 : n ≤ 9223372036854775807) (hmo : most ≤ 1000) (hen : ∀ args w, (callFunc g args).run Try.prog w = .ok (.enter g args) w)
    (hg : Hid (∀ (v0 : Int) wr, Calls Try.prog g #[.int .i64 (v0)] wr fun e w' => e = .returned (.bool (P v0)) ∧ Below wr.heap.size wr w')) (hr : Hid (allB (fun k => P (x0 k)) n most = r)) :
    Calls Try.prog 87 #[.slice a n c, .int .i64 (most : Int), .func (.func g) #[] #[]] w fun e w' => e = .returned (.bool r) ∧ Below w.heap.size w w' := by
  have hr := hr.out
  unfold allB at hr
  by_cases hn : n ≤ most
  · have hn' : ((n : Nat) : Int) ≤ (most : Int) := by omega
    rw [show decide (n ≤ most) = true from by simpa using hn, Bool.true_and] at hr
    obtain ⟨z, hz⟩ : ∃ z, frI (fun k => P (x0 k)) n = z := ⟨_, rfl⟩
    have bx := Box.new w #[.func (.func g) #[] #[]] 143
    have C := Lib.hid (first_num a n c x0 (fun k => P (x0 k)) 143 #[.pointer (some ⟨w.heap.size, 0, none⟩)] z (w.alloc (.cells #[.func (.func g) #[] #[]] 143)) (Lib.hid (fun k hk => by
      obtain ⟨b, off, ea, hb, c0⟩ := hrow.out k hk
      exact ⟨b, off, ea, by simp; omega, alloc_keep c0⟩)) (by omega) (fun args w => by go_simp) (Lib.hid (fun k wr hk hb _ => all1_num (x0 k) (ahI x0 k) P g w.heap.size wr hen (keep hb (bx.cell 0) bx.lt) hg)) (Lib.hid hz))
    have zr : (z < 0 ∧ r = true) ∨ (0 ≤ z ∧ r = false) := by
      rw [← hz, ← hr]
      have := fb_le (fun k => P (x0 k)) n
      unfold frI
      by_cases e : fb (fun k => P (x0 k)) n < n
      · right; rw [if_pos e]; exact ⟨by omega, by simp; omega⟩
      · left; rw [if_neg e]; exact ⟨by omega, by simp; omega⟩
    clear hz hr bx hn
    rcases zr with ⟨hz, rfl⟩ | ⟨hz, rfl⟩
    all_goals
      go_enter Try.func87, Try.ntmps87
      go_wp2_with fail
      refine C.out.mono ?_
      rintro e1 w5 ⟨rfl, k5⟩
      have HB := Lib.hid (below_in _ k5)
      clear k5
      go_wp2_with fail
      go_ret
      refine ⟨ret_bool ?_, HB.out⟩
      first | rfl | (simp; done) | (simp; omega)
  · have hn' : (most : Int) < ((n : Nat) : Int) := by omega
    rw [show decide (n ≤ most) = false from by simpa using hn, Bool.false_and] at hr
    subst hr
    clear hn
    go_enter Try.func87, Try.ntmps87
    go_wp2_with fail
    first
      | go_ret
      | (refine ⟨fun _ h => (by cases h), ?_⟩; go_wp2; go_ret)
    refine ⟨ret_bool ?_, (Below.refl _ _).alloc (Nat.le_refl _) _⟩
    first | rfl | (simp; done) | (simp; omega)
end Go.Proofs.Ytgkahcchekiogaa.Val
