import Derived.Test.YtlafeijkpnpdeaaGreatMg13
import Derived.Test.YtlafeijkpnpdeaaGreatMg11

/- valid.all over any function. -/
namespace Go.Proofs.YtlafeijkpnpdeaaGreat.Val
open Go.RowKit Base Kit Conf PowA Vfa Vfb
set_option linter.unusedVariables false
set_option linter.unusedSimpArgs false
set_option maxRecDepth 100000 in
theorem all1_proc (v0 : Int) (v1 : Int) (v2 : Int) (u0 : Int) (u1 : Int) (u2 : Int) (P : Int → Int → Int → Bool) (g : FuncId) (B : Nat) (w : World) (hen : ∀ args w, (callFunc g args).run Tryz.prog w = .ok (.enter g args) w) (hB : w.cell? ⟨B, 0, none⟩ = some (.func (.func g) #[] #[])) (hg : Hid (∀ (v0 : Int) (v1 : Int) (v2 : Int) wr, Calls Tryz.prog g #[.agg #[.int .i64 (v0), .int .i64 (v1), .int .i64 (v2)]] wr fun e w' => e = .returned (.bool (P v0 v1 v2)) ∧ Below wr.heap.size wr w')) :
    Calls Tryz.prog 107 #[.agg #[.int .i64 (v0), .int .i64 (v1), .int .i64 (v2)], .agg #[.int .i64 (u0), .int .i64 (u1), .int .i64 (u2)], .pointer (some ⟨B, 0, none⟩)] w fun e w' => e = .returned (.bool (P v0 v1 v2)) ∧ Below w.heap.size w w' := by
  have hlt := lt_of_cell hB
  obtain ⟨r, hr⟩ : ∃ r, P v0 v1 v2 = r := ⟨_, rfl⟩
  have C := fun wr => hg.out v0 v1 v2 wr
  rw [hr] at C ⊢
  have C := Lib.hid C
  clear hr
  go_enter Tryz.func107, Tryz.ntmps107
  go_wp2_with fail
  refine (C.out _).mono ?_
  rintro e1 w5 ⟨rfl, k5⟩
  have HB5 := Lib.hid ((((Below.refl w.heap.size w).alloc (Nat.le_refl _) (.cells #[.int .i64 (v0), .int .i64 (v1), .int .i64 (v2)] 86)).alloc (by simp) (.cells #[.int .i64 (u0), .int .i64 (u1), .int .i64 (u2)] 86)).trans (k5.mono (by simp; omega)))
  clear k5
  go_wp2_with fail
  go_ret
  exact ⟨rfl, HB5.out⟩
set_option maxRecDepth 100000 in
theorem all_proc (a : Option Addr) (n c most : Nat) (x0 : Nat → Int) (x1 : Nat → Int) (x2 : Nat → Int) (P : Int → Int → Int → Bool) (g : FuncId) (r : Bool) (w : World) (hrow : Hid (∀ k, k < n → ∃ b off, a = some ⟨b, off, none⟩ ∧ b < w.heap.size ∧ w.cell? ⟨b, off + k * 3, none⟩ = some (.int .i64 (x0 k)) ∧ w.cell? ⟨b, off + k * 3 + 1, none⟩ = some (.int .i64 (x1 k)) ∧ w.cell? ⟨b, off + k * 3 + 2, none⟩ = some (.int .i64 (x2 k)))) (hn63 : n ≤ 9223372036854775807) (hmo : most ≤ 1000) (hen : ∀ args w, (callFunc g args).run Tryz.prog w = .ok (.enter g args) w)
    (hg : Hid (∀ (v0 : Int) (v1 : Int) (v2 : Int) wr, Calls Tryz.prog g #[.agg #[.int .i64 (v0), .int .i64 (v1), .int .i64 (v2)]] wr fun e w' => e = .returned (.bool (P v0 v1 v2)) ∧ Below wr.heap.size wr w')) (hr : Hid (allB (fun k => P (x0 k) (x1 k) (x2 k)) n most = r)) :
    Calls Tryz.prog 76 #[.slice a n c, .int .i64 (most : Int), .func (.func g) #[] #[]] w fun e w' => e = .returned (.bool r) ∧ Below w.heap.size w w' := by
  have hr := hr.out
  unfold allB at hr
  by_cases hn : n ≤ most
  · have hn' : ((n : Nat) : Int) ≤ (most : Int) := by omega
    rw [show decide (n ≤ most) = true from by simpa using hn, Bool.true_and] at hr
    obtain ⟨z, hz⟩ : ∃ z, frI (fun k => P (x0 k) (x1 k) (x2 k)) n = z := ⟨_, rfl⟩
    have bx := Box.new w #[.func (.func g) #[] #[]] 144
    have C := Lib.hid (first_proc a n c x0 x1 x2 (fun k => P (x0 k) (x1 k) (x2 k)) 107 #[.pointer (some ⟨w.heap.size, 0, none⟩)] z (w.alloc (.cells #[.func (.func g) #[] #[]] 144)) (Lib.hid (fun k hk => by
      obtain ⟨b, off, ea, hb, c0, c1, c2⟩ := hrow.out k hk
      exact ⟨b, off, ea, by simp; omega, alloc_keep c0, alloc_keep c1, alloc_keep c2⟩)) (by omega) (fun args w => by go_simp) (Lib.hid (fun k wr hk hb _ => all1_proc (x0 k) (x1 k) (x2 k) (ahI x0 k) (ahI x1 k) (ahI x2 k) P g w.heap.size wr hen (keep hb (bx.cell 0) bx.lt) hg)) (Lib.hid hz))
    have zr : (z < 0 ∧ r = true) ∨ (0 ≤ z ∧ r = false) := by
      rw [← hz, ← hr]
      have := fb_le (fun k => P (x0 k) (x1 k) (x2 k)) n
      unfold frI
      by_cases e : fb (fun k => P (x0 k) (x1 k) (x2 k)) n < n
      · right; rw [if_pos e]; exact ⟨by omega, by simp; omega⟩
      · left; rw [if_neg e]; exact ⟨by omega, by simp; omega⟩
    clear hz hr bx hn
    rcases zr with ⟨hz, rfl⟩ | ⟨hz, rfl⟩
    all_goals
      go_enter Tryz.func76, Tryz.ntmps76
      go_wp2_with fail
      refine C.out.mono ?_
      rintro e1 w5 ⟨rfl, k5⟩
      have HB := Lib.hid (below_in _ k5)
      clear k5
      go_wp2_with fail
      go_ret
      refine ⟨ret_bool ?_, HB.out⟩
      first | rfl | (simp; done) | (simp; omega)
  · have hn' : (most : Int) < ((n : Nat) : Int) := by omega
    rw [show decide (n ≤ most) = false from by simpa using hn, Bool.false_and] at hr
    subst hr
    clear hn
    go_enter Tryz.func76, Tryz.ntmps76
    go_wp2_with fail
    first
      | go_ret
      | (refine ⟨fun _ h => (by cases h), ?_⟩; go_wp2; go_ret)
    refine ⟨ret_bool ?_, (Below.refl _ _).alloc (Nat.le_refl _) _⟩
    first | rfl | (simp; done) | (simp; omega)
set_option maxRecDepth 100000 in
theorem all1_port (v0 : Bool) (v1 : Bool) (v2 : Int) (v3 : Int) (u0 : Bool) (u1 : Bool) (u2 : Int) (u3 : Int) (P : Bool → Bool → Int → Int → Bool) (g : FuncId) (B : Nat) (w : World) (hen : ∀ args w, (callFunc g args).run Tryz.prog w = .ok (.enter g args) w) (hB : w.cell? ⟨B, 0, none⟩ = some (.func (.func g) #[] #[])) (hg : Hid (∀ (v0 : Bool) (v1 : Bool) (v2 : Int) (v3 : Int) wr, Calls Tryz.prog g #[.agg #[.bool (v0), .bool (v1), .int .i64 (v2), .int .i64 (v3)]] wr fun e w' => e = .returned (.bool (P v0 v1 v2 v3)) ∧ Below wr.heap.size wr w')) :
    Calls Tryz.prog 109 #[.agg #[.bool (v0), .bool (v1), .int .i64 (v2), .int .i64 (v3)], .agg #[.bool (u0), .bool (u1), .int .i64 (u2), .int .i64 (u3)], .pointer (some ⟨B, 0, none⟩)] w fun e w' => e = .returned (.bool (P v0 v1 v2 v3)) ∧ Below w.heap.size w w' := by
  have hlt := lt_of_cell hB
  obtain ⟨r, hr⟩ : ∃ r, P v0 v1 v2 v3 = r := ⟨_, rfl⟩
  have C := fun wr => hg.out v0 v1 v2 v3 wr
  rw [hr] at C ⊢
  have C := Lib.hid C
  clear hr
  go_enter Tryz.func109, Tryz.ntmps109
  go_wp2_with fail
  refine (C.out _).mono ?_
  rintro e1 w5 ⟨rfl, k5⟩
  have HB5 := Lib.hid ((((Below.refl w.heap.size w).alloc (Nat.le_refl _) (.cells #[.bool (v0), .bool (v1), .int .i64 (v2), .int .i64 (v3)] 130)).alloc (by simp) (.cells #[.bool (u0), .bool (u1), .int .i64 (u2), .int .i64 (u3)] 130)).trans (k5.mono (by simp; omega)))
  clear k5
  go_wp2_with fail
  go_ret
  exact ⟨rfl, HB5.out⟩
set_option maxRecDepth 100000 in
theorem all_port (a : Option Addr) (n c most : Nat) (x0 : Nat → Bool) (x1 : Nat → Bool) (x2 : Nat → Int) (x3 : Nat → Int) (P : Bool → Bool → Int → Int → Bool) (g : FuncId) (r : Bool) (w : World) (hrow : Hid (∀ k, k < n → ∃ b off, a = some ⟨b, off, none⟩ ∧ b < w.heap.size ∧ w.cell? ⟨b, off + k * 4, none⟩ = some (.bool (x0 k)) ∧ w.cell? ⟨b, off + k * 4 + 1, none⟩ = some (.bool (x1 k)) ∧ w.cell? ⟨b, off + k * 4 + 2, none⟩ = some (.int .i64 (x2 k)) ∧ w.cell? ⟨b, off + k * 4 + 3, none⟩ = some (.int .i64 (x3 k)))) (hn63 : n ≤ 9223372036854775807) (hmo : most ≤ 1000) (hen : ∀ args w, (callFunc g args).run Tryz.prog w = .ok (.enter g args) w)
    (hg : Hid (∀ (v0 : Bool) (v1 : Bool) (v2 : Int) (v3 : Int) wr, Calls Tryz.prog g #[.agg #[.bool (v0), .bool (v1), .int .i64 (v2), .int .i64 (v3)]] wr fun e w' => e = .returned (.bool (P v0 v1 v2 v3)) ∧ Below wr.heap.size wr w')) (hr : Hid (allB (fun k => P (x0 k) (x1 k) (x2 k) (x3 k)) n most = r)) :
    Calls Tryz.prog 78 #[.slice a n c, .int .i64 (most : Int), .func (.func g) #[] #[]] w fun e w' => e = .returned (.bool r) ∧ Below w.heap.size w w' := by
  have hr := hr.out
  unfold allB at hr
  by_cases hn : n ≤ most
  · have hn' : ((n : Nat) : Int) ≤ (most : Int) := by omega
    rw [show decide (n ≤ most) = true from by simpa using hn, Bool.true_and] at hr
    obtain ⟨z, hz⟩ : ∃ z, frI (fun k => P (x0 k) (x1 k) (x2 k) (x3 k)) n = z := ⟨_, rfl⟩
    have bx := Box.new w #[.func (.func g) #[] #[]] 146
    have C := Lib.hid (first_port a n c x0 x1 x2 x3 (fun k => P (x0 k) (x1 k) (x2 k) (x3 k)) 109 #[.pointer (some ⟨w.heap.size, 0, none⟩)] z (w.alloc (.cells #[.func (.func g) #[] #[]] 146)) (Lib.hid (fun k hk => by
      obtain ⟨b, off, ea, hb, c0, c1, c2, c3⟩ := hrow.out k hk
      exact ⟨b, off, ea, by simp; omega, alloc_keep c0, alloc_keep c1, alloc_keep c2, alloc_keep c3⟩)) (by omega) (fun args w => by go_simp) (Lib.hid (fun k wr hk hb _ => all1_port (x0 k) (x1 k) (x2 k) (x3 k) (ahB x0 k) (ahB x1 k) (ahI x2 k) (ahI x3 k) P g w.heap.size wr hen (keep hb (bx.cell 0) bx.lt) hg)) (Lib.hid hz))
    have zr : (z < 0 ∧ r = true) ∨ (0 ≤ z ∧ r = false) := by
      rw [← hz, ← hr]
      have := fb_le (fun k => P (x0 k) (x1 k) (x2 k) (x3 k)) n
      unfold frI
      by_cases e : fb (fun k => P (x0 k) (x1 k) (x2 k) (x3 k)) n < n
      · right; rw [if_pos e]; exact ⟨by omega, by simp; omega⟩
      · left; rw [if_neg e]; exact ⟨by omega, by simp; omega⟩
    clear hz hr bx hn
    rcases zr with ⟨hz, rfl⟩ | ⟨hz, rfl⟩
    all_goals
      go_enter Tryz.func78, Tryz.ntmps78
      go_wp2_with fail
      refine C.out.mono ?_
      rintro e1 w5 ⟨rfl, k5⟩
      have HB := Lib.hid (below_in _ k5)
      clear k5
      go_wp2_with fail
      go_ret
      refine ⟨ret_bool ?_, HB.out⟩
      first | rfl | (simp; done) | (simp; omega)
  · have hn' : (most : Int) < ((n : Nat) : Int) := by omega
    rw [show decide (n ≤ most) = false from by simpa using hn, Bool.false_and] at hr
    subst hr
    clear hn
    go_enter Tryz.func78, Tryz.ntmps78
    go_wp2_with fail
    first
      | go_ret
      | (refine ⟨fun _ h => (by cases h), ?_⟩; go_wp2; go_ret)
    refine ⟨ret_bool ?_, (Below.refl _ _).alloc (Nat.le_refl _) _⟩
    first | rfl | (simp; done) | (simp; omega)
set_option maxRecDepth 100000 in
theorem all1_sem (v0 : Int) (v1 : Int) (u0 : Int) (u1 : Int) (P : Int → Int → Bool) (g : FuncId) (B : Nat) (w : World) (hen : ∀ args w, (callFunc g args).run Tryz.prog w = .ok (.enter g args) w) (hB : w.cell? ⟨B, 0, none⟩ = some (.func (.func g) #[] #[])) (hg : Hid (∀ (v0 : Int) (v1 : Int) wr, Calls Tryz.prog g #[.agg #[.int .i64 (v0), .int .i64 (v1)]] wr fun e w' => e = .returned (.bool (P v0 v1)) ∧ Below wr.heap.size wr w')) :
    Calls Tryz.prog 132 #[.agg #[.int .i64 (v0), .int .i64 (v1)], .agg #[.int .i64 (u0), .int .i64 (u1)], .pointer (some ⟨B, 0, none⟩)] w fun e w' => e = .returned (.bool (P v0 v1)) ∧ Below w.heap.size w w' := by
  have hlt := lt_of_cell hB
  obtain ⟨r, hr⟩ : ∃ r, P v0 v1 = r := ⟨_, rfl⟩
  have C := fun wr => hg.out v0 v1 wr
  rw [hr] at C ⊢
  have C := Lib.hid C
  clear hr
  go_enter Tryz.func132, Tryz.ntmps132
  go_wp2_with fail
  refine (C.out _).mono ?_
  rintro e1 w5 ⟨rfl, k5⟩
  have HB5 := Lib.hid ((((Below.refl w.heap.size w).alloc (Nat.le_refl _) (.cells #[.int .i64 (v0), .int .i64 (v1)] 160)).alloc (by simp) (.cells #[.int .i64 (u0), .int .i64 (u1)] 160)).trans (k5.mono (by simp; omega)))
  clear k5
  go_wp2_with fail
  go_ret
  exact ⟨rfl, HB5.out⟩
set_option maxRecDepth 100000 in
theorem all_sem (a : Option Addr) (n c most : Nat) (x0 : Nat → Int) (x1 : Nat → Int) (P : Int → Int → Bool) (g : FuncId) (r : Bool) (w : World) (hrow : Hid (∀ k, k < n → ∃ b off, a = some ⟨b, off, none⟩ ∧ b < w.heap.size ∧ w.cell? ⟨b, off + k * 2, none⟩ = some (.int .i64 (x0 k)) ∧ w.cell? ⟨b, off + k * 2 + 1, none⟩ = some (.int .i64 (x1 k)))) (hn63 : n ≤ 9223372036854775807) (hmo : most ≤ 1000) (hen : ∀ args w, (callFunc g args).run Tryz.prog w = .ok (.enter g args) w)
    (hg : Hid (∀ (v0 : Int) (v1 : Int) wr, Calls Tryz.prog g #[.agg #[.int .i64 (v0), .int .i64 (v1)]] wr fun e w' => e = .returned (.bool (P v0 v1)) ∧ Below wr.heap.size wr w')) (hr : Hid (allB (fun k => P (x0 k) (x1 k)) n most = r)) :
    Calls Tryz.prog 113 #[.slice a n c, .int .i64 (most : Int), .func (.func g) #[] #[]] w fun e w' => e = .returned (.bool r) ∧ Below w.heap.size w w' := by
  have hr := hr.out
  unfold allB at hr
  by_cases hn : n ≤ most
  · have hn' : ((n : Nat) : Int) ≤ (most : Int) := by omega
    rw [show decide (n ≤ most) = true from by simpa using hn, Bool.true_and] at hr
    obtain ⟨z, hz⟩ : ∃ z, frI (fun k => P (x0 k) (x1 k)) n = z := ⟨_, rfl⟩
    have bx := Box.new w #[.func (.func g) #[] #[]] 178
    have C := Lib.hid (first_sem a n c x0 x1 (fun k => P (x0 k) (x1 k)) 132 #[.pointer (some ⟨w.heap.size, 0, none⟩)] z (w.alloc (.cells #[.func (.func g) #[] #[]] 178)) (Lib.hid (fun k hk => by
      obtain ⟨b, off, ea, hb, c0, c1⟩ := hrow.out k hk
      exact ⟨b, off, ea, by simp; omega, alloc_keep c0, alloc_keep c1⟩)) (by omega) (fun args w => by go_simp) (Lib.hid (fun k wr hk hb _ => all1_sem (x0 k) (x1 k) (ahI x0 k) (ahI x1 k) P g w.heap.size wr hen (keep hb (bx.cell 0) bx.lt) hg)) (Lib.hid hz))
    have zr : (z < 0 ∧ r = true) ∨ (0 ≤ z ∧ r = false) := by
      rw [← hz, ← hr]
      have := fb_le (fun k => P (x0 k) (x1 k)) n
      unfold frI
      by_cases e : fb (fun k => P (x0 k) (x1 k)) n < n
      · right; rw [if_pos e]; exact ⟨by omega, by simp; omega⟩
      · left; rw [if_neg e]; exact ⟨by omega, by simp; omega⟩
    clear hz hr bx hn
    rcases zr with ⟨hz, rfl⟩ | ⟨hz, rfl⟩
    all_goals
      go_enter Tryz.func113, Tryz.ntmps113
      go_wp2_with fail
      refine C.out.mono ?_
      rintro e1 w5 ⟨rfl, k5⟩
      have HB := Lib.hid (below_in _ k5)
      clear k5
      go_wp2_with fail
      go_ret
      refine ⟨ret_bool ?_, HB.out⟩
      first | rfl | (simp; done) | (simp; omega)
  · have hn' : (most : Int) < ((n : Nat) : Int) := by omega
    rw [show decide (n ≤ most) = false from by simpa using hn, Bool.false_and] at hr
    subst hr
    clear hn
    go_enter Tryz.func113, Tryz.ntmps113
    go_wp2_with fail
    first
      | go_ret
      | (refine ⟨fun _ h => (by cases h), ?_⟩; go_wp2; go_ret)
    refine ⟨ret_bool ?_, (Below.refl _ _).alloc (Nat.le_refl _) _⟩
    first | rfl | (simp; done) | (simp; omega)
set_option maxRecDepth 100000 in
theorem all1_pool (v0 : Int) (v1 : Int) (u0 : Int) (u1 : Int) (P : Int → Int → Bool) (g : FuncId) (B : Nat) (w : World) (hen : ∀ args w, (callFunc g args).run Tryz.prog w = .ok (.enter g args) w) (hB : w.cell? ⟨B, 0, none⟩ = some (.func (.func g) #[] #[])) (hg : Hid (∀ (v0 : Int) (v1 : Int) wr, Calls Tryz.prog g #[.agg #[.int .i64 (v0), .int .i64 (v1)]] wr fun e w' => e = .returned (.bool (P v0 v1)) ∧ Below wr.heap.size wr w')) :
    Calls Tryz.prog 134 #[.agg #[.int .i64 (v0), .int .i64 (v1)], .agg #[.int .i64 (u0), .int .i64 (u1)], .pointer (some ⟨B, 0, none⟩)] w fun e w' => e = .returned (.bool (P v0 v1)) ∧ Below w.heap.size w w' := by
  have hlt := lt_of_cell hB
  obtain ⟨r, hr⟩ : ∃ r, P v0 v1 = r := ⟨_, rfl⟩
  have C := fun wr => hg.out v0 v1 wr
  rw [hr] at C ⊢
  have C := Lib.hid C
  clear hr
  go_enter Tryz.func134, Tryz.ntmps134
  go_wp2_with fail
  refine (C.out _).mono ?_
  rintro e1 w5 ⟨rfl, k5⟩
  have HB5 := Lib.hid ((((Below.refl w.heap.size w).alloc (Nat.le_refl _) (.cells #[.int .i64 (v0), .int .i64 (v1)] 162)).alloc (by simp) (.cells #[.int .i64 (u0), .int .i64 (u1)] 162)).trans (k5.mono (by simp; omega)))
  clear k5
  go_wp2_with fail
  go_ret
  exact ⟨rfl, HB5.out⟩
set_option maxRecDepth 100000 in
theorem all_pool (a : Option Addr) (n c most : Nat) (x0 : Nat → Int) (x1 : Nat → Int) (P : Int → Int → Bool) (g : FuncId) (r : Bool) (w : World) (hrow : Hid (∀ k, k < n → ∃ b off, a = some ⟨b, off, none⟩ ∧ b < w.heap.size ∧ w.cell? ⟨b, off + k * 2, none⟩ = some (.int .i64 (x0 k)) ∧ w.cell? ⟨b, off + k * 2 + 1, none⟩ = some (.int .i64 (x1 k)))) (hn63 : n ≤ 9223372036854775807) (hmo : most ≤ 1000) (hen : ∀ args w, (callFunc g args).run Tryz.prog w = .ok (.enter g args) w)
    (hg : Hid (∀ (v0 : Int) (v1 : Int) wr, Calls Tryz.prog g #[.agg #[.int .i64 (v0), .int .i64 (v1)]] wr fun e w' => e = .returned (.bool (P v0 v1)) ∧ Below wr.heap.size wr w')) (hr : Hid (allB (fun k => P (x0 k) (x1 k)) n most = r)) :
    Calls Tryz.prog 114 #[.slice a n c, .int .i64 (most : Int), .func (.func g) #[] #[]] w fun e w' => e = .returned (.bool r) ∧ Below w.heap.size w w' := by
  have hr := hr.out
  unfold allB at hr
  by_cases hn : n ≤ most
  · have hn' : ((n : Nat) : Int) ≤ (most : Int) := by omega
    rw [show decide (n ≤ most) = true from by simpa using hn, Bool.true_and] at hr
    obtain ⟨z, hz⟩ : ∃ z, frI (fun k => P (x0 k) (x1 k)) n = z := ⟨_, rfl⟩
    have bx := Box.new w #[.func (.func g) #[] #[]] 179
    have C := Lib.hid (first_pool a n c x0 x1 (fun k => P (x0 k) (x1 k)) 134 #[.pointer (some ⟨w.heap.size, 0, none⟩)] z (w.alloc (.cells #[.func (.func g) #[] #[]] 179)) (Lib.hid (fun k hk => by
      obtain ⟨b, off, ea, hb, c0, c1⟩ := hrow.out k hk
      exact ⟨b, off, ea, by simp; omega, alloc_keep c0, alloc_keep c1⟩)) (by omega) (fun args w => by go_simp) (Lib.hid (fun k wr hk hb _ => all1_pool (x0 k) (x1 k) (ahI x0 k) (ahI x1 k) P g w.heap.size wr hen (keep hb (bx.cell 0) bx.lt) hg)) (Lib.hid hz))
    have zr : (z < 0 ∧ r = true) ∨ (0 ≤ z ∧ r = false) := by
      rw [← hz, ← hr]
      have := fb_le (fun k => P (x0 k) (x1 k)) n
      unfold frI
      by_cases e : fb (fun k => P (x0 k) (x1 k)) n < n
      · right; rw [if_pos e]; exact ⟨by omega, by simp; omega⟩
      · left; rw [if_neg e]; exact ⟨by omega, by simp; omega⟩
    clear hz hr bx hn
    rcases zr with ⟨hz, rfl⟩ | ⟨hz, rfl⟩
    all_goals
      go_enter Tryz.func114, Tryz.ntmps114
      go_wp2_with fail
      refine C.out.mono ?_
      rintro e1 w5 ⟨rfl, k5⟩
      have HB := Lib.hid (below_in _ k5)
      clear k5
      go_wp2_with fail
      go_ret
      refine ⟨ret_bool ?_, HB.out⟩
      first | rfl | (simp; done) | (simp; omega)
  · have hn' : (most : Int) < ((n : Nat) : Int) := by omega
    rw [show decide (n ≤ most) = false from by simpa using hn, Bool.false_and] at hr
    subst hr
    clear hn
    go_enter Tryz.func114, Tryz.ntmps114
    go_wp2_with fail
    first
      | go_ret
      | (refine ⟨fun _ h => (by cases h), ?_⟩; go_wp2; go_ret)
    refine ⟨ret_bool ?_, (Below.refl _ _).alloc (Nat.le_refl _) _⟩
    first | rfl | (simp; done) | (simp; omega)
set_option maxRecDepth 100000 in
theorem all1_num (v0 : Int) (u0 : Int) (P : Int → Bool) (g : FuncId) (B : Nat) (w : World) (hen : ∀ args w, (callFunc g args).run Tryz.prog w = .ok (.enter g args) w) (hB : w.cell? ⟨B, 0, none⟩ = some (.func (.func g) #[] #[])) (hg : Hid (∀ (v0 : Int) wr, Calls Tryz.prog g #[.int .i64 (v0)] wr fun e w' => e = .returned (.bool (P v0)) ∧ Below wr.heap.size wr w')) :
    Calls Tryz.prog 116 #[.int .i64 (v0), .int .i64 (u0), .pointer (some ⟨B, 0, none⟩)] w fun e w' => e = .returned (.bool (P v0)) ∧ Below w.heap.size w w' := by
  have hlt := lt_of_cell hB
  obtain ⟨r, hr⟩ : ∃ r, P v0 = r := ⟨_, rfl⟩
  have C := fun wr => hg.out v0 wr
  rw [hr] at C ⊢
  have C := Lib.hid C
  clear hr
  go_enter Tryz.func116, Tryz.ntmps116
  go_wp2_with fail
  refine (C.out _).mono ?_
  rintro e1 w5 ⟨rfl, k5⟩
  have HB5 := Lib.hid k5
  clear k5
  go_wp2_with fail
  go_ret
  exact ⟨rfl, HB5.out⟩
set_option maxRecDepth 100000 in
theorem all_num (a : Option Addr) (n c most : Nat) (x0 : Nat → Int) (P : Int → Bool) (g : FuncId) (r : Bool) (w : World) (hrow : Hid (∀ k, k < n → ∃ b off, a = some ⟨b, off, none⟩ ∧ b < w.heap.size ∧ w.cell? ⟨b, off + k, none⟩ = some (.int .i64 (x0 k)))) (hn63 : n ≤ 9223372036854775807) (hmo : most ≤ 1000) (hen : ∀ args w, (callFunc g args).run Tryz.prog w = .ok (.enter g args) w)
    (hg : Hid (∀ (v0 : Int) wr, Calls Tryz.prog g #[.int .i64 (v0)] wr fun e w' => e = .returned (.bool (P v0)) ∧ Below wr.heap.size wr w')) (hr : Hid (allB (fun k => P (x0 k)) n most = r)) :
    Calls Tryz.prog 81 #[.slice a n c, .int .i64 (most : Int), .func (.func g) #[] #[]] w fun e w' => e = .returned (.bool r) ∧ Below w.heap.size w w' := by
  have hr := hr.out
  unfold allB at hr
  by_cases hn : n ≤ most
  · have hn' : ((n : Nat) : Int) ≤ (most : Int) := by omega
    rw [show decide (n ≤ most) = true from by simpa using hn, Bool.true_and] at hr
    obtain ⟨z, hz⟩ : ∃ z, frI (fun k => P (x0 k)) n = z := ⟨_, rfl⟩
    have bx := Box.new w #[.func (.func g) #[] #[]] 126
    have C := Lib.hid (first_num a n c x0 (fun k => P (x0 k)) 116 #[.pointer (some ⟨w.heap.size, 0, none⟩)] z (w.alloc (.cells #[.func (.func g) #[] #[]] 126)) (Lib.hid (fun k hk => by
      obtain ⟨b, off, ea, hb, c0⟩ := hrow.out k hk
      exact ⟨b, off, ea, by simp; omega, alloc_keep c0⟩)) (by omega) (fun args w => by go_simp) (Lib.hid (fun k wr hk hb _ => all1_num (x0 k) (ahI x0 k) P g w.heap.size wr hen (keep hb (bx.cell 0) bx.lt) hg)) (Lib.hid hz))
    have zr : (z < 0 ∧ r = true) ∨ (0 ≤ z ∧ r = false) := by
      rw [← hz, ← hr]
      have := fb_le (fun k => P (x0 k)) n
      unfold frI
      by_cases e : fb (fun k => P (x0 k)) n < n
      · right; rw [if_pos e]; exact ⟨by omega, by simp; omega⟩
      · left; rw [if_neg e]; exact ⟨by omega, by simp; omega⟩
    clear hz hr bx hn
    rcases zr with ⟨hz, rfl⟩ | ⟨hz, rfl⟩
    all_goals
      go_enter Tryz.func81, Tryz.ntmps81
      go_wp2_with fail
      refine C.out.mono ?_
      rintro e1 w5 ⟨rfl, k5⟩
      have HB := Lib.hid (below_in _ k5)
      clear k5
      go_wp2_with fail
      go_ret
      refine ⟨ret_bool ?_, HB.out⟩
      first | rfl | (simp; done) | (simp; omega)
  · have hn' : (most : Int) < ((n : Nat) : Int) := by omega
    rw [show decide (n ≤ most) = false from by simpa using hn, Bool.false_and] at hr
    subst hr
    clear hn
    go_enter Tryz.func81, Tryz.ntmps81
    go_wp2_with fail
    first
      | go_ret
      | (refine ⟨fun _ h => (by cases h), ?_⟩; go_wp2; go_ret)
    refine ⟨ret_bool ?_, (Below.refl _ _).alloc (Nat.le_refl _) _⟩
    first | rfl | (simp; done) | (simp; omega)
end Go.Proofs.YtlafeijkpnpdeaaGreat.Val

/- Package valid: what is asked of a process, a port, a semaphore, a pool, a number, a region. -/
namespace Go.Proofs.YtlafeijkpnpdeaaGreat.Vld
open Go.RowKit Base Kit Conf PowA PowB Vfa Vfb Val
set_option linter.unusedVariables false
set_option linter.unusedSimpArgs false

def procB (a b c : Int) : Bool := inB a 0 63 && inB b 0 1000 && inB c 1 1000000000
def semB (f m : Int) : Bool := inB m 1 1000 && inB f 0 m
def poolB (s d : Int) : Bool := inB s 1 64 && inB d 1 16
def slateB (n : Int) : Bool := inB n 1 64
def actB (n : Int) : Bool := inB n 0 4
def portB (q i : Bool) (s d : Int) : Bool := inB s 1 64 && (if q then inB d 1 16 else d == 0)
def regB (b s e0 e1 : Int) : Bool := inB b 0 1048576 && inB s 1 256 && decide (b ≤ 1048576 - s) && decide (e0 + e1 ≤ b)
set_option maxRecDepth 100000 in
theorem proc_any (a b c : Int) (w : World) :
    Calls Tryz.prog 77 #[.agg #[.int .i64 a, .int .i64 b, .int .i64 c]] w fun e w' => e = .returned (.bool (procB a b c)) ∧ Below w.heap.size w w' := by
  unfold procB
  obtain ⟨r0, e0⟩ : ∃ z, inB a 0 63 = z := ⟨_, rfl⟩
  obtain ⟨r1, e1⟩ : ∃ z, inB b 0 1000 = z := ⟨_, rfl⟩
  obtain ⟨r2, e2⟩ : ∃ z, inB c 1 1000000000 = z := ⟨_, rfl⟩
  rw [e0, e1, e2]
  have C0 := Lib.hid (fun w => in_any _ _ _ _ w (Lib.hid e0))
  have C1 := Lib.hid (fun w => in_any _ _ _ _ w (Lib.hid e1))
  have C2 := Lib.hid (fun w => in_any _ _ _ _ w (Lib.hid e2))
  clear e0 e1 e2
  cases r0
  · skip
    go_enter Tryz.func77, Tryz.ntmps77
    go_wp2_with fail
    refine (C0.out _).mono ?_
    rintro e1 w9 ⟨rfl, rfl⟩
    go_wp2_with fail
    go_ret
    refine ⟨rfl, ?_⟩
    all_goals (repeat (first | exact Below.refl _ _ | exact HB.out | exact below_in _ (by assumption) | assumption | exact Nat.le_refl _ | refine Below.setCell ?_ (by first | (simp; done) | (simp; omega) | omega) _ | refine Below.alloc ?_ (by first | exact Nat.le_refl _ | (simp; done) | (simp; omega) | omega) _ | refine Below.drew ?_))
  · cases r1
    · skip
      go_enter Tryz.func77, Tryz.ntmps77
      go_wp2_with fail
      refine (C0.out _).mono ?_
      rintro e1 w9 ⟨rfl, rfl⟩
      go_wp2_with fail
      refine (C1.out _).mono ?_
      rintro e1 w9 ⟨rfl, rfl⟩
      go_wp2_with fail
      go_ret
      refine ⟨rfl, ?_⟩
      all_goals (repeat (first | exact Below.refl _ _ | exact HB.out | exact below_in _ (by assumption) | assumption | exact Nat.le_refl _ | refine Below.setCell ?_ (by first | (simp; done) | (simp; omega) | omega) _ | refine Below.alloc ?_ (by first | exact Nat.le_refl _ | (simp; done) | (simp; omega) | omega) _ | refine Below.drew ?_))
    · skip
      go_enter Tryz.func77, Tryz.ntmps77
      go_wp2_with fail
      refine (C0.out _).mono ?_
      rintro e1 w9 ⟨rfl, rfl⟩
      go_wp2_with fail
      refine (C1.out _).mono ?_
      rintro e1 w9 ⟨rfl, rfl⟩
      go_wp2_with fail
      refine (C2.out _).mono ?_
      rintro e1 w9 ⟨rfl, rfl⟩
      go_wp2_with fail
      go_ret
      refine ⟨by cases r2 <;> rfl, ?_⟩
      all_goals (repeat (first | exact Below.refl _ _ | exact HB.out | exact below_in _ (by assumption) | assumption | exact Nat.le_refl _ | refine Below.setCell ?_ (by first | (simp; done) | (simp; omega) | omega) _ | refine Below.alloc ?_ (by first | exact Nat.le_refl _ | (simp; done) | (simp; omega) | omega) _ | refine Below.drew ?_))
set_option maxRecDepth 100000 in
theorem sem_any (f m : Int) (w : World) :
    Calls Tryz.prog 110 #[.agg #[.int .i64 f, .int .i64 m]] w fun e w' => e = .returned (.bool (semB f m)) ∧ Below w.heap.size w w' := by
  unfold semB
  obtain ⟨r0, e0⟩ : ∃ z, inB m 1 1000 = z := ⟨_, rfl⟩
  obtain ⟨r1, e1⟩ : ∃ z, inB f 0 m = z := ⟨_, rfl⟩
  rw [e0, e1]
  have C0 := Lib.hid (fun w => in_any _ _ _ _ w (Lib.hid e0))
  have C1 := Lib.hid (fun w => in_any _ _ _ _ w (Lib.hid e1))
  clear e0 e1
  cases r0
  · skip
    go_enter Tryz.func110, Tryz.ntmps110
    go_wp2_with fail
    refine (C0.out _).mono ?_
    rintro e1 w9 ⟨rfl, rfl⟩
    go_wp2_with fail
    go_ret
    refine ⟨rfl, ?_⟩
    all_goals (repeat (first | exact Below.refl _ _ | exact HB.out | exact below_in _ (by assumption) | assumption | exact Nat.le_refl _ | refine Below.setCell ?_ (by first | (simp; done) | (simp; omega) | omega) _ | refine Below.alloc ?_ (by first | exact Nat.le_refl _ | (simp; done) | (simp; omega) | omega) _ | refine Below.drew ?_))
  · skip
    go_enter Tryz.func110, Tryz.ntmps110
    go_wp2_with fail
    refine (C0.out _).mono ?_
    rintro e1 w9 ⟨rfl, rfl⟩
    go_wp2_with fail
    refine (C1.out _).mono ?_
    rintro e1 w9 ⟨rfl, rfl⟩
    go_wp2_with fail
    go_ret
    refine ⟨by cases r1 <;> rfl, ?_⟩
    all_goals (repeat (first | exact Below.refl _ _ | exact HB.out | exact below_in _ (by assumption) | assumption | exact Nat.le_refl _ | refine Below.setCell ?_ (by first | (simp; done) | (simp; omega) | omega) _ | refine Below.alloc ?_ (by first | exact Nat.le_refl _ | (simp; done) | (simp; omega) | omega) _ | refine Below.drew ?_))
set_option maxRecDepth 100000 in
theorem pool_any (s d : Int) (w : World) :
    Calls Tryz.prog 111 #[.agg #[.int .i64 s, .int .i64 d]] w fun e w' => e = .returned (.bool (poolB s d)) ∧ Below w.heap.size w w' := by
  unfold poolB
  obtain ⟨r0, e0⟩ : ∃ z, inB s 1 64 = z := ⟨_, rfl⟩
  obtain ⟨r1, e1⟩ : ∃ z, inB d 1 16 = z := ⟨_, rfl⟩
  rw [e0, e1]
  have C0 := Lib.hid (fun w => in_any _ _ _ _ w (Lib.hid e0))
  have C1 := Lib.hid (fun w => in_any _ _ _ _ w (Lib.hid e1))
  clear e0 e1
  cases r0
  · skip
    go_enter Tryz.func111, Tryz.ntmps111
    go_wp2_with fail
    refine (C0.out _).mono ?_
    rintro e1 w9 ⟨rfl, rfl⟩
    go_wp2_with fail
    go_ret
    refine ⟨rfl, ?_⟩
    all_goals (repeat (first | exact Below.refl _ _ | exact HB.out | exact below_in _ (by assumption) | assumption | exact Nat.le_refl _ | refine Below.setCell ?_ (by first | (simp; done) | (simp; omega) | omega) _ | refine Below.alloc ?_ (by first | exact Nat.le_refl _ | (simp; done) | (simp; omega) | omega) _ | refine Below.drew ?_))
  · skip
    go_enter Tryz.func111, Tryz.ntmps111
    go_wp2_with fail
    refine (C0.out _).mono ?_
    rintro e1 w9 ⟨rfl, rfl⟩
    go_wp2_with fail
    refine (C1.out _).mono ?_
    rintro e1 w9 ⟨rfl, rfl⟩
    go_wp2_with fail
    go_ret
    refine ⟨by cases r1 <;> rfl, ?_⟩
    all_goals (repeat (first | exact Below.refl _ _ | exact HB.out | exact below_in _ (by assumption) | assumption | exact Nat.le_refl _ | refine Below.setCell ?_ (by first | (simp; done) | (simp; omega) | omega) _ | refine Below.alloc ?_ (by first | exact Nat.le_refl _ | (simp; done) | (simp; omega) | omega) _ | refine Below.drew ?_))
theorem slate_any (n : Int) (w : World) :
    Calls Tryz.prog 112 #[.int .i64 n] w fun e w' => e = .returned (.bool (slateB n)) ∧ Below w.heap.size w w' := by
  obtain ⟨r0, e0⟩ : ∃ z, slateB n = z := ⟨_, rfl⟩
  rw [e0]
  have C0 := Lib.hid (fun w => in_any _ _ _ r0 w (Lib.hid e0))
  clear e0
  go_enter Tryz.func112, Tryz.ntmps112
  go_wp2_with fail
  refine (C0.out _).mono ?_
  rintro e1 w9 ⟨rfl, rfl⟩
  go_wp2_with fail
  go_ret
  exact ⟨rfl, Below.refl _ _⟩
theorem act_any (n : Int) (w : World) :
    Calls Tryz.prog 82 #[.int .i64 n] w fun e w' => e = .returned (.bool (actB n)) ∧ Below w.heap.size w w' := by
  obtain ⟨r0, e0⟩ : ∃ z, actB n = z := ⟨_, rfl⟩
  rw [e0]
  have C0 := Lib.hid (fun w => in_any _ _ _ r0 w (Lib.hid e0))
  clear e0
  go_enter Tryz.func82, Tryz.ntmps82
  go_wp2_with fail
  refine (C0.out _).mono ?_
  rintro e1 w9 ⟨rfl, rfl⟩
  go_wp2_with fail
  go_ret
  exact ⟨rfl, Below.refl _ _⟩
set_option maxRecDepth 100000 in
theorem port_any (q i : Bool) (s d : Int) (w : World) :
    Calls Tryz.prog 79 #[.agg #[.bool q, .bool i, .int .i64 s, .int .i64 d]] w fun e w' => e = .returned (.bool (portB q i s d)) ∧ Below w.heap.size w w' := by
  unfold portB
  obtain ⟨r0, e0⟩ : ∃ z, inB s 1 64 = z := ⟨_, rfl⟩
  rw [e0]
  have C0 := Lib.hid (fun w => in_any _ _ _ _ w (Lib.hid e0))
  cases q
  · rw [if_neg (by decide)]
    clear e0
    cases r0
    · skip
      go_enter Tryz.func79, Tryz.ntmps79
      go_wp2_with fail
      refine (C0.out _).mono ?_
      rintro e1 w9 ⟨rfl, rfl⟩
      go_wp2_with fail
      go_ret
      refine ⟨rfl, ?_⟩
      all_goals (repeat (first | exact Below.refl _ _ | exact HB.out | exact below_in _ (by assumption) | assumption | exact Nat.le_refl _ | refine Below.setCell ?_ (by first | (simp; done) | (simp; omega) | omega) _ | refine Below.alloc ?_ (by first | exact Nat.le_refl _ | (simp; done) | (simp; omega) | omega) _ | refine Below.drew ?_))
    · obtain ⟨r1, e1⟩ : ∃ z, (d == 0) = z := ⟨_, rfl⟩
      rw [e1]
      go_enter Tryz.func79, Tryz.ntmps79
      go_wp2_with fail
      refine (C0.out _).mono ?_
      rintro e1 w9 ⟨rfl, rfl⟩
      go_wp2_with fail
      go_ret
      refine ⟨by first | rfl | (cases r1 <;> rfl) | (simp [e1]; done), ?_⟩
      all_goals (repeat (first | exact Below.refl _ _ | exact HB.out | exact below_in _ (by assumption) | assumption | exact Nat.le_refl _ | refine Below.setCell ?_ (by first | (simp; done) | (simp; omega) | omega) _ | refine Below.alloc ?_ (by first | exact Nat.le_refl _ | (simp; done) | (simp; omega) | omega) _ | refine Below.drew ?_))
  · rw [if_pos (by decide)]
    obtain ⟨r1, e1⟩ : ∃ z, inB d 1 16 = z := ⟨_, rfl⟩
    rw [e1]
    have C1 := Lib.hid (fun w => in_any _ _ _ _ w (Lib.hid e1))
    clear e0 e1
    cases r0
    · skip
      go_enter Tryz.func79, Tryz.ntmps79
      go_wp2_with fail
      refine (C0.out _).mono ?_
      rintro e1 w9 ⟨rfl, rfl⟩
      go_wp2_with fail
      go_ret
      refine ⟨rfl, ?_⟩
      all_goals (repeat (first | exact Below.refl _ _ | exact HB.out | exact below_in _ (by assumption) | assumption | exact Nat.le_refl _ | refine Below.setCell ?_ (by first | (simp; done) | (simp; omega) | omega) _ | refine Below.alloc ?_ (by first | exact Nat.le_refl _ | (simp; done) | (simp; omega) | omega) _ | refine Below.drew ?_))
    · skip
      go_enter Tryz.func79, Tryz.ntmps79
      go_wp2_with fail
      refine (C0.out _).mono ?_
      rintro e1 w9 ⟨rfl, rfl⟩
      go_wp2_with fail
      refine (C1.out _).mono ?_
      rintro e1 w9 ⟨rfl, rfl⟩
      go_wp2_with fail
      go_ret
      refine ⟨by cases r1 <;> rfl, ?_⟩
      all_goals (repeat (first | exact Below.refl _ _ | exact HB.out | exact below_in _ (by assumption) | assumption | exact Nat.le_refl _ | refine Below.setCell ?_ (by first | (simp; done) | (simp; omega) | omega) _ | refine Below.alloc ?_ (by first | exact Nat.le_refl _ | (simp; done) | (simp; omega) | omega) _ | refine Below.drew ?_))
set_option maxRecDepth 100000 in
set_option maxHeartbeats 1000000 in
theorem reg_any (b s e0 e1 : Int) (u v : Bool) (w : World) (ib : I64 b) (h0 : 0 ≤ e0) (h0' : e0 ≤ 1048576) (h1 : 0 ≤ e1) (h1' : e1 ≤ 256) :
    Calls Tryz.prog 105 #[.agg #[.int .i64 b, .int .i64 s, .bool u], .agg #[.int .i64 e0, .int .i64 e1, .bool v]] w fun e w' => e = .returned (.bool (regB b s e0 e1)) ∧ Below w.heap.size w w' := by
  unfold regB
  obtain ⟨ib0, ib1⟩ := ib
  obtain ⟨r0, q0⟩ : ∃ z, inB b 0 1048576 = z := ⟨_, rfl⟩
  obtain ⟨r1, q1⟩ : ∃ z, inB s 1 256 = z := ⟨_, rfl⟩
  rw [q0, q1]
  have C0 := Lib.hid (fun w => in_any _ _ _ _ w (Lib.hid q0))
  have C1 := Lib.hid (fun w => in_any _ _ _ _ w (Lib.hid q1))
  cases r0
  · clear q0 q1
    go_enter Tryz.func105, Tryz.ntmps105
    go_wp2_with fail
    refine (C0.out _).mono ?_
    rintro e1 w9 ⟨rfl, rfl⟩
    go_wp2_with fail
    go_ret
    refine ⟨rfl, ?_⟩
    all_goals (repeat (first | exact Below.refl _ _ | exact HB.out | exact below_in _ (by assumption) | assumption | exact Nat.le_refl _ | refine Below.setCell ?_ (by first | (simp; done) | (simp; omega) | omega) _ | refine Below.alloc ?_ (by first | exact Nat.le_refl _ | (simp; done) | (simp; omega) | omega) _ | refine Below.drew ?_))
  · cases r1
    · clear q0 q1
      go_enter Tryz.func105, Tryz.ntmps105
      go_wp2_with fail
      refine (C0.out _).mono ?_
      rintro e1 w9 ⟨rfl, rfl⟩
      go_wp2_with fail
      refine (C1.out _).mono ?_
      rintro e1 w9 ⟨rfl, rfl⟩
      go_wp2_with fail
      go_ret
      refine ⟨rfl, ?_⟩
      all_goals (repeat (first | exact Below.refl _ _ | exact HB.out | exact below_in _ (by assumption) | assumption | exact Nat.le_refl _ | refine Below.setCell ?_ (by first | (simp; done) | (simp; omega) | omega) _ | refine Below.alloc ?_ (by first | exact Nat.le_refl _ | (simp; done) | (simp; omega) | omega) _ | refine Below.drew ?_))
    · have s1 := inB_iff.1 q1
      obtain ⟨s1, s2⟩ := s1
      clear q0 q1
      by_cases hb : b ≤ 1048576 - s
      · by_cases he : e0 + e1 ≤ b
        · rw [show decide (b ≤ 1048576 - s) = true from by simpa using hb, show decide (e0 + e1 ≤ b) = true from by simpa using he]
          go_enter Tryz.func105, Tryz.ntmps105
          go_wp2_with fail
          refine (C0.out _).mono ?_
          rintro e1 w9 ⟨rfl, rfl⟩
          go_wp2_with fail
          refine (C1.out _).mono ?_
          rintro e1 w9 ⟨rfl, rfl⟩
          go_wp2_with fail
          go_ret
          refine ⟨?_, ?_⟩
          · first | rfl | exact ret_bool (by simp; omega)
          all_goals (repeat (first | exact Below.refl _ _ | exact HB.out | exact below_in _ (by assumption) | assumption | exact Nat.le_refl _ | refine Below.setCell ?_ (by first | (simp; done) | (simp; omega) | omega) _ | refine Below.alloc ?_ (by first | exact Nat.le_refl _ | (simp; done) | (simp; omega) | omega) _ | refine Below.drew ?_))
        · rw [show decide (b ≤ 1048576 - s) = true from by simpa using hb, show decide (e0 + e1 ≤ b) = false from by simpa using he]
          have he : b < e0 + e1 := by omega
          go_enter Tryz.func105, Tryz.ntmps105
          go_wp2_with fail
          refine (C0.out _).mono ?_
          rintro e1 w9 ⟨rfl, rfl⟩
          go_wp2_with fail
          refine (C1.out _).mono ?_
          rintro e1 w9 ⟨rfl, rfl⟩
          go_wp2_with fail
          go_ret
          refine ⟨?_, ?_⟩
          · first | rfl | exact ret_bool (by simp; omega)
          all_goals (repeat (first | exact Below.refl _ _ | exact HB.out | exact below_in _ (by assumption) | assumption | exact Nat.le_refl _ | refine Below.setCell ?_ (by first | (simp; done) | (simp; omega) | omega) _ | refine Below.alloc ?_ (by first | exact Nat.le_refl _ | (simp; done) | (simp; omega) | omega) _ | refine Below.drew ?_))
      · rw [show decide (b ≤ 1048576 - s) = false from by simpa using hb]
        have hb : 1048576 - s < b := by omega
        go_enter Tryz.func105, Tryz.ntmps105
        go_wp2_with fail
        refine (C0.out _).mono ?_
        rintro e1 w9 ⟨rfl, rfl⟩
        go_wp2_with fail
        refine (C1.out _).mono ?_
        rintro e1 w9 ⟨rfl, rfl⟩
        go_wp2_with fail
        go_ret
        refine ⟨?_, ?_⟩
        · first | rfl | exact ret_bool (by simp; omega)
        all_goals (repeat (first | exact Below.refl _ _ | exact HB.out | exact below_in _ (by assumption) | assumption | exact Nat.le_refl _ | refine Below.setCell ?_ (by first | (simp; done) | (simp; omega) | omega) _ | refine Below.alloc ?_ (by first | exact Nat.le_refl _ | (simp; done) | (simp; omega) | omega) _ | refine Below.drew ?_))
end Go.Proofs.YtlafeijkpnpdeaaGreat.Vld

/- Package valid: regions, objects, Part. -/
namespace Go.Proofs.YtlafeijkpnpdeaaGreat.Vpa
open Go.RowKit Base Kit Conf Conf2 PowA PowB Vfa Vfb Val Vld
set_option linter.unusedVariables false
set_option linter.unusedSimpArgs false

theorem rv3 {w : World} {a : Option Addr} {n : Nat} {b s : Nat → Int} {u : Nat → Bool} (h : Hid (RowsV w a n 3 (regV b s u))) : Hid (∀ k, k < n → ∃ b' off, a = some ⟨b', off, none⟩ ∧ b' < w.heap.size ∧ w.cell? ⟨b', off + k * 3, none⟩ = some (.int .i64 (b k)) ∧ w.cell? ⟨b', off + k * 3 + 1, none⟩ = some (.int .i64 (s k)) ∧ w.cell? ⟨b', off + k * 3 + 2, none⟩ = some (.bool (u k))) := by
  refine Lib.hid fun k hk => ?_
  rcases h.out.2 with h0 | ⟨b', off, e, hb, hc⟩
  · omega
  · exact ⟨b', off, e, hb, hc k hk 0 (by omega), hc k hk 1 (by omega), hc k hk 2 (by omega)⟩
theorem rv4 {w : World} {a : Option Addr} {n : Nat} {q i : Nat → Bool} {s d : Nat → Int} (h : Hid (RowsV w a n 4 (portV q i s d))) : Hid (∀ k, k < n → ∃ b' off, a = some ⟨b', off, none⟩ ∧ b' < w.heap.size ∧ w.cell? ⟨b', off + k * 4, none⟩ = some (.bool (q k)) ∧ w.cell? ⟨b', off + k * 4 + 1, none⟩ = some (.bool (i k)) ∧ w.cell? ⟨b', off + k * 4 + 2, none⟩ = some (.int .i64 (s k)) ∧ w.cell? ⟨b', off + k * 4 + 3, none⟩ = some (.int .i64 (d k))) := by
  refine Lib.hid fun k hk => ?_
  rcases h.out.2 with h0 | ⟨b', off, e, hb, hc⟩
  · omega
  · exact ⟨b', off, e, hb, hc k hk 0 (by omega), hc k hk 1 (by omega), hc k hk 2 (by omega), hc k hk 3 (by omega)⟩
theorem ri1 {w : World} {a : Option Addr} {n : Nat} {f : Nat → Nat → Int} (h : Hid (Open.RowsIn w a n 1 f)) : Hid (∀ k, k < n → ∃ b off, a = some ⟨b, off, none⟩ ∧ b < w.heap.size ∧ w.cell? ⟨b, off + k, none⟩ = some (.int .i64 (f k 0))) := by
  refine Lib.hid fun k hk => ?_
  obtain ⟨b, off, e, hb, c0, -⟩ := rows_at1 h k hk
  exact ⟨b, off, e, hb, c0⟩
theorem ri2 {w : World} {a : Option Addr} {n : Nat} {f : Nat → Nat → Int} (h : Hid (Open.RowsIn w a n 2 f)) : Hid (∀ k, k < n → ∃ b off, a = some ⟨b, off, none⟩ ∧ b < w.heap.size ∧ w.cell? ⟨b, off + k * 2, none⟩ = some (.int .i64 (f k 0)) ∧ w.cell? ⟨b, off + k * 2 + 1, none⟩ = some (.int .i64 (f k 1))) := by
  refine Lib.hid fun k hk => ?_
  obtain ⟨b, off, e, hb, c0, c1, -⟩ := rows_at2 h k hk
  exact ⟨b, off, e, hb, c0, c1⟩
theorem ri3 {w : World} {a : Option Addr} {n : Nat} {f : Nat → Nat → Int} (h : Hid (Open.RowsIn w a n 3 f)) : Hid (∀ k, k < n → ∃ b off, a = some ⟨b, off, none⟩ ∧ b < w.heap.size ∧ w.cell? ⟨b, off + k * 3, none⟩ = some (.int .i64 (f k 0)) ∧ w.cell? ⟨b, off + k * 3 + 1, none⟩ = some (.int .i64 (f k 1)) ∧ w.cell? ⟨b, off + k * 3 + 2, none⟩ = some (.int .i64 (f k 2))) := by
  refine Lib.hid fun k hk => ?_
  obtain ⟨b, off, e, hb, c0, c1, c2, -⟩ := rows_at3 h k hk
  exact ⟨b, off, e, hb, c0, c1, c2⟩

def regP (b s : Nat → Int) (k : Nat) : Bool := regB (b k) (s k) (ahI b k) (ahI s k)
def regsB (q : PartC) : Bool := allB (regP q.rb q.rs) q.rn 4
def procsB (q : PartC) : Bool := decide (1 ≤ q.pn) && allB (fun k => procB (q.pf k 0) (q.pf k 1) (q.pf k 2)) q.pn 8
def portsB (q : PartC) : Bool := allB (fun k => portB (q.oq k) (q.oi k) (q.os k) (q.od k)) q.on 8
def semsB (q : PartC) : Bool := allB (fun k => semB (q.sf k 0) (q.sf k 1)) q.sn 4
def poolsB (q : PartC) : Bool := allB (fun k => poolB (q.qf k 0) (q.qf k 1)) q.qn 4
def slatesB (q : PartC) : Bool := allB (fun k => slateB (q.tf k)) q.tn 4
def objB (q : PartC) : Bool := semsB q && inB q.fl 0 8 && poolsB q && slatesB q
def actsB (q : PartC) : Bool := allB (fun k => actB (q.cf k)) q.cn 5
def lastB (q : PartC) : Bool := inB q.cap 1 1000000000 && inB q.bud 0 1125899906842624 && inB q.lad 0 4 && decide (q.cn = 5) && actsB q
def PartR (q : PartC) : Int := if regsB q = false then 21 else if procsB q = false then 22 else if portsB q = false then 23 else if objB q = false then 24 else if lastB q = false then 20 else 0
theorem reg_ah {b s : Nat → Int} : ∀ k, (∀ j, j < k → regP b s j = true) → (0 ≤ ahI b k ∧ ahI b k ≤ 1048576) ∧ 0 ≤ ahI s k ∧ ahI s k ≤ 256
  | 0, _ => by simp [ahI]
  | k + 1, h => by
    have := h k (by omega)
    unfold regP regB at this
    simp only [Bool.and_eq_true, inB_iff, decide_eq_true_eq] at this
    show (0 ≤ b k ∧ b k ≤ 1048576) ∧ 0 ≤ s k ∧ s k ≤ 256
    omega
theorem fr_neg {P : Nat → Bool} {n : Nat} {z : Int} {r : Bool} (hz : frI P n = z) (hr : decide (fb P n = n) = r) : (z < 0 ∧ r = true) ∨ (0 ≤ z ∧ r = false) := by
  rw [← hz, ← hr]
  have := fb_le P n
  unfold frI
  by_cases e : fb P n < n
  · right; rw [if_pos e]; exact ⟨by omega, by simp; omega⟩
  · left; rw [if_neg e]; exact ⟨by omega, by simp; omega⟩
set_option maxRecDepth 100000 in
theorem regions_any (a : Option Addr) (n c : Nat) (b s : Nat → Int) (u : Nat → Bool) (r : Bool) (w : World) (h : Hid (RowsV w a n 3 (regV b s u))) (hI : ∀ i, i < n → I64 (b i) ∧ I64 (s i)) (hr : Hid (allB (regP b s) n 4 = r)) :
    Calls Tryz.prog 75 #[.slice a n c] w fun e w' => e = .returned (.bool r) ∧ Below w.heap.size w w' := by
  have hm := h.out.1
  have hr := hr.out
  unfold allB at hr
  by_cases hn : n ≤ 4
  · rw [show decide (n ≤ 4) = true from by simpa using hn, Bool.true_and] at hr
    obtain ⟨z, hz⟩ : ∃ z, frI (regP b s) n = z := ⟨_, rfl⟩
    have C := Lib.hid (first_reg a n c b s u (regP b s) 105 #[] z w (rv3 h) (by omega) (fun args w => by go_simp) (Lib.hid (fun k wr hk hb hP => reg_any (b k) (s k) (ahI b k) (ahI s k) (u k) (ahB u k) wr (hI k hk).1 (reg_ah k hP).1.1 (reg_ah k hP).1.2 (reg_ah k hP).2.1 (reg_ah k hP).2.2)) (Lib.hid hz))
    have zr := fr_neg hz hr
    clear hz hr
    have hn' : (n : Int) ≤ 4 := by omega
    rcases zr with ⟨hz, rfl⟩ | ⟨hz, rfl⟩
    all_goals
      go_enter Tryz.func75, Tryz.ntmps75
      go_wp2_with fail
      refine C.out.mono ?_
      rintro e1 w5 ⟨rfl, k5⟩
      have HB := Lib.hid k5
      clear k5
      go_wp2_with fail
      go_ret
      refine ⟨ret_bool ?_, HB.out⟩
      first | rfl | (simp; done) | (simp; omega)
  · have hn' : 4 < (n : Int) := by omega
    rw [show decide (n ≤ 4) = false from by simpa using hn, Bool.false_and] at hr
    subst hr
    clear hn
    go_enter Tryz.func75, Tryz.ntmps75
    go_wp2_with fail
    first
      | go_ret
      | (refine ⟨fun _ h => (by cases h), ?_⟩; go_wp2; go_ret)
    refine ⟨ret_bool ?_, Below.refl _ _⟩
    first | rfl | (simp; done) | (simp; omega)

/-- a function's world: a partition's box -/
structure Qs (w0 w : World) (q : PartC) : Prop where
  bel : Below w0.heap.size w0 w
  box : Box w w0.heap.size #[.slice q.ra q.rn q.rc, .slice q.pa q.pn q.pc, .slice q.oa q.on q.oc, .slice q.sa q.sn q.sc, .int .i64 q.fl, .slice q.qa q.qn q.qc, .slice q.ta q.tn q.tc, .int .i64 q.cap, .int .i64 q.bud, .int .i64 q.lad, .slice q.ca q.cn q.cc] 61
theorem qs_next {w0 w w1 : World} {q : PartC} (h : Hid (Qs w0 w q)) (k : Below w.heap.size w w1) : Hid (Qs w0 w1 q) := Lib.hid ⟨below_next h.out.bel k, h.out.box.next k⟩
theorem qs_in (w : World) (q : PartC) : Hid (Qs w (w.alloc (.cells #[.slice q.ra q.rn q.rc, .slice q.pa q.pn q.pc, .slice q.oa q.on q.oc, .slice q.sa q.sn q.sc, .int .i64 q.fl, .slice q.qa q.qn q.qc, .slice q.ta q.tn q.tc, .int .i64 q.cap, .int .i64 q.bud, .int .i64 q.lad, .slice q.ca q.cn q.cc] 61)) q) := Lib.hid ⟨(Below.refl _ _).alloc (Nat.le_refl _) _, Box.new _ _ _⟩
set_option maxRecDepth 100000 in
set_option maxHeartbeats 1000000 in
theorem objects_any (q : PartC) (w : World) (ok : q.Ok w) (r : Bool) (hr : Hid (objB q = r)) :
    Calls Tryz.prog 80 #[.agg #[.slice q.ra q.rn q.rc, .slice q.pa q.pn q.pc, .slice q.oa q.on q.oc, .slice q.sa q.sn q.sc, .int .i64 q.fl, .slice q.qa q.qn q.qc, .slice q.ta q.tn q.tc, .int .i64 q.cap, .int .i64 q.bud, .int .i64 q.lad, .slice q.ca q.cn q.cc]] w fun e w' => e = .returned (.bool r) ∧ Below w.heap.size w w' := by
  have okh := fun w1 (h : Below w.heap.size w w1) => ok.below h (Nat.le_refl _)
  have hr := hr.out
  unfold objB at hr
  obtain ⟨r0, e0⟩ : ∃ z, semsB q = z := ⟨_, rfl⟩
  obtain ⟨r1, e1⟩ : ∃ z, inB q.fl 0 8 = z := ⟨_, rfl⟩
  obtain ⟨r2, e2⟩ : ∃ z, poolsB q = z := ⟨_, rfl⟩
  obtain ⟨r3, e3⟩ : ∃ z, slatesB q = z := ⟨_, rfl⟩
  rw [e0, e1, e2, e3] at hr
  have C0 := Lib.hid (fun w1 h => all_sem q.sa q.sn q.sc 4 (fun k => q.sf k 0) (fun k => q.sf k 1) semB 110 r0 w1 (ri2 (okh w1 h).sem) ok.sem.out.1 (by omega) (fun args w => by go_simp) (Lib.hid (fun a b w => sem_any a b w)) (Lib.hid e0))
  have C1 := Lib.hid (fun w => in_any q.fl 0 8 r1 w (Lib.hid e1))
  have C2 := Lib.hid (fun w1 h => all_pool q.qa q.qn q.qc 4 (fun k => q.qf k 0) (fun k => q.qf k 1) poolB 111 r2 w1 (ri2 (okh w1 h).pool) ok.pool.out.1 (by omega) (fun args w => by go_simp) (Lib.hid (fun a b w => pool_any a b w)) (Lib.hid e2))
  have C3 := Lib.hid (fun w1 h => all_num q.ta q.tn q.tc 4 (fun k => q.tf k) slateB 112 r3 w1 (ri1 (okh w1 h).slate) ok.slate.out.1 (by omega) (fun args w => by go_simp) (Lib.hid (fun a w => slate_any a w)) (Lib.hid e3))
  clear e0 e1 e2 e3 okh
  subst hr
  cases r0
  · skip
    have S := qs_in w q
    have bc := S.out.box.cell
    go_enter Tryz.func80, Tryz.ntmps80
    go_wp2_with fail
    generalize w.alloc (.cells #[.slice q.ra q.rn q.rc, .slice q.pa q.pn q.pc, .slice q.oa q.on q.oc, .slice q.sa q.sn q.sc, .int .i64 q.fl, .slice q.qa q.qn q.qc, .slice q.ta q.tn q.tc, .int .i64 q.cap, .int .i64 q.bud, .int .i64 q.lad, .slice q.ca q.cn q.cc] 61) = W at S bc ⊢
    refine (C0.out _ S.out.bel).mono ?_
    rintro e1 w5 ⟨rfl, k5⟩
    have S := qs_next S k5
    clear k5 bc
    have bc := S.out.box.cell
    go_wp2_with fail
    go_ret
    exact ⟨rfl, S.out.bel⟩
  · cases r1
    · skip
      have S := qs_in w q
      have bc := S.out.box.cell
      go_enter Tryz.func80, Tryz.ntmps80
      go_wp2_with fail
      generalize w.alloc (.cells #[.slice q.ra q.rn q.rc, .slice q.pa q.pn q.pc, .slice q.oa q.on q.oc, .slice q.sa q.sn q.sc, .int .i64 q.fl, .slice q.qa q.qn q.qc, .slice q.ta q.tn q.tc, .int .i64 q.cap, .int .i64 q.bud, .int .i64 q.lad, .slice q.ca q.cn q.cc] 61) = W at S bc ⊢
      refine (C0.out _ S.out.bel).mono ?_
      rintro e1 w5 ⟨rfl, k5⟩
      have S := qs_next S k5
      clear k5 bc
      have bc := S.out.box.cell
      go_wp2_with fail
      refine (C1.out _).mono ?_
      rintro e1 w5 ⟨rfl, e9⟩
      cases e9
      go_wp2_with fail
      go_ret
      exact ⟨rfl, S.out.bel⟩
    · cases r2
      · skip
        have S := qs_in w q
        have bc := S.out.box.cell
        go_enter Tryz.func80, Tryz.ntmps80
        go_wp2_with fail
        generalize w.alloc (.cells #[.slice q.ra q.rn q.rc, .slice q.pa q.pn q.pc, .slice q.oa q.on q.oc, .slice q.sa q.sn q.sc, .int .i64 q.fl, .slice q.qa q.qn q.qc, .slice q.ta q.tn q.tc, .int .i64 q.cap, .int .i64 q.bud, .int .i64 q.lad, .slice q.ca q.cn q.cc] 61) = W at S bc ⊢
        refine (C0.out _ S.out.bel).mono ?_
        rintro e1 w5 ⟨rfl, k5⟩
        have S := qs_next S k5
        clear k5 bc
        have bc := S.out.box.cell
        go_wp2_with fail
        refine (C1.out _).mono ?_
        rintro e1 w5 ⟨rfl, e9⟩
        cases e9
        go_wp2_with fail
        refine (C2.out _ S.out.bel).mono ?_
        rintro e1 w5 ⟨rfl, k5⟩
        have S := qs_next S k5
        clear k5 bc
        have bc := S.out.box.cell
        go_wp2_with fail
        go_ret
        exact ⟨rfl, S.out.bel⟩
      · skip
        have S := qs_in w q
        have bc := S.out.box.cell
        go_enter Tryz.func80, Tryz.ntmps80
        go_wp2_with fail
        generalize w.alloc (.cells #[.slice q.ra q.rn q.rc, .slice q.pa q.pn q.pc, .slice q.oa q.on q.oc, .slice q.sa q.sn q.sc, .int .i64 q.fl, .slice q.qa q.qn q.qc, .slice q.ta q.tn q.tc, .int .i64 q.cap, .int .i64 q.bud, .int .i64 q.lad, .slice q.ca q.cn q.cc] 61) = W at S bc ⊢
        refine (C0.out _ S.out.bel).mono ?_
        rintro e1 w5 ⟨rfl, k5⟩
        have S := qs_next S k5
        clear k5 bc
        have bc := S.out.box.cell
        go_wp2_with fail
        refine (C1.out _).mono ?_
        rintro e1 w5 ⟨rfl, e9⟩
        cases e9
        go_wp2_with fail
        refine (C2.out _ S.out.bel).mono ?_
        rintro e1 w5 ⟨rfl, k5⟩
        have S := qs_next S k5
        clear k5 bc
        have bc := S.out.box.cell
        go_wp2_with fail
        refine (C3.out _ S.out.bel).mono ?_
        rintro e1 w5 ⟨rfl, k5⟩
        have S := qs_next S k5
        clear k5 bc
        have bc := S.out.box.cell
        go_wp2_with fail
        go_ret
        exact ⟨by cases r3 <;> rfl, S.out.bel⟩
end Go.Proofs.YtlafeijkpnpdeaaGreat.Vpa
