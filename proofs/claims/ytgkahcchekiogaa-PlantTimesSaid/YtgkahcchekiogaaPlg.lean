/- Walks of package plant: Run, New. -/
import Derived.Test.YtgkahcchekiogaaPlf
namespace Go.Proofs.Ytgkahcchekiogaa.Plg
open Go.RowKit Base Kit RefA Alt WideA WideB Plain MetA MetB MetC Conf Plb Plc Held Pld Ple
set_option linter.unusedVariables false
set_option linter.unusedSimpArgs false
attribute [local go_sem ↓] Go.wp_at_zero Go.wp_at_succ
theorem run_chg (v0 v1 v2 v3 : Value) (w : World) : (Instr.field 113 (.agg #[v0, v1, v2, v3]) 0).run Try.prog w = .ok v0 w := by kernel_rfl
theorem pl_charge {w0 w : World} {b m g n : Nat} {c : PowC} {s : PS} (h : Hid (Pl w0 w b m g n c s)) :
    Calls Try.prog 70 #[.pointer (some ⟨m, 0, none⟩)] w fun e w' => ∃ g' c' x y z, e = .returned (.agg #[.slice (some ⟨g', 0, none⟩) n c', .int .i64 x, .int .i64 y, .int .i64 z]) ∧ Below w.heap.size w w' := by
  refine (charge_any w m g n n s.m h.out.met h.out.ok.ok).mono ?_
  rintro e w' ⟨g', c', rfl, hb, hr⟩
  exact ⟨g', c', _, _, _, rfl, hb⟩

set_option maxRecDepth 100000 in
set_option maxHeartbeats 2000000 in
theorem run_any {w0 w : World} {b m g n : Nat} {c : PowC} {s : PS} (h : Hid (Pl w0 w b m g n c s)) (part cy : Int) (hp : I64 part) (hc : I64 cy) (x : Int) (s' : PS) (hx : Hid (runP n c s part cy = (x, s'))) :
    Calls Try.prog 23 #[.pointer (some ⟨b, 0, none⟩), .int .i64 part, .int .i64 cy] w (PPost w0 w b m g n c x s') := by
  have hb := h.out.box.cell
  have hn := h.out.ok.ok.hn
  obtain ⟨at', hat⟩ : ∃ t, (whenP c s cy).1 = t := ⟨_, rfl⟩
  obtain ⟨e', he⟩ : ∃ t, (whenP c s cy).2 = t := ⟨_, rfl⟩
  obtain ⟨W1, W2, W3⟩ := when_bd (c := c) h.out.ok cy
  rw [hat] at W1 W2
  rw [he] at W3
  have ways : (part < 0 ∧ x = 2 ∧ s' = s) ∨ (0 ≤ part ∧ (n : Int) ≤ part ∧ x = 2 ∧ s' = s) ∨ (0 ≤ part ∧ part < (n : Int) ∧ e' ≠ 0 ∧ x = e' ∧ s' = s) ∨ (0 ≤ part ∧ part < (n : Int) ∧ e' = 0 ∧
      (if (spendP n s (one 0 part (c.lf s.level.toNat 1) (at' - s.now)) 1).1 ≠ 0 then spendP n s (one 0 part (c.lf s.level.toNat 1) (at' - s.now)) 1 else
      (0, { (spendP n s (one 0 part (c.lf s.level.toNat 1) (at' - s.now)) 1).2 with done := (spendP n s (one 0 part (c.lf s.level.toNat 1) (at' - s.now)) 1).2.done + cy })) = (x, s')) := by
    have := hx.out
    unfold runP at this
    rw [hat, he] at this
    by_cases h1 : part < 0
    · rw [if_pos (.inl h1)] at this; cases this; exact .inl ⟨h1, rfl, rfl⟩
    · by_cases h2 : (n : Int) ≤ part
      · rw [if_pos (.inr h2)] at this; cases this; exact .inr (.inl ⟨by omega, h2, rfl, rfl⟩)
      · rw [if_neg (by omega)] at this
        by_cases h3 : e' ≠ 0
        · rw [if_pos h3] at this; cases this; exact .inr (.inr (.inl ⟨by omega, by omega, h3, rfl, rfl⟩))
        · rw [if_neg h3] at this; exact .inr (.inr (.inr ⟨by omega, by omega, by simpa using h3, this⟩))
  have CW := Lib.hid (fun w (h : Hid (Pl w0 w b m g n c s)) => when_any h cy at' e' hc (Lib.hid (Prod.ext hat he)))
  have fld := fun (v0 v1 v2 v3 : Value) (w : World) => run_chg v0 v1 v2 v3 w
  clear hx hat he
  rcases ways with ⟨h1, rfl, rfl⟩ | ⟨h1, h2, rfl, rfl⟩ | ⟨h1, h2, h3, rfl, rfl⟩ | ⟨h1, h2, rfl, hx⟩
  · --
    go_enter Try.func23, Try.ntmps23
    go_wp2_with fail
    refine (dead_any _ _ m (by rw [hb]; rfl)).mono ?_
    rintro e1 w5 ⟨rfl, rfl⟩
    go_wp2_with fail
    go_ret
    exact ⟨rfl, Alt.refl _ _, h⟩
  · --
    go_enter Try.func23, Try.ntmps23
    go_wp2_with fail
    refine (dead_any _ _ m (by rw [hb]; rfl)).mono ?_
    rintro e1 w5 ⟨rfl, rfl⟩
    go_wp2_with fail
    refine (pl_charge h).mono ?_
    rintro e1 w2 ⟨g', c', z0, z1, z2, rfl, hb2⟩
    have P2 := pl_next h hb2
    go_wp2_with fail
    go_ret
    exact ⟨rfl, Alt.of_below hb2, P2⟩
  · have h4 : (x != 0) = true := by simpa using h3
    clear h3
    go_enter Try.func23, Try.ntmps23
    go_wp2_with fail
    refine (dead_any _ _ m (by rw [hb]; rfl)).mono ?_
    rintro e1 w5 ⟨rfl, rfl⟩
    go_wp2_with fail
    refine (pl_charge h).mono ?_
    rintro e1 w2 ⟨g', c', z0, z1, z2, rfl, hb2⟩
    have P2 := pl_next h hb2
    go_wp2_with fail
    refine (CW.out _ P2).mono ?_
    rintro e1 w3 ⟨rfl, hb3⟩
    have P3 := pl_next P2 hb3
    have A3 := Lib.hid ((Alt.of_below (S := PX b m g) hb2).trans (Alt.of_below hb3))
    clear hb2 hb3 P2 CW
    go_wp2_with fail
    go_ret
    exact ⟨rfl, A3.out, P3⟩
  · obtain ⟨W4, W5, W6⟩ := W3 rfl
    obtain ⟨l, hlv⟩ : ∃ t, s.level = t := ⟨_, rfl⟩
    rw [hlv] at hx W6 hb
    obtain ⟨k, rfl⟩ := Int.eq_ofNat_of_zero_le W6
    have hk : k < c.ln := by have := h.out.ok.level; omega
    simp only [Int.toNat_natCast] at hx
    obtain ⟨d, o, ea, l1, q0, q1, i0, i1⟩ := rows_at2 h.out.co.lev k hk
    obtain ⟨y, hy⟩ : ∃ t, c.lf k 1 = t := ⟨_, rfl⟩
    rw [hy] at q1 i1 hx
    obtain ⟨tn, htn⟩ : ∃ t, s.now = t := ⟨_, rfl⟩
    have n0 := h.out.ok.now
    rw [htn] at hx hb n0
    rw [ea] at hb
    obtain ⟨x1, hx1⟩ : ∃ x1, (spendP n s (one 0 part y (at' - tn)) 1).1 = x1 := ⟨_, rfl⟩
    obtain ⟨s1, hs1⟩ : ∃ s1, (spendP n s (one 0 part y (at' - tn)) 1).2 = s1 := ⟨_, rfl⟩
    obtain ⟨k1, k2, k3, k4⟩ := spend_ok (f := one 0 part y (at' - tn)) h.out.ok 1
    rw [hs1] at k1 k3
    have ways : (x1 = 0 ∧ x = 0 ∧ s' = { s1 with done := s1.done + cy }) ∨ (x1 ≠ 0 ∧ x = x1 ∧ s' = s1) := by
      rw [hx1, hs1] at hx
      by_cases h0 : x1 = 0
      · rw [if_neg (by simpa using h0)] at hx; simp only [Prod.mk.injEq] at hx; exact .inl ⟨h0, hx.1.symm, hx.2.symm⟩
      · rw [if_pos h0] at hx
        have e : spendP n s (one 0 part y (at' - tn)) 1 = (x1, s1) := Prod.ext hx1 hs1
        rw [e] at hx; simp only [Prod.mk.injEq] at hx; exact .inr ⟨h0, hx.1.symm, hx.2.symm⟩
    have SX : Hid (spendP n s (one 0 part y (at' - tn)) 1 = (x1, s1)) := Lib.hid (Prod.ext hx1 hs1)
    have K1 := Lib.hid k1
    have K3 := Lib.hid k3
    have HL := Lib.hid hlv
    have HT := Lib.hid htn
    have EA := Lib.hid ea
    have Q1 := Lib.hid q1
    clear hx hx1 hs1 k1 k2 k3 k4 hlv htn ea q0 q1 hy
    go_enter Try.func23, Try.ntmps23
    go_wp2_with fail
    refine (dead_any _ _ m (by rw [hb]; rfl)).mono ?_
    rintro e1 w5 ⟨rfl, rfl⟩
    go_wp2_with fail
    refine (pl_charge h).mono ?_
    rintro e1 w2 ⟨g', c', z0, z1, z2, rfl, hb2⟩
    have P2 := pl_next h hb2
    go_wp2_with fail
    refine (CW.out _ P2).mono ?_
    rintro e1 w3 ⟨rfl, hb3⟩
    have P3 := pl_next P2 hb3
    have A3 := Lib.hid ((Alt.of_below (S := PX b m g) hb2).trans (Alt.of_below hb3))
    clear hb2 hb3 P2 CW
    go_wp2_with fail
    have P4 := pl_next P3 (Below.refl _ _).drew
    have A4 := Lib.hid (A3.out.trans (Alt.of_below (Below.refl _ _).drew))
    clear P3 A3 fld
    have pd := P4.out.box.cell
    have WS : IntKind.i64.wrap (at' - tn) = at' - tn := IntWalk.i64_in _ (by omega)
    rw [HT.out, HL.out, EA.out] at pd
    refine wp_region_till (fun w' => w'.cell? ⟨d, o + k * 2 + 1, none⟩ = some (.int .i64 y) ∧ True) (fun w' => ∀ i, w'.cell? ⟨b, i, none⟩ = (#[.int .i64 tn, .int .i64 s.base, .int .i64 s.done, .int .i64 (k : Int), .slice (some ⟨d, o, none⟩) c.ln c.lc, .slice c.na c.nn c.nc, .int .i64 c.sw, .int .i64 c.id, .int .i64 c.ch, .int .i64 c.qu, .int .i64 c.sl, .int .i64 c.pp, .pointer (some ⟨m, 0, none⟩)] : Array Value)[i]?) 24 26 #[false, false, false, false, false, false, false, false, false, false, false, false, false, false, false, false, false, false, false, false, false, false, false, false, false, false] (by kernel_rfl) rfl rfl ⟨⟨keep P4.out.bel Q1.out l1, trivial⟩, pd⟩ (fun hHeld => ?_)
    refine HeldT.wpTill_takeT false (i := 0) (v := ?_) rfl (by kernel_rfl) (by kernel_rfl) (by kernel_rfl) (fun _ _ _ h => h) (by kernel_rfl) (Or.inl ⟨by first | rfl | kernel_rfl, ?_⟩) hHeld (fun hHeld => ?_)
    rotate_left
    · (intro w' hSw; obtain ⟨⟨r1, r2⟩, r3⟩ := hSw; (try have r4 := r3 rfl); (try dsimp only at r1 r2 r4); clear r3; go_simp; try with_reducible rfl)
    try simp only [Act.put, List.setIfInBounds_toArray, List.set_cons_zero, List.set_cons_succ, List.getElem_toArray, List.getElem_cons_succ, List.getElem_cons_zero]
    refine HeldT.wpTill_takeT false (i := 1) (v := ?_) rfl (by kernel_rfl) (by kernel_rfl) (by kernel_rfl) (fun _ _ _ h => h) (by kernel_rfl) (Or.inl ⟨by first | rfl | kernel_rfl, ?_⟩) hHeld (fun hHeld => ?_)
    rotate_left
    · (intro w' hSw; obtain ⟨⟨r1, r2⟩, r3⟩ := hSw; (try have r4 := r3 rfl); (try dsimp only at r1 r2 r4); clear r3; go_simp; try with_reducible rfl)
    try simp only [Act.put, List.setIfInBounds_toArray, List.set_cons_zero, List.set_cons_succ, List.getElem_toArray, List.getElem_cons_succ, List.getElem_cons_zero]
    refine HeldT.wpTill_takeT false (i := 2) (v := ?_) rfl (by kernel_rfl) (by kernel_rfl) (by kernel_rfl) (fun _ _ _ h => h) (by kernel_rfl) (Or.inl ⟨by first | rfl | kernel_rfl, ?_⟩) hHeld (fun hHeld => ?_)
    rotate_left
    · (intro w' hSw; obtain ⟨⟨r1, r2⟩, r3⟩ := hSw; (try have r4 := r3 rfl); (try dsimp only at r1 r2 r4); clear r3; go_simp; try with_reducible rfl)
    try simp only [Act.put, List.setIfInBounds_toArray, List.set_cons_zero, List.set_cons_succ, List.getElem_toArray, List.getElem_cons_succ, List.getElem_cons_zero]
    refine HeldT.wpTill_takeT false (i := 3) (v := ?_) rfl (by kernel_rfl) (by kernel_rfl) (by kernel_rfl) (fun _ _ _ h => h) (by kernel_rfl) (Or.inl ⟨by first | rfl | kernel_rfl, ?_⟩) hHeld (fun hHeld => ?_)
    rotate_left
    · (intro w' hSw; obtain ⟨⟨r1, r2⟩, r3⟩ := hSw; (try have r4 := r3 rfl); (try dsimp only at r1 r2 r4); clear r3; go_simp; try with_reducible rfl)
    try simp only [Act.put, List.setIfInBounds_toArray, List.set_cons_zero, List.set_cons_succ, List.getElem_toArray, List.getElem_cons_succ, List.getElem_cons_zero]
    refine HeldT.wpTill_takeT false (i := 4) (v := ?_) rfl (by kernel_rfl) (by kernel_rfl) (by kernel_rfl) (fun _ _ _ h => h) (by kernel_rfl) (Or.inl ⟨by first | rfl | kernel_rfl, ?_⟩) hHeld (fun hHeld => ?_)
    rotate_left
    · (intro w' hSw; obtain ⟨⟨r1, r2⟩, r3⟩ := hSw; (try have r4 := r3 rfl); (try dsimp only at r1 r2 r4); clear r3; go_simp; try with_reducible rfl)
    try simp only [Act.put, List.setIfInBounds_toArray, List.set_cons_zero, List.set_cons_succ, List.getElem_toArray, List.getElem_cons_succ, List.getElem_cons_zero]
    refine HeldT.wpTill_takeT false (i := 5) (v := ?_) rfl (by kernel_rfl) (by kernel_rfl) (by kernel_rfl) (fun _ _ _ h => h) (by kernel_rfl) (Or.inl ⟨by first | rfl | kernel_rfl, ?_⟩) hHeld (fun hHeld => ?_)
    rotate_left
    · (intro w' hSw; obtain ⟨⟨r1, r2⟩, r3⟩ := hSw; (try have r4 := r3 rfl); (try dsimp only at r1 r2 r4); clear r3; go_simp; try with_reducible rfl)
    try simp only [Act.put, List.setIfInBounds_toArray, List.set_cons_zero, List.set_cons_succ, List.getElem_toArray, List.getElem_cons_succ, List.getElem_cons_zero]
    refine HeldT.wpTill_takeT true (i := 6) (v := ?_) rfl (by kernel_rfl) (by kernel_rfl) (by kernel_rfl) (fun _ _ _ h => h) (by kernel_rfl) (Or.inl ⟨by first | rfl | kernel_rfl, ?_⟩) hHeld (fun hHeld => ?_)
    rotate_left
    · (intro w' hSw; obtain ⟨⟨r1, r2⟩, r3⟩ := hSw; (try have r4 := r3 rfl); (try dsimp only at r1 r2 r4); clear r3; go_simp; try with_reducible rfl)
    try simp only [Act.put, List.setIfInBounds_toArray, List.set_cons_zero, List.set_cons_succ, List.getElem_toArray, List.getElem_cons_succ, List.getElem_cons_zero]
    refine HeldT.wpTill_takeT false (i := 7) (v := ?_) rfl (by kernel_rfl) (by kernel_rfl) (by kernel_rfl) (fun _ _ _ h => h) (by kernel_rfl) (Or.inl ⟨by first | rfl | kernel_rfl, ?_⟩) hHeld (fun hHeld => ?_)
    rotate_left
    · (intro w' hSw; obtain ⟨⟨r1, r2⟩, r3⟩ := hSw; (try have r4 := r3 rfl); (try dsimp only at r1 r2 r4); clear r3; go_simp; try with_reducible rfl)
    try simp only [Act.put, List.setIfInBounds_toArray, List.set_cons_zero, List.set_cons_succ, List.getElem_toArray, List.getElem_cons_succ, List.getElem_cons_zero]
    refine HeldT.wpTill_takeT false (i := 8) (v := ?_) rfl (by kernel_rfl) (by kernel_rfl) (by kernel_rfl) (fun _ _ _ h => h) (by kernel_rfl) (Or.inl ⟨by first | rfl | kernel_rfl, ?_⟩) hHeld (fun hHeld => ?_)
    rotate_left
    · (intro w' hSw; obtain ⟨⟨r1, r2⟩, r3⟩ := hSw; (try have r4 := r3 rfl); (try dsimp only at r1 r2 r4); clear r3; go_simp; try with_reducible rfl)
    try simp only [Act.put, List.setIfInBounds_toArray, List.set_cons_zero, List.set_cons_succ, List.getElem_toArray, List.getElem_cons_succ, List.getElem_cons_zero]
    refine HeldT.wpTill_takeT false (i := 9) (v := ?_) rfl (by kernel_rfl) (by kernel_rfl) (by kernel_rfl) (fun _ _ _ h => h) (by kernel_rfl) (Or.inl ⟨by first | rfl | kernel_rfl, ?_⟩) hHeld (fun hHeld => ?_)
    rotate_left
    · (intro w' hSw; obtain ⟨⟨r1, r2⟩, r3⟩ := hSw; (try have r4 := r3 rfl); (try dsimp only at r1 r2 r4); clear r3; go_simp; try with_reducible rfl)
    try simp only [Act.put, List.setIfInBounds_toArray, List.set_cons_zero, List.set_cons_succ, List.getElem_toArray, List.getElem_cons_succ, List.getElem_cons_zero]
    refine HeldT.wpTill_takeT false (i := 10) (v := ?_) rfl (by kernel_rfl) (by kernel_rfl) (by kernel_rfl) (fun _ _ _ h => h) (by kernel_rfl) (Or.inl ⟨by first | rfl | kernel_rfl, ?_⟩) hHeld (fun hHeld => ?_)
    rotate_left
    · (intro w' hSw; obtain ⟨⟨r1, r2⟩, r3⟩ := hSw; (try have r4 := r3 rfl); (try dsimp only at r1 r2 r4); clear r3; go_simp; try with_reducible rfl)
    try simp only [Act.put, List.setIfInBounds_toArray, List.set_cons_zero, List.set_cons_succ, List.getElem_toArray, List.getElem_cons_succ, List.getElem_cons_zero]
    refine HeldT.wpTill_takeT true (i := 11) (v := ?_) rfl (by kernel_rfl) (by kernel_rfl) (by kernel_rfl) (fun _ _ _ h => h) (by kernel_rfl) (Or.inl ⟨by first | rfl | kernel_rfl, ?_⟩) hHeld (fun hHeld => ?_)
    rotate_left
    · (intro w' hSw; obtain ⟨⟨r1, r2⟩, r3⟩ := hSw; (try have r4 := r3 rfl); (try dsimp only at r1 r2 r4); clear r3; go_simp; try with_reducible rfl)
    try simp only [Act.put, List.setIfInBounds_toArray, List.set_cons_zero, List.set_cons_succ, List.getElem_toArray, List.getElem_cons_succ, List.getElem_cons_zero]
    refine HeldT.wpTill_takeT false (i := 12) (v := ?_) rfl (by kernel_rfl) (by kernel_rfl) (by kernel_rfl) (fun _ _ _ h => h) (by kernel_rfl) (Or.inl ⟨by first | rfl | kernel_rfl, ?_⟩) hHeld (fun hHeld => ?_)
    rotate_left
    · (intro w' hSw; obtain ⟨⟨r1, r2⟩, r3⟩ := hSw; (try have r4 := r3 rfl); (try dsimp only at r1 r2 r4); clear r3; go_simp; try with_reducible rfl)
    try simp only [Act.put, List.setIfInBounds_toArray, List.set_cons_zero, List.set_cons_succ, List.getElem_toArray, List.getElem_cons_succ, List.getElem_cons_zero]
    refine HeldT.wpTill_takeT false (i := 13) (v := ?_) rfl (by kernel_rfl) (by kernel_rfl) (by kernel_rfl) (fun _ _ _ h => h) (by kernel_rfl) (Or.inl ⟨by first | rfl | kernel_rfl, ?_⟩) hHeld (fun hHeld => ?_)
    rotate_left
    · (intro w' hSw; obtain ⟨⟨r1, r2⟩, r3⟩ := hSw; (try have r4 := r3 rfl); (try dsimp only at r1 r2 r4); clear r3; go_simp; try with_reducible rfl)
    try simp only [Act.put, List.setIfInBounds_toArray, List.set_cons_zero, List.set_cons_succ, List.getElem_toArray, List.getElem_cons_succ, List.getElem_cons_zero]
    refine HeldT.wpTill_takeT false (i := 14) (v := ?_) rfl (by kernel_rfl) (by kernel_rfl) (by kernel_rfl) (fun _ _ _ h => h) (by kernel_rfl) (Or.inl ⟨by first | rfl | kernel_rfl, ?_⟩) hHeld (fun hHeld => ?_)
    rotate_left
    · (intro w' hSw; obtain ⟨⟨r1, r2⟩, r3⟩ := hSw; (try have r4 := r3 rfl); (try dsimp only at r1 r2 r4); clear r3; go_simp; try with_reducible rfl)
    try simp only [Act.put, List.setIfInBounds_toArray, List.set_cons_zero, List.set_cons_succ, List.getElem_toArray, List.getElem_cons_succ, List.getElem_cons_zero]
    refine HeldT.wpTill_takeT false (i := 15) (v := ?_) rfl (by kernel_rfl) (by kernel_rfl) (by kernel_rfl) (fun _ _ _ h => h) (by kernel_rfl) (Or.inl ⟨by first | rfl | kernel_rfl, ?_⟩) hHeld (fun hHeld => ?_)
    rotate_left
    · (intro w' hSw; obtain ⟨⟨r1, r2⟩, r3⟩ := hSw; (try have r4 := r3 rfl); (try dsimp only at r1 r2 r4); clear r3; go_simp; try with_reducible rfl)
    try simp only [Act.put, List.setIfInBounds_toArray, List.set_cons_zero, List.set_cons_succ, List.getElem_toArray, List.getElem_cons_succ, List.getElem_cons_zero]
    refine HeldT.wpTill_takeT false (i := 16) (v := ?_) rfl (by kernel_rfl) (by kernel_rfl) (by kernel_rfl) (fun _ _ _ h => h) (by kernel_rfl) (Or.inl ⟨by first | rfl | kernel_rfl, ?_⟩) hHeld (fun hHeld => ?_)
    rotate_left
    · (intro w' hSw; obtain ⟨⟨r1, r2⟩, r3⟩ := hSw; (try have r4 := r3 rfl); (try dsimp only at r1 r2 r4); clear r3; go_simp; try with_reducible rfl)
    try simp only [Act.put, List.setIfInBounds_toArray, List.set_cons_zero, List.set_cons_succ, List.getElem_toArray, List.getElem_cons_succ, List.getElem_cons_zero]
    refine HeldT.wpTill_takeT false (i := 17) (v := ?_) rfl (by kernel_rfl) (by kernel_rfl) (by kernel_rfl) (fun _ _ _ h => h) (by kernel_rfl) (Or.inl ⟨by first | rfl | kernel_rfl, ?_⟩) hHeld (fun hHeld => ?_)
    rotate_left
    · (intro w' hSw; obtain ⟨⟨r1, r2⟩, r3⟩ := hSw; (try have r4 := r3 rfl); (try dsimp only at r1 r2 r4); clear r3; go_simp; try with_reducible rfl)
    try simp only [Act.put, List.setIfInBounds_toArray, List.set_cons_zero, List.set_cons_succ, List.getElem_toArray, List.getElem_cons_succ, List.getElem_cons_zero]
    refine HeldT.wpTill_takeT false (i := 18) (v := ?_) rfl (by kernel_rfl) (by kernel_rfl) (by kernel_rfl) (fun _ _ _ h => h) (by kernel_rfl) (Or.inl ⟨by first | rfl | kernel_rfl, ?_⟩) hHeld (fun hHeld => ?_)
    rotate_left
    · (intro w' hSw; obtain ⟨⟨r1, r2⟩, r3⟩ := hSw; (try have r4 := r3 rfl); (try dsimp only at r1 r2 r4); clear r3; go_simp; try with_reducible rfl)
    try simp only [Act.put, List.setIfInBounds_toArray, List.set_cons_zero, List.set_cons_succ, List.getElem_toArray, List.getElem_cons_succ, List.getElem_cons_zero]
    refine HeldT.wpTill_takeT false (i := 19) (v := ?_) rfl (by kernel_rfl) (by kernel_rfl) (by kernel_rfl) (fun _ _ _ h => h) (by kernel_rfl) (Or.inl ⟨by first | rfl | kernel_rfl, ?_⟩) hHeld (fun hHeld => ?_)
    rotate_left
    · (intro w' hSw; obtain ⟨⟨r1, r2⟩, r3⟩ := hSw; (try have r4 := r3 rfl); (try dsimp only at r1 r2 r4); clear r3; go_simp; try with_reducible rfl)
    try simp only [Act.put, List.setIfInBounds_toArray, List.set_cons_zero, List.set_cons_succ, List.getElem_toArray, List.getElem_cons_succ, List.getElem_cons_zero]
    refine HeldT.wpTill_takeT true (i := 20) (v := ?_) rfl (by kernel_rfl) (by kernel_rfl) (by kernel_rfl) (fun _ _ _ h => h) (by kernel_rfl) (Or.inl ⟨by first | rfl | kernel_rfl, ?_⟩) hHeld (fun hHeld => ?_)
    rotate_left
    · (intro w' hSw; obtain ⟨⟨r1, r2⟩, r3⟩ := hSw; (try have r4 := r3 rfl); (try dsimp only at r1 r2 r4); clear r3; go_simp; try with_reducible rfl)
    try simp only [Act.put, List.setIfInBounds_toArray, List.set_cons_zero, List.set_cons_succ, List.getElem_toArray, List.getElem_cons_succ, List.getElem_cons_zero]
    refine HeldT.wpTill_takeT false (i := 21) (v := ?_) rfl (by kernel_rfl) (by kernel_rfl) (by kernel_rfl) (fun _ _ _ h => h) (by kernel_rfl) (Or.inl ⟨by first | rfl | kernel_rfl, ?_⟩) hHeld (fun hHeld => ?_)
    rotate_left
    · (intro w' hSw; obtain ⟨⟨r1, r2⟩, r3⟩ := hSw; (try have r4 := r3 rfl); (try dsimp only at r1 r2 r4); clear r3; go_simp; try with_reducible rfl)
    try simp only [Act.put, List.setIfInBounds_toArray, List.set_cons_zero, List.set_cons_succ, List.getElem_toArray, List.getElem_cons_succ, List.getElem_cons_zero]
    refine HeldT.wpTill_takeT false (i := 22) (v := ?_) rfl (by kernel_rfl) (by kernel_rfl) (by kernel_rfl) (fun _ _ _ h => h) (by kernel_rfl) (Or.inl ⟨by first | rfl | kernel_rfl, ?_⟩) hHeld (fun hHeld => ?_)
    rotate_left
    · (intro w' hSw; obtain ⟨⟨r1, r2⟩, r3⟩ := hSw; (try have r4 := r3 rfl); (try dsimp only at r1 r2 r4); clear r3; go_simp; try with_reducible rfl)
    try simp only [Act.put, List.setIfInBounds_toArray, List.set_cons_zero, List.set_cons_succ, List.getElem_toArray, List.getElem_cons_succ, List.getElem_cons_zero]
    refine wpTill_one (i := 23) (by kernel_rfl) rfl (fun K hK => ?_)
    go_simp
    have P5 := pl_next P4 ((Below.refl _ _).alloc (Nat.le_refl _) (.cells #[.int .i64 0, .int .i64 part, .int .i64 y, .int .i64 (at' - tn)] 124))
    have A5 := Lib.hid (A4.out.trans (Alt.alloc _ (.cells #[.int .i64 0, .int .i64 part, .int .i64 y, .int .i64 (at' - tn)] 124)))
    have pd2 := P5.out.box.cell
    rw [HT.out, HL.out, EA.out] at pd2
    refine hK _ _ ⟨⟨keep P5.out.bel Q1.out l1, trivial⟩, fun _ => pd2⟩ (fun hHeld => ?_)
    clear hK K
    refine wpTill_one (i := 24) (by kernel_rfl) rfl (fun K hK => ?_)
    rw [if_pos (by kernel_rfl)]
    go_simp
    refine (spend_any P5 _ 1 _ (by omega) (sp_one P5 (Box.new _ _ _) ⟨by omega, by omega⟩ hp i1 ⟨by omega, by omega⟩) x1 s1 SX).mono ?_
    rintro e1 w2 ⟨rfl, a2, P6⟩
    have A6 := Lib.hid (A5.out.trans a2)
    refine hK _ _ ⟨⟨keep P6.out.bel Q1.out l1, trivial⟩, fun h => (by cases h)⟩ (fun hHeld => ?_)
    clear hK K
    refine HeldT.wpTill_takeT false (i := 25) (v := ?_) rfl (by kernel_rfl) (by kernel_rfl) (by kernel_rfl) (fun _ _ _ h => h) (by kernel_rfl) (Or.inl ⟨by first | rfl | kernel_rfl, ?_⟩) hHeld (fun hHeld => ?_)
    rotate_left
    · (intro w' hSw; obtain ⟨⟨r1, r2⟩, r3⟩ := hSw; (try have r4 := r3 rfl); (try dsimp only at r1 r2 r4); clear r3; go_simp; try with_reducible rfl)
    try simp only [Act.put, List.setIfInBounds_toArray, List.set_cons_zero, List.set_cons_succ, List.getElem_toArray, List.getElem_cons_succ, List.getElem_cons_zero]
    refine wpTill_done (by kernel_rfl) ?_ 0
    clear hHeld pd pd2 P4 P5 A4 A5 a2 hb WS SX
    rcases ways with ⟨rfl, rfl, rfl⟩ | ⟨q1, rfl, rfl⟩
    · have d0 := P6.out.ok.done
      have hbx := P6.out.box.cell
      have hfx := P6.out.box.frozen
      have hd : s1.done + cy ≤ 2305843009213693952 := by rw [K3.out]; omega
      have FIN := Lib.hid (pl_set (s' := { s1 with done := s1.done + cy }) P6 (Alt.set (S := fun i => i = b) w2 ⟨b, 2, none⟩ (.int .i64 (s1.done + cy)) rfl) (fun vs hv e => by subst e; exact hv.set 2 _) rfl ⟨K1.out.now, K1.out.base, ⟨by simp only; omega, by simp only; omega⟩, K1.out.level, K1.out.tim, K1.out.ok⟩)
      go_wp2_with fail
      go_ret
      exact ⟨rfl, A6.out.trans FIN.out.1, FIN.out.2⟩
    · have q2 : (x != 0) = true := by simpa using q1
      clear q1
      go_wp2_with fail
      go_ret
      exact ⟨rfl, A6.out, P6⟩
end Go.Proofs.Ytgkahcchekiogaa.Plg
