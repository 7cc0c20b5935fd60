/- Walks of package plant: Idle, Nap. -/
import Derived.Test.YtgkahcchekiogaaPle
namespace Go.Proofs.Ytgkahcchekiogaa.Plf
open Go.RowKit Base Kit RefA Alt WideA WideB Plain MetA MetB MetC Conf Plb Plc Held Pld Ple
set_option linter.unusedVariables false
set_option linter.unusedSimpArgs false
attribute [local go_sem ↓] Go.wp_at_zero Go.wp_at_succ
set_option maxRecDepth 100000 in
set_option maxHeartbeats 2000000 in
theorem idle_any {w0 w : World} {b m g n : Nat} {c : PowC} {s : PS} (h : Hid (Pl w0 w b m g n c s)) (u : Int) (hl : I64 u) (x : Int) (s' : PS) (hx : Hid (idleP n c s u = (x, s'))) :
    Calls Try.prog 25 #[.pointer (some ⟨b, 0, none⟩), .int .i64 u] w (PPost w0 w b m g n c x s') := by
  have E0 := pe_in h
  have hb := E0.out.pl.out.box.cell
  have ce := E0.out.box.cell
  have cf := E0.out.box.frozen
  obtain ⟨tn, htn⟩ : ∃ tn, s.now = tn := ⟨_, rfl⟩
  have n0 := h.out.ok.now
  obtain ⟨na, hna⟩ : ∃ na, c.na = na := ⟨_, rfl⟩
  rw [htn, hna] at hb
  rw [htn] at n0
  have ways : (u < tn ∧ x = 2 ∧ s' = s) ∨ (tn ≤ u ∧ 2305843009213693952 < u ∧ x = 6 ∧ s' = s) ∨ (tn ≤ u ∧ u ≤ 2305843009213693952 ∧ setP (spendP n s (one 1 0 c.id (u - tn)) 1) id = (x, s')) := by
    have := hx.out
    unfold idleP at this
    rw [htn] at this
    by_cases h1 : u < tn
    · rw [if_pos h1] at this; cases this; exact .inl ⟨h1, rfl, rfl⟩
    · rw [if_neg h1] at this
      by_cases h2 : 2305843009213693952 < u
      · rw [if_pos h2] at this; cases this; exact .inr (.inl ⟨by omega, h2, rfl, rfl⟩)
      · rw [if_neg h2] at this; exact .inr (.inr ⟨by omega, by omega, this⟩)
  have HN := Lib.hid htn
  have HA := Lib.hid hna
  clear hx htn hna
  rcases ways with ⟨h1, rfl, rfl⟩ | ⟨h1, h2, rfl, rfl⟩ | ⟨h1, h2, hx⟩
  · have hE := pe_store E0 2
    clear E0
    go_enter_defers Try.func25, Try.ntmps25
    go_wp2_with fail
    generalize w.alloc (.cells #[.int .i64 0] 45) = w1 at *
    generalize w.heap.size = eb at *
    refine (dead_any _ _ m (by rw [hb]; rfl)).mono ?_
    rintro e1 w5 ⟨rfl, e9⟩
    cases e9
    go_wp2_with fail
    refine ⟨.int .i64 (2), by simp [results, Try.results25, go_sem, hE.out.box.cell], rfl, hE.out.alt, hE.out.pl⟩
  · have hE := pe_store E0 6
    clear E0
    go_enter_defers Try.func25, Try.ntmps25
    go_wp2_with fail
    generalize w.alloc (.cells #[.int .i64 0] 45) = w1 at *
    generalize w.heap.size = eb at *
    refine (dead_any _ _ m (by rw [hb]; rfl)).mono ?_
    rintro e1 w5 ⟨rfl, e9⟩
    cases e9
    go_wp2_with fail
    refine ⟨.int .i64 (6), by simp [results, Try.results25, go_sem, hE.out.box.cell], rfl, hE.out.alt, hE.out.pl⟩
  · have HX := Lib.hid hx
    clear hx
    have i1 := h.out.co.id
    obtain ⟨x1, hx1⟩ : ∃ x1, (spendP n s (one 1 0 c.id (u - tn)) 1).1 = x1 := ⟨_, rfl⟩
    obtain ⟨s1, hs1⟩ : ∃ s1, (spendP n s (one 1 0 c.id (u - tn)) 1).2 = s1 := ⟨_, rfl⟩
    have SX : Hid (spendP n s (one 1 0 c.id (u - tn)) 1 = (x1, s1)) := Lib.hid (Prod.ext hx1 hs1)
    have ways : (x1 = 0 ∧ x = 0 ∧ s' = syncP s1) ∨ (x1 ≠ 0 ∧ x = x1 ∧ s' = s1) := by
      have := HX.out
      rw [SX.out] at this
      unfold setP at this
      by_cases h0 : x1 = 0
      · rw [if_neg (by simpa using h0)] at this; simp only [Prod.mk.injEq] at this; exact .inl ⟨h0, this.1.symm, this.2.symm⟩
      · rw [if_pos h0] at this; simp only [Prod.mk.injEq] at this; exact .inr ⟨h0, this.1.symm, this.2.symm⟩
    clear hx1 hs1 HX
    go_enter_defers Try.func25, Try.ntmps25
    go_wp2_with fail
    generalize w.alloc (.cells #[.int .i64 0] 45) = w1 at *
    generalize w.heap.size = eb at *
    refine (dead_any _ _ m (by rw [hb]; rfl)).mono ?_
    rintro e1 w5 ⟨rfl, e9⟩
    cases e9
    go_wp2_with fail
    have E1 := pe_next E0 (Below.refl _ _).drew
    have pd := E1.out.pl.out.box.cell
    have WS : IntKind.i64.wrap (u - tn) = u - tn := IntWalk.i64_in _ (by omega)
    rw [HN.out, HA.out] at pd
    refine wp_region_noPanic ?_
    refine wp_region_till (fun w' => True ∧ True) (fun w' => ∀ i, w'.cell? ⟨b, i, none⟩ = (#[.int .i64 tn, .int .i64 s.base, .int .i64 s.done, .int .i64 s.level, .slice c.la c.ln c.lc, .slice na c.nn c.nc, .int .i64 c.sw, .int .i64 c.id, .int .i64 c.ch, .int .i64 c.qu, .int .i64 c.sl, .int .i64 c.pp, .pointer (some ⟨m, 0, none⟩)] : Array Value)[i]?) 15 17 #[false, false, false, false, false, false, false, false, false, false, false, false, false, false, false, false, false] (by kernel_rfl) rfl rfl ⟨⟨trivial, trivial⟩, pd⟩ (fun hHeld => ?_)
    refine HeldT.wpTill_takeT false (i := 0) (v := ?_) rfl (by kernel_rfl) (by kernel_rfl) (by kernel_rfl) (fun _ _ _ h => h) (by kernel_rfl) (Or.inl ⟨by first | rfl | kernel_rfl, ?_⟩) hHeld (fun hHeld => ?_)
    rotate_left
    · (intro w' hSw; obtain ⟨⟨r1, r2⟩, r3⟩ := hSw; (try have r4 := r3 rfl); (try dsimp only at r1 r2 r4); clear r3; go_simp; try with_reducible rfl)
    try simp only [Act.put, List.setIfInBounds_toArray, List.set_cons_zero, List.set_cons_succ, List.getElem_toArray, List.getElem_cons_succ, List.getElem_cons_zero]
    refine HeldT.wpTill_takeT false (i := 1) (v := ?_) rfl (by kernel_rfl) (by kernel_rfl) (by kernel_rfl) (fun _ _ _ h => h) (by kernel_rfl) (Or.inl ⟨by first | rfl | kernel_rfl, ?_⟩) hHeld (fun hHeld => ?_)
    rotate_left
    · (intro w' hSw; obtain ⟨⟨r1, r2⟩, r3⟩ := hSw; (try have r4 := r3 rfl); (try dsimp only at r1 r2 r4); clear r3; go_simp; try with_reducible rfl)
    try simp only [Act.put, List.setIfInBounds_toArray, List.set_cons_zero, List.set_cons_succ, List.getElem_toArray, List.getElem_cons_succ, List.getElem_cons_zero]
    refine HeldT.wpTill_takeT false (i := 2) (v := ?_) rfl (by kernel_rfl) (by kernel_rfl) (by kernel_rfl) (fun _ _ _ h => h) (by kernel_rfl) (Or.inl ⟨by first | rfl | kernel_rfl, ?_⟩) hHeld (fun hHeld => ?_)
    rotate_left
    · (intro w' hSw; obtain ⟨⟨r1, r2⟩, r3⟩ := hSw; (try have r4 := r3 rfl); (try dsimp only at r1 r2 r4); clear r3; go_simp; try with_reducible rfl)
    try simp only [Act.put, List.setIfInBounds_toArray, List.set_cons_zero, List.set_cons_succ, List.getElem_toArray, List.getElem_cons_succ, List.getElem_cons_zero]
    refine HeldT.wpTill_takeT false (i := 3) (v := ?_) rfl (by kernel_rfl) (by kernel_rfl) (by kernel_rfl) (fun _ _ _ h => h) (by kernel_rfl) (Or.inl ⟨by first | rfl | kernel_rfl, ?_⟩) hHeld (fun hHeld => ?_)
    rotate_left
    · (intro w' hSw; obtain ⟨⟨r1, r2⟩, r3⟩ := hSw; (try have r4 := r3 rfl); (try dsimp only at r1 r2 r4); clear r3; go_simp; try with_reducible rfl)
    try simp only [Act.put, List.setIfInBounds_toArray, List.set_cons_zero, List.set_cons_succ, List.getElem_toArray, List.getElem_cons_succ, List.getElem_cons_zero]
    refine HeldT.wpTill_takeT false (i := 4) (v := ?_) rfl (by kernel_rfl) (by kernel_rfl) (by kernel_rfl) (fun _ _ _ h => h) (by kernel_rfl) (Or.inl ⟨by first | rfl | kernel_rfl, ?_⟩) hHeld (fun hHeld => ?_)
    rotate_left
    · (intro w' hSw; obtain ⟨⟨r1, r2⟩, r3⟩ := hSw; (try have r4 := r3 rfl); (try dsimp only at r1 r2 r4); clear r3; go_simp; try with_reducible rfl)
    try simp only [Act.put, List.setIfInBounds_toArray, List.set_cons_zero, List.set_cons_succ, List.getElem_toArray, List.getElem_cons_succ, List.getElem_cons_zero]
    refine HeldT.wpTill_takeT true (i := 5) (v := ?_) rfl (by kernel_rfl) (by kernel_rfl) (by kernel_rfl) (fun _ _ _ h => h) (by kernel_rfl) (Or.inl ⟨by first | rfl | kernel_rfl, ?_⟩) hHeld (fun hHeld => ?_)
    rotate_left
    · (intro w' hSw; obtain ⟨⟨r1, r2⟩, r3⟩ := hSw; (try have r4 := r3 rfl); (try dsimp only at r1 r2 r4); clear r3; go_simp; try with_reducible rfl)
    try simp only [Act.put, List.setIfInBounds_toArray, List.set_cons_zero, List.set_cons_succ, List.getElem_toArray, List.getElem_cons_succ, List.getElem_cons_zero]
    refine HeldT.wpTill_takeT false (i := 6) (v := ?_) rfl (by kernel_rfl) (by kernel_rfl) (by kernel_rfl) (fun _ _ _ h => h) (by kernel_rfl) (Or.inl ⟨by first | rfl | kernel_rfl, ?_⟩) hHeld (fun hHeld => ?_)
    rotate_left
    · (intro w' hSw; obtain ⟨⟨r1, r2⟩, r3⟩ := hSw; (try have r4 := r3 rfl); (try dsimp only at r1 r2 r4); clear r3; go_simp; try with_reducible rfl)
    try simp only [Act.put, List.setIfInBounds_toArray, List.set_cons_zero, List.set_cons_succ, List.getElem_toArray, List.getElem_cons_succ, List.getElem_cons_zero]
    refine HeldT.wpTill_takeT false (i := 7) (v := ?_) rfl (by kernel_rfl) (by kernel_rfl) (by kernel_rfl) (fun _ _ _ h => h) (by kernel_rfl) (Or.inl ⟨by first | rfl | kernel_rfl, ?_⟩) hHeld (fun hHeld => ?_)
    rotate_left
    · (intro w' hSw; obtain ⟨⟨r1, r2⟩, r3⟩ := hSw; (try have r4 := r3 rfl); (try dsimp only at r1 r2 r4); clear r3; go_simp; try with_reducible rfl)
    try simp only [Act.put, List.setIfInBounds_toArray, List.set_cons_zero, List.set_cons_succ, List.getElem_toArray, List.getElem_cons_succ, List.getElem_cons_zero]
    refine HeldT.wpTill_takeT false (i := 8) (v := ?_) rfl (by kernel_rfl) (by kernel_rfl) (by kernel_rfl) (fun _ _ _ h => h) (by kernel_rfl) (Or.inl ⟨by first | rfl | kernel_rfl, ?_⟩) hHeld (fun hHeld => ?_)
    rotate_left
    · (intro w' hSw; obtain ⟨⟨r1, r2⟩, r3⟩ := hSw; (try have r4 := r3 rfl); (try dsimp only at r1 r2 r4); clear r3; go_simp; try with_reducible rfl)
    try simp only [Act.put, List.setIfInBounds_toArray, List.set_cons_zero, List.set_cons_succ, List.getElem_toArray, List.getElem_cons_succ, List.getElem_cons_zero]
    refine HeldT.wpTill_takeT false (i := 9) (v := ?_) rfl (by kernel_rfl) (by kernel_rfl) (by kernel_rfl) (fun _ _ _ h => h) (by kernel_rfl) (Or.inl ⟨by first | rfl | kernel_rfl, ?_⟩) hHeld (fun hHeld => ?_)
    rotate_left
    · (intro w' hSw; obtain ⟨⟨r1, r2⟩, r3⟩ := hSw; (try have r4 := r3 rfl); (try dsimp only at r1 r2 r4); clear r3; go_simp; try with_reducible rfl)
    try simp only [Act.put, List.setIfInBounds_toArray, List.set_cons_zero, List.set_cons_succ, List.getElem_toArray, List.getElem_cons_succ, List.getElem_cons_zero]
    refine HeldT.wpTill_takeT false (i := 10) (v := ?_) rfl (by kernel_rfl) (by kernel_rfl) (by kernel_rfl) (fun _ _ _ h => h) (by kernel_rfl) (Or.inl ⟨by first | rfl | kernel_rfl, ?_⟩) hHeld (fun hHeld => ?_)
    rotate_left
    · (intro w' hSw; obtain ⟨⟨r1, r2⟩, r3⟩ := hSw; (try have r4 := r3 rfl); (try dsimp only at r1 r2 r4); clear r3; go_simp; try with_reducible rfl)
    try simp only [Act.put, List.setIfInBounds_toArray, List.set_cons_zero, List.set_cons_succ, List.getElem_toArray, List.getElem_cons_succ, List.getElem_cons_zero]
    refine HeldT.wpTill_takeT true (i := 11) (v := ?_) rfl (by kernel_rfl) (by kernel_rfl) (by kernel_rfl) (fun _ _ _ h => h) (by kernel_rfl) (Or.inl ⟨by first | rfl | kernel_rfl, ?_⟩) hHeld (fun hHeld => ?_)
    rotate_left
    · (intro w' hSw; obtain ⟨⟨r1, r2⟩, r3⟩ := hSw; (try have r4 := r3 rfl); (try dsimp only at r1 r2 r4); clear r3; go_simp; try with_reducible rfl)
    try simp only [Act.put, List.setIfInBounds_toArray, List.set_cons_zero, List.set_cons_succ, List.getElem_toArray, List.getElem_cons_succ, List.getElem_cons_zero]
    refine HeldT.wpTill_takeT false (i := 12) (v := ?_) rfl (by kernel_rfl) (by kernel_rfl) (by kernel_rfl) (fun _ _ _ h => h) (by kernel_rfl) (Or.inl ⟨by first | rfl | kernel_rfl, ?_⟩) hHeld (fun hHeld => ?_)
    rotate_left
    · (intro w' hSw; obtain ⟨⟨r1, r2⟩, r3⟩ := hSw; (try have r4 := r3 rfl); (try dsimp only at r1 r2 r4); clear r3; go_simp; try with_reducible rfl)
    try simp only [Act.put, List.setIfInBounds_toArray, List.set_cons_zero, List.set_cons_succ, List.getElem_toArray, List.getElem_cons_succ, List.getElem_cons_zero]
    refine HeldT.wpTill_takeT false (i := 13) (v := ?_) rfl (by kernel_rfl) (by kernel_rfl) (by kernel_rfl) (fun _ _ _ h => h) (by kernel_rfl) (Or.inl ⟨by first | rfl | kernel_rfl, ?_⟩) hHeld (fun hHeld => ?_)
    rotate_left
    · (intro w' hSw; obtain ⟨⟨r1, r2⟩, r3⟩ := hSw; (try have r4 := r3 rfl); (try dsimp only at r1 r2 r4); clear r3; go_simp; try with_reducible rfl)
    try simp only [Act.put, List.setIfInBounds_toArray, List.set_cons_zero, List.set_cons_succ, List.getElem_toArray, List.getElem_cons_succ, List.getElem_cons_zero]
    refine wpTill_one (i := 14) (by kernel_rfl) rfl (fun K hK => ?_)
    go_simp
    have E2 := pe_next E1 ((Below.refl _ _).alloc (Nat.le_refl _) (.cells #[.int .i64 1, .int .i64 0, .int .i64 c.id, .int .i64 (u - tn)] 124))
    have pd2 := E2.out.pl.out.box.cell
    rw [HN.out, HA.out] at pd2
    refine hK _ _ ⟨⟨trivial, trivial⟩, fun _ => pd2⟩ (fun hHeld => ?_)
    clear hK K
    refine wpTill_one (i := 15) (by kernel_rfl) rfl (fun K hK => ?_)
    rw [if_pos (by kernel_rfl)]
    go_simp
    refine (spend_any E2.out.pl _ 1 _ (by omega) (sp_one E2.out.pl (Box.new _ _ _) ⟨by omega, by omega⟩ ⟨by omega, by omega⟩ i1 ⟨by omega, by omega⟩) x1 s1 SX).mono ?_
    rintro e1 w2 ⟨rfl, a2, P2⟩
    have E3 := pe_step E2 a2 P2
    refine hK _ _ ⟨⟨trivial, trivial⟩, fun h => (by cases h)⟩ (fun hHeld => ?_)
    clear hK K
    refine wpTill_one (i := 16) (by kernel_rfl) rfl (fun K hK => ?_)
    have ce3 := E3.out.box.cell
    have cf3 := E3.out.box.frozen
    go_simp
    refine hK _ _ ⟨⟨by first | exact trivial | exact rule_set hHeld.1.1 _ _ nbe, trivial⟩, fun h => (by cases h)⟩ (fun hHeld => ?_)
    clear hK K
    refine wpTill_done (by kernel_rfl) ?_ 0
    refine NoPanic.normal ?_
    have E4 := pe_store E3 x1
    clear hHeld ce3 cf3 pd pd2 E0 E1 E2 E3 a2 P2
    try clear hb
    try clear ce
    try clear cf
    generalize w2.setCell ⟨eb, 0, none⟩ (.int .i64 x1) = w3 at E4 ⊢
    have ce := E4.out.box.cell
    have cf := E4.out.box.frozen
    rcases ways with ⟨rfl, rfl, rfl⟩ | ⟨q1, rfl, rfl⟩
    · go_wp2_with fail
      refine leaves_cons (f := 72) (args := #[.pointer (some ⟨b, 0, none⟩), .pointer (some ⟨eb, 0, none⟩)]) (by simp) (by simp [go_sem]) ?_
      refine (restart_ok _ E4).mono ?_
      rintro e u' w' ⟨rfl, rfl, hE⟩
      refine ⟨.int .i64 (0), by simp [results, Try.results25, go_sem, hE.out.box.cell], rfl, hE.out.alt, hE.out.pl⟩
    · go_wp2_with fail
      refine leaves_cons (f := 72) (args := #[.pointer (some ⟨b, 0, none⟩), .pointer (some ⟨eb, 0, none⟩)]) (by simp) (by simp [go_sem]) ?_
      refine (restart_err _ (Lib.hid (E4).out.box) q1).mono ?_
      rintro e u' w' ⟨rfl, rfl, e9⟩
      cases e9
      have hE := E4
      refine ⟨.int .i64 (x), by simp [results, Try.results25, go_sem, hE.out.box.cell], rfl, hE.out.alt, hE.out.pl⟩

/-- three spans, in a row of their own -/
theorem sp_three {w0 w : World} {b m g n : Nat} {c : PowC} {s : PS} (h : Hid (Pl w0 w b m g n c s)) {r : Nat} {ch ns y0 y1 y2 : Int} {f : Nat → Nat → Int} {k : Nat} (hf : Hid (f k 0 = y0 ∧ f k 1 = y1 ∧ f k 2 = y2)) (hx : Box w r #[.int .i64 3, .int .i64 0, .int .i64 ch, .int .i64 y1, .int .i64 2, .int .i64 0, .int .i64 y0, .int .i64 ns, .int .i64 3, .int .i64 0, .int .i64 ch, .int .i64 y2] 124) (i0 : I64 ch) (i1 : I64 ns) (j0 : I64 y0) (j1 : I64 y1) (j2 : I64 y2) : Hid (Sp w b m g r 3 (three ch ns f k)) := by
  have ne := px_ne h hx (by decide) (by decide) (by decide)
  have z3 : I64 3 := ⟨by omega, by omega⟩
  have z0 : I64 0 := ⟨by omega, by omega⟩
  have z2 : I64 2 := ⟨by omega, by omega⟩
  obtain ⟨f0, f1, f2⟩ := hf.out
  refine Lib.hid ⟨hx.lt, fun e => ne (.inl e), fun e => ne (.inr (.inl e)), fun e => ne (.inr (.inr e)), fun i hi j hj => ?_, fun i hi j hj => ?_⟩
  · have q1 : i = 0 ∨ i = 1 ∨ i = 2 := by omega
    have q2 : j = 0 ∨ j = 1 ∨ j = 2 ∨ j = 3 := by omega
    rcases q1 with rfl | rfl | rfl <;> rcases q2 with rfl | rfl | rfl | rfl <;> simpa [one, three, f0, f1, f2]
  · have q1 : i = 0 ∨ i = 1 ∨ i = 2 := by omega
    have q2 : j = 0 ∨ j = 1 ∨ j = 2 ∨ j = 3 := by omega
    rcases q1 with rfl | rfl | rfl <;> rcases q2 with rfl | rfl | rfl | rfl <;> (rw [hx.cell]; simp [one, three, f0, f1, f2])

theorem el1_bd (h p n : Int) : 0 ≤ (OscPlain.el h p n).1 ∧ (OscPlain.el h p n).1 ≤ 9223372036854775807 := by
  have hm := fun a b c up => FitB.md_bd a b c up (fun _ _ _ => trivial)
  unfold OscPlain.el
  (repeat' split) <;> first | exact ⟨by simp, by simp⟩ | (have := hm n 1000000000000000 (h * (1000000 + p)) true; exact ⟨by simp only; omega, by simp only; omega⟩) | (refine ⟨?_, ?_⟩ <;> first | exact (hm _ _ _ _).1 | exact (hm _ _ _ _).2.1)
set_option maxRecDepth 100000 in
set_option maxHeartbeats 2000000 in
theorem nap_any {w0 w : World} {b m g n : Nat} {c : PowC} {s : PS} (h : Hid (Pl w0 w b m g n c s)) (a cnt dr : Int) (hc : I64 cnt) (hd : I64 dr) (x : Int) (s' : PS) (hx : Hid (napP n c s a cnt dr = (x, s'))) :
    Calls Try.prog 26 #[.pointer (some ⟨b, 0, none⟩), .int .i64 a, .int .i64 cnt, .int .i64 dr] w (PPost w0 w b m g n c x s') := by
  have E0 := pe_in h
  have hb := E0.out.pl.out.box.cell
  have ce := E0.out.box.cell
  have cf := E0.out.box.frozen
  obtain ⟨tn, htn⟩ : ∃ tn, s.now = tn := ⟨_, rfl⟩
  obtain ⟨na, hna⟩ : ∃ na, c.na = na := ⟨_, rfl⟩
  rw [htn, hna] at hb
  have HN := Lib.hid htn
  have HA := Lib.hid hna
  obtain ⟨ns, hns⟩ : ∃ t, (OscPlain.el c.sl dr cnt).1 = t := ⟨_, rfl⟩
  obtain ⟨f, hf⟩ : ∃ t, (OscPlain.el c.sl dr cnt).2 = t := ⟨_, rfl⟩
  have ways : (a < 0 ∧ x = 2 ∧ s' = s) ∨ (0 ≤ a ∧ (c.nn : Int) ≤ a ∧ x = 2 ∧ s' = s) ∨ (0 ≤ a ∧ a < (c.nn : Int) ∧ f ≠ 0 ∧ x = 2 ∧ s' = s) ∨ (0 ≤ a ∧ a < (c.nn : Int) ∧ f = 0 ∧ setP (spendP n s (three c.ch ns c.nf a.toNat) 3) id = (x, s')) := by
    have := hx.out
    unfold napP at this
    rw [hf, hns] at this
    by_cases h1 : a < 0
    · rw [if_pos (.inl h1)] at this; cases this; exact .inl ⟨h1, rfl, rfl⟩
    · by_cases h2 : (c.nn : Int) ≤ a
      · rw [if_pos (.inr h2)] at this; cases this; exact .inr (.inl ⟨by omega, h2, rfl, rfl⟩)
      · rw [if_neg (by omega)] at this
        by_cases h3 : f ≠ 0
        · rw [if_pos h3] at this; cases this; exact .inr (.inr (.inl ⟨by omega, by omega, h3, rfl, rfl⟩))
        · rw [if_neg h3] at this; exact .inr (.inr (.inr ⟨by omega, by omega, by simpa using h3, this⟩))
  have C := Lib.hid (fun w => OscA.elapsed_any c.sl dr cnt ns f w (Lib.hid (Prod.ext hns hf)) hc)
  have NSB := el1_bd c.sl dr cnt
  rw [hns] at NSB
  clear hx htn hna hns hf
  rcases ways with ⟨h1, rfl, rfl⟩ | ⟨h1, h2, rfl, rfl⟩ | ⟨h1, h2, h3, rfl, rfl⟩ | ⟨h1, h2, rfl, hx⟩
  · have hE := pe_store E0 2
    clear E0
    go_enter_defers Try.func26, Try.ntmps26
    go_wp2_with fail
    generalize w.alloc (.cells #[.int .i64 0] 45) = w1 at *
    generalize w.heap.size = eb at *
    refine (dead_any _ _ m (by rw [hb]; rfl)).mono ?_
    rintro e1 w5 ⟨rfl, e9⟩
    cases e9
    go_wp2_with fail
    refine ⟨.int .i64 (2), by simp [results, Try.results26, go_sem, hE.out.box.cell], rfl, hE.out.alt, hE.out.pl⟩
  · have hE := pe_store E0 2
    clear E0
    go_enter_defers Try.func26, Try.ntmps26
    go_wp2_with fail
    generalize w.alloc (.cells #[.int .i64 0] 45) = w1 at *
    generalize w.heap.size = eb at *
    refine (dead_any _ _ m (by rw [hb]; rfl)).mono ?_
    rintro e1 w5 ⟨rfl, e9⟩
    cases e9
    go_wp2_with fail
    refine ⟨.int .i64 (2), by simp [results, Try.results26, go_sem, hE.out.box.cell], rfl, hE.out.alt, hE.out.pl⟩
  · have h4 : (f != 0) = true := by simpa using h3
    clear h3
    go_enter_defers Try.func26, Try.ntmps26
    go_wp2_with fail
    generalize w.alloc (.cells #[.int .i64 0] 45) = w1 at *
    generalize w.heap.size = eb at *
    refine (dead_any _ _ m (by rw [hb]; rfl)).mono ?_
    rintro e1 w5 ⟨rfl, e9⟩
    cases e9
    go_wp2_with fail
    refine (C.out _).mono ?_
    rintro e1 w2 ⟨rfl, hb2⟩
    have E1 := pe_next E0 hb2
    have ce2 := E1.out.box.cell
    have cf2 := E1.out.box.frozen
    have hE := pe_store E1 2
    clear E0 E1 hb2
    go_wp2_with fail
    refine ⟨.int .i64 (2), by simp [results, Try.results26, go_sem, hE.out.box.cell], rfl, hE.out.alt, hE.out.pl⟩
  · have HX := Lib.hid hx
    clear hx
    have i1 := h.out.co.ch
    obtain ⟨x1, hx1⟩ : ∃ x1, (spendP n s (three c.ch ns c.nf a.toNat) 3).1 = x1 := ⟨_, rfl⟩
    obtain ⟨s1, hs1⟩ : ∃ s1, (spendP n s (three c.ch ns c.nf a.toNat) 3).2 = s1 := ⟨_, rfl⟩
    have SX : Hid (spendP n s (three c.ch ns c.nf a.toNat) 3 = (x1, s1)) := Lib.hid (Prod.ext hx1 hs1)
    have ways : (x1 = 0 ∧ x = 0 ∧ s' = syncP s1) ∨ (x1 ≠ 0 ∧ x = x1 ∧ s' = s1) := by
      have := HX.out
      rw [SX.out] at this
      unfold setP at this
      by_cases h0 : x1 = 0
      · rw [if_neg (by simpa using h0)] at this; simp only [Prod.mk.injEq] at this; exact .inl ⟨h0, this.1.symm, this.2.symm⟩
      · rw [if_pos h0] at this; simp only [Prod.mk.injEq] at this; exact .inr ⟨h0, this.1.symm, this.2.symm⟩
    clear hx1 hs1 HX
    obtain ⟨k, rfl⟩ := Int.eq_ofNat_of_zero_le h1
    have hk : k < c.nn := by omega
    simp only [Int.toNat_natCast] at SX
    go_enter_defers Try.func26, Try.ntmps26
    go_wp2_with fail
    generalize w.alloc (.cells #[.int .i64 0] 45) = w1 at *
    generalize w.heap.size = eb at *
    refine (dead_any _ _ m (by rw [hb]; rfl)).mono ?_
    rintro e1 w5 ⟨rfl, e9⟩
    cases e9
    go_wp2_with fail
    refine (C.out _).mono ?_
    rintro e1 w2 ⟨rfl, hb2⟩
    have E1 := pe_next E0 hb2
    clear E0 hb ce cf hb2 C
    have hb := E1.out.pl.out.box.cell
    obtain ⟨d, o, ea, l1, q0, q1, q2, j0, j1, j2⟩ := rows_at3 (pl_nap E1.out.pl) k hk
    rw [HN.out, ea] at hb
    obtain ⟨y0, hy0⟩ : ∃ y, c.nf k 0 = y := ⟨_, rfl⟩
    obtain ⟨y1, hy1⟩ : ∃ y, c.nf k 1 = y := ⟨_, rfl⟩
    obtain ⟨y2, hy2⟩ : ∃ y, c.nf k 2 = y := ⟨_, rfl⟩
    rw [hy0] at q0 j0
    rw [hy1] at q1 j1
    rw [hy2] at q2 j2
    have HY := Lib.hid (And.intro hy0 (And.intro hy1 hy2))
    have EA := Lib.hid ea
    clear hy0 hy1 hy2 ea
    go_wp2_with fail
    have E0 := pe_next E1 ((Below.refl _ _).alloc (Nat.le_refl _) (.cells #[.int .i64 y0, .int .i64 y1, .int .i64 y2] 131))
    have BN := Lib.hid (Box.new w2 #[.int .i64 y0, .int .i64 y1, .int .i64 y2] 131)
    clear E1 l1 q0 q1 q2 hb
    generalize w2.alloc (.cells #[.int .i64 y0, .int .i64 y1, .int .i64 y2] 131) = w3 at E0 BN ⊢
    generalize w2.heap.size = nb at BN ⊢
    have E1 := pe_next E0 (Below.refl _ _).drew
    have pd := E1.out.pl.out.box.cell
    have bn := BN.out.drew.cell
    rw [HN.out, EA.out] at pd
    have BN2 := Lib.hid (BN.out.drew.alloc (.cells #[.int .i64 3, .int .i64 0, .int .i64 c.ch, .int .i64 y1, .int .i64 2, .int .i64 0, .int .i64 y0, .int .i64 ns, .int .i64 3, .int .i64 0, .int .i64 c.ch, .int .i64 y2] 124))
    refine wp_region_noPanic ?_
    refine wp_region_till (fun w' => (∀ i, w'.cell? ⟨nb, i, none⟩ = (#[.int .i64 y0, .int .i64 y1, .int .i64 y2] : Array Value)[i]?) ∧ True) (fun w' => ∀ i, w'.cell? ⟨b, i, none⟩ = (#[.int .i64 tn, .int .i64 s.base, .int .i64 s.done, .int .i64 s.level, .slice c.la c.ln c.lc, .slice (some ⟨d, o, none⟩) c.nn c.nc, .int .i64 c.sw, .int .i64 c.id, .int .i64 c.ch, .int .i64 c.qu, .int .i64 c.sl, .int .i64 c.pp, .pointer (some ⟨m, 0, none⟩)] : Array Value)[i]?) 22 24 #[false, false, false, false, false, false, false, false, false, false, false, false, false, false, false, false, false, false, false, false, false, false, false, false] (by kernel_rfl) rfl rfl ⟨⟨bn, trivial⟩, pd⟩ (fun hHeld => ?_)
    refine HeldT.wpTill_takeT false (i := 0) (v := ?_) rfl (by kernel_rfl) (by kernel_rfl) (by kernel_rfl) (fun _ _ _ h => h) (by kernel_rfl) (Or.inl ⟨by first | rfl | kernel_rfl, ?_⟩) hHeld (fun hHeld => ?_)
    rotate_left
    · (intro w' hSw; obtain ⟨⟨r1, r2⟩, r3⟩ := hSw; (try have r4 := r3 rfl); (try dsimp only at r1 r2 r4); clear r3; go_simp; try with_reducible rfl)
    try simp only [Act.put, List.setIfInBounds_toArray, List.set_cons_zero, List.set_cons_succ, List.getElem_toArray, List.getElem_cons_succ, List.getElem_cons_zero]
    refine HeldT.wpTill_takeT false (i := 1) (v := ?_) rfl (by kernel_rfl) (by kernel_rfl) (by kernel_rfl) (fun _ _ _ h => h) (by kernel_rfl) (Or.inl ⟨by first | rfl | kernel_rfl, ?_⟩) hHeld (fun hHeld => ?_)
    rotate_left
    · (intro w' hSw; obtain ⟨⟨r1, r2⟩, r3⟩ := hSw; (try have r4 := r3 rfl); (try dsimp only at r1 r2 r4); clear r3; go_simp; try with_reducible rfl)
    try simp only [Act.put, List.setIfInBounds_toArray, List.set_cons_zero, List.set_cons_succ, List.getElem_toArray, List.getElem_cons_succ, List.getElem_cons_zero]
    refine HeldT.wpTill_takeT false (i := 2) (v := ?_) rfl (by kernel_rfl) (by kernel_rfl) (by kernel_rfl) (fun _ _ _ h => h) (by kernel_rfl) (Or.inl ⟨by first | rfl | kernel_rfl, ?_⟩) hHeld (fun hHeld => ?_)
    rotate_left
    · (intro w' hSw; obtain ⟨⟨r1, r2⟩, r3⟩ := hSw; (try have r4 := r3 rfl); (try dsimp only at r1 r2 r4); clear r3; go_simp; try with_reducible rfl)
    try simp only [Act.put, List.setIfInBounds_toArray, List.set_cons_zero, List.set_cons_succ, List.getElem_toArray, List.getElem_cons_succ, List.getElem_cons_zero]
    refine HeldT.wpTill_takeT false (i := 3) (v := ?_) rfl (by kernel_rfl) (by kernel_rfl) (by kernel_rfl) (fun _ _ _ h => h) (by kernel_rfl) (Or.inl ⟨by first | rfl | kernel_rfl, ?_⟩) hHeld (fun hHeld => ?_)
    rotate_left
    · (intro w' hSw; obtain ⟨⟨r1, r2⟩, r3⟩ := hSw; (try have r4 := r3 rfl); (try dsimp only at r1 r2 r4); clear r3; go_simp; try with_reducible rfl)
    try simp only [Act.put, List.setIfInBounds_toArray, List.set_cons_zero, List.set_cons_succ, List.getElem_toArray, List.getElem_cons_succ, List.getElem_cons_zero]
    refine HeldT.wpTill_takeT false (i := 4) (v := ?_) rfl (by kernel_rfl) (by kernel_rfl) (by kernel_rfl) (fun _ _ _ h => h) (by kernel_rfl) (Or.inl ⟨by first | rfl | kernel_rfl, ?_⟩) hHeld (fun hHeld => ?_)
    rotate_left
    · (intro w' hSw; obtain ⟨⟨r1, r2⟩, r3⟩ := hSw; (try have r4 := r3 rfl); (try dsimp only at r1 r2 r4); clear r3; go_simp; try with_reducible rfl)
    try simp only [Act.put, List.setIfInBounds_toArray, List.set_cons_zero, List.set_cons_succ, List.getElem_toArray, List.getElem_cons_succ, List.getElem_cons_zero]
    refine HeldT.wpTill_takeT true (i := 5) (v := ?_) rfl (by kernel_rfl) (by kernel_rfl) (by kernel_rfl) (fun _ _ _ h => h) (by kernel_rfl) (Or.inl ⟨by first | rfl | kernel_rfl, ?_⟩) hHeld (fun hHeld => ?_)
    rotate_left
    · (intro w' hSw; obtain ⟨⟨r1, r2⟩, r3⟩ := hSw; (try have r4 := r3 rfl); (try dsimp only at r1 r2 r4); clear r3; go_simp; try with_reducible rfl)
    try simp only [Act.put, List.setIfInBounds_toArray, List.set_cons_zero, List.set_cons_succ, List.getElem_toArray, List.getElem_cons_succ, List.getElem_cons_zero]
    refine HeldT.wpTill_takeT false (i := 6) (v := ?_) rfl (by kernel_rfl) (by kernel_rfl) (by kernel_rfl) (fun _ _ _ h => h) (by kernel_rfl) (Or.inl ⟨by first | rfl | kernel_rfl, ?_⟩) hHeld (fun hHeld => ?_)
    rotate_left
    · (intro w' hSw; obtain ⟨⟨r1, r2⟩, r3⟩ := hSw; (try have r4 := r3 rfl); (try dsimp only at r1 r2 r4); clear r3; go_simp; try with_reducible rfl)
    try simp only [Act.put, List.setIfInBounds_toArray, List.set_cons_zero, List.set_cons_succ, List.getElem_toArray, List.getElem_cons_succ, List.getElem_cons_zero]
    refine HeldT.wpTill_takeT false (i := 7) (v := ?_) rfl (by kernel_rfl) (by kernel_rfl) (by kernel_rfl) (fun _ _ _ h => h) (by kernel_rfl) (Or.inl ⟨by first | rfl | kernel_rfl, ?_⟩) hHeld (fun hHeld => ?_)
    rotate_left
    · (intro w' hSw; obtain ⟨⟨r1, r2⟩, r3⟩ := hSw; (try have r4 := r3 rfl); (try dsimp only at r1 r2 r4); clear r3; go_simp; try with_reducible rfl)
    try simp only [Act.put, List.setIfInBounds_toArray, List.set_cons_zero, List.set_cons_succ, List.getElem_toArray, List.getElem_cons_succ, List.getElem_cons_zero]
    refine HeldT.wpTill_takeT false (i := 8) (v := ?_) rfl (by kernel_rfl) (by kernel_rfl) (by kernel_rfl) (fun _ _ _ h => h) (by kernel_rfl) (Or.inl ⟨by first | rfl | kernel_rfl, ?_⟩) hHeld (fun hHeld => ?_)
    rotate_left
    · (intro w' hSw; obtain ⟨⟨r1, r2⟩, r3⟩ := hSw; (try have r4 := r3 rfl); (try dsimp only at r1 r2 r4); clear r3; go_simp; try with_reducible rfl)
    try simp only [Act.put, List.setIfInBounds_toArray, List.set_cons_zero, List.set_cons_succ, List.getElem_toArray, List.getElem_cons_succ, List.getElem_cons_zero]
    refine HeldT.wpTill_takeT false (i := 9) (v := ?_) rfl (by kernel_rfl) (by kernel_rfl) (by kernel_rfl) (fun _ _ _ h => h) (by kernel_rfl) (Or.inl ⟨by first | rfl | kernel_rfl, ?_⟩) hHeld (fun hHeld => ?_)
    rotate_left
    · (intro w' hSw; obtain ⟨⟨r1, r2⟩, r3⟩ := hSw; (try have r4 := r3 rfl); (try dsimp only at r1 r2 r4); clear r3; go_simp; try with_reducible rfl)
    try simp only [Act.put, List.setIfInBounds_toArray, List.set_cons_zero, List.set_cons_succ, List.getElem_toArray, List.getElem_cons_succ, List.getElem_cons_zero]
    refine HeldT.wpTill_takeT false (i := 10) (v := ?_) rfl (by kernel_rfl) (by kernel_rfl) (by kernel_rfl) (fun _ _ _ h => h) (by kernel_rfl) (Or.inl ⟨by first | rfl | kernel_rfl, ?_⟩) hHeld (fun hHeld => ?_)
    rotate_left
    · (intro w' hSw; obtain ⟨⟨r1, r2⟩, r3⟩ := hSw; (try have r4 := r3 rfl); (try dsimp only at r1 r2 r4); clear r3; go_simp; try with_reducible rfl)
    try simp only [Act.put, List.setIfInBounds_toArray, List.set_cons_zero, List.set_cons_succ, List.getElem_toArray, List.getElem_cons_succ, List.getElem_cons_zero]
    refine HeldT.wpTill_takeT false (i := 11) (v := ?_) rfl (by kernel_rfl) (by kernel_rfl) (by kernel_rfl) (fun _ _ _ h => h) (by kernel_rfl) (Or.inl ⟨by first | rfl | kernel_rfl, ?_⟩) hHeld (fun hHeld => ?_)
    rotate_left
    · (intro w' hSw; obtain ⟨⟨r1, r2⟩, r3⟩ := hSw; (try have r4 := r3 rfl); (try dsimp only at r1 r2 r4); clear r3; go_simp; try with_reducible rfl)
    try simp only [Act.put, List.setIfInBounds_toArray, List.set_cons_zero, List.set_cons_succ, List.getElem_toArray, List.getElem_cons_succ, List.getElem_cons_zero]
    refine HeldT.wpTill_takeT false (i := 12) (v := ?_) rfl (by kernel_rfl) (by kernel_rfl) (by kernel_rfl) (fun _ _ _ h => h) (by kernel_rfl) (Or.inl ⟨by first | rfl | kernel_rfl, ?_⟩) hHeld (fun hHeld => ?_)
    rotate_left
    · (intro w' hSw; obtain ⟨⟨r1, r2⟩, r3⟩ := hSw; (try have r4 := r3 rfl); (try dsimp only at r1 r2 r4); clear r3; go_simp; try with_reducible rfl)
    try simp only [Act.put, List.setIfInBounds_toArray, List.set_cons_zero, List.set_cons_succ, List.getElem_toArray, List.getElem_cons_succ, List.getElem_cons_zero]
    refine HeldT.wpTill_takeT false (i := 13) (v := ?_) rfl (by kernel_rfl) (by kernel_rfl) (by kernel_rfl) (fun _ _ _ h => h) (by kernel_rfl) (Or.inl ⟨by first | rfl | kernel_rfl, ?_⟩) hHeld (fun hHeld => ?_)
    rotate_left
    · (intro w' hSw; obtain ⟨⟨r1, r2⟩, r3⟩ := hSw; (try have r4 := r3 rfl); (try dsimp only at r1 r2 r4); clear r3; go_simp; try with_reducible rfl)
    try simp only [Act.put, List.setIfInBounds_toArray, List.set_cons_zero, List.set_cons_succ, List.getElem_toArray, List.getElem_cons_succ, List.getElem_cons_zero]
    refine HeldT.wpTill_takeT false (i := 14) (v := ?_) rfl (by kernel_rfl) (by kernel_rfl) (by kernel_rfl) (fun _ _ _ h => h) (by kernel_rfl) (Or.inl ⟨by first | rfl | kernel_rfl, ?_⟩) hHeld (fun hHeld => ?_)
    rotate_left
    · (intro w' hSw; obtain ⟨⟨r1, r2⟩, r3⟩ := hSw; (try have r4 := r3 rfl); (try dsimp only at r1 r2 r4); clear r3; go_simp; try with_reducible rfl)
    try simp only [Act.put, List.setIfInBounds_toArray, List.set_cons_zero, List.set_cons_succ, List.getElem_toArray, List.getElem_cons_succ, List.getElem_cons_zero]
    refine HeldT.wpTill_takeT false (i := 15) (v := ?_) rfl (by kernel_rfl) (by kernel_rfl) (by kernel_rfl) (fun _ _ _ h => h) (by kernel_rfl) (Or.inl ⟨by first | rfl | kernel_rfl, ?_⟩) hHeld (fun hHeld => ?_)
    rotate_left
    · (intro w' hSw; obtain ⟨⟨r1, r2⟩, r3⟩ := hSw; (try have r4 := r3 rfl); (try dsimp only at r1 r2 r4); clear r3; go_simp; try with_reducible rfl)
    try simp only [Act.put, List.setIfInBounds_toArray, List.set_cons_zero, List.set_cons_succ, List.getElem_toArray, List.getElem_cons_succ, List.getElem_cons_zero]
    refine HeldT.wpTill_takeT false (i := 16) (v := ?_) rfl (by kernel_rfl) (by kernel_rfl) (by kernel_rfl) (fun _ _ _ h => h) (by kernel_rfl) (Or.inl ⟨by first | rfl | kernel_rfl, ?_⟩) hHeld (fun hHeld => ?_)
    rotate_left
    · (intro w' hSw; obtain ⟨⟨r1, r2⟩, r3⟩ := hSw; (try have r4 := r3 rfl); (try dsimp only at r1 r2 r4); clear r3; go_simp; try with_reducible rfl)
    try simp only [Act.put, List.setIfInBounds_toArray, List.set_cons_zero, List.set_cons_succ, List.getElem_toArray, List.getElem_cons_succ, List.getElem_cons_zero]
    refine HeldT.wpTill_takeT true (i := 17) (v := ?_) rfl (by kernel_rfl) (by kernel_rfl) (by kernel_rfl) (fun _ _ _ h => h) (by kernel_rfl) (Or.inl ⟨by first | rfl | kernel_rfl, ?_⟩) hHeld (fun hHeld => ?_)
    rotate_left
    · (intro w' hSw; obtain ⟨⟨r1, r2⟩, r3⟩ := hSw; (try have r4 := r3 rfl); (try dsimp only at r1 r2 r4); clear r3; go_simp; try with_reducible rfl)
    try simp only [Act.put, List.setIfInBounds_toArray, List.set_cons_zero, List.set_cons_succ, List.getElem_toArray, List.getElem_cons_succ, List.getElem_cons_zero]
    refine HeldT.wpTill_takeT false (i := 18) (v := ?_) rfl (by kernel_rfl) (by kernel_rfl) (by kernel_rfl) (fun _ _ _ h => h) (by kernel_rfl) (Or.inl ⟨by first | rfl | kernel_rfl, ?_⟩) hHeld (fun hHeld => ?_)
    rotate_left
    · (intro w' hSw; obtain ⟨⟨r1, r2⟩, r3⟩ := hSw; (try have r4 := r3 rfl); (try dsimp only at r1 r2 r4); clear r3; go_simp; try with_reducible rfl)
    try simp only [Act.put, List.setIfInBounds_toArray, List.set_cons_zero, List.set_cons_succ, List.getElem_toArray, List.getElem_cons_succ, List.getElem_cons_zero]
    refine HeldT.wpTill_takeT false (i := 19) (v := ?_) rfl (by kernel_rfl) (by kernel_rfl) (by kernel_rfl) (fun _ _ _ h => h) (by kernel_rfl) (Or.inl ⟨by first | rfl | kernel_rfl, ?_⟩) hHeld (fun hHeld => ?_)
    rotate_left
    · (intro w' hSw; obtain ⟨⟨r1, r2⟩, r3⟩ := hSw; (try have r4 := r3 rfl); (try dsimp only at r1 r2 r4); clear r3; go_simp; try with_reducible rfl)
    try simp only [Act.put, List.setIfInBounds_toArray, List.set_cons_zero, List.set_cons_succ, List.getElem_toArray, List.getElem_cons_succ, List.getElem_cons_zero]
    refine HeldT.wpTill_takeT false (i := 20) (v := ?_) rfl (by kernel_rfl) (by kernel_rfl) (by kernel_rfl) (fun _ _ _ h => h) (by kernel_rfl) (Or.inl ⟨by first | rfl | kernel_rfl, ?_⟩) hHeld (fun hHeld => ?_)
    rotate_left
    · (intro w' hSw; obtain ⟨⟨r1, r2⟩, r3⟩ := hSw; (try have r4 := r3 rfl); (try dsimp only at r1 r2 r4); clear r3; go_simp; try with_reducible rfl)
    try simp only [Act.put, List.setIfInBounds_toArray, List.set_cons_zero, List.set_cons_succ, List.getElem_toArray, List.getElem_cons_succ, List.getElem_cons_zero]
    refine wpTill_one (i := 21) (by kernel_rfl) rfl (fun K hK => ?_)
    go_simp
    have E2 := pe_next E1 ((Below.refl _ _).alloc (Nat.le_refl _) (.cells #[.int .i64 3, .int .i64 0, .int .i64 c.ch, .int .i64 y1, .int .i64 2, .int .i64 0, .int .i64 y0, .int .i64 ns, .int .i64 3, .int .i64 0, .int .i64 c.ch, .int .i64 y2] 124))
    have pd2 := E2.out.pl.out.box.cell
    rw [HN.out, EA.out] at pd2
    refine hK _ _ ⟨⟨BN2.out.cell, trivial⟩, fun _ => pd2⟩ (fun hHeld => ?_)
    clear hK K
    refine wpTill_one (i := 22) (by kernel_rfl) rfl (fun K hK => ?_)
    rw [if_pos (by kernel_rfl)]
    go_simp
    refine (spend_any E2.out.pl _ 3 _ (by omega) (sp_three E2.out.pl HY (Box.new _ _ _) i1 ⟨by omega, by omega⟩ j0 j1 j2) x1 s1 SX).mono ?_
    rintro e1 w2 ⟨rfl, a2, P2⟩
    have bn3 := (box_alt BN2.out a2 (px_ne E2.out.pl BN2.out (by decide) (by decide) (by decide))).cell
    have E3 := pe_step E2 a2 P2
    have nbe := box_ne BN2.out E2.out.box (by decide)
    refine hK _ _ ⟨⟨bn3, trivial⟩, fun h => (by cases h)⟩ (fun hHeld => ?_)
    clear hK K bn3 bn BN BN2 j0 j1 j2
    refine wpTill_one (i := 23) (by kernel_rfl) rfl (fun K hK => ?_)
    have ce3 := E3.out.box.cell
    have cf3 := E3.out.box.frozen
    go_simp
    refine hK _ _ ⟨⟨by first | exact trivial | exact rule_set hHeld.1.1 _ _ nbe, trivial⟩, fun h => (by cases h)⟩ (fun hHeld => ?_)
    clear hK K
    refine wpTill_done (by kernel_rfl) ?_ 0
    refine NoPanic.normal ?_
    have E4 := pe_store E3 x1
    clear hHeld ce3 cf3 pd pd2 E0 E1 E2 E3 a2 P2
    try clear hb
    try clear ce
    try clear cf
    generalize w2.setCell ⟨eb, 0, none⟩ (.int .i64 x1) = w3 at E4 ⊢
    have ce := E4.out.box.cell
    have cf := E4.out.box.frozen
    rcases ways with ⟨rfl, rfl, rfl⟩ | ⟨q1, rfl, rfl⟩
    · go_wp2_with fail
      refine leaves_cons (f := 72) (args := #[.pointer (some ⟨b, 0, none⟩), .pointer (some ⟨eb, 0, none⟩)]) (by simp) (by simp [go_sem]) ?_
      refine (restart_ok _ E4).mono ?_
      rintro e u' w' ⟨rfl, rfl, hE⟩
      refine ⟨.int .i64 (0), by simp [results, Try.results26, go_sem, hE.out.box.cell], rfl, hE.out.alt, hE.out.pl⟩
    · go_wp2_with fail
      refine leaves_cons (f := 72) (args := #[.pointer (some ⟨b, 0, none⟩), .pointer (some ⟨eb, 0, none⟩)]) (by simp) (by simp [go_sem]) ?_
      refine (restart_err _ (Lib.hid (E4).out.box) q1).mono ?_
      rintro e u' w' ⟨rfl, rfl, e9⟩
      cases e9
      have hE := E4
      refine ⟨.int .i64 (x), by simp [results, Try.results26, go_sem, hE.out.box.cell], rfl, hE.out.alt, hE.out.pl⟩
end Go.Proofs.Ytgkahcchekiogaa.Plf
