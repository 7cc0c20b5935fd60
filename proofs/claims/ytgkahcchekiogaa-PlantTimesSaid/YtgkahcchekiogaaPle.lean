/- Walks of package plant: restart, Turn, Idle. -/
import Derived.Test.YtgkahcchekiogaaPld
import Derived.Test.YtgkahcchekiogaaOscA
namespace Go.Proofs.Ytgkahcchekiogaa.Ple
open Go.RowKit Base Kit RefA Alt WideA WideB Plain MetA MetB MetC Conf Plb Plc Held Pld
set_option linter.unusedVariables false
set_option linter.unusedSimpArgs false
attribute [local go_sem ↓] Go.wp_at_zero Go.wp_at_succ

/-- a platform, and a variable for an error, since an entry -/
structure Pe (w0 w w' : World) (b m g n eb : Nat) (c : PowC) (s : PS) (v : Int) : Prop where
  pl : Hid (Pl w0 w' b m g n c s)
  box : Box w' eb #[.int .i64 v] 45
  alt : Alt (PX b m g) w w'
  lt : w.heap.size ≤ eb
  hw : w0.heap.size ≤ w.heap.size
theorem pe_in {w0 w : World} {b m g n : Nat} {c : PowC} {s : PS} (h : Hid (Pl w0 w b m g n c s)) : Hid (Pe w0 w (w.alloc (.cells #[.int .i64 0] 45)) b m g n w.heap.size c s 0) :=
  Lib.hid ⟨pl_next h ((Below.refl _ _).alloc (Nat.le_refl _) _), Box.new _ _ _, Alt.alloc _ _, Nat.le_refl _, h.out.bel.size⟩
theorem pe_next {w0 w w1 w2 : World} {b m g n eb : Nat} {c : PowC} {s : PS} {v : Int} (h : Hid (Pe w0 w w1 b m g n eb c s v)) (k : Below w1.heap.size w1 w2) : Hid (Pe w0 w w2 b m g n eb c s v) :=
  Lib.hid ⟨pl_next h.out.pl k, h.out.box.next k, h.out.alt.trans (Alt.of_below k), h.out.lt, h.out.hw⟩
theorem px_ne {w0 w : World} {b m g n : Nat} {c : PowC} {s : PS} (h : Hid (Pl w0 w b m g n c s)) {eb : Nat} {vs : Array Value} {T : TypeId} (hx : Box w eb vs T) (h1 : T ≠ 43) (h2 : T ≠ 117) (h3 : 3 ≠ T) : ¬ PX b m g eb := by
  intro e
  rcases e with e | e | e
  · exact box_ne hx h.out.box h1 e
  · exact box_ne hx h.out.met.out.box h2 e
  · exact own_ne h.out.met.out.own hx h3 e.symm
theorem pe_step {w0 w w1 w2 : World} {b m g n eb : Nat} {c : PowC} {s s' : PS} {v : Int} (h : Hid (Pe w0 w w1 b m g n eb c s v)) (a : Alt (PX b m g) w1 w2) (p : Hid (Pl w0 w2 b m g n c s')) : Hid (Pe w0 w w2 b m g n eb c s' v) :=
  Lib.hid ⟨p, box_alt h.out.box a (px_ne h.out.pl h.out.box (by decide) (by decide) (by decide)), h.out.alt.trans a, h.out.lt, h.out.hw⟩
theorem pe_store {w0 w w1 : World} {b m g n eb : Nat} {c : PowC} {s : PS} {v : Int} (h : Hid (Pe w0 w w1 b m g n eb c s v)) (u : Int) : Hid (Pe w0 w (w1.setCell ⟨eb, 0, none⟩ (.int .i64 u)) b m g n eb c s u) := by
  have hx := px_ne h.out.pl h.out.box (by decide) (by decide) (by decide)
  have a := Alt.set (S := fun i => i = eb) w1 ⟨eb, 0, none⟩ (.int .i64 u) rfl
  have hs := h.out.alt.size
  have h0 := h.out.pl.out.bel.size
  have hlt := h.out.lt
  have hw := h.out.hw
  exact Lib.hid ⟨pl_alt h.out.pl a (fun i hi => by omega) (fun e => hx (.inl e.symm)) (fun e => hx (.inr (.inl e.symm))) (fun e => hx (.inr (.inr e.symm))), h.out.box.set 0 _, ⟨h.out.alt.os, h.out.alt.tape, h.out.alt.output, Nat.le_trans hs (by simp [World.setCell]), fun k hk hs' => by rw [a.block k (by omega) (by omega)]; exact h.out.alt.block k hk hs'⟩, hlt, hw⟩

def ReOk (w0 w : World) (b m g n eb : Nat) (c : PowC) (s : PS) (u : FrameMode) (x : Ending) (u' : FrameMode) (w' : World) : Prop := u' = u ∧ x = .returned (.tuple #[]) ∧ Hid (Pe w0 w w' b m g n eb c s 0)
theorem restart_ok {w0 w w1 : World} {b m g n eb : Nat} {c : PowC} {s : PS} (u : _) (h : Hid (Pe w0 w w1 b m g n eb c s 0)) :
    CallsD Try.prog 72 #[.pointer (some ⟨b, 0, none⟩), .pointer (some ⟨eb, 0, none⟩)] u w1 fun x u' w' => u' = u ∧ (x = .returned (.tuple #[]) ∧ Hid (Pe w0 w w' b m g n eb c (syncP s) 0)) := by
  have ce := h.out.box.cell
  go_enter_d Try.func72, Try.ntmps72
  go_wp2_with fail
  refine (sync_any h.out.pl).mono ?_
  rintro e w2 ⟨rfl, a2, p2⟩
  go_wp2_with fail
  go_end0
  exact ⟨rfl, pe_step h a2 p2⟩
theorem restart_err {w : World} {b eb : Nat} {v : Int} (u : _) (h : Hid (Box w eb #[.int .i64 v] 45)) (hv : v ≠ 0) :
    CallsD Try.prog 72 #[.pointer (some ⟨b, 0, none⟩), .pointer (some ⟨eb, 0, none⟩)] u w fun x u' w' => u' = u ∧ (x = .returned (.tuple #[]) ∧ w = w') := by
  have ce := h.out.cell
  have hv' : (v == 0) = false := by simpa using hv
  clear hv
  go_enter_d Try.func72, Try.ntmps72
  go_wp2_with fail
  go_end0
  exact ⟨rfl, rfl⟩
/-- one span, in a row of its own -/
theorem sp_one {w0 w : World} {b m g n : Nat} {c : PowC} {s : PS} (h : Hid (Pl w0 w b m g n c s)) {r : Nat} {x0 x1 x2 x3 : Int} (hx : Box w r #[.int .i64 x0, .int .i64 x1, .int .i64 x2, .int .i64 x3] 124) (i0 : I64 x0) (i1 : I64 x1) (i2 : I64 x2) (i3 : I64 x3) : Hid (Sp w b m g r 1 (one x0 x1 x2 x3)) := by
  have ne := px_ne h hx (by decide) (by decide) (by decide)
  refine Lib.hid ⟨hx.lt, fun e => ne (.inl e), fun e => ne (.inr (.inl e)), fun e => ne (.inr (.inr e)), fun i hi j hj => ?_, fun i hi j hj => ?_⟩
  · have : j = 0 ∨ j = 1 ∨ j = 2 ∨ j = 3 := by omega
    rcases this with rfl | rfl | rfl | rfl <;> simpa [one]
  · obtain rfl : i = 0 := by omega
    have : j = 0 ∨ j = 1 ∨ j = 2 ∨ j = 3 := by omega
    rcases this with rfl | rfl | rfl | rfl <;> (rw [hx.cell]; rfl)

set_option maxRecDepth 100000 in
set_option maxHeartbeats 2000000 in
theorem turn_any {w0 w : World} {b m g n : Nat} {c : PowC} {s : PS} (h : Hid (Pl w0 w b m g n c s)) (l : Int) (hl : I64 l) (x : Int) (s' : PS) (hx : Hid (turnP n c s l = (x, s'))) :
    Calls Try.prog 24 #[.pointer (some ⟨b, 0, none⟩), .int .i64 l] w (PPost w0 w b m g n c x s') := by
  have E0 := pe_in h
  have hb := E0.out.pl.out.box.cell
  have ce := E0.out.box.cell
  have cf := E0.out.box.frozen
  have hv := s'
  obtain ⟨lv, hlv⟩ : ∃ lv, s.level = lv := ⟨_, rfl⟩
  rw [hlv] at hb
  have ways : (l < 0 ∧ x = 2 ∧ s' = s) ∨ (0 ≤ l ∧ (c.ln : Int) ≤ l ∧ x = 2 ∧ s' = s) ∨ (0 ≤ l ∧ l < (c.ln : Int) ∧ l = lv ∧ x = 0 ∧ s' = s) ∨ (0 ≤ l ∧ l < (c.ln : Int) ∧ l ≠ lv ∧ setP (spendP n s (one 3 0 c.ch c.sw) 1) (fun t => { t with level := l }) = (x, s')) := by
    have := hx.out
    unfold turnP at this
    by_cases h1 : l < 0
    · rw [if_pos (.inl h1)] at this; cases this; exact .inl ⟨h1, rfl, rfl⟩
    · by_cases h2 : (c.ln : Int) ≤ l
      · rw [if_pos (.inr h2)] at this; cases this; exact .inr (.inl ⟨by omega, h2, rfl, rfl⟩)
      · rw [if_neg (by omega)] at this
        by_cases h3 : l = lv
        · rw [if_pos (by rw [hlv]; exact h3)] at this; cases this; exact .inr (.inr (.inl ⟨by omega, by omega, h3, rfl, rfl⟩))
        · rw [if_neg (by rw [hlv]; exact h3)] at this; exact .inr (.inr (.inr ⟨by omega, by omega, h3, this⟩))
  have HLV := Lib.hid hlv
  clear hx hlv hv
  rcases ways with ⟨h1, rfl, rfl⟩ | ⟨h1, h2, rfl, rfl⟩ | ⟨h1, h2, rfl, rfl, rfl⟩ | ⟨h1, h2, h3, hx⟩
  · have hE := pe_store E0 2
    clear E0
    go_enter_defers Try.func24, Try.ntmps24
    go_wp2_with fail
    generalize w.alloc (.cells #[.int .i64 0] 45) = w1 at *
    generalize w.heap.size = eb at *
    refine (dead_any _ _ m (by rw [hb]; rfl)).mono ?_
    rintro e1 w5 ⟨rfl, e9⟩
    cases e9
    go_wp2_with fail
    refine ⟨.int .i64 (2), by simp [results, Try.results24, go_sem, hE.out.box.cell], rfl, hE.out.alt, hE.out.pl⟩
  · have hE := pe_store E0 2
    clear E0
    go_enter_defers Try.func24, Try.ntmps24
    go_wp2_with fail
    generalize w.alloc (.cells #[.int .i64 0] 45) = w1 at *
    generalize w.heap.size = eb at *
    refine (dead_any _ _ m (by rw [hb]; rfl)).mono ?_
    rintro e1 w5 ⟨rfl, e9⟩
    cases e9
    go_wp2_with fail
    refine ⟨.int .i64 (2), by simp [results, Try.results24, go_sem, hE.out.box.cell], rfl, hE.out.alt, hE.out.pl⟩
  · have hE := pe_store E0 0
    clear E0
    go_enter_defers Try.func24, Try.ntmps24
    go_wp2_with fail
    generalize w.alloc (.cells #[.int .i64 0] 45) = w1 at *
    generalize w.heap.size = eb at *
    refine (dead_any _ _ m (by rw [hb]; rfl)).mono ?_
    rintro e1 w5 ⟨rfl, e9⟩
    cases e9
    go_wp2_with fail
    refine ⟨.int .i64 (0), by simp [results, Try.results24, go_sem, hE.out.box.cell], rfl, hE.out.alt, hE.out.pl⟩
  · have h4 : (l == lv) = false := by simpa using h3
    have HX := Lib.hid hx
    clear h3 hx
    have i1 := h.out.co.ch
    have i2 := h.out.co.sw
    obtain ⟨x1, hx1⟩ : ∃ x1, (spendP n s (one 3 0 c.ch c.sw) 1).1 = x1 := ⟨_, rfl⟩
    obtain ⟨s1, hs1⟩ : ∃ s1, (spendP n s (one 3 0 c.ch c.sw) 1).2 = s1 := ⟨_, rfl⟩
    have hs2 := (spend_ok (f := one 3 0 c.ch c.sw) h.out.ok 1).1
    rw [hs1] at hs2
    have S2 := Lib.hid hs2
    have SX : Hid (spendP n s (one 3 0 c.ch c.sw) 1 = (x1, s1)) := Lib.hid (Prod.ext hx1 hs1)
    have ways : (x1 = 0 ∧ x = 0 ∧ s' = syncP { s1 with level := l }) ∨ (x1 ≠ 0 ∧ x = x1 ∧ s' = s1) := by
      have := HX.out
      rw [SX.out] at this
      unfold setP at this
      by_cases h0 : x1 = 0
      · rw [if_neg (by simpa using h0)] at this; simp only [Prod.mk.injEq] at this; exact .inl ⟨h0, this.1.symm, this.2.symm⟩
      · rw [if_pos h0] at this; simp only [Prod.mk.injEq] at this; exact .inr ⟨h0, this.1.symm, this.2.symm⟩
    clear hx1 hs1 hs2 HX
    go_enter_defers Try.func24, Try.ntmps24
    go_wp2_with fail
    generalize w.alloc (.cells #[.int .i64 0] 45) = w1 at *
    generalize w.heap.size = eb at *
    refine (dead_any _ _ m (by rw [hb]; rfl)).mono ?_
    rintro e1 w5 ⟨rfl, e9⟩
    cases e9
    go_wp2_with fail
    have E1 := pe_next E0 (Below.refl _ _).drew
    have pd := E1.out.pl.out.box.cell
    rw [HLV.out] at pd
    refine wp_region_noPanic ?_
    refine wp_region_till (fun w' => True ∧ True) (fun w' => ∀ i, w'.cell? ⟨b, i, none⟩ = (#[.int .i64 s.now, .int .i64 s.base, .int .i64 s.done, .int .i64 lv, .slice c.la c.ln c.lc, .slice c.na c.nn c.nc, .int .i64 c.sw, .int .i64 c.id, .int .i64 c.ch, .int .i64 c.qu, .int .i64 c.sl, .int .i64 c.pp, .pointer (some ⟨m, 0, none⟩)] : Array Value)[i]?) 13 15 #[false, false, false, false, false, false, false, false, false, false, false, false, false, false, false] (by kernel_rfl) rfl rfl ⟨⟨trivial, trivial⟩, pd⟩ (fun hHeld => ?_)
    refine HeldT.wpTill_takeT false (i := 0) (v := ?_) rfl (by kernel_rfl) (by kernel_rfl) (by kernel_rfl) (fun _ _ _ h => h) (by kernel_rfl) (Or.inl ⟨by first | rfl | kernel_rfl, ?_⟩) hHeld (fun hHeld => ?_)
    rotate_left
    · (intro w' hSw; obtain ⟨⟨r1, r2⟩, r3⟩ := hSw; (try have r4 := r3 rfl); (try dsimp only at r1 r2 r4); clear r3; go_simp; try with_reducible rfl)
    try simp only [Act.put, List.setIfInBounds_toArray, List.set_cons_zero, List.set_cons_succ, List.getElem_toArray, List.getElem_cons_succ, List.getElem_cons_zero]
    refine HeldT.wpTill_takeT false (i := 1) (v := ?_) rfl (by kernel_rfl) (by kernel_rfl) (by kernel_rfl) (fun _ _ _ h => h) (by kernel_rfl) (Or.inl ⟨by first | rfl | kernel_rfl, ?_⟩) hHeld (fun hHeld => ?_)
    rotate_left
    · (intro w' hSw; obtain ⟨⟨r1, r2⟩, r3⟩ := hSw; (try have r4 := r3 rfl); (try dsimp only at r1 r2 r4); clear r3; go_simp; try with_reducible rfl)
    try simp only [Act.put, List.setIfInBounds_toArray, List.set_cons_zero, List.set_cons_succ, List.getElem_toArray, List.getElem_cons_succ, List.getElem_cons_zero]
    refine HeldT.wpTill_takeT false (i := 2) (v := ?_) rfl (by kernel_rfl) (by kernel_rfl) (by kernel_rfl) (fun _ _ _ h => h) (by kernel_rfl) (Or.inl ⟨by first | rfl | kernel_rfl, ?_⟩) hHeld (fun hHeld => ?_)
    rotate_left
    · (intro w' hSw; obtain ⟨⟨r1, r2⟩, r3⟩ := hSw; (try have r4 := r3 rfl); (try dsimp only at r1 r2 r4); clear r3; go_simp; try with_reducible rfl)
    try simp only [Act.put, List.setIfInBounds_toArray, List.set_cons_zero, List.set_cons_succ, List.getElem_toArray, List.getElem_cons_succ, List.getElem_cons_zero]
    refine HeldT.wpTill_takeT false (i := 3) (v := ?_) rfl (by kernel_rfl) (by kernel_rfl) (by kernel_rfl) (fun _ _ _ h => h) (by kernel_rfl) (Or.inl ⟨by first | rfl | kernel_rfl, ?_⟩) hHeld (fun hHeld => ?_)
    rotate_left
    · (intro w' hSw; obtain ⟨⟨r1, r2⟩, r3⟩ := hSw; (try have r4 := r3 rfl); (try dsimp only at r1 r2 r4); clear r3; go_simp; try with_reducible rfl)
    try simp only [Act.put, List.setIfInBounds_toArray, List.set_cons_zero, List.set_cons_succ, List.getElem_toArray, List.getElem_cons_succ, List.getElem_cons_zero]
    refine HeldT.wpTill_takeT false (i := 4) (v := ?_) rfl (by kernel_rfl) (by kernel_rfl) (by kernel_rfl) (fun _ _ _ h => h) (by kernel_rfl) (Or.inl ⟨by first | rfl | kernel_rfl, ?_⟩) hHeld (fun hHeld => ?_)
    rotate_left
    · (intro w' hSw; obtain ⟨⟨r1, r2⟩, r3⟩ := hSw; (try have r4 := r3 rfl); (try dsimp only at r1 r2 r4); clear r3; go_simp; try with_reducible rfl)
    try simp only [Act.put, List.setIfInBounds_toArray, List.set_cons_zero, List.set_cons_succ, List.getElem_toArray, List.getElem_cons_succ, List.getElem_cons_zero]
    refine HeldT.wpTill_takeT true (i := 5) (v := ?_) rfl (by kernel_rfl) (by kernel_rfl) (by kernel_rfl) (fun _ _ _ h => h) (by kernel_rfl) (Or.inl ⟨by first | rfl | kernel_rfl, ?_⟩) hHeld (fun hHeld => ?_)
    rotate_left
    · (intro w' hSw; obtain ⟨⟨r1, r2⟩, r3⟩ := hSw; (try have r4 := r3 rfl); (try dsimp only at r1 r2 r4); clear r3; go_simp; try with_reducible rfl)
    try simp only [Act.put, List.setIfInBounds_toArray, List.set_cons_zero, List.set_cons_succ, List.getElem_toArray, List.getElem_cons_succ, List.getElem_cons_zero]
    refine HeldT.wpTill_takeT false (i := 6) (v := ?_) rfl (by kernel_rfl) (by kernel_rfl) (by kernel_rfl) (fun _ _ _ h => h) (by kernel_rfl) (Or.inl ⟨by first | rfl | kernel_rfl, ?_⟩) hHeld (fun hHeld => ?_)
    rotate_left
    · (intro w' hSw; obtain ⟨⟨r1, r2⟩, r3⟩ := hSw; (try have r4 := r3 rfl); (try dsimp only at r1 r2 r4); clear r3; go_simp; try with_reducible rfl)
    try simp only [Act.put, List.setIfInBounds_toArray, List.set_cons_zero, List.set_cons_succ, List.getElem_toArray, List.getElem_cons_succ, List.getElem_cons_zero]
    refine HeldT.wpTill_takeT false (i := 7) (v := ?_) rfl (by kernel_rfl) (by kernel_rfl) (by kernel_rfl) (fun _ _ _ h => h) (by kernel_rfl) (Or.inl ⟨by first | rfl | kernel_rfl, ?_⟩) hHeld (fun hHeld => ?_)
    rotate_left
    · (intro w' hSw; obtain ⟨⟨r1, r2⟩, r3⟩ := hSw; (try have r4 := r3 rfl); (try dsimp only at r1 r2 r4); clear r3; go_simp; try with_reducible rfl)
    try simp only [Act.put, List.setIfInBounds_toArray, List.set_cons_zero, List.set_cons_succ, List.getElem_toArray, List.getElem_cons_succ, List.getElem_cons_zero]
    refine HeldT.wpTill_takeT false (i := 8) (v := ?_) rfl (by kernel_rfl) (by kernel_rfl) (by kernel_rfl) (fun _ _ _ h => h) (by kernel_rfl) (Or.inl ⟨by first | rfl | kernel_rfl, ?_⟩) hHeld (fun hHeld => ?_)
    rotate_left
    · (intro w' hSw; obtain ⟨⟨r1, r2⟩, r3⟩ := hSw; (try have r4 := r3 rfl); (try dsimp only at r1 r2 r4); clear r3; go_simp; try with_reducible rfl)
    try simp only [Act.put, List.setIfInBounds_toArray, List.set_cons_zero, List.set_cons_succ, List.getElem_toArray, List.getElem_cons_succ, List.getElem_cons_zero]
    refine HeldT.wpTill_takeT false (i := 9) (v := ?_) rfl (by kernel_rfl) (by kernel_rfl) (by kernel_rfl) (fun _ _ _ h => h) (by kernel_rfl) (Or.inl ⟨by first | rfl | kernel_rfl, ?_⟩) hHeld (fun hHeld => ?_)
    rotate_left
    · (intro w' hSw; obtain ⟨⟨r1, r2⟩, r3⟩ := hSw; (try have r4 := r3 rfl); (try dsimp only at r1 r2 r4); clear r3; go_simp; try with_reducible rfl)
    try simp only [Act.put, List.setIfInBounds_toArray, List.set_cons_zero, List.set_cons_succ, List.getElem_toArray, List.getElem_cons_succ, List.getElem_cons_zero]
    refine HeldT.wpTill_takeT true (i := 10) (v := ?_) rfl (by kernel_rfl) (by kernel_rfl) (by kernel_rfl) (fun _ _ _ h => h) (by kernel_rfl) (Or.inl ⟨by first | rfl | kernel_rfl, ?_⟩) hHeld (fun hHeld => ?_)
    rotate_left
    · (intro w' hSw; obtain ⟨⟨r1, r2⟩, r3⟩ := hSw; (try have r4 := r3 rfl); (try dsimp only at r1 r2 r4); clear r3; go_simp; try with_reducible rfl)
    try simp only [Act.put, List.setIfInBounds_toArray, List.set_cons_zero, List.set_cons_succ, List.getElem_toArray, List.getElem_cons_succ, List.getElem_cons_zero]
    refine HeldT.wpTill_takeT false (i := 11) (v := ?_) rfl (by kernel_rfl) (by kernel_rfl) (by kernel_rfl) (fun _ _ _ h => h) (by kernel_rfl) (Or.inl ⟨by first | rfl | kernel_rfl, ?_⟩) hHeld (fun hHeld => ?_)
    rotate_left
    · (intro w' hSw; obtain ⟨⟨r1, r2⟩, r3⟩ := hSw; (try have r4 := r3 rfl); (try dsimp only at r1 r2 r4); clear r3; go_simp; try with_reducible rfl)
    try simp only [Act.put, List.setIfInBounds_toArray, List.set_cons_zero, List.set_cons_succ, List.getElem_toArray, List.getElem_cons_succ, List.getElem_cons_zero]
    refine wpTill_one (i := 12) (by kernel_rfl) rfl (fun K hK => ?_)
    go_simp
    have E2 := pe_next E1 ((Below.refl _ _).alloc (Nat.le_refl _) (.cells #[.int .i64 3, .int .i64 0, .int .i64 c.ch, .int .i64 c.sw] 124))
    have pd2 := E2.out.pl.out.box.cell
    rw [HLV.out] at pd2
    refine hK _ _ ⟨⟨trivial, trivial⟩, fun _ => pd2⟩ (fun hHeld => ?_)
    clear hK K
    refine wpTill_one (i := 13) (by kernel_rfl) rfl (fun K hK => ?_)
    rw [if_pos (by kernel_rfl)]
    go_simp
    refine (spend_any E2.out.pl _ 1 _ (by omega) (sp_one E2.out.pl (Box.new _ _ _) ⟨by omega, by omega⟩ ⟨by omega, by omega⟩ i1 i2) x1 s1 SX).mono ?_
    rintro e1 w2 ⟨rfl, a2, P2⟩
    have E3 := pe_step E2 a2 P2
    refine hK _ _ ⟨⟨trivial, trivial⟩, fun h => (by cases h)⟩ (fun hHeld => ?_)
    clear hK K
    refine wpTill_one (i := 14) (by kernel_rfl) rfl (fun K hK => ?_)
    have ce3 := E3.out.box.cell
    have cf3 := E3.out.box.frozen
    go_simp
    refine hK _ _ ⟨⟨trivial, trivial⟩, fun h => (by cases h)⟩ (fun hHeld => ?_)
    clear hK K
    refine wpTill_done (by kernel_rfl) ?_ 0
    refine NoPanic.normal ?_
    have E4 := pe_store E3 x1
    clear hHeld ce3 cf3 pd pd2 E0 E1 E2 E3 a2 P2 hb ce cf
    generalize w2.setCell ⟨eb, 0, none⟩ (.int .i64 x1) = w3 at E4 ⊢
    have ce := E4.out.box.cell
    have cf := E4.out.box.frozen
    have pb := E4.out.pl.out.box.cell
    have pf := E4.out.pl.out.box.frozen
    rcases ways with ⟨rfl, rfl, rfl⟩ | ⟨q1, rfl, rfl⟩
    · have q := pl_set (s' := { s1 with level := l }) E4.out.pl (Alt.set (S := fun i => i = b) w3 ⟨b, 3, none⟩ (.int .i64 l) rfl) (fun vs hv e => by subst e; exact hv.set 3 (.int .i64 l)) rfl ⟨S2.out.now, S2.out.base, S2.out.done, ⟨by simp only; omega, h2⟩, S2.out.tim, S2.out.ok⟩
      have E5 := pe_step E4 q.1 q.2
      have E6 := pe_store E5 0
      clear q
      go_wp2_with fail
      generalize (w3.setCell ⟨b, 3, none⟩ (.int .i64 l)).setCell ⟨eb, 0, none⟩ (.int .i64 0) = w4 at E6 ⊢
      refine leaves_cons (f := 72) (args := #[.pointer (some ⟨b, 0, none⟩), .pointer (some ⟨eb, 0, none⟩)]) (by simp) (by simp [go_sem]) ?_
      refine (restart_ok _ E6).mono ?_
      rintro e u' w' ⟨rfl, rfl, hE⟩
      refine ⟨.int .i64 (0), by simp [results, Try.results24, go_sem, hE.out.box.cell], rfl, hE.out.alt, hE.out.pl⟩
    · have q2 : (x == 0) = false := by simpa using q1
      have E6 := pe_store E4 x
      go_wp2_with fail
      generalize w3.setCell ⟨eb, 0, none⟩ (.int .i64 x) = w4 at E6 ⊢
      refine leaves_cons (f := 72) (args := #[.pointer (some ⟨b, 0, none⟩), .pointer (some ⟨eb, 0, none⟩)]) (by simp) (by simp [go_sem]) ?_
      refine (restart_err _ (Lib.hid E6.out.box) q1).mono ?_
      rintro e u' w' ⟨rfl, rfl, e9⟩
      cases e9
      have hE := E6
      refine ⟨.int .i64 (x), by simp [results, Try.results24, go_sem, hE.out.box.cell], rfl, hE.out.alt, hE.out.pl⟩
end Go.Proofs.Ytgkahcchekiogaa.Ple
