/- Walks of the reference's plant: Run, Turn, Idle. -/
import Derived.Test.YtgkahcchekiogaaPls
namespace Go.Proofs.Ytgkahcchekiogaa.Plt
open Go.RowKit Base Kit RefA Alt WideA WideB RefC Plain MetA MetB MetC MetR MetQ Conf Plb Held Plr Cls Pls
set_option linter.unusedVariables false
set_option linter.unusedSimpArgs false
attribute [local go_sem ↓] Go.wp_at_zero Go.wp_at_succ
set_option maxRecDepth 100000 in
set_option maxHeartbeats 4000000 in
theorem rrun_any {w0 w : World} {b m q cap n : Nat} {c : PowC} {s : PS} (h : Hid (RPl w0 w b m q cap n c s)) (part cy : Int) (hp : I64 part) (hc : I64 cy) :
    Calls Try.prog 62 #[.pointer (some ⟨b, 0, none⟩), .int .i64 part, .int .i64 cy] w (RPost w0 w b m q n c) := by
  have hb := h.out.box.cell
  have hm := h.out.met.out.box.cell
  have hn := h.out.ok.ok.hn
  by_cases h1 : part < 0
  · --
    go_enter Try.func62, Try.ntmps62
    go_wp2_with fail
    go_ret
    exact ⟨_, _, _, _, rfl, rp_same h (Below.refl _ _)⟩
  have h1 : 0 ≤ part := by omega
  by_cases h2 : (n : Int) ≤ part
  · --
    go_enter Try.func62, Try.ntmps62
    go_wp2_with fail
    go_ret
    exact ⟨_, _, _, _, rfl, rp_same h (Below.refl _ _)⟩
  have h2 : part < (n : Int) := by omega
  go_enter Try.func62, Try.ntmps62
  go_wp2_with fail
  refine (rwhen_any h cy hc).mono ?_
  rintro e1 w1 ⟨x, e, rfl, hrw, hb1⟩
  have P1 := rp_next h hb1
  have R1 := rp_same h hb1
  have X1 := hrw.x
  have X2 := Lib.hid hrw.ok
  clear hrw hb hm hb1
  by_cases h3 : e = 0
  · subst h3
    obtain ⟨c1, c2, c3⟩ := X2.out rfl
    obtain ⟨l, hl⟩ : ∃ t, s.level = t := ⟨_, rfl⟩
    rw [hl] at c3
    obtain ⟨k, rfl⟩ := Int.eq_ofNat_of_zero_le c3
    have hk : k < c.ln := by have := h.out.ok.level; omega
    obtain ⟨d, o, ea, l1, q0, q1, i0, i1⟩ := rows_at2 h.out.co.lev k hk
    obtain ⟨y, hy⟩ : ∃ t, c.lf k 1 = t := ⟨_, rfl⟩
    rw [hy] at q1 i1
    obtain ⟨tn, htn⟩ : ∃ t, s.now = t := ⟨_, rfl⟩
    have n0 := h.out.ok.now
    rw [htn] at n0
    have HL := Lib.hid hl
    have HT := Lib.hid htn
    have EA := Lib.hid ea
    have Q1 := Lib.hid q1
    clear hl htn ea q0 q1 hy X2 c3
    go_wp2_with fail
    have P2 := rp_next P1 (Below.refl _ _).drew
    have R2 := rp_step R1 (Alt.of_below (Below.refl _ _).drew) (.inl rfl) P2
    clear P1 R1
    have pd := P2.out.box.cell
    have WS : IntKind.i64.wrap (x - tn) = x - tn := IntWalk.i64_in _ (by omega)
    rw [HT.out, HL.out, EA.out] at pd
    refine wp_region_till (fun w' => w'.cell? ⟨d, o + k * 2 + 1, none⟩ = some (.int .i64 y) ∧ ∀ i, w'.cell? ⟨b, i, none⟩ = (#[.int .i64 tn, .int .i64 s.base, .int .i64 s.done, .int .i64 (k : Int), .slice (some ⟨d, o, none⟩) c.ln c.lc, .slice c.na c.nn c.nc, .int .i64 c.sw, .int .i64 c.id, .int .i64 c.ch, .int .i64 c.qu, .int .i64 c.sl, .int .i64 c.pp, .pointer (some ⟨m, 0, none⟩)] : Array Value)[i]?) (fun w' => True) 23 25 #[false, false, false, false, false, false, false, false, false, false, false, false, false, false, false, false, false, false, false, false, false, false, false, false, false] (by kernel_rfl) rfl rfl ⟨⟨keep P2.out.bel Q1.out l1, pd⟩, trivial⟩ (fun hHeld => ?_)
    refine HeldT.wpTill_takeT false (i := 0) (v := ?_) rfl (by kernel_rfl) (by kernel_rfl) (by kernel_rfl) (fun _ _ _ h => h) (by kernel_rfl) (Or.inl ⟨by first | rfl | kernel_rfl, ?_⟩) hHeld (fun hHeld => ?_)
    rotate_left
    · (intro w' hSw; obtain ⟨⟨r1, r2⟩, r3⟩ := hSw; (try have r4 := r3 rfl); (try dsimp only at r1 r2 r4); clear r3; go_simp; try with_reducible rfl)
    try simp only [Act.put, List.setIfInBounds_toArray, List.set_cons_zero, List.set_cons_succ, List.getElem_toArray, List.getElem_cons_succ, List.getElem_cons_zero]
    refine HeldT.wpTill_takeT false (i := 1) (v := ?_) rfl (by kernel_rfl) (by kernel_rfl) (by kernel_rfl) (fun _ _ _ h => h) (by kernel_rfl) (Or.inl ⟨by first | rfl | kernel_rfl, ?_⟩) hHeld (fun hHeld => ?_)
    rotate_left
    · (intro w' hSw; obtain ⟨⟨r1, r2⟩, r3⟩ := hSw; (try have r4 := r3 rfl); (try dsimp only at r1 r2 r4); clear r3; go_simp; try with_reducible rfl)
    try simp only [Act.put, List.setIfInBounds_toArray, List.set_cons_zero, List.set_cons_succ, List.getElem_toArray, List.getElem_cons_succ, List.getElem_cons_zero]
    refine HeldT.wpTill_takeT false (i := 2) (v := ?_) rfl (by kernel_rfl) (by kernel_rfl) (by kernel_rfl) (fun _ _ _ h => h) (by kernel_rfl) (Or.inl ⟨by first | rfl | kernel_rfl, ?_⟩) hHeld (fun hHeld => ?_)
    rotate_left
    · (intro w' hSw; obtain ⟨⟨r1, r2⟩, r3⟩ := hSw; (try have r4 := r3 rfl); (try dsimp only at r1 r2 r4); clear r3; go_simp; try with_reducible rfl)
    try simp only [Act.put, List.setIfInBounds_toArray, List.set_cons_zero, List.set_cons_succ, List.getElem_toArray, List.getElem_cons_succ, List.getElem_cons_zero]
    refine HeldT.wpTill_takeT false (i := 3) (v := ?_) rfl (by kernel_rfl) (by kernel_rfl) (by kernel_rfl) (fun _ _ _ h => h) (by kernel_rfl) (Or.inl ⟨by first | rfl | kernel_rfl, ?_⟩) hHeld (fun hHeld => ?_)
    rotate_left
    · (intro w' hSw; obtain ⟨⟨r1, r2⟩, r3⟩ := hSw; (try have r4 := r3 rfl); (try dsimp only at r1 r2 r4); clear r3; go_simp; try with_reducible rfl)
    try simp only [Act.put, List.setIfInBounds_toArray, List.set_cons_zero, List.set_cons_succ, List.getElem_toArray, List.getElem_cons_succ, List.getElem_cons_zero]
    refine HeldT.wpTill_takeT false (i := 4) (v := ?_) rfl (by kernel_rfl) (by kernel_rfl) (by kernel_rfl) (fun _ _ _ h => h) (by kernel_rfl) (Or.inl ⟨by first | rfl | kernel_rfl, ?_⟩) hHeld (fun hHeld => ?_)
    rotate_left
    · (intro w' hSw; obtain ⟨⟨r1, r2⟩, r3⟩ := hSw; (try have r4 := r3 rfl); (try dsimp only at r1 r2 r4); clear r3; go_simp; try with_reducible rfl)
    try simp only [Act.put, List.setIfInBounds_toArray, List.set_cons_zero, List.set_cons_succ, List.getElem_toArray, List.getElem_cons_succ, List.getElem_cons_zero]
    refine HeldT.wpTill_takeT false (i := 5) (v := ?_) rfl (by kernel_rfl) (by kernel_rfl) (by kernel_rfl) (fun _ _ _ h => h) (by kernel_rfl) (Or.inl ⟨by first | rfl | kernel_rfl, ?_⟩) hHeld (fun hHeld => ?_)
    rotate_left
    · (intro w' hSw; obtain ⟨⟨r1, r2⟩, r3⟩ := hSw; (try have r4 := r3 rfl); (try dsimp only at r1 r2 r4); clear r3; go_simp; try with_reducible rfl)
    try simp only [Act.put, List.setIfInBounds_toArray, List.set_cons_zero, List.set_cons_succ, List.getElem_toArray, List.getElem_cons_succ, List.getElem_cons_zero]
    refine HeldT.wpTill_takeT false (i := 6) (v := ?_) rfl (by kernel_rfl) (by kernel_rfl) (by kernel_rfl) (fun _ _ _ h => h) (by kernel_rfl) (Or.inl ⟨by first | rfl | kernel_rfl, ?_⟩) hHeld (fun hHeld => ?_)
    rotate_left
    · (intro w' hSw; obtain ⟨⟨r1, r2⟩, r3⟩ := hSw; (try have r4 := r3 rfl); (try dsimp only at r1 r2 r4); clear r3; go_simp; try with_reducible rfl)
    try simp only [Act.put, List.setIfInBounds_toArray, List.set_cons_zero, List.set_cons_succ, List.getElem_toArray, List.getElem_cons_succ, List.getElem_cons_zero]
    refine HeldT.wpTill_takeT false (i := 7) (v := ?_) rfl (by kernel_rfl) (by kernel_rfl) (by kernel_rfl) (fun _ _ _ h => h) (by kernel_rfl) (Or.inl ⟨by first | rfl | kernel_rfl, ?_⟩) hHeld (fun hHeld => ?_)
    rotate_left
    · (intro w' hSw; obtain ⟨⟨r1, r2⟩, r3⟩ := hSw; (try have r4 := r3 rfl); (try dsimp only at r1 r2 r4); clear r3; go_simp; try with_reducible rfl)
    try simp only [Act.put, List.setIfInBounds_toArray, List.set_cons_zero, List.set_cons_succ, List.getElem_toArray, List.getElem_cons_succ, List.getElem_cons_zero]
    refine HeldT.wpTill_takeT false (i := 8) (v := ?_) rfl (by kernel_rfl) (by kernel_rfl) (by kernel_rfl) (fun _ _ _ h => h) (by kernel_rfl) (Or.inl ⟨by first | rfl | kernel_rfl, ?_⟩) hHeld (fun hHeld => ?_)
    rotate_left
    · (intro w' hSw; obtain ⟨⟨r1, r2⟩, r3⟩ := hSw; (try have r4 := r3 rfl); (try dsimp only at r1 r2 r4); clear r3; go_simp; try with_reducible rfl)
    try simp only [Act.put, List.setIfInBounds_toArray, List.set_cons_zero, List.set_cons_succ, List.getElem_toArray, List.getElem_cons_succ, List.getElem_cons_zero]
    refine HeldT.wpTill_takeT false (i := 9) (v := ?_) rfl (by kernel_rfl) (by kernel_rfl) (by kernel_rfl) (fun _ _ _ h => h) (by kernel_rfl) (Or.inl ⟨by first | rfl | kernel_rfl, ?_⟩) hHeld (fun hHeld => ?_)
    rotate_left
    · (intro w' hSw; obtain ⟨⟨r1, r2⟩, r3⟩ := hSw; (try have r4 := r3 rfl); (try dsimp only at r1 r2 r4); clear r3; go_simp; try with_reducible rfl)
    try simp only [Act.put, List.setIfInBounds_toArray, List.set_cons_zero, List.set_cons_succ, List.getElem_toArray, List.getElem_cons_succ, List.getElem_cons_zero]
    refine HeldT.wpTill_takeT false (i := 10) (v := ?_) rfl (by kernel_rfl) (by kernel_rfl) (by kernel_rfl) (fun _ _ _ h => h) (by kernel_rfl) (Or.inl ⟨by first | rfl | kernel_rfl, ?_⟩) hHeld (fun hHeld => ?_)
    rotate_left
    · (intro w' hSw; obtain ⟨⟨r1, r2⟩, r3⟩ := hSw; (try have r4 := r3 rfl); (try dsimp only at r1 r2 r4); clear r3; go_simp; try with_reducible rfl)
    try simp only [Act.put, List.setIfInBounds_toArray, List.set_cons_zero, List.set_cons_succ, List.getElem_toArray, List.getElem_cons_succ, List.getElem_cons_zero]
    refine HeldT.wpTill_takeT false (i := 11) (v := ?_) rfl (by kernel_rfl) (by kernel_rfl) (by kernel_rfl) (fun _ _ _ h => h) (by kernel_rfl) (Or.inl ⟨by first | rfl | kernel_rfl, ?_⟩) hHeld (fun hHeld => ?_)
    rotate_left
    · (intro w' hSw; obtain ⟨⟨r1, r2⟩, r3⟩ := hSw; (try have r4 := r3 rfl); (try dsimp only at r1 r2 r4); clear r3; go_simp; try with_reducible rfl)
    try simp only [Act.put, List.setIfInBounds_toArray, List.set_cons_zero, List.set_cons_succ, List.getElem_toArray, List.getElem_cons_succ, List.getElem_cons_zero]
    refine HeldT.wpTill_takeT false (i := 12) (v := ?_) rfl (by kernel_rfl) (by kernel_rfl) (by kernel_rfl) (fun _ _ _ h => h) (by kernel_rfl) (Or.inl ⟨by first | rfl | kernel_rfl, ?_⟩) hHeld (fun hHeld => ?_)
    rotate_left
    · (intro w' hSw; obtain ⟨⟨r1, r2⟩, r3⟩ := hSw; (try have r4 := r3 rfl); (try dsimp only at r1 r2 r4); clear r3; go_simp; try with_reducible rfl)
    try simp only [Act.put, List.setIfInBounds_toArray, List.set_cons_zero, List.set_cons_succ, List.getElem_toArray, List.getElem_cons_succ, List.getElem_cons_zero]
    refine HeldT.wpTill_takeT false (i := 13) (v := ?_) rfl (by kernel_rfl) (by kernel_rfl) (by kernel_rfl) (fun _ _ _ h => h) (by kernel_rfl) (Or.inl ⟨by first | rfl | kernel_rfl, ?_⟩) hHeld (fun hHeld => ?_)
    rotate_left
    · (intro w' hSw; obtain ⟨⟨r1, r2⟩, r3⟩ := hSw; (try have r4 := r3 rfl); (try dsimp only at r1 r2 r4); clear r3; go_simp; try with_reducible rfl)
    try simp only [Act.put, List.setIfInBounds_toArray, List.set_cons_zero, List.set_cons_succ, List.getElem_toArray, List.getElem_cons_succ, List.getElem_cons_zero]
    refine HeldT.wpTill_takeT false (i := 14) (v := ?_) rfl (by kernel_rfl) (by kernel_rfl) (by kernel_rfl) (fun _ _ _ h => h) (by kernel_rfl) (Or.inl ⟨by first | rfl | kernel_rfl, ?_⟩) hHeld (fun hHeld => ?_)
    rotate_left
    · (intro w' hSw; obtain ⟨⟨r1, r2⟩, r3⟩ := hSw; (try have r4 := r3 rfl); (try dsimp only at r1 r2 r4); clear r3; go_simp; try with_reducible rfl)
    try simp only [Act.put, List.setIfInBounds_toArray, List.set_cons_zero, List.set_cons_succ, List.getElem_toArray, List.getElem_cons_succ, List.getElem_cons_zero]
    refine HeldT.wpTill_takeT false (i := 15) (v := ?_) rfl (by kernel_rfl) (by kernel_rfl) (by kernel_rfl) (fun _ _ _ h => h) (by kernel_rfl) (Or.inl ⟨by first | rfl | kernel_rfl, ?_⟩) hHeld (fun hHeld => ?_)
    rotate_left
    · (intro w' hSw; obtain ⟨⟨r1, r2⟩, r3⟩ := hSw; (try have r4 := r3 rfl); (try dsimp only at r1 r2 r4); clear r3; go_simp; try with_reducible rfl)
    try simp only [Act.put, List.setIfInBounds_toArray, List.set_cons_zero, List.set_cons_succ, List.getElem_toArray, List.getElem_cons_succ, List.getElem_cons_zero]
    refine HeldT.wpTill_takeT false (i := 16) (v := ?_) rfl (by kernel_rfl) (by kernel_rfl) (by kernel_rfl) (fun _ _ _ h => h) (by kernel_rfl) (Or.inl ⟨by first | rfl | kernel_rfl, ?_⟩) hHeld (fun hHeld => ?_)
    rotate_left
    · (intro w' hSw; obtain ⟨⟨r1, r2⟩, r3⟩ := hSw; (try have r4 := r3 rfl); (try dsimp only at r1 r2 r4); clear r3; go_simp; try with_reducible rfl)
    try simp only [Act.put, List.setIfInBounds_toArray, List.set_cons_zero, List.set_cons_succ, List.getElem_toArray, List.getElem_cons_succ, List.getElem_cons_zero]
    refine HeldT.wpTill_takeT false (i := 17) (v := ?_) rfl (by kernel_rfl) (by kernel_rfl) (by kernel_rfl) (fun _ _ _ h => h) (by kernel_rfl) (Or.inl ⟨by first | rfl | kernel_rfl, ?_⟩) hHeld (fun hHeld => ?_)
    rotate_left
    · (intro w' hSw; obtain ⟨⟨r1, r2⟩, r3⟩ := hSw; (try have r4 := r3 rfl); (try dsimp only at r1 r2 r4); clear r3; go_simp; try with_reducible rfl)
    try simp only [Act.put, List.setIfInBounds_toArray, List.set_cons_zero, List.set_cons_succ, List.getElem_toArray, List.getElem_cons_succ, List.getElem_cons_zero]
    refine HeldT.wpTill_takeT false (i := 18) (v := ?_) rfl (by kernel_rfl) (by kernel_rfl) (by kernel_rfl) (fun _ _ _ h => h) (by kernel_rfl) (Or.inl ⟨by first | rfl | kernel_rfl, ?_⟩) hHeld (fun hHeld => ?_)
    rotate_left
    · (intro w' hSw; obtain ⟨⟨r1, r2⟩, r3⟩ := hSw; (try have r4 := r3 rfl); (try dsimp only at r1 r2 r4); clear r3; go_simp; try with_reducible rfl)
    try simp only [Act.put, List.setIfInBounds_toArray, List.set_cons_zero, List.set_cons_succ, List.getElem_toArray, List.getElem_cons_succ, List.getElem_cons_zero]
    refine HeldT.wpTill_takeT false (i := 19) (v := ?_) rfl (by kernel_rfl) (by kernel_rfl) (by kernel_rfl) (fun _ _ _ h => h) (by kernel_rfl) (Or.inl ⟨by first | rfl | kernel_rfl, ?_⟩) hHeld (fun hHeld => ?_)
    rotate_left
    · (intro w' hSw; obtain ⟨⟨r1, r2⟩, r3⟩ := hSw; (try have r4 := r3 rfl); (try dsimp only at r1 r2 r4); clear r3; go_simp; try with_reducible rfl)
    try simp only [Act.put, List.setIfInBounds_toArray, List.set_cons_zero, List.set_cons_succ, List.getElem_toArray, List.getElem_cons_succ, List.getElem_cons_zero]
    refine HeldT.wpTill_takeT false (i := 20) (v := ?_) rfl (by kernel_rfl) (by kernel_rfl) (by kernel_rfl) (fun _ _ _ h => h) (by kernel_rfl) (Or.inl ⟨by first | rfl | kernel_rfl, ?_⟩) hHeld (fun hHeld => ?_)
    rotate_left
    · (intro w' hSw; obtain ⟨⟨r1, r2⟩, r3⟩ := hSw; (try have r4 := r3 rfl); (try dsimp only at r1 r2 r4); clear r3; go_simp; try with_reducible rfl)
    try simp only [Act.put, List.setIfInBounds_toArray, List.set_cons_zero, List.set_cons_succ, List.getElem_toArray, List.getElem_cons_succ, List.getElem_cons_zero]
    refine HeldT.wpTill_takeT false (i := 21) (v := ?_) rfl (by kernel_rfl) (by kernel_rfl) (by kernel_rfl) (fun _ _ _ h => h) (by kernel_rfl) (Or.inl ⟨by first | rfl | kernel_rfl, ?_⟩) hHeld (fun hHeld => ?_)
    rotate_left
    · (intro w' hSw; obtain ⟨⟨r1, r2⟩, r3⟩ := hSw; (try have r4 := r3 rfl); (try dsimp only at r1 r2 r4); clear r3; go_simp; try with_reducible rfl)
    try simp only [Act.put, List.setIfInBounds_toArray, List.set_cons_zero, List.set_cons_succ, List.getElem_toArray, List.getElem_cons_succ, List.getElem_cons_zero]
    refine HeldT.wpTill_takeT false (i := 22) (v := ?_) rfl (by kernel_rfl) (by kernel_rfl) (by kernel_rfl) (fun _ _ _ h => h) (by kernel_rfl) (Or.inl ⟨by first | rfl | kernel_rfl, ?_⟩) hHeld (fun hHeld => ?_)
    rotate_left
    · (intro w' hSw; obtain ⟨⟨r1, r2⟩, r3⟩ := hSw; (try have r4 := r3 rfl); (try dsimp only at r1 r2 r4); clear r3; go_simp; try with_reducible rfl)
    try simp only [Act.put, List.setIfInBounds_toArray, List.set_cons_zero, List.set_cons_succ, List.getElem_toArray, List.getElem_cons_succ, List.getElem_cons_zero]
    refine wpTill_one (i := 23) (by kernel_rfl) rfl (fun K hK => ?_)
    rw [if_pos (by kernel_rfl)]
    go_simp
    refine (rp_take P2 0 part y (x - tn) i1 ⟨by omega, by omega⟩).mono ?_
    rintro e1 w3 ⟨r, m', q', cap', rfl, T⟩
    have pd3 := T.out.2.1.cell
    rw [HT.out, HL.out, EA.out] at pd3
    have P3 := T.out.2.2.pl
    have R3 := rp_step R2 T.out.2.2.alt (by have := T.out.2.2.hq; exact this) P3
    refine hK _ _ ⟨⟨keep P3.out.bel Q1.out l1, pd3⟩, fun _ => trivial⟩ (fun hHeld => ?_)
    clear hK K
    refine HeldT.wpTill_takeT false (i := 24) (v := ?_) rfl (by kernel_rfl) (by kernel_rfl) (by kernel_rfl) (fun _ _ _ h => h) (by kernel_rfl) (Or.inl ⟨by first | rfl | kernel_rfl, ?_⟩) hHeld (fun hHeld => ?_)
    rotate_left
    · (intro w' hSw; obtain ⟨⟨r1, r2⟩, r3⟩ := hSw; (try have r4 := r3 rfl); (try dsimp only at r1 r2 r4); clear r3; go_simp; try with_reducible rfl)
    try simp only [Act.put, List.setIfInBounds_toArray, List.set_cons_zero, List.set_cons_succ, List.getElem_toArray, List.getElem_cons_succ, List.getElem_cons_zero]
    refine wpTill_done (by kernel_rfl) ?_ 0
    clear hHeld pd P2 R2 T WS
    by_cases h4 : r = 0
    · subst h4
      have d0 := h.out.ok.done
      have d1 : IntKind.i64.wrap (s.done + cy) = s.done + cy := IntWalk.i64_in _ (by omega)
      have pf3 := P3.out.box.frozen
      have A4 := (Alt.set (S := fun i => i = b) w3 ⟨b, 0, none⟩ (.int .i64 x) rfl).trans (Alt.set (S := fun i => i = b) _ ⟨b, 2, none⟩ (.int .i64 (s.done + cy)) rfl)
      have FIN := rp_set (s' := { s with now := x, done := s.done + cy, m := m' }) P3 A4 (fun vs hv e => by subst e; exact (hv.set 0 (.int .i64 x)).set 2 (.int .i64 (s.done + cy))) rfl ⟨X1, h.out.ok.base, ⟨by simp only; omega, by simp only; omega⟩, h.out.ok.level, P3.out.ok.ok⟩
      have R4 := rp_step R3 (A4.mono (fun i hi => .inl hi)) (.inl rfl) FIN
      clear FIN A4
      go_wp2_with fail
      go_ret
      exact ⟨_, _, _, _, rfl, R4⟩
    · have h5 : (r != 0) = true := by simpa using h4
      clear h4
      go_wp2_with fail
      go_ret
      exact ⟨_, _, _, _, rfl, R3⟩
  · have h4 : (e != 0) = true := by simpa using h3
    clear h3
    go_wp2_with fail
    go_ret
    exact ⟨_, _, _, _, rfl, R1⟩
end Go.Proofs.Ytgkahcchekiogaa.Plt
