/- The law of plant: Times. -/
import Derived.Test.YtgkahcchekiogaaPlw
namespace Go.Proofs.Ytgkahcchekiogaa.Plx
open Go.RowKit Base Kit RefA Alt WideA WideB RefC Plain MetA MetB MetC MetR MetQ Conf Plb Held Plr Cls Pls Plw
set_option linter.unusedVariables false
set_option linter.unusedSimpArgs false
attribute [local go_sem ↓] Go.wp_at_zero Go.wp_at_succ
theorem few_any (w : World) (c : PowC) (v : Bool) (hv : Hid ((decide (c.ln ≤ 20) && decide (c.nn ≤ 20)) = v)) :
    Calls Try.prog 13 #[.agg #[.slice c.la c.ln c.lc, .slice c.na c.nn c.nc, .int .i64 c.sw, .int .i64 c.id, .int .i64 c.ch, .int .i64 c.qu, .int .i64 c.sl, .int .i64 c.pp]] w fun e w' => e = .returned (.bool v) ∧ Below w.heap.size w w' := by
  by_cases h1 : c.ln ≤ 20
  · by_cases h2 : c.nn ≤ 20
    · obtain rfl : v = true := by rw [← hv.out]; simp [h1, h2]
      go_enter Try.func13, Try.ntmps13
      go_wp2_with fail
      go_ret
      refine ⟨ret_bool ?_, (Below.refl _ _).alloc (Nat.le_refl _) _⟩
      first | rfl | (simp; omega)
    · obtain rfl : v = false := by rw [← hv.out]; simp [h2]
      go_enter Try.func13, Try.ntmps13
      go_wp2_with fail
      go_ret
      refine ⟨ret_bool ?_, (Below.refl _ _).alloc (Nat.le_refl _) _⟩
      first | rfl | (simp; omega)
  · obtain rfl : v = false := by rw [← hv.out]; simp [h1]
    go_enter Try.func13, Try.ntmps13
    go_wp2_with fail
    go_ret
    refine ⟨ret_bool ?_, (Below.refl _ _).alloc (Nat.le_refl _) _⟩
    first | rfl | (simp; omega)

set_option maxRecDepth 100000 in
set_option maxHeartbeats 4000000 in
theorem times_law (c : PowC) (p : Int) (a : Option Addr) (n cp : Nat) (f : Nat → Nat → Int) (w : World) (co : c.Ok w) (hp : -9223372036854775808 ≤ p ∧ p ≤ 9223372036854775807) (hin : Hid (Open.RowsIn w a n 4 f)) :
    Calls Try.prog 3 #[.agg #[.slice c.la c.ln c.lc, .slice c.na c.nn c.nc, .int .i64 c.sw, .int .i64 c.id, .int .i64 c.ch, .int .i64 c.qu, .int .i64 c.sl, .int .i64 c.pp], .int .i64 p, .slice a n cp] w fun e w' => e = .returned (.bool true) ∧ Below w.heap.size w w' := by
  have hn := hin.out.1
  have CO := Lib.hid co
  have BX := Lib.hid (Box.new w #[.slice c.la c.ln c.lc, .slice c.na c.nn c.nc, .int .i64 c.sw, .int .i64 c.id, .int .i64 c.ch, .int .i64 c.qu, .int .i64 c.sl, .int .i64 c.pp] 25)
  have HB := Lib.hid ((Below.refl w.heap.size w).alloc (Nat.le_refl _) (.cells #[.slice c.la c.ln c.lc, .slice c.na c.nn c.nc, .int .i64 c.sw, .int .i64 c.id, .int .i64 c.ch, .int .i64 c.qu, .int .i64 c.sl, .int .i64 c.pp] 25))
  have bx := BX.out.cell
  clear co
  obtain ⟨v, hv⟩ : ∃ v, (decide (c.ln ≤ 20) && decide (c.nn ≤ 20)) = v := ⟨_, rfl⟩
  have CF := Lib.hid (fun w => few_any w c v (Lib.hid hv))
  clear hv
  go_enter Try.func3, Try.ntmps3
  go_wp2_with fail
  refine (CF.out _).mono ?_
  rintro e0 w1 ⟨rfl, hb1⟩
  have BX := Lib.hid (BX.out.next hb1)
  have HB := below_hid HB hb1
  clear hb1 bx CF
  have bx := BX.out.cell
  cases v
  · go_wp2_with fail
    refine (Plh.works_any _).mono ?_
    rintro e0 w2 ⟨rfl, hb2⟩
    go_wp2_with fail
    go_ret
    exact ⟨rfl, below_next HB.out hb2⟩
  go_wp2_with fail
  refine (Plh.works_any _).mono ?_
  rintro e0 w2 ⟨rfl, hb2⟩
  have BX := Lib.hid (BX.out.next hb2)
  have HB := below_hid HB hb2
  clear hb2 bx
  go_wp2_with fail
  have BX := Lib.hid BX.out.drew
  have HB := below_drew HB
  have C0 := Lib.hid (fun w' h => Plh.new_any w w' c p CO.out h)
  have C1 := Lib.hid (fun w' h => rnew_any w w' c p CO.out h)
  generalize many p = N at C0 C1
  refine wp_region_till (fun w' => (∀ i, w'.cell? ⟨w.heap.size, i, none⟩ = (#[.slice c.la c.ln c.lc, .slice c.na c.nn c.nc, .int .i64 c.sw, .int .i64 c.id, .int .i64 c.ch, .int .i64 c.qu, .int .i64 c.sl, .int .i64 c.pp] : Array Value)[i]?) ∧ True) (fun w' => True) 2 8 #[false, false, false, false, false, false, false, false] (by kernel_rfl) rfl rfl ⟨⟨BX.out.cell, trivial⟩, trivial⟩ (fun hHeld => ?_)
  refine HeldT.wpTill_takeT false (i := 0) (v := ?_) rfl (by kernel_rfl) (by kernel_rfl) (by kernel_rfl) (fun _ _ _ h => h) (by kernel_rfl) (Or.inl ⟨by first | rfl | kernel_rfl, ?_⟩) hHeld (fun hHeld => ?_)
  rotate_left
  · (intro w' hSw; obtain ⟨⟨r1, r2⟩, r3⟩ := hSw; (try have r4 := r3 rfl); (try dsimp only at r1 r2 r4); clear r3; go_simp; try with_reducible rfl)
  try simp only [Act.put, List.setIfInBounds_toArray, List.set_cons_zero, List.set_cons_succ, List.getElem_toArray, List.getElem_cons_succ, List.getElem_cons_zero]
  refine HeldT.wpTill_takeT false (i := 1) (v := ?_) rfl (by kernel_rfl) (by kernel_rfl) (by kernel_rfl) (fun _ _ _ h => h) (by kernel_rfl) (Or.inl ⟨by first | rfl | kernel_rfl, ?_⟩) hHeld (fun hHeld => ?_)
  rotate_left
  · (intro w' hSw; obtain ⟨⟨r1, r2⟩, r3⟩ := hSw; (try have r4 := r3 rfl); (try dsimp only at r1 r2 r4); clear r3; go_simp; try with_reducible rfl)
  try simp only [Act.put, List.setIfInBounds_toArray, List.set_cons_zero, List.set_cons_succ, List.getElem_toArray, List.getElem_cons_succ, List.getElem_cons_zero]
  refine HeldT.wpTill_takeT false (i := 3) (v := ?_) rfl (by kernel_rfl) (by kernel_rfl) (by kernel_rfl) (fun _ _ _ h => h) (by kernel_rfl) (Or.inl ⟨by first | rfl | kernel_rfl, ?_⟩) hHeld (fun hHeld => ?_)
  rotate_left
  · (intro w' hSw; obtain ⟨⟨r1, r2⟩, r3⟩ := hSw; (try have r4 := r3 rfl); (try dsimp only at r1 r2 r4); clear r3; go_simp; try with_reducible rfl)
  try simp only [Act.put, List.setIfInBounds_toArray, List.set_cons_zero, List.set_cons_succ, List.getElem_toArray, List.getElem_cons_succ, List.getElem_cons_zero]
  refine HeldT.wpTill_takeT false (i := 4) (v := ?_) rfl (by kernel_rfl) (by kernel_rfl) (by kernel_rfl) (fun _ _ _ h => h) (by kernel_rfl) (Or.inl ⟨by first | rfl | kernel_rfl, ?_⟩) hHeld (fun hHeld => ?_)
  rotate_left
  · (intro w' hSw; obtain ⟨⟨r1, r2⟩, r3⟩ := hSw; (try have r4 := r3 rfl); (try dsimp only at r1 r2 r4); clear r3; go_simp; try with_reducible rfl)
  try simp only [Act.put, List.setIfInBounds_toArray, List.set_cons_zero, List.set_cons_succ, List.getElem_toArray, List.getElem_cons_succ, List.getElem_cons_zero]
  refine wpTill_one (i := 2) (by kernel_rfl) rfl (fun K hK => ?_)
  rw [if_pos (by kernel_rfl)]
  go_simp
  refine (C0.out _ HB).mono ?_
  rintro e1 w3 ⟨b, m, g, rfl, hb3, z1, z2, z3, P⟩
  have BX := Lib.hid (BX.out.next hb3)
  have HB := below_hid HB hb3
  clear hb3 z1 z2 z3
  refine hK _ _ ⟨⟨BX.out.cell, trivial⟩, fun _ => trivial⟩ (fun hHeld => ?_)
  clear hK K
  refine wpTill_one (i := 5) (by kernel_rfl) rfl (fun K hK => ?_)
  rw [if_pos (by kernel_rfl)]
  go_simp
  refine (C1.out _ HB).mono ?_
  rintro e1 w4 ⟨B, M, q, rfl, hb4, z1, R⟩
  have BX := Lib.hid (BX.out.next hb4)
  have T : Hid (Pt w w4 b m g B M q N N c (Plh.st0 c) (Plh.st0 c)) := Lib.hid ⟨pl_next P hb4, R, by have := (P.out.met.out.own.lt g rfl).2; omega⟩
  clear HB hb4 z1 P R C0 C1
  refine hK _ _ ⟨⟨BX.out.cell, trivial⟩, fun _ => trivial⟩ (fun hHeld => ?_)
  clear hK K
  refine HeldT.wpTill_takeT false (i := 6) (v := ?_) rfl (by kernel_rfl) (by kernel_rfl) (by kernel_rfl) (fun _ _ _ h => h) (by kernel_rfl) (Or.inl ⟨by first | rfl | kernel_rfl, ?_⟩) hHeld (fun hHeld => ?_)
  rotate_left
  · (intro w' hSw; obtain ⟨⟨r1, r2⟩, r3⟩ := hSw; (try have r4 := r3 rfl); (try dsimp only at r1 r2 r4); clear r3; go_simp; try with_reducible rfl)
  try simp only [Act.put, List.setIfInBounds_toArray, List.set_cons_zero, List.set_cons_succ, List.getElem_toArray, List.getElem_cons_succ, List.getElem_cons_zero]
  refine HeldT.wpTill_takeT false (i := 7) (v := ?_) rfl (by kernel_rfl) (by kernel_rfl) (by kernel_rfl) (fun _ _ _ h => h) (by kernel_rfl) (Or.inl ⟨by first | rfl | kernel_rfl, ?_⟩) hHeld (fun hHeld => ?_)
  rotate_left
  · (intro w' hSw; obtain ⟨⟨r1, r2⟩, r3⟩ := hSw; (try have r4 := r3 rfl); (try dsimp only at r1 r2 r4); clear r3; go_simp; try with_reducible rfl)
  try simp only [Act.put, List.setIfInBounds_toArray, List.set_cons_zero, List.set_cons_succ, List.getElem_toArray, List.getElem_cons_succ, List.getElem_cons_zero]
  refine wpTill_done (by kernel_rfl) ?_ 0
  clear hHeld BX
  go_wp2_with fail
  go_loopw [9] (fun i wr => ∃ (k : Nat) (s r : PS) (q cap : Nat), k ≤ n ∧ i = .int .i64 k ∧ Hid (Pt w wr b m g B M q cap N c s r)) (fun i _ => n - (intOf i).toNat)
  case atStart => exact ⟨0, _, _, q, N, by omega, rfl, T⟩
  case round =>
    clear T q
    obtain ⟨k, s, r, q, cap, hk, rfl, T⟩ := hrel
    have OK := T.out.p.out.ok
    have n0 := OK.now.1
    have n1 := OK.now.2
    by_cases h1 : k < n
    · by_cases h2 : k < 40
      · obtain ⟨d, o, rfl, hlt, c0, c1, c2, c3, i0, i1, i2, i3⟩ := rows_at4 hin k h1
        have d0 := keep T.out.p.out.bel c0 hlt
        have d1 := keep T.out.p.out.bel c1 hlt
        have d2 := keep T.out.p.out.bel c2 hlt
        have d3 := keep T.out.p.out.bel c3 hlt
        clear c0 c1 c2 c3
        generalize f k 0 = x0 at *
        generalize f k 1 = x1 at *
        generalize f k 2 = x2 at *
        generalize f k 3 = x3 at *
        have CN := now_any T.out.p
        obtain ⟨t0, ht0⟩ : ∃ t, s.now = t := ⟨_, rfl⟩
        rw [ht0] at CN n0 n1
        have CN := Lib.hid CN
        have HT0 := Lib.hid ht0
        clear ht0
        go_wp2_with fail
        refine CN.out.mono ?_
        rintro e1 w5 ⟨rfl, rfl⟩
        clear CN
        go_wp2_with fail
        refine (done_any T x0 x1 x2 x3 i0 i1 i2 i3).mono ?_
        rintro e1 w6 ⟨v, s', r', q', cap', rfl, hle, T6⟩
        clear T OK d0 d1 d2 d3
        have CN := now_any T6.out.p
        obtain ⟨t1, ht1⟩ : ∃ t, s'.now = t := ⟨_, rfl⟩
        have tim := T6.out.p.out.ok.tim
        have CT := MetA.time_any w6 m g N N s'.m T6.out.p.out.met
        rw [tim, ht1] at CT
        rw [ht1] at CN hle
        rw [HT0.out] at hle
        have CN := Lib.hid CN
        have CT := Lib.hid CT
        clear ht1 tim
        go_wp2_with fail
        refine CN.out.mono ?_
        rintro e1 w7 ⟨rfl, rfl⟩
        go_wp2_with fail
        refine (meter_any T6.out.p).mono ?_
        rintro e1 w7 ⟨rfl, rfl⟩
        go_wp2_with fail
        refine CT.out.mono ?_
        rintro e1 w7 ⟨rfl, rfl⟩
        go_wp2_with fail
        refine CN.out.mono ?_
        rintro e1 w7 ⟨rfl, rfl⟩
        go_wp2_with fail
        go_roundw
        case rel => exact ⟨k + 1, s', r', q', cap', by omega, by go_num, T6⟩
        case measure => simp [intOf]; omega
      · go_wp2_with fail
        have CN := now_any T.out.p
        obtain ⟨t0, ht0⟩ : ∃ t, s.now = t := ⟨_, rfl⟩
        rw [ht0] at CN n0 n1
        clear ht0 OK
        refine CN.mono ?_
        rintro e1 w5 ⟨rfl, rfl⟩
        clear CN
        go_wp2_with fail
        go_ret
        refine ⟨ret_bool ?_, T.out.p.out.bel⟩
        first | rfl | (simp; omega)
    · obtain rfl : k = n := by omega
      go_wp2_with fail
      have CN := now_any T.out.p
      obtain ⟨t0, ht0⟩ : ∃ t, s.now = t := ⟨_, rfl⟩
      rw [ht0] at CN n0 n1
      clear ht0 OK
      refine CN.mono ?_
      rintro e1 w5 ⟨rfl, rfl⟩
      clear CN
      go_wp2_with fail
      go_ret
      refine ⟨ret_bool ?_, T.out.p.out.bel⟩
      first | rfl | (simp; omega)
end Go.Proofs.Ytgkahcchekiogaa.Plx
