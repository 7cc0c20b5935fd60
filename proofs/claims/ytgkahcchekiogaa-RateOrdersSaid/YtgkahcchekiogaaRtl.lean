/- slices.swapRange and rotate of places. -/
import Derived.Test.YtgkahcchekiogaaRtk
namespace Go.Proofs.Ytgkahcchekiogaa.Rtl
open Go.RowKit Base Kit WideA WideB Plain RefA Alt Held Rtf Rtg Rto Rtq Rtj
set_option linter.unusedVariables false
set_option linter.unusedSimpArgs false

set_option maxRecDepth 100000 in
set_option maxHeartbeats 4000000 in
theorem swr_any (lb g n cap x y k : Nat) (d : D) (w0 w : World) (H : Hid (Sw w0 w g n cap d)) (h1 : x + k ≤ y) (h2 : y + k ≤ n) :
    Calls Try.prog 174 #[.slice (some ⟨g, 0, none⟩) n cap, .int .i64 (x : Int), .int .i64 (y : Int), .int .i64 (k : Int), (.func (.func 117) #[] #[.pointer (some ⟨lb, 0, none⟩)])] w fun e w' => e = .returned (.tuple #[]) ∧ Hid (Sw w0 w' g n cap (swr d x y k)) := by
  have hn := H.out.len
  go_enter Try.func174, Try.ntmps174
  go_wp2_with fail
  go_loopw [10] (fun i wr => ∃ i0 : Nat, i0 ≤ k ∧ i = .int .i64 (i0 : Int) ∧ Hid (Sw w0 wr g n cap (swr d x y i0))) (fun i _ => k - (intOf i).toNat)
  case atStart => exact ⟨0, Nat.zero_le _, rfl, by rw [swr_zero]; exact H⟩
  case round =>
    clear H
    obtain ⟨i0, hi, rfl, H⟩ := hrel
    by_cases hk : i0 < k
    · skip
      obtain ⟨p, ph⟩ : ∃ z : Nat, z = x + i0 := ⟨_, rfl⟩
      have pI : (x : Int) + (i0 : Int) = (p : Int) := by omega
      have pw : IntKind.i64.wrap (p : Int) = (p : Int) := wr64 _ (by omega) (by omega)
      have pz : (0 : Int) ≤ (p : Int) := by omega
      replace ph := Lib.hid ph
      obtain ⟨q, qh⟩ : ∃ z : Nat, z = y + i0 := ⟨_, rfl⟩
      have qI : (y : Int) + (i0 : Int) = (q : Int) := by omega
      have qw : IntKind.i64.wrap (q : Int) = (q : Int) := wr64 _ (by omega) (by omega)
      have qz : (0 : Int) ≤ (q : Int) := by omega
      replace qh := Lib.hid qh
      have hpn : (p : Int) < (n : Int) := by have := ph.out; omega
      have hqn : (q : Int) < (n : Int) := by have := qh.out; omega
      obtain ⟨X, hX⟩ : ∃ z, swr d x y i0 p = z := ⟨_, rfl⟩
      obtain ⟨Y, hY⟩ : ∃ z, swr d x y i0 q = z := ⟨_, rfl⟩
      have H6 := sw_next H ((Below.refl _ wr).drew)
      have c0 := sw_cell H6 (i := p) (by omega)
      have c1 := sw_cell H6 (i := q) (by omega)
      rw [hX] at c0
      rw [hY] at c1
      have fz := H6.out.own.frozenAt
      have HS := sw_swap H6 (i := p) (j := q) (x := (Y : Int)) (y := (X : Int)) (by omega) (by omega) (by rw [hY]) (by rw [hX])
      have e9 : sw (swr d x y i0) q p = swr d x y (i0 + 1) := by rw [sw_comm, ph.out, qh.out]; exact swr_step (by omega) d
      rw [e9] at HS
      clear e9 hX hY
      go_wp2_with fail
      refine wp_region_till (fun _ => True) (fun w' => w'.cell? ⟨g, p, none⟩ = some (.int .i64 (X : Int)) ∧ w'.cell? ⟨g, q, none⟩ = some (.int .i64 (Y : Int))) 21 24 #[false, false, false, false, false, false, false, false, false, false, false, false, false, false, false, false, false, false, false, false, false, false, false, false] (by kernel_rfl) rfl rfl ⟨trivial, c0, c1⟩ (fun hHeld => ?_)
      generalize wr.drew = w8 at *
      refine wpTill_take false (i := 0) (v := ?_) rfl (by kernel_rfl) (by kernel_rfl) (by kernel_rfl) (fun _ _ _ h => h) (by kernel_rfl) (Or.inl ⟨by first | rfl | kernel_rfl, ?_⟩) hHeld (fun hHeld => ?_)
      rotate_left
      · (intro w' hSw; obtain ⟨-, r3⟩ := hSw; (try (obtain ⟨r4, r5⟩ := r3 rfl)); clear r3; go_simp; try with_reducible rfl)
      try simp only [Act.put, List.setIfInBounds_toArray, List.set_cons_zero, List.set_cons_succ, List.getElem_toArray, List.getElem_cons_succ, List.getElem_cons_zero]
      refine wpTill_take false (i := 1) (v := ?_) rfl (by kernel_rfl) (by kernel_rfl) (by kernel_rfl) (fun _ _ _ h => h) (by kernel_rfl) (Or.inl ⟨by first | rfl | kernel_rfl, ?_⟩) hHeld (fun hHeld => ?_)
      rotate_left
      · (intro w' hSw; obtain ⟨-, r3⟩ := hSw; (try (obtain ⟨r4, r5⟩ := r3 rfl)); clear r3; go_simp; try with_reducible rfl)
      try simp only [Act.put, List.setIfInBounds_toArray, List.set_cons_zero, List.set_cons_succ, List.getElem_toArray, List.getElem_cons_succ, List.getElem_cons_zero]
      refine wpTill_take false (i := 2) (v := ?_) rfl (by kernel_rfl) (by kernel_rfl) (by kernel_rfl) (fun _ _ _ h => h) (by kernel_rfl) (Or.inl ⟨by first | rfl | kernel_rfl, ?_⟩) hHeld (fun hHeld => ?_)
      rotate_left
      · (intro w' hSw; obtain ⟨-, r3⟩ := hSw; (try (obtain ⟨r4, r5⟩ := r3 rfl)); clear r3; go_simp; try with_reducible rfl)
      try simp only [Act.put, List.setIfInBounds_toArray, List.set_cons_zero, List.set_cons_succ, List.getElem_toArray, List.getElem_cons_succ, List.getElem_cons_zero]
      refine wpTill_take false (i := 3) (v := ?_) rfl (by kernel_rfl) (by kernel_rfl) (by kernel_rfl) (fun _ _ _ h => h) (by kernel_rfl) (Or.inl ⟨by first | rfl | kernel_rfl, ?_⟩) hHeld (fun hHeld => ?_)
      rotate_left
      · (intro w' hSw; obtain ⟨-, r3⟩ := hSw; (try (obtain ⟨r4, r5⟩ := r3 rfl)); clear r3; go_simp; try with_reducible rfl)
      try simp only [Act.put, List.setIfInBounds_toArray, List.set_cons_zero, List.set_cons_succ, List.getElem_toArray, List.getElem_cons_succ, List.getElem_cons_zero]
      refine wpTill_take false (i := 4) (v := ?_) rfl (by kernel_rfl) (by kernel_rfl) (by kernel_rfl) (fun _ _ _ h => h) (by kernel_rfl) (Or.inl ⟨by first | rfl | kernel_rfl, ?_⟩) hHeld (fun hHeld => ?_)
      rotate_left
      · (intro w' hSw; obtain ⟨-, r3⟩ := hSw; (try (obtain ⟨r4, r5⟩ := r3 rfl)); clear r3; go_simp; try with_reducible rfl)
      try simp only [Act.put, List.setIfInBounds_toArray, List.set_cons_zero, List.set_cons_succ, List.getElem_toArray, List.getElem_cons_succ, List.getElem_cons_zero]
      refine wpTill_take false (i := 5) (v := ?_) rfl (by kernel_rfl) (by kernel_rfl) (by kernel_rfl) (fun _ _ _ h => h) (by kernel_rfl) (Or.inl ⟨by first | rfl | kernel_rfl, ?_⟩) hHeld (fun hHeld => ?_)
      rotate_left
      · (intro w' hSw; obtain ⟨-, r3⟩ := hSw; (try (obtain ⟨r4, r5⟩ := r3 rfl)); clear r3; go_simp; try with_reducible rfl)
      try simp only [Act.put, List.setIfInBounds_toArray, List.set_cons_zero, List.set_cons_succ, List.getElem_toArray, List.getElem_cons_succ, List.getElem_cons_zero]
      refine wpTill_take false (i := 6) (v := ?_) rfl (by kernel_rfl) (by kernel_rfl) (by kernel_rfl) (fun _ _ _ h => h) (by kernel_rfl) (Or.inl ⟨by first | rfl | kernel_rfl, ?_⟩) hHeld (fun hHeld => ?_)
      rotate_left
      · (intro w' hSw; obtain ⟨-, r3⟩ := hSw; (try (obtain ⟨r4, r5⟩ := r3 rfl)); clear r3; go_simp; try with_reducible rfl)
      try simp only [Act.put, List.setIfInBounds_toArray, List.set_cons_zero, List.set_cons_succ, List.getElem_toArray, List.getElem_cons_succ, List.getElem_cons_zero]
      refine wpTill_take false (i := 7) (v := ?_) rfl (by kernel_rfl) (by kernel_rfl) (by kernel_rfl) (fun _ _ _ h => h) (by kernel_rfl) (Or.inl ⟨by first | rfl | kernel_rfl, ?_⟩) hHeld (fun hHeld => ?_)
      rotate_left
      · (intro w' hSw; obtain ⟨-, r3⟩ := hSw; (try (obtain ⟨r4, r5⟩ := r3 rfl)); clear r3; go_simp; try with_reducible rfl)
      try simp only [Act.put, List.setIfInBounds_toArray, List.set_cons_zero, List.set_cons_succ, List.getElem_toArray, List.getElem_cons_succ, List.getElem_cons_zero]
      refine wpTill_take false (i := 8) (v := ?_) rfl (by kernel_rfl) (by kernel_rfl) (by kernel_rfl) (fun _ _ _ h => h) (by kernel_rfl) (Or.inl ⟨by first | rfl | kernel_rfl, ?_⟩) hHeld (fun hHeld => ?_)
      rotate_left
      · (intro w' hSw; obtain ⟨-, r3⟩ := hSw; (try (obtain ⟨r4, r5⟩ := r3 rfl)); clear r3; go_simp; try with_reducible rfl)
      try simp only [Act.put, List.setIfInBounds_toArray, List.set_cons_zero, List.set_cons_succ, List.getElem_toArray, List.getElem_cons_succ, List.getElem_cons_zero]
      refine wpTill_take false (i := 9) (v := ?_) rfl (by kernel_rfl) (by kernel_rfl) (by kernel_rfl) (fun _ _ _ h => h) (by kernel_rfl) (Or.inl ⟨by first | rfl | kernel_rfl, ?_⟩) hHeld (fun hHeld => ?_)
      rotate_left
      · (intro w' hSw; obtain ⟨-, r3⟩ := hSw; (try (obtain ⟨r4, r5⟩ := r3 rfl)); clear r3; go_simp; try with_reducible rfl)
      try simp only [Act.put, List.setIfInBounds_toArray, List.set_cons_zero, List.set_cons_succ, List.getElem_toArray, List.getElem_cons_succ, List.getElem_cons_zero]
      refine wpTill_take false (i := 10) (v := ?_) rfl (by kernel_rfl) (by kernel_rfl) (by kernel_rfl) (fun _ _ _ h => h) (by kernel_rfl) (Or.inl ⟨by first | rfl | kernel_rfl, ?_⟩) hHeld (fun hHeld => ?_)
      rotate_left
      · (intro w' hSw; obtain ⟨-, r3⟩ := hSw; (try (obtain ⟨r4, r5⟩ := r3 rfl)); clear r3; go_simp; try with_reducible rfl)
      try simp only [Act.put, List.setIfInBounds_toArray, List.set_cons_zero, List.set_cons_succ, List.getElem_toArray, List.getElem_cons_succ, List.getElem_cons_zero]
      refine wpTill_take false (i := 11) (v := ?_) rfl (by kernel_rfl) (by kernel_rfl) (by kernel_rfl) (fun _ _ _ h => h) (by kernel_rfl) (Or.inl ⟨by first | rfl | kernel_rfl, ?_⟩) hHeld (fun hHeld => ?_)
      rotate_left
      · (intro w' hSw; obtain ⟨-, r3⟩ := hSw; (try (obtain ⟨r4, r5⟩ := r3 rfl)); clear r3; go_simp; try with_reducible rfl)
      try simp only [Act.put, List.setIfInBounds_toArray, List.set_cons_zero, List.set_cons_succ, List.getElem_toArray, List.getElem_cons_succ, List.getElem_cons_zero]
      refine wpTill_take false (i := 12) (v := ?_) rfl (by kernel_rfl) (by kernel_rfl) (by kernel_rfl) (fun _ _ _ h => h) (by kernel_rfl) (Or.inl ⟨by first | rfl | kernel_rfl, ?_⟩) hHeld (fun hHeld => ?_)
      rotate_left
      · (intro w' hSw; obtain ⟨-, r3⟩ := hSw; (try (obtain ⟨r4, r5⟩ := r3 rfl)); clear r3; go_simp; try with_reducible rfl)
      try simp only [Act.put, List.setIfInBounds_toArray, List.set_cons_zero, List.set_cons_succ, List.getElem_toArray, List.getElem_cons_succ, List.getElem_cons_zero]
      refine wpTill_take true (i := 13) (v := ?_) rfl (by kernel_rfl) (by kernel_rfl) (by kernel_rfl) (fun _ _ _ h => h) (by kernel_rfl) (Or.inl ⟨by first | rfl | kernel_rfl, ?_⟩) hHeld (fun hHeld => ?_)
      rotate_left
      · (intro w' hSw; obtain ⟨-, r3⟩ := hSw; (try (obtain ⟨r4, r5⟩ := r3 rfl)); clear r3; go_simp; try with_reducible rfl)
      try simp only [Act.put, List.setIfInBounds_toArray, List.set_cons_zero, List.set_cons_succ, List.getElem_toArray, List.getElem_cons_succ, List.getElem_cons_zero]
      refine wpTill_take false (i := 14) (v := ?_) rfl (by kernel_rfl) (by kernel_rfl) (by kernel_rfl) (fun _ _ _ h => h) (by kernel_rfl) (Or.inl ⟨by first | rfl | kernel_rfl, ?_⟩) hHeld (fun hHeld => ?_)
      rotate_left
      · (intro w' hSw; obtain ⟨-, r3⟩ := hSw; (try (obtain ⟨r4, r5⟩ := r3 rfl)); clear r3; go_simp; try with_reducible rfl)
      try simp only [Act.put, List.setIfInBounds_toArray, List.set_cons_zero, List.set_cons_succ, List.getElem_toArray, List.getElem_cons_succ, List.getElem_cons_zero]
      refine wpTill_take false (i := 15) (v := ?_) rfl (by kernel_rfl) (by kernel_rfl) (by kernel_rfl) (fun _ _ _ h => h) (by kernel_rfl) (Or.inl ⟨by first | rfl | kernel_rfl, ?_⟩) hHeld (fun hHeld => ?_)
      rotate_left
      · (intro w' hSw; obtain ⟨-, r3⟩ := hSw; (try (obtain ⟨r4, r5⟩ := r3 rfl)); clear r3; go_simp; try with_reducible rfl)
      try simp only [Act.put, List.setIfInBounds_toArray, List.set_cons_zero, List.set_cons_succ, List.getElem_toArray, List.getElem_cons_succ, List.getElem_cons_zero]
      refine wpTill_take false (i := 16) (v := ?_) rfl (by kernel_rfl) (by kernel_rfl) (by kernel_rfl) (fun _ _ _ h => h) (by kernel_rfl) (Or.inl ⟨by first | rfl | kernel_rfl, ?_⟩) hHeld (fun hHeld => ?_)
      rotate_left
      · (intro w' hSw; obtain ⟨-, r3⟩ := hSw; (try (obtain ⟨r4, r5⟩ := r3 rfl)); clear r3; go_simp; try with_reducible rfl)
      try simp only [Act.put, List.setIfInBounds_toArray, List.set_cons_zero, List.set_cons_succ, List.getElem_toArray, List.getElem_cons_succ, List.getElem_cons_zero]
      refine wpTill_take false (i := 17) (v := ?_) rfl (by kernel_rfl) (by kernel_rfl) (by kernel_rfl) (fun _ _ _ h => h) (by kernel_rfl) (Or.inl ⟨by first | rfl | kernel_rfl, ?_⟩) hHeld (fun hHeld => ?_)
      rotate_left
      · (intro w' hSw; obtain ⟨-, r3⟩ := hSw; (try (obtain ⟨r4, r5⟩ := r3 rfl)); clear r3; go_simp; try with_reducible rfl)
      try simp only [Act.put, List.setIfInBounds_toArray, List.set_cons_zero, List.set_cons_succ, List.getElem_toArray, List.getElem_cons_succ, List.getElem_cons_zero]
      refine wpTill_take false (i := 18) (v := ?_) rfl (by kernel_rfl) (by kernel_rfl) (by kernel_rfl) (fun _ _ _ h => h) (by kernel_rfl) (Or.inl ⟨by first | rfl | kernel_rfl, ?_⟩) hHeld (fun hHeld => ?_)
      rotate_left
      · (intro w' hSw; obtain ⟨-, r3⟩ := hSw; (try (obtain ⟨r4, r5⟩ := r3 rfl)); clear r3; go_simp; try with_reducible rfl)
      try simp only [Act.put, List.setIfInBounds_toArray, List.set_cons_zero, List.set_cons_succ, List.getElem_toArray, List.getElem_cons_succ, List.getElem_cons_zero]
      refine wpTill_take true (i := 19) (v := ?_) rfl (by kernel_rfl) (by kernel_rfl) (by kernel_rfl) (fun _ _ _ h => h) (by kernel_rfl) (Or.inl ⟨by first | rfl | kernel_rfl, ?_⟩) hHeld (fun hHeld => ?_)
      rotate_left
      · (intro w' hSw; obtain ⟨-, r3⟩ := hSw; (try (obtain ⟨r4, r5⟩ := r3 rfl)); clear r3; go_simp; try with_reducible rfl)
      try simp only [Act.put, List.setIfInBounds_toArray, List.set_cons_zero, List.set_cons_succ, List.getElem_toArray, List.getElem_cons_succ, List.getElem_cons_zero]
      refine wpTill_take false (i := 20) (v := ?_) rfl (by kernel_rfl) (by kernel_rfl) (by kernel_rfl) (fun _ _ _ h => h) (by kernel_rfl) (Or.inl ⟨by first | rfl | kernel_rfl, ?_⟩) hHeld (fun hHeld => ?_)
      rotate_left
      · (intro w' hSw; obtain ⟨-, r3⟩ := hSw; (try (obtain ⟨r4, r5⟩ := r3 rfl)); clear r3; go_simp; try with_reducible rfl)
      try simp only [Act.put, List.setIfInBounds_toArray, List.set_cons_zero, List.set_cons_succ, List.getElem_toArray, List.getElem_cons_succ, List.getElem_cons_zero]
      refine wpTill_one (i := 21) (by kernel_rfl) rfl (fun K hK => ?_)
      rw [if_pos (by kernel_rfl)]
      go_simp
      refine hK _ _ ⟨trivial, fun h => (by cases h)⟩ (fun hHeld => ?_)
      clear hK K
      refine wpTill_take false (i := 22) (v := ?_) rfl (by kernel_rfl) (by kernel_rfl) (by kernel_rfl) (fun _ _ _ h => h) (by kernel_rfl) (Or.inl ⟨by first | rfl | kernel_rfl, ?_⟩) hHeld (fun hHeld => ?_)
      rotate_left
      · (intro w' hSw; obtain ⟨-, r3⟩ := hSw; (try (obtain ⟨r4, r5⟩ := r3 rfl)); clear r3; go_simp; try with_reducible rfl)
      try simp only [Act.put, List.setIfInBounds_toArray, List.set_cons_zero, List.set_cons_succ, List.getElem_toArray, List.getElem_cons_succ, List.getElem_cons_zero]
      refine wpTill_one (i := 23) (by kernel_rfl) rfl (fun K hK => ?_)
      rw [if_pos (by kernel_rfl)]
      go_simp
      refine hK _ _ ⟨trivial, fun h => (by cases h)⟩ (fun hHeld => ?_)
      clear hK K
      refine wpTill_done (by kernel_rfl) ?_ 0
      clear hHeld
      go_wp2_with fail
      go_roundw
      case rel => exact ⟨i0 + 1, by omega, by simp, HS⟩
      case measure => simp [intOf]; omega
    · obtain rfl : i0 = k := by omega
      go_wp2_with fail
      refine bodyPost_end (v := .tuple #[]) ?_ rfl ⟨rfl, H⟩
      simp [results, Try.results174, go_sem]
set_option maxRecDepth 100000 in
set_option maxHeartbeats 4000000 in
theorem rotate_any (lb g n cap a m b : Nat) (d : D) (w0 w : World) (H : Hid (Sw w0 w g n cap d)) (h1 : a < m) (h2 : m < b) (h3 : b ≤ n) :
    Calls Try.prog 172 #[.slice (some ⟨g, 0, none⟩) n cap, .int .i64 (a : Int), .int .i64 (m : Int), .int .i64 (b : Int), (.func (.func 117) #[] #[.pointer (some ⟨lb, 0, none⟩)])] w fun e w' => e = .returned (.tuple #[]) ∧ Hid (Sw w0 w' g n cap (rot d a m b)) := by
  have hn := H.out.len
  obtain ⟨i1, i1h⟩ : ∃ z : Nat, z = m - a := ⟨_, rfl⟩
  have i1I : (m : Int) - (a : Int) = (i1 : Int) := by omega
  have i1w : IntKind.i64.wrap (i1 : Int) = (i1 : Int) := wr64 _ (by omega) (by omega)
  have i1z : (0 : Int) ≤ (i1 : Int) := by omega
  replace i1h := Lib.hid i1h
  obtain ⟨j1, j1h⟩ : ∃ z : Nat, z = b - m := ⟨_, rfl⟩
  have j1I : (b : Int) - (m : Int) = (j1 : Int) := by omega
  have j1w : IntKind.i64.wrap (j1 : Int) = (j1 : Int) := wr64 _ (by omega) (by omega)
  have j1z : (0 : Int) ≤ (j1 : Int) := by omega
  replace j1h := Lib.hid j1h
  go_enter Try.func172, Try.ntmps172
  go_wp2_with fail
  go_loopw [10, 11] (fun i j wr => ∃ (x y : Nat) (d1 : D), 0 < x ∧ 0 < y ∧ x ≤ m ∧ m + y ≤ n ∧ i = .int .i64 (x : Int) ∧ j = .int .i64 (y : Int) ∧ Hid (Sw w0 wr g n cap d1) ∧ Hid (rot d1 (m - x) m (m + y) = rot d a m b)) (fun i j _ => (intOf i).toNat + (intOf j).toNat)
  case atStart => exact ⟨i1, j1, d, by have := i1h.out; omega, by have := j1h.out; omega, by have := i1h.out; omega, by have := j1h.out; omega, rfl, rfl, H, Lib.hid (by rw [i1h.out, j1h.out, show m - (m - a) = a by omega, show m + (b - m) = b by omega])⟩
  case round =>
    clear H
    obtain ⟨x, y, d1, hx, hy, hxm, hyn, rfl, rfl, H, E⟩ := hrel
    obtain ⟨u, uh⟩ : ∃ z : Nat, z = m - x := ⟨_, rfl⟩
    have uI : (m : Int) - (x : Int) = (u : Int) := by omega
    have uw : IntKind.i64.wrap (u : Int) = (u : Int) := wr64 _ (by omega) (by omega)
    have uz : (0 : Int) ≤ (u : Int) := by omega
    replace uh := Lib.hid uh
    by_cases hxy : x = y
    · subst hxy
      have e9 : swr d1 u m x = rot d a m b := by rw [uh.out]; exact (rot_eq hxm).trans E.out
      go_wp2_with fail
      refine (swr_any lb g n cap u m x d1 w0 _ H (by have := uh.out; omega) (by omega)).mono ?_
      rintro e w5 ⟨rfl, H5⟩
      rw [e9] at H5
      go_wp2_with fail
      refine bodyPost_end (v := .tuple #[]) ?_ rfl ⟨rfl, H5⟩
      simp [results, Try.results172, go_sem]
    · by_cases hlt : y < x
      · skip
        obtain ⟨v, vh⟩ : ∃ z : Nat, z = x - y := ⟨_, rfl⟩
        have vI : (x : Int) - (y : Int) = (v : Int) := by omega
        have vw : IntKind.i64.wrap (v : Int) = (v : Int) := wr64 _ (by omega) (by omega)
        have vz : (0 : Int) ≤ (v : Int) := by omega
        replace vh := Lib.hid vh
        go_wp2_with fail
        refine (swr_any lb g n cap u m y d1 w0 _ H (by have := uh.out; omega) (by omega)).mono ?_
        rintro e w5 ⟨rfl, H5⟩
        go_wp2_with fail
        go_roundw
        case rel => exact ⟨v, y, _, by have := vh.out; omega, hy, by have := vh.out; omega, hyn, rfl, rfl, H5, Lib.hid (by rw [vh.out, uh.out]; exact (rot_gt hlt hxm hy).trans E.out)⟩
        case measure => have := vh.out; simp [intOf]; omega
      · have hlt2 : x < y := by omega
        obtain ⟨v, vh⟩ : ∃ z : Nat, z = m + y := ⟨_, rfl⟩
        have vI : (m : Int) + (y : Int) = (v : Int) := by omega
        have vw : IntKind.i64.wrap (v : Int) = (v : Int) := wr64 _ (by omega) (by omega)
        have vz : (0 : Int) ≤ (v : Int) := by omega
        replace vh := Lib.hid vh
        obtain ⟨z, zh⟩ : ∃ z : Nat, z = v - x := ⟨_, rfl⟩
        have zI : (v : Int) - (x : Int) = (z : Int) := by omega
        have zw : IntKind.i64.wrap (z : Int) = (z : Int) := wr64 _ (by omega) (by omega)
        have zz : (0 : Int) ≤ (z : Int) := by omega
        replace zh := Lib.hid zh
        obtain ⟨t, th⟩ : ∃ z : Nat, z = y - x := ⟨_, rfl⟩
        have tI : (y : Int) - (x : Int) = (t : Int) := by omega
        have tw : IntKind.i64.wrap (t : Int) = (t : Int) := wr64 _ (by omega) (by omega)
        have tz : (0 : Int) ≤ (t : Int) := by omega
        replace th := Lib.hid th
        go_wp2_with fail
        refine (swr_any lb g n cap u z x d1 w0 _ H (by have := uh.out; have := zh.out; have := vh.out; omega) (by have := zh.out; have := vh.out; omega)).mono ?_
        rintro e w5 ⟨rfl, H5⟩
        go_wp2_with fail
        go_roundw
        case rel => exact ⟨x, t, _, hx, by have := th.out; omega, hxm, by have := th.out; omega, rfl, rfl, H5, Lib.hid (by rw [th.out, uh.out, zh.out, vh.out]; exact (rot_lt hlt2 hxm hx).trans E.out)⟩
        case measure => have := th.out; simp [intOf]; omega
end Go.Proofs.Ytgkahcchekiogaa.Rtl
