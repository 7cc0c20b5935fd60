/- slices.symMerge of places. -/
import Derived.Test.YtgkahcchekiogaaRtl
namespace Go.Proofs.Ytgkahcchekiogaa.Rtm
open Go.RowKit Base Kit WideA WideB Plain RefA Alt Held Rtf Rtg Rto Rtq Rtj Rtl
set_option linter.unusedVariables false
set_option linter.unusedSimpArgs false


set_option maxRecDepth 100000 in
set_option maxHeartbeats 4000000 in
theorem sym_up (f : Nat → Nat → Int) (lb g n cap a m b : Nat) (d : D) (w0 w : World) (C : Hid (Cmp n f w0 g lb)) (hf : Hid (∀ x, x < n → f x 1 ≤ 9223372036854775807)) (H : Hid (Sw w0 w g n cap d)) (G : Hid (Gdo (ky f) d n)) (h1 : m = a + 1) (h2 : m < b) (h3 : b ≤ n) (hs : Hid (Sr (ky f) d m b)) :
    Calls Try.prog 169 #[.slice (some ⟨g, 0, none⟩) n cap, .int .i64 (a : Int), .int .i64 (m : Int), .int .i64 (b : Int), (.func (.func 117) #[] #[.pointer (some ⟨lb, 0, none⟩)])] w (SoP w0 g n cap (ky f) d a b) := by
  have hn := H.out.len
  have hma : (m : Int) - (a : Int) = 1 := by omega
  have hw1 : IntKind.i64.wrap 1 = 1 := rfl
  have ham : a + 1 ≤ m := by omega
  have han : (a : Int) < (n : Int) := by omega
  replace h1 := Lib.hid h1
  obtain ⟨Y, hY0⟩ : ∃ z, d a = z := ⟨_, rfl⟩
  have hYn : Y < n := by rw [← hY0]; exact G.out.pm.1 _ (by omega)
  have hY := Lib.hid hY0
  clear hY0
  go_enter Try.func169, Try.ntmps169
  go_wp2_with fail
  go_loopw [10, 11] (fun i j wr => ∃ i0 j0 : Nat, m ≤ i0 ∧ i0 ≤ j0 ∧ j0 ≤ b ∧ i = .int .i64 (i0 : Int) ∧ j = .int .i64 (j0 : Int) ∧ Hid (Sw w0 wr g n cap d) ∧ Hid ((i0 = m ∨ ky f (d (i0 - 1)) < ky f Y) ∧ (j0 = b ∨ ky f Y ≤ ky f (d j0)))) (fun i j _ => (intOf j).toNat - (intOf i).toNat)
  case atStart => exact ⟨m, b, Nat.le_refl _, by omega, Nat.le_refl _, rfl, rfl, H, Lib.hid ⟨.inl rfl, .inl rfl⟩⟩
  case round =>
    clear H
    obtain ⟨i0, j0, hi, hij, hj, rfl, rfl, H, K⟩ := hrel
    by_cases hlt : i0 < j0
    · skip
      obtain ⟨s, sh⟩ : ∃ z : Nat, z = i0 + j0 := ⟨_, rfl⟩
      have sI : (i0 : Int) + (j0 : Int) = (s : Int) := by omega
      have sw : IntKind.i64.wrap (s : Int) = (s : Int) := wr64 _ (by omega) (by omega)
      have sz : (0 : Int) ≤ (s : Int) := by omega
      replace sh := Lib.hid sh
      have su : IntKind.u64.wrap (s : Int) = (s : Int) := by simp [IntKind.wrap, IntKind.bits, IntKind.signed]; have := sh.out; omega
      obtain ⟨h, hh⟩ : ∃ z : Nat, z = s / 2 := ⟨_, rfl⟩
      have hI : (s : Int) / 2 = (h : Int) := by omega
      have hw : IntKind.i64.wrap (h : Int) = (h : Int) := wr64 _ (by omega) (by omega)
      have hz : (0 : Int) ≤ (h : Int) := by omega
      replace hh := Lib.hid hh
      have hhb : i0 ≤ h ∧ h < j0 := by have := sh.out; have := hh.out; omega
      have hhn : (h : Int) < (n : Int) := by omega

      obtain ⟨Z, hZ⟩ : ∃ z, d h = z := ⟨_, rfl⟩
      have hZn : Z < n := by rw [← hZ]; exact G.out.pm.1 _ (by omega)
      have HZ := Lib.hid hZ
      have SC := Lib.hid (fun w' (q : Hid (Sw w0 w' g n cap d)) => (⟨by rw [sw_cell q (by omega), hZ], by rw [sw_cell q (by omega), hY.out]⟩ : w'.cell? ⟨g, h, none⟩ = some (.int .i64 (Z : Int)) ∧ w'.cell? ⟨g, a, none⟩ = some (.int .i64 (Y : Int))))
      have CC := Lib.hid (fun w' (q : Hid (Sw w0 w' g n cap d)) => C.out w' q.out.alt Z Y hZn hYn)
      have HD := sw_next H ((Below.refl _ wr).drew)
      have hcm := cm_lt f Z Y (hf.out Z hZn) (hf.out Y hYn)
      clear hZ
      by_cases hc : ky f Z < ky f Y
      · have hr := hcm.2 hc
        replace hc := Lib.hid hc
        clear hcm
        generalize cm f Z Y = r at *
        go_wp2_with fail
        go_region_held3 (fun w' => w'.cell? ⟨g, h, none⟩ = some (.int .i64 (Z : Int)) ∧ w'.cell? ⟨g, a, none⟩ = some (.int .i64 (Y : Int)))
          (first | exact SC.out _ H5 | exact SC.out _ HD)
          (first | (go_at_call 117; refine (CC.out _ HD).mono ?_; rintro e1 w5 ⟨rfl, k5⟩; have H5 := sw_next HD k5))
        go_wp2_with fail
        go_roundw
        case rel => exact ⟨h + 1, j0, by omega, by omega, hj, by simp, rfl, H5, Lib.hid ⟨.inr (by rw [show h + 1 - 1 = h by omega, HZ.out]; exact hc.out), K.out.2⟩⟩
        case measure => simp [intOf]; omega
      · have hr : 0 ≤ cm f Z Y := by
          by_cases c : cm f Z Y < 0
          · exact absurd (hcm.1 c) hc
          · omega
        replace hc := Lib.hid hc
        clear hcm
        generalize cm f Z Y = r at *
        go_wp2_with fail
        go_region_held3 (fun w' => w'.cell? ⟨g, h, none⟩ = some (.int .i64 (Z : Int)) ∧ w'.cell? ⟨g, a, none⟩ = some (.int .i64 (Y : Int)))
          (first | exact SC.out _ H5 | exact SC.out _ HD)
          (first | (go_at_call 117; refine (CC.out _ HD).mono ?_; rintro e1 w5 ⟨rfl, k5⟩; have H5 := sw_next HD k5))
        go_wp2_with fail
        go_roundw
        case rel => exact ⟨i0, h, by omega, by omega, by omega, rfl, rfl, H5, Lib.hid ⟨K.out.1, .inr (by rw [HZ.out]; have := hc.out; omega)⟩⟩
        case measure => simp [intOf]; omega
    · obtain rfl : i0 = j0 := by omega
      obtain ⟨z, zh⟩ : ∃ z : Nat, z = i0 - 1 := ⟨_, rfl⟩
      have zI : (i0 : Int) - 1 = (z : Int) := by omega
      have zw : IntKind.i64.wrap (z : Int) = (z : Int) := wr64 _ (by omega) (by omega)
      have zz : (0 : Int) ≤ (z : Int) := by omega
      replace zh := Lib.hid zh
      have hlow : Hid (∀ t, a < t → t < i0 → ky f (d t) < ky f (d a)) := Lib.hid (fun t t1 t2 => by
        rw [hY.out]
        have := h1.out
        rcases K.out.1 with k | k
        · omega
        · by_cases c : t = i0 - 1
          · rw [c]; exact k
          · have := hs.out t (i0 - 1) (by omega) (by omega) (by omega); omega)
      have hhi : Hid (i0 = b ∨ ky f (d a) ≤ ky f (d i0)) := Lib.hid (by rw [hY.out]; exact K.out.2)
      have hzi : z + 1 = i0 := by have := zh.out; omega
      go_wp2_with fail
      go_loopw [13] (fun k wr => ∃ k0 : Nat, a ≤ k0 ∧ k0 ≤ z ∧ k = .int .i64 (k0 : Int) ∧ Hid (Sw w0 wr g n cap (rot d a (a + 1) (k0 + 1)))) (fun k _ => z - (intOf k).toNat)
      case atStart => exact ⟨a, Nat.le_refl _, by omega, rfl, by rw [rot_one]; exact H⟩
      case round =>
        clear H
        obtain ⟨k0, hk, hkz, rfl, H⟩ := hrel
        by_cases hkl : k0 < z
        · skip
          obtain ⟨p, ph⟩ : ∃ z : Nat, z = k0 + 1 := ⟨_, rfl⟩
          have pI : (k0 : Int) + 1 = (p : Int) := by omega
          have pw : IntKind.i64.wrap (p : Int) = (p : Int) := wr64 _ (by omega) (by omega)
          have pz : (0 : Int) ≤ (p : Int) := by omega
          replace ph := Lib.hid ph
          have hpk : p = k0 + 1 := ph.out
          have hpn : (p : Int) < (n : Int) := by omega
          have hkn : (k0 : Int) < (n : Int) := by omega
          obtain ⟨X, hX⟩ : ∃ z, rot d a (a + 1) (k0 + 1) k0 = z := ⟨_, rfl⟩
          obtain ⟨V, hV⟩ : ∃ z, rot d a (a + 1) (k0 + 1) p = z := ⟨_, rfl⟩
          have H6 := sw_next H ((Below.refl _ wr).drew)
          have c0 := sw_cell H6 (i := k0) (by omega)
          have c1 := sw_cell H6 (i := p) (by omega)
          rw [hX] at c0
          rw [hV] at c1
          have fz := H6.out.own.frozenAt
          have HS := sw_swap H6 (i := k0) (j := p) (x := (V : Int)) (y := (X : Int)) (by omega) (by omega) (by rw [hV]) (by rw [hX])
          have e9 : sw (rot d a (a + 1) (k0 + 1)) p k0 = rot d a (a + 1) (p + 1) := by rw [sw_comm, hpk]; exact up_step hk
          rw [e9] at HS
          replace hpk := Lib.hid hpk
          clear e9 hX hV
          go_wp2_with fail
          refine wp_region_till (fun _ => True) (fun w' => w'.cell? ⟨g, k0, none⟩ = some (.int .i64 (X : Int)) ∧ w'.cell? ⟨g, p, none⟩ = some (.int .i64 (V : Int))) 15 18 #[false, false, false, false, false, false, false, false, false, false, false, false, false, false, false, false, false, false] (by kernel_rfl) rfl rfl ⟨trivial, c0, c1⟩ (fun hHeld => ?_)
          generalize wr.drew = w8 at *
          refine wpTill_take false (i := 0) (v := ?_) rfl (by kernel_rfl) (by kernel_rfl) (by kernel_rfl) (fun _ _ _ h => h) (by kernel_rfl) (Or.inl ⟨by first | rfl | kernel_rfl, ?_⟩) hHeld (fun hHeld => ?_)
          rotate_left
          · (intro w' hSw; obtain ⟨-, r3⟩ := hSw; (try (obtain ⟨r4, r5⟩ := r3 rfl)); clear r3; go_simp; try with_reducible rfl)
          try simp only [Act.put, List.setIfInBounds_toArray, List.set_cons_zero, List.set_cons_succ, List.getElem_toArray, List.getElem_cons_succ, List.getElem_cons_zero]
          refine wpTill_take false (i := 1) (v := ?_) rfl (by kernel_rfl) (by kernel_rfl) (by kernel_rfl) (fun _ _ _ h => h) (by kernel_rfl) (Or.inl ⟨by first | rfl | kernel_rfl, ?_⟩) hHeld (fun hHeld => ?_)
          rotate_left
          · (intro w' hSw; obtain ⟨-, r3⟩ := hSw; (try (obtain ⟨r4, r5⟩ := r3 rfl)); clear r3; go_simp; try with_reducible rfl)
          try simp only [Act.put, List.setIfInBounds_toArray, List.set_cons_zero, List.set_cons_succ, List.getElem_toArray, List.getElem_cons_succ, List.getElem_cons_zero]
          refine wpTill_take false (i := 2) (v := ?_) rfl (by kernel_rfl) (by kernel_rfl) (by kernel_rfl) (fun _ _ _ h => h) (by kernel_rfl) (Or.inl ⟨by first | rfl | kernel_rfl, ?_⟩) hHeld (fun hHeld => ?_)
          rotate_left
          · (intro w' hSw; obtain ⟨-, r3⟩ := hSw; (try (obtain ⟨r4, r5⟩ := r3 rfl)); clear r3; go_simp; try with_reducible rfl)
          try simp only [Act.put, List.setIfInBounds_toArray, List.set_cons_zero, List.set_cons_succ, List.getElem_toArray, List.getElem_cons_succ, List.getElem_cons_zero]
          refine wpTill_take false (i := 3) (v := ?_) rfl (by kernel_rfl) (by kernel_rfl) (by kernel_rfl) (fun _ _ _ h => h) (by kernel_rfl) (Or.inl ⟨by first | rfl | kernel_rfl, ?_⟩) hHeld (fun hHeld => ?_)
          rotate_left
          · (intro w' hSw; obtain ⟨-, r3⟩ := hSw; (try (obtain ⟨r4, r5⟩ := r3 rfl)); clear r3; go_simp; try with_reducible rfl)
          try simp only [Act.put, List.setIfInBounds_toArray, List.set_cons_zero, List.set_cons_succ, List.getElem_toArray, List.getElem_cons_succ, List.getElem_cons_zero]
          refine wpTill_take false (i := 4) (v := ?_) rfl (by kernel_rfl) (by kernel_rfl) (by kernel_rfl) (fun _ _ _ h => h) (by kernel_rfl) (Or.inl ⟨by first | rfl | kernel_rfl, ?_⟩) hHeld (fun hHeld => ?_)
          rotate_left
          · (intro w' hSw; obtain ⟨-, r3⟩ := hSw; (try (obtain ⟨r4, r5⟩ := r3 rfl)); clear r3; go_simp; try with_reducible rfl)
          try simp only [Act.put, List.setIfInBounds_toArray, List.set_cons_zero, List.set_cons_succ, List.getElem_toArray, List.getElem_cons_succ, List.getElem_cons_zero]
          refine wpTill_take false (i := 5) (v := ?_) rfl (by kernel_rfl) (by kernel_rfl) (by kernel_rfl) (fun _ _ _ h => h) (by kernel_rfl) (Or.inl ⟨by first | rfl | kernel_rfl, ?_⟩) hHeld (fun hHeld => ?_)
          rotate_left
          · (intro w' hSw; obtain ⟨-, r3⟩ := hSw; (try (obtain ⟨r4, r5⟩ := r3 rfl)); clear r3; go_simp; try with_reducible rfl)
          try simp only [Act.put, List.setIfInBounds_toArray, List.set_cons_zero, List.set_cons_succ, List.getElem_toArray, List.getElem_cons_succ, List.getElem_cons_zero]
          refine wpTill_take false (i := 6) (v := ?_) rfl (by kernel_rfl) (by kernel_rfl) (by kernel_rfl) (fun _ _ _ h => h) (by kernel_rfl) (Or.inl ⟨by first | rfl | kernel_rfl, ?_⟩) hHeld (fun hHeld => ?_)
          rotate_left
          · (intro w' hSw; obtain ⟨-, r3⟩ := hSw; (try (obtain ⟨r4, r5⟩ := r3 rfl)); clear r3; go_simp; try with_reducible rfl)
          try simp only [Act.put, List.setIfInBounds_toArray, List.set_cons_zero, List.set_cons_succ, List.getElem_toArray, List.getElem_cons_succ, List.getElem_cons_zero]
          refine wpTill_take false (i := 7) (v := ?_) rfl (by kernel_rfl) (by kernel_rfl) (by kernel_rfl) (fun _ _ _ h => h) (by kernel_rfl) (Or.inl ⟨by first | rfl | kernel_rfl, ?_⟩) hHeld (fun hHeld => ?_)
          rotate_left
          · (intro w' hSw; obtain ⟨-, r3⟩ := hSw; (try (obtain ⟨r4, r5⟩ := r3 rfl)); clear r3; go_simp; try with_reducible rfl)
          try simp only [Act.put, List.setIfInBounds_toArray, List.set_cons_zero, List.set_cons_succ, List.getElem_toArray, List.getElem_cons_succ, List.getElem_cons_zero]
          refine wpTill_take false (i := 8) (v := ?_) rfl (by kernel_rfl) (by kernel_rfl) (by kernel_rfl) (fun _ _ _ h => h) (by kernel_rfl) (Or.inl ⟨by first | rfl | kernel_rfl, ?_⟩) hHeld (fun hHeld => ?_)
          rotate_left
          · (intro w' hSw; obtain ⟨-, r3⟩ := hSw; (try (obtain ⟨r4, r5⟩ := r3 rfl)); clear r3; go_simp; try with_reducible rfl)
          try simp only [Act.put, List.setIfInBounds_toArray, List.set_cons_zero, List.set_cons_succ, List.getElem_toArray, List.getElem_cons_succ, List.getElem_cons_zero]
          refine wpTill_take true (i := 9) (v := ?_) rfl (by kernel_rfl) (by kernel_rfl) (by kernel_rfl) (fun _ _ _ h => h) (by kernel_rfl) (Or.inl ⟨by first | rfl | kernel_rfl, ?_⟩) hHeld (fun hHeld => ?_)
          rotate_left
          · (intro w' hSw; obtain ⟨-, r3⟩ := hSw; (try (obtain ⟨r4, r5⟩ := r3 rfl)); clear r3; go_simp; try with_reducible rfl)
          try simp only [Act.put, List.setIfInBounds_toArray, List.set_cons_zero, List.set_cons_succ, List.getElem_toArray, List.getElem_cons_succ, List.getElem_cons_zero]
          refine wpTill_take false (i := 10) (v := ?_) rfl (by kernel_rfl) (by kernel_rfl) (by kernel_rfl) (fun _ _ _ h => h) (by kernel_rfl) (Or.inl ⟨by first | rfl | kernel_rfl, ?_⟩) hHeld (fun hHeld => ?_)
          rotate_left
          · (intro w' hSw; obtain ⟨-, r3⟩ := hSw; (try (obtain ⟨r4, r5⟩ := r3 rfl)); clear r3; go_simp; try with_reducible rfl)
          try simp only [Act.put, List.setIfInBounds_toArray, List.set_cons_zero, List.set_cons_succ, List.getElem_toArray, List.getElem_cons_succ, List.getElem_cons_zero]
          refine wpTill_take false (i := 11) (v := ?_) rfl (by kernel_rfl) (by kernel_rfl) (by kernel_rfl) (fun _ _ _ h => h) (by kernel_rfl) (Or.inl ⟨by first | rfl | kernel_rfl, ?_⟩) hHeld (fun hHeld => ?_)
          rotate_left
          · (intro w' hSw; obtain ⟨-, r3⟩ := hSw; (try (obtain ⟨r4, r5⟩ := r3 rfl)); clear r3; go_simp; try with_reducible rfl)
          try simp only [Act.put, List.setIfInBounds_toArray, List.set_cons_zero, List.set_cons_succ, List.getElem_toArray, List.getElem_cons_succ, List.getElem_cons_zero]
          refine wpTill_take false (i := 12) (v := ?_) rfl (by kernel_rfl) (by kernel_rfl) (by kernel_rfl) (fun _ _ _ h => h) (by kernel_rfl) (Or.inl ⟨by first | rfl | kernel_rfl, ?_⟩) hHeld (fun hHeld => ?_)
          rotate_left
          · (intro w' hSw; obtain ⟨-, r3⟩ := hSw; (try (obtain ⟨r4, r5⟩ := r3 rfl)); clear r3; go_simp; try with_reducible rfl)
          try simp only [Act.put, List.setIfInBounds_toArray, List.set_cons_zero, List.set_cons_succ, List.getElem_toArray, List.getElem_cons_succ, List.getElem_cons_zero]
          refine wpTill_take true (i := 13) (v := ?_) rfl (by kernel_rfl) (by kernel_rfl) (by kernel_rfl) (fun _ _ _ h => h) (by kernel_rfl) (Or.inl ⟨by first | rfl | kernel_rfl, ?_⟩) hHeld (fun hHeld => ?_)
          rotate_left
          · (intro w' hSw; obtain ⟨-, r3⟩ := hSw; (try (obtain ⟨r4, r5⟩ := r3 rfl)); clear r3; go_simp; try with_reducible rfl)
          try simp only [Act.put, List.setIfInBounds_toArray, List.set_cons_zero, List.set_cons_succ, List.getElem_toArray, List.getElem_cons_succ, List.getElem_cons_zero]
          refine wpTill_take false (i := 14) (v := ?_) rfl (by kernel_rfl) (by kernel_rfl) (by kernel_rfl) (fun _ _ _ h => h) (by kernel_rfl) (Or.inl ⟨by first | rfl | kernel_rfl, ?_⟩) hHeld (fun hHeld => ?_)
          rotate_left
          · (intro w' hSw; obtain ⟨-, r3⟩ := hSw; (try (obtain ⟨r4, r5⟩ := r3 rfl)); clear r3; go_simp; try with_reducible rfl)
          try simp only [Act.put, List.setIfInBounds_toArray, List.set_cons_zero, List.set_cons_succ, List.getElem_toArray, List.getElem_cons_succ, List.getElem_cons_zero]
          refine wpTill_one (i := 15) (by kernel_rfl) rfl (fun K hK => ?_)
          rw [if_pos (by kernel_rfl)]
          go_simp
          refine hK _ _ ⟨trivial, fun h => (by cases h)⟩ (fun hHeld => ?_)
          clear hK K
          refine wpTill_take false (i := 16) (v := ?_) rfl (by kernel_rfl) (by kernel_rfl) (by kernel_rfl) (fun _ _ _ h => h) (by kernel_rfl) (Or.inl ⟨by first | rfl | kernel_rfl, ?_⟩) hHeld (fun hHeld => ?_)
          rotate_left
          · (intro w' hSw; obtain ⟨-, r3⟩ := hSw; (try (obtain ⟨r4, r5⟩ := r3 rfl)); clear r3; go_simp; try with_reducible rfl)
          try simp only [Act.put, List.setIfInBounds_toArray, List.set_cons_zero, List.set_cons_succ, List.getElem_toArray, List.getElem_cons_succ, List.getElem_cons_zero]
          refine wpTill_one (i := 17) (by kernel_rfl) rfl (fun K hK => ?_)
          rw [if_pos (by kernel_rfl)]
          go_simp
          refine hK _ _ ⟨trivial, fun h => (by cases h)⟩ (fun hHeld => ?_)
          clear hK K
          refine wpTill_done (by kernel_rfl) ?_ 0
          clear hHeld
          go_wp2_with fail
          go_roundw
          case rel => exact ⟨p, by have := hpk.out; omega, by have := hpk.out; omega, rfl, HS⟩
          case measure => have := hpk.out; simp [intOf]; omega
        · obtain rfl : z = k0 := by omega
          rw [hzi] at H
          have F : Hid (Gdo (ky f) (rot d a (a + 1) i0) n ∧ Mv d (rot d a (a + 1) i0) a b ∧ Sr (ky f) (rot d a (a + 1) i0) a b) := Lib.hid ⟨up_good G.out (by omega) (by omega) hlow.out, (rot_mv (by omega) (by omega)).mono (Nat.le_refl _) hj, up_sr (by have := hs.out; rwa [h1.out] at this) (by omega) hj hlow.out hhi.out⟩
          replace hzi := Lib.hid hzi
          go_wp2_with fail
          exact bodyPost_ret (results_none rfl _ _ _) rfl ⟨rfl, _, H, F⟩
end Go.Proofs.Ytgkahcchekiogaa.Rtm
