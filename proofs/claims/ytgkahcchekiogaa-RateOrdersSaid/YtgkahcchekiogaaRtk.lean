/- slices.insertionSort of places under Order's closure. -/
import Derived.Test.YtgkahcchekiogaaRtj
namespace Go.Proofs.Ytgkahcchekiogaa.Rtk
open Go.RowKit Base Kit WideA WideB Plain RefA Alt Held Rtf Rtg Rto Rtq Rtj
set_option linter.unusedVariables false
set_option linter.unusedSimpArgs false
set_option maxRecDepth 100000 in
set_option maxHeartbeats 4000000 in
theorem ins_any (f : Nat → Nat → Int) (lb g n cap : Nat) (d : D) (w0 w : World) (C : Hid (Cmp n f w0 g lb)) (hf : Hid (∀ x, x < n → f x 1 ≤ 9223372036854775807)) (H : Hid (Sw w0 w g n cap d)) (G : Hid (Gdo (ky f) d n)) (a b : Nat) (hb : b ≤ n) (hab : a ≤ b) :
    Calls Try.prog 168 #[.slice (some ⟨g, 0, none⟩) n cap, .int .i64 (a : Int), .int .i64 (b : Int), (.func (.func 117) #[] #[.pointer (some ⟨lb, 0, none⟩)])] w (SoP w0 g n cap (ky f) d a b) := by
  have hn := H.out.len
  go_enter Try.func168, Try.ntmps168
  go_wp2_with fail
  go_loopw [8] (fun i wr => ∃ (i0 : Nat) (d1 : D), a + 1 ≤ i0 ∧ (i0 ≤ b ∨ i0 = a + 1) ∧ i = .int .i64 (i0 : Int) ∧ Hid (Sw w0 wr g n cap d1) ∧ Hid (Gdo (ky f) d1 n ∧ Mv d d1 a b ∧ Sr (ky f) d1 a i0)) (fun i _ => b - (intOf i).toNat)
  case atStart => exact ⟨a + 1, d, Nat.le_refl _, .inr rfl, by simp, H, Lib.hid ⟨G.out, Mv.refl _ _ _, fun s t s1 st t2 => by omega⟩⟩
  case round =>
    clear H G
    obtain ⟨i0, d1, hi1, hi2, rfl, H, G⟩ := hrel
    by_cases hib : i0 < b
    · go_wp2_with fail
      go_loopw [9] (fun j wr => ∃ j0 : Nat, a ≤ j0 ∧ j0 ≤ i0 ∧ j = .int .i64 (j0 : Int) ∧ Hid (Sw w0 wr g n cap (rot d1 j0 i0 (i0 + 1))) ∧ Hid (∀ t, j0 ≤ t → t < i0 → ky f (d1 i0) < ky f (d1 t))) (fun j _ => (intOf j).toNat)
      case atStart => exact ⟨i0, by omega, Nat.le_refl _, rfl, by rw [rot_id (a := 0) d1 i0 (Nat.zero_le _)]; exact H, Lib.hid (fun t t1 t2 => by omega)⟩
      case round =>
        clear H
        obtain ⟨j0, hj1, hj2, rfl, H, K⟩ := hrel
        by_cases hja : a < j0
        · obtain ⟨p, hp⟩ : ∃ p, j0 = p + 1 := ⟨j0 - 1, by omega⟩
          have hpI : (j0 : Int) - 1 = (p : Int) := by omega
          have hw : IntKind.i64.wrap (p : Int) = (p : Int) := wr64 _ (by omega) (by omega)
          have h0p : (0 : Int) ≤ (p : Int) := by omega
          have hpn : (p : Int) < (n : Int) := by omega
          have hjn : (j0 : Int) < (n : Int) := by omega
          obtain ⟨x, hx⟩ : ∃ x, d1 i0 = x := ⟨_, rfl⟩
          obtain ⟨y, hy⟩ : ∃ y, d1 p = y := ⟨_, rfl⟩
          have ex : rot d1 j0 i0 (i0 + 1) j0 = x := (dn_at hj2).trans hx
          have ey : rot d1 j0 i0 (i0 + 1) p = y := (dn_below (by omega)).trans hy
          have hxn : x < n := by rw [← hx]; exact G.out.1.pm.1 _ (by omega)
          have hyn : y < n := by rw [← hy]; exact G.out.1.pm.1 _ (by omega)
          have SC := Lib.hid (fun w' (h : Hid (Sw w0 w' g n cap (rot d1 j0 i0 (i0 + 1)))) => (⟨by rw [sw_cell h (by omega), ex], by rw [sw_cell h (by omega), ey]⟩ : w'.cell? ⟨g, j0, none⟩ = some (.int .i64 (x : Int)) ∧ w'.cell? ⟨g, p, none⟩ = some (.int .i64 (y : Int))))
          have CC := Lib.hid (fun w' (h : Hid (Sw w0 w' g n cap (rot d1 j0 i0 (i0 + 1)))) => C.out w' h.out.alt x y hxn hyn)
          have HD := sw_next H ((Below.refl _ wr).drew)
          have HX := Lib.hid hx
          have HY := Lib.hid hy
          have EX := Lib.hid ex
          have EY := Lib.hid ey
          have hcm := cm_lt f x y (hf.out x hxn) (hf.out y hyn)
          have HP := Lib.hid hp
          clear hx hy ex ey hp
          by_cases hlt : ky f x < ky f y
          · have hr := hcm.2 hlt
            have hlt := Lib.hid hlt
            clear hcm
            generalize cm f x y = r at *
            go_wp2_with fail
            go_region_held3 (fun w' => w'.cell? ⟨g, j0, none⟩ = some (.int .i64 (x : Int)) ∧ w'.cell? ⟨g, p, none⟩ = some (.int .i64 (y : Int)))
              (first | exact SC.out _ H5 | exact SC.out _ HD)
              (first | (go_at_call 117; refine (CC.out _ HD).mono ?_; rintro e1 w5 ⟨rfl, k5⟩; have H5 := sw_next HD k5))
            have H6 := sw_next H5 ((Below.refl _ w5).drew)
            go_wp2_with fail
            obtain ⟨c0, c1⟩ := SC.out _ H6
            have fz := H6.out.own.frozenAt
            have HS := sw_swap H6 (i := j0) (j := p) (x := (y : Int)) (y := (x : Int)) (by omega) (by omega) (by rw [EY.out]) (by rw [EX.out])
            have hp := HP.out
            have e9 : sw (rot d1 j0 i0 (i0 + 1)) p j0 = rot d1 p i0 (i0 + 1) := by rw [sw_comm, hp]; exact dn_step (by omega)
            rw [e9] at HS
            clear e9 hp
            refine wp_region_till (fun _ => True) (fun w' => w'.cell? ⟨g, j0, none⟩ = some (.int .i64 (x : Int)) ∧ w'.cell? ⟨g, p, none⟩ = some (.int .i64 (y : Int))) 15 18 #[false, false, false, false, false, false, false, false, false, false, false, false, false, false, false, false, false, false] (by kernel_rfl) rfl rfl ⟨trivial, c0, c1⟩ (fun hHeld => ?_)
            generalize w5.drew = w8 at *
            refine wpTill_take false (i := 0) (v := ?_) rfl (by kernel_rfl) (by kernel_rfl) (by kernel_rfl) (fun _ _ _ h => h) (by kernel_rfl) (Or.inl ⟨by first | rfl | kernel_rfl, ?_⟩) hHeld (fun hHeld => ?_)
            rotate_left
            · (intro w' hSw; obtain ⟨-, r3⟩ := hSw; (try (obtain ⟨r4, r5⟩ := r3 rfl)); clear r3; go_simp; try with_reducible rfl)
            try simp only [Act.put, List.setIfInBounds_toArray, List.set_cons_zero, List.set_cons_succ, List.getElem_toArray, List.getElem_cons_succ, List.getElem_cons_zero]
            refine wpTill_take false (i := 1) (v := ?_) rfl (by kernel_rfl) (by kernel_rfl) (by kernel_rfl) (fun _ _ _ h => h) (by kernel_rfl) (Or.inl ⟨by first | rfl | kernel_rfl, ?_⟩) hHeld (fun hHeld => ?_)
            rotate_left
            · (intro w' hSw; obtain ⟨-, r3⟩ := hSw; (try (obtain ⟨r4, r5⟩ := r3 rfl)); clear r3; go_simp; try with_reducible rfl)
            try simp only [Act.put, List.setIfInBounds_toArray, List.set_cons_zero, List.set_cons_succ, List.getElem_toArray, List.getElem_cons_succ, List.getElem_cons_zero]
            refine wpTill_take false (i := 2) (v := ?_) rfl (by kernel_rfl) (by kernel_rfl) (by kernel_rfl) (fun _ _ _ h => h) (by kernel_rfl) (Or.inl ⟨by first | rfl | kernel_rfl, ?_⟩) hHeld (fun hHeld => ?_)
            rotate_left
            · (intro w' hSw; obtain ⟨-, r3⟩ := hSw; (try (obtain ⟨r4, r5⟩ := r3 rfl)); clear r3; go_simp; try with_reducible rfl)
            try simp only [Act.put, List.setIfInBounds_toArray, List.set_cons_zero, List.set_cons_succ, List.getElem_toArray, List.getElem_cons_succ, List.getElem_cons_zero]
            refine wpTill_take false (i := 3) (v := ?_) rfl (by kernel_rfl) (by kernel_rfl) (by kernel_rfl) (fun _ _ _ h => h) (by kernel_rfl) (Or.inl ⟨by first | rfl | kernel_rfl, ?_⟩) hHeld (fun hHeld => ?_)
            rotate_left
            · (intro w' hSw; obtain ⟨-, r3⟩ := hSw; (try (obtain ⟨r4, r5⟩ := r3 rfl)); clear r3; go_simp; try with_reducible rfl)
            try simp only [Act.put, List.setIfInBounds_toArray, List.set_cons_zero, List.set_cons_succ, List.getElem_toArray, List.getElem_cons_succ, List.getElem_cons_zero]
            refine wpTill_take false (i := 4) (v := ?_) rfl (by kernel_rfl) (by kernel_rfl) (by kernel_rfl) (fun _ _ _ h => h) (by kernel_rfl) (Or.inl ⟨by first | rfl | kernel_rfl, ?_⟩) hHeld (fun hHeld => ?_)
            rotate_left
            · (intro w' hSw; obtain ⟨-, r3⟩ := hSw; (try (obtain ⟨r4, r5⟩ := r3 rfl)); clear r3; go_simp; try with_reducible rfl)
            try simp only [Act.put, List.setIfInBounds_toArray, List.set_cons_zero, List.set_cons_succ, List.getElem_toArray, List.getElem_cons_succ, List.getElem_cons_zero]
            refine wpTill_take false (i := 5) (v := ?_) rfl (by kernel_rfl) (by kernel_rfl) (by kernel_rfl) (fun _ _ _ h => h) (by kernel_rfl) (Or.inl ⟨by first | rfl | kernel_rfl, ?_⟩) hHeld (fun hHeld => ?_)
            rotate_left
            · (intro w' hSw; obtain ⟨-, r3⟩ := hSw; (try (obtain ⟨r4, r5⟩ := r3 rfl)); clear r3; go_simp; try with_reducible rfl)
            try simp only [Act.put, List.setIfInBounds_toArray, List.set_cons_zero, List.set_cons_succ, List.getElem_toArray, List.getElem_cons_succ, List.getElem_cons_zero]
            refine wpTill_take false (i := 6) (v := ?_) rfl (by kernel_rfl) (by kernel_rfl) (by kernel_rfl) (fun _ _ _ h => h) (by kernel_rfl) (Or.inl ⟨by first | rfl | kernel_rfl, ?_⟩) hHeld (fun hHeld => ?_)
            rotate_left
            · (intro w' hSw; obtain ⟨-, r3⟩ := hSw; (try (obtain ⟨r4, r5⟩ := r3 rfl)); clear r3; go_simp; try with_reducible rfl)
            try simp only [Act.put, List.setIfInBounds_toArray, List.set_cons_zero, List.set_cons_succ, List.getElem_toArray, List.getElem_cons_succ, List.getElem_cons_zero]
            refine wpTill_take false (i := 7) (v := ?_) rfl (by kernel_rfl) (by kernel_rfl) (by kernel_rfl) (fun _ _ _ h => h) (by kernel_rfl) (Or.inl ⟨by first | rfl | kernel_rfl, ?_⟩) hHeld (fun hHeld => ?_)
            rotate_left
            · (intro w' hSw; obtain ⟨-, r3⟩ := hSw; (try (obtain ⟨r4, r5⟩ := r3 rfl)); clear r3; go_simp; try with_reducible rfl)
            try simp only [Act.put, List.setIfInBounds_toArray, List.set_cons_zero, List.set_cons_succ, List.getElem_toArray, List.getElem_cons_succ, List.getElem_cons_zero]
            refine wpTill_take false (i := 8) (v := ?_) rfl (by kernel_rfl) (by kernel_rfl) (by kernel_rfl) (fun _ _ _ h => h) (by kernel_rfl) (Or.inl ⟨by first | rfl | kernel_rfl, ?_⟩) hHeld (fun hHeld => ?_)
            rotate_left
            · (intro w' hSw; obtain ⟨-, r3⟩ := hSw; (try (obtain ⟨r4, r5⟩ := r3 rfl)); clear r3; go_simp; try with_reducible rfl)
            try simp only [Act.put, List.setIfInBounds_toArray, List.set_cons_zero, List.set_cons_succ, List.getElem_toArray, List.getElem_cons_succ, List.getElem_cons_zero]
            refine wpTill_take true (i := 9) (v := ?_) rfl (by kernel_rfl) (by kernel_rfl) (by kernel_rfl) (fun _ _ _ h => h) (by kernel_rfl) (Or.inl ⟨by first | rfl | kernel_rfl, ?_⟩) hHeld (fun hHeld => ?_)
            rotate_left
            · (intro w' hSw; obtain ⟨-, r3⟩ := hSw; (try (obtain ⟨r4, r5⟩ := r3 rfl)); clear r3; go_simp; try with_reducible rfl)
            try simp only [Act.put, List.setIfInBounds_toArray, List.set_cons_zero, List.set_cons_succ, List.getElem_toArray, List.getElem_cons_succ, List.getElem_cons_zero]
            refine wpTill_take false (i := 10) (v := ?_) rfl (by kernel_rfl) (by kernel_rfl) (by kernel_rfl) (fun _ _ _ h => h) (by kernel_rfl) (Or.inl ⟨by first | rfl | kernel_rfl, ?_⟩) hHeld (fun hHeld => ?_)
            rotate_left
            · (intro w' hSw; obtain ⟨-, r3⟩ := hSw; (try (obtain ⟨r4, r5⟩ := r3 rfl)); clear r3; go_simp; try with_reducible rfl)
            try simp only [Act.put, List.setIfInBounds_toArray, List.set_cons_zero, List.set_cons_succ, List.getElem_toArray, List.getElem_cons_succ, List.getElem_cons_zero]
            refine wpTill_take false (i := 11) (v := ?_) rfl (by kernel_rfl) (by kernel_rfl) (by kernel_rfl) (fun _ _ _ h => h) (by kernel_rfl) (Or.inl ⟨by first | rfl | kernel_rfl, ?_⟩) hHeld (fun hHeld => ?_)
            rotate_left
            · (intro w' hSw; obtain ⟨-, r3⟩ := hSw; (try (obtain ⟨r4, r5⟩ := r3 rfl)); clear r3; go_simp; try with_reducible rfl)
            try simp only [Act.put, List.setIfInBounds_toArray, List.set_cons_zero, List.set_cons_succ, List.getElem_toArray, List.getElem_cons_succ, List.getElem_cons_zero]
            refine wpTill_take false (i := 12) (v := ?_) rfl (by kernel_rfl) (by kernel_rfl) (by kernel_rfl) (fun _ _ _ h => h) (by kernel_rfl) (Or.inl ⟨by first | rfl | kernel_rfl, ?_⟩) hHeld (fun hHeld => ?_)
            rotate_left
            · (intro w' hSw; obtain ⟨-, r3⟩ := hSw; (try (obtain ⟨r4, r5⟩ := r3 rfl)); clear r3; go_simp; try with_reducible rfl)
            try simp only [Act.put, List.setIfInBounds_toArray, List.set_cons_zero, List.set_cons_succ, List.getElem_toArray, List.getElem_cons_succ, List.getElem_cons_zero]
            refine wpTill_take true (i := 13) (v := ?_) rfl (by kernel_rfl) (by kernel_rfl) (by kernel_rfl) (fun _ _ _ h => h) (by kernel_rfl) (Or.inl ⟨by first | rfl | kernel_rfl, ?_⟩) hHeld (fun hHeld => ?_)
            rotate_left
            · (intro w' hSw; obtain ⟨-, r3⟩ := hSw; (try (obtain ⟨r4, r5⟩ := r3 rfl)); clear r3; go_simp; try with_reducible rfl)
            try simp only [Act.put, List.setIfInBounds_toArray, List.set_cons_zero, List.set_cons_succ, List.getElem_toArray, List.getElem_cons_succ, List.getElem_cons_zero]
            refine wpTill_take false (i := 14) (v := ?_) rfl (by kernel_rfl) (by kernel_rfl) (by kernel_rfl) (fun _ _ _ h => h) (by kernel_rfl) (Or.inl ⟨by first | rfl | kernel_rfl, ?_⟩) hHeld (fun hHeld => ?_)
            rotate_left
            · (intro w' hSw; obtain ⟨-, r3⟩ := hSw; (try (obtain ⟨r4, r5⟩ := r3 rfl)); clear r3; go_simp; try with_reducible rfl)
            try simp only [Act.put, List.setIfInBounds_toArray, List.set_cons_zero, List.set_cons_succ, List.getElem_toArray, List.getElem_cons_succ, List.getElem_cons_zero]
            refine wpTill_one (i := 15) (by kernel_rfl) rfl (fun K hK => ?_)
            rw [if_pos (by kernel_rfl)]
            go_simp
            refine hK _ _ ⟨trivial, fun h => (by cases h)⟩ (fun hHeld => ?_)
            clear hK K
            refine wpTill_take false (i := 16) (v := ?_) rfl (by kernel_rfl) (by kernel_rfl) (by kernel_rfl) (fun _ _ _ h => h) (by kernel_rfl) (Or.inl ⟨by first | rfl | kernel_rfl, ?_⟩) hHeld (fun hHeld => ?_)
            rotate_left
            · (intro w' hSw; obtain ⟨-, r3⟩ := hSw; (try (obtain ⟨r4, r5⟩ := r3 rfl)); clear r3; go_simp; try with_reducible rfl)
            try simp only [Act.put, List.setIfInBounds_toArray, List.set_cons_zero, List.set_cons_succ, List.getElem_toArray, List.getElem_cons_succ, List.getElem_cons_zero]
            refine wpTill_one (i := 17) (by kernel_rfl) rfl (fun K hK => ?_)
            rw [if_pos (by kernel_rfl)]
            go_simp
            refine hK _ _ ⟨trivial, fun h => (by cases h)⟩ (fun hHeld => ?_)
            clear hK K
            refine wpTill_done (by kernel_rfl) ?_ 0
            clear hHeld
            go_wp2_with fail
            go_roundw
            case rel => exact ⟨p, by have := HP.out; omega, by have := HP.out; omega, rfl, HS, Lib.hid (fun t t1 t2 => by
              by_cases c : t = p
              · rw [c, HX.out, HY.out]; exact hlt.out
              · exact K.out t (by have := HP.out; omega) t2)⟩
            case measure => have := HP.out; simp [intOf]; omega
          · have hr : 0 ≤ cm f x y := by
              by_cases c : cm f x y < 0
              · exact absurd (hcm.1 c) hlt
              · omega
            have hlt := Lib.hid hlt
            clear hcm
            generalize cm f x y = r at *
            go_wp2_with fail
            go_region_held3 (fun w' => w'.cell? ⟨g, j0, none⟩ = some (.int .i64 (x : Int)) ∧ w'.cell? ⟨g, p, none⟩ = some (.int .i64 (y : Int)))
              (first | exact SC.out _ H5 | exact SC.out _ HD)
              (first | (go_at_call 117; refine (CC.out _ HD).mono ?_; rintro e1 w5 ⟨rfl, k5⟩; have H5 := sw_next HD k5))
            have G2 : Hid (Gdo (ky f) (rot d1 j0 i0 (i0 + 1)) n ∧ Mv d (rot d1 j0 i0 (i0 + 1)) a b ∧ Sr (ky f) (rot d1 j0 i0 (i0 + 1)) a (i0 + 1)) := Lib.hid ⟨dn_good G.out.1 hj2 (by omega) K.out, G.out.2.1.trans ((rot_mv hj2 (by omega)).mono hj1 (by omega)), dn_sr G.out.2.2 hj1 hj2 K.out (.inr (by rw [show j0 - 1 = p by have := HP.out; omega, HY.out, HX.out]; have := hlt.out; omega))⟩
            go_wp2_with fail
            go_roundw
            case rel => exact ⟨i0 + 1, _, by omega, by omega, by simp, H5, G2⟩
            case measure => simp [intOf]; omega
        · obtain rfl : a = j0 := by omega
          have hj2 := hj1
          have G2 : Hid (Gdo (ky f) (rot d1 a i0 (i0 + 1)) n ∧ Mv d (rot d1 a i0 (i0 + 1)) a b ∧ Sr (ky f) (rot d1 a i0 (i0 + 1)) a (i0 + 1)) := Lib.hid ⟨dn_good G.out.1 (by omega) (by omega) K.out, G.out.2.1.trans ((rot_mv (by omega) (by omega)).mono (Nat.le_refl _) (by omega)), dn_sr G.out.2.2 (Nat.le_refl _) (by omega) K.out (.inl rfl)⟩
          go_wp2_with fail
          go_quiet (fail)
          go_wp2_with fail
          go_roundw
          case rel => exact ⟨i0 + 1, _, by omega, by omega, by simp, sw_next H (below_drewN' (Below.refl _ _) _), G2⟩
          case measure => simp [intOf]; omega
    · have G2 : Hid (Gdo (ky f) d1 n ∧ Mv d d1 a b ∧ Sr (ky f) d1 a b) := Lib.hid ⟨G.out.1, G.out.2.1, fun s t s1 st t2 => G.out.2.2 s t s1 st (by omega)⟩
      go_wp2_with fail
      refine bodyPost_end (v := .tuple #[]) ?_ rfl ⟨rfl, d1, H, G2⟩
      simp [results, Try.results168, go_sem]
end Go.Proofs.Ytgkahcchekiogaa.Rtk
