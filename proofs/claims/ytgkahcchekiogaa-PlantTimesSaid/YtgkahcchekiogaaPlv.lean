/- Walks of the reference's plant: Nap. -/
import Derived.Test.YtgkahcchekiogaaPlu
namespace Go.Proofs.Ytgkahcchekiogaa.Plv
open Go.RowKit Base Kit RefA Alt WideA WideB RefC Plain MetA MetB MetC MetR MetQ Conf Plb Held Plr Cls Pls
set_option linter.unusedVariables false
set_option linter.unusedSimpArgs false
attribute [local go_sem ↓] Go.wp_at_zero Go.wp_at_succ
def sp3 (a b c : Int) : Nat → Int := fun i => if i = 0 then a else if i = 1 then b else c
/-- the rows of times, kinds and powers -/
structure R3 (w : World) (sb kb pb : Nat) (c : PowC) (y0 y1 y2 ns : Int) : Prop where
  s : Box w sb #[.int .i64 y1, .int .i64 ns, .int .i64 y2] 3
  k : Box w kb #[.int .i64 3, .int .i64 2, .int .i64 3] 3
  p : Box w pb #[.int .i64 c.ch, .int .i64 y0, .int .i64 c.ch] 3
theorem r3_alt {S : Nat → Prop} {w w1 : World} {sb kb pb : Nat} {c : PowC} {y0 y1 y2 ns : Int} (h : Hid (R3 w sb kb pb c y0 y1 y2 ns)) (k : Alt S w w1) (h1 : ¬ S sb) (h2 : ¬ S kb) (h3 : ¬ S pb) : Hid (R3 w1 sb kb pb c y0 y1 y2 ns) :=
  Lib.hid ⟨box_alt h.out.s k h1, box_alt h.out.k k h2, box_alt h.out.p k h3⟩
theorem r3_next {w w1 : World} {sb kb pb : Nat} {c : PowC} {y0 y1 y2 ns : Int} (h : Hid (R3 w sb kb pb c y0 y1 y2 ns)) (k : Below w.heap.size w w1) : Hid (R3 w1 sb kb pb c y0 y1 y2 ns) :=
  Lib.hid ⟨h.out.s.next k, h.out.k.next k, h.out.p.next k⟩
theorem rx_ne {w0 w : World} {b m q cap n : Nat} {c : PowC} {s : PS} (h : Hid (RPl w0 w b m q cap n c s)) {x : Nat} {vs : Array Value} {T : TypeId} (hx : Box w x vs T) (h1 : T ≠ 108) (h2 : T ≠ 177) : ¬ RX b m x := by
  intro e
  rcases e with e | e
  · exact box_ne hx h.out.box h1 e
  · exact box_ne hx h.out.met.out.box h2 e
theorem r3_step {w0 w w1 : World} {b m q cap n : Nat} {c : PowC} {s : PS} (h : Hid (RPl w0 w b m q cap n c s)) {sb kb pb : Nat} {y0 y1 y2 ns : Int} (r : Hid (R3 w sb kb pb c y0 y1 y2 ns)) (a : Alt (RX b m) w w1) : Hid (R3 w1 sb kb pb c y0 y1 y2 ns) :=
  r3_alt r a (rx_ne h r.out.s (by decide) (by decide)) (rx_ne h r.out.k (by decide) (by decide)) (rx_ne h r.out.p (by decide) (by decide))
theorem sp_cell {w : World} {sb : Nat} {y1 ns y2 : Int} (h : Hid (Box w sb #[.int .i64 y1, .int .i64 ns, .int .i64 y2] 3)) (i : Nat) (hi : i < 3) : w.cell? ⟨sb, i, none⟩ = some (.int .i64 (sp3 y1 ns y2 i)) := by
  have : i = 0 ∨ i = 1 ∨ i = 2 := by omega
  rcases this with rfl | rfl | rfl <;> (rw [h.out.cell]; rfl)
theorem sp_i64 {y1 ns y2 : Int} (j1 : I64 y1) (j2 : I64 y2) (hn : 0 ≤ ns ∧ ns ≤ 9223372036854775807) (i : Nat) : I64 (sp3 y1 ns y2 i) := by
  unfold sp3
  split
  · exact j1
  · split
    · exact ⟨by omega, by omega⟩
    · exact j2
theorem sum_bd {f : Nat → Int} {tn : Int} {k : Nat} (h : Hid (∀ j, j < k → 0 ≤ f j ∧ sumTo f (j + 1) ≤ 2305843009213693952 - tn)) : 0 ≤ sumTo f k ∧ (k ≠ 0 → sumTo f k ≤ 2305843009213693952 - tn) := by
  refine ⟨sumTo_nonneg (fun j hj => (h.out j hj).1), fun hk => ?_⟩
  obtain ⟨j, rfl⟩ : ∃ j, k = j + 1 := ⟨k - 1, by omega⟩
  exact (h.out j (by omega)).2
set_option maxRecDepth 100000 in
set_option maxHeartbeats 8000000 in
theorem rnap_any {w0 w : World} {b m q cap n : Nat} {c : PowC} {s : PS} (h : Hid (RPl w0 w b m q cap n c s)) (a cnt dr : Int) (hc : I64 cnt) (hd : I64 dr) :
    Calls Try.prog 65 #[.pointer (some ⟨b, 0, none⟩), .int .i64 a, .int .i64 cnt, .int .i64 dr] w (RPost w0 w b m q n c) := by
  have hb := h.out.box.cell
  by_cases h1 : a < 0
  · --
    go_enter Try.func65, Try.ntmps65
    go_wp2_with fail
    go_ret
    exact ⟨_, _, _, _, rfl, rp_same h (Below.refl _ _)⟩
  have h1 : 0 ≤ a := by omega
  by_cases h2 : (c.nn : Int) ≤ a
  · --
    go_enter Try.func65, Try.ntmps65
    go_wp2_with fail
    go_ret
    exact ⟨_, _, _, _, rfl, rp_same h (Below.refl _ _)⟩
  have h2 : a < (c.nn : Int) := by omega
  obtain ⟨ns, hns⟩ : ∃ t, (OscPlain.el c.sl dr cnt).1 = t := ⟨_, rfl⟩
  obtain ⟨f, hf⟩ : ∃ t, (OscPlain.el c.sl dr cnt).2 = t := ⟨_, rfl⟩
  have NSB := Plf.el1_bd c.sl dr cnt
  rw [hns] at NSB
  have C := Lib.hid (fun w => OscB.elapsedr_any c.sl dr cnt ns f w (Lib.hid (Prod.ext hns hf)) hc)
  clear hns hf
  go_enter Try.func65, Try.ntmps65
  go_wp2_with fail
  refine (C.out _).mono ?_
  rintro e1 w1 ⟨rfl, hb1⟩
  have P1 := rp_next h hb1
  have R1 := rp_same h hb1
  clear hb1 hb C
  have hb := P1.out.box.cell
  by_cases h3 : f = 0
  · subst h3
    obtain ⟨k, rfl⟩ := Int.eq_ofNat_of_zero_le h1
    have hk : k < c.nn := by omega
    obtain ⟨d, o, ea, l1, q0, q1, q2, j0, j1, j2⟩ := rows_at3 h.out.co.nap k hk
    obtain ⟨y0, hy0⟩ : ∃ y, c.nf k 0 = y := ⟨_, rfl⟩
    obtain ⟨y1, hy1⟩ : ∃ y, c.nf k 1 = y := ⟨_, rfl⟩
    obtain ⟨y2, hy2⟩ : ∃ y, c.nf k 2 = y := ⟨_, rfl⟩
    rw [hy0] at q0 j0
    rw [hy1] at q1 j1
    rw [hy2] at q2 j2
    have EA := Lib.hid ea
    have hb2 := hb
    rw [ea] at hb2
    clear hb
    have hbl := P1.out.box.lt
    have g0 := keep P1.out.bel q0 l1
    have g1 := keep P1.out.bel q1 l1
    have g2 := keep P1.out.bel q2 l1
    have n0 := h.out.ok.now
    obtain ⟨tn, htn⟩ : ∃ t, s.now = t := ⟨_, rfl⟩
    rw [htn] at hb2 n0
    have HT := Lib.hid htn
    clear hy0 hy1 hy2 ea q0 q1 q2 htn
    have BN := Lib.hid ((Box.new w1 #[.int .i64 y0, .int .i64 y1, .int .i64 y2] 131).alloc (.cells #[.int .i64 y1, .int .i64 ns, .int .i64 y2] 3))
    have BS := (Box.new (w1.alloc (.cells #[.int .i64 y0, .int .i64 y1, .int .i64 y2] 131)) #[.int .i64 y1, .int .i64 ns, .int .i64 y2] 3)
    rw [World.size_alloc] at BS
    have BS := Lib.hid BS
    have HB2 := Lib.hid (((Below.refl w1.heap.size w1).alloc (Nat.le_refl _) (.cells #[.int .i64 y0, .int .i64 y1, .int .i64 y2] 131)).alloc (by simp) (.cells #[.int .i64 y1, .int .i64 ns, .int .i64 y2] 3))
    have P2 := rp_next P1 HB2.out
    have R2 := rp_step R1 (Alt.of_below HB2.out) (.inl rfl) P2
    clear P1 R1 HB2
    go_wp2_with fail
    generalize (w1.alloc (.cells #[.int .i64 y0, .int .i64 y1, .int .i64 y2] 131)).alloc (.cells #[.int .i64 y1, .int .i64 ns, .int .i64 y2] 3) = w2 at *
    clear g0 g1 g2 hb2 hbl
    go_loop [13, 14] (fun l i => ∃ k : Nat, k ≤ 3 ∧ i = .int .i64 k ∧ l = .int .i64 (2305843009213693952 - tn - sumTo (sp3 y1 ns y2) k) ∧ Hid (∀ j, j < k → 0 ≤ sp3 y1 ns y2 j ∧ sumTo (sp3 y1 ns y2) (j + 1) ≤ 2305843009213693952 - tn)) (fun _ i => 3 - (intOf i).toNat)
    case atStart => exact ⟨0, by omega, rfl, by simp [sumTo], Lib.hid (fun j hj => by omega)⟩
    case round =>
      obtain ⟨i, hi, rfl, rfl, RJ⟩ := hrel
      by_cases hlt : i < 3
      · have cs := sp_cell BS i hlt
        have es : sumTo (sp3 y1 ns y2) (i + 1) = sumTo (sp3 y1 ns y2) i + sp3 y1 ns y2 i := rfl
        have hs := sum_bd RJ
        have vi := sp_i64 j1 j2 NSB i
        have NX := Lib.hid (fun (hv : 0 ≤ sp3 y1 ns y2 i ∧ sp3 y1 ns y2 i ≤ 2305843009213693952 - tn - sumTo (sp3 y1 ns y2) i) => show ∀ j, j < i + 1 → 0 ≤ sp3 y1 ns y2 j ∧ sumTo (sp3 y1 ns y2) (j + 1) ≤ 2305843009213693952 - tn from fun j hj => by
          by_cases e : j = i
          · subst e; exact ⟨hv.1, by rw [es]; omega⟩
          · exact RJ.out j (by omega))
        have ES := Lib.hid es
        clear es
        generalize sp3 y1 ns y2 i = v at *
        generalize sumTo (sp3 y1 ns y2) i = S at *
        by_cases hv : v < 0
        · go_wp2_with fail
          go_ret
          exact ⟨_, _, _, _, rfl, R2⟩
        have d1 : decide (v < 0) = false := by simpa using hv
        have hv : 0 ≤ v := by omega
        by_cases hw : 2305843009213693952 - tn - S < v
        · go_wp2_with fail
          go_ret
          exact ⟨_, _, _, _, rfl, R2⟩
        have NX := Lib.hid (NX.out ⟨hv, by omega⟩)
        have hw : v ≤ 2305843009213693952 - tn - S := by omega
        go_wp2_with fail
        go_round
        case rel => exact ⟨i + 1, by omega, by go_num, by rw [ES.out]; congr 1; omega, NX⟩
        case measure => simp [intOf]; omega
      · obtain rfl : i = 3 := by omega
        have RJ2 := RJ
        have BK := Lib.hid (Box.new w2 #[.int .i64 3, .int .i64 2, .int .i64 3] 3)
        have HB3 := (Below.refl w2.heap.size w2).alloc (Nat.le_refl _) (.cells #[.int .i64 3, .int .i64 2, .int .i64 3] 3)
        have P3 := rp_next P2 HB3
        have R3' := rp_step R2 (Alt.of_below HB3) (.inl rfl) P3
        have BS3 := Lib.hid (BS.out.next HB3)
        have BN3 := Lib.hid (BN.out.next HB3)
        clear BS BN P2 R2 HB3
        go_wp2_with fail
        generalize w2.alloc (.cells #[.int .i64 3, .int .i64 2, .int .i64 3] 3) = w3 at *
        have D := (Below.refl w3.heap.size w3).drew
        have P4 := rp_next P3 D
        have R4 := rp_step R3' (Alt.of_below D) (.inl rfl) P4
        have BS4 := Lib.hid (BS3.out.next D)
        have BN4 := Lib.hid (BN3.out.next D)
        have BK4 := Lib.hid (BK.out.next D)
        clear BS3 BN3 BK P3 R3' D
        have pd := P4.out.box.cell
        have nd := BN4.out.cell
        refine wp_region_till (fun w' => (∀ i, w'.cell? ⟨b, i, none⟩ = (#[.int .i64 s.now, .int .i64 s.base, .int .i64 s.done, .int .i64 s.level, .slice c.la c.ln c.lc, .slice c.na c.nn c.nc, .int .i64 c.sw, .int .i64 c.id, .int .i64 c.ch, .int .i64 c.qu, .int .i64 c.sl, .int .i64 c.pp, .pointer (some ⟨m, 0, none⟩)] : Array Value)[i]?) ∧ ∀ i, w'.cell? ⟨w1.heap.size, i, none⟩ = (#[.int .i64 y0, .int .i64 y1, .int .i64 y2] : Array Value)[i]?) (fun w' => True) 12 14 #[false, false, false, false, false, false, false, false, false, false, false, false, false, false] (by kernel_rfl) rfl rfl ⟨⟨pd, nd⟩, trivial⟩ (fun hHeld => ?_)
        have SZ3 : Hid (w3.drew.heap.size = w3.heap.size) := Lib.hid rfl
        generalize w3.drew = w4 at *
        refine HeldT.wpTill_takeT false (i := 0) (v := ?_) rfl (by kernel_rfl) (by kernel_rfl) (by kernel_rfl) (fun _ _ _ h => h) (by kernel_rfl) (Or.inl ⟨by first | rfl | kernel_rfl, ?_⟩) hHeld (fun hHeld => ?_)
        rotate_left
        · (intro w' hSw; obtain ⟨⟨r1, r2⟩, r3⟩ := hSw; (try have r4 := r3 rfl); (try dsimp only at r1 r2 r4); clear r3; go_simp; try with_reducible rfl)
        try simp only [Act.put, List.setIfInBounds_toArray, List.set_cons_zero, List.set_cons_succ, List.getElem_toArray, List.getElem_cons_succ, List.getElem_cons_zero]
        refine HeldT.wpTill_takeT false (i := 1) (v := ?_) rfl (by kernel_rfl) (by kernel_rfl) (by kernel_rfl) (fun _ _ _ h => h) (by kernel_rfl) (Or.inl ⟨by first | rfl | kernel_rfl, ?_⟩) hHeld (fun hHeld => ?_)
        rotate_left
        · (intro w' hSw; obtain ⟨⟨r1, r2⟩, r3⟩ := hSw; (try have r4 := r3 rfl); (try dsimp only at r1 r2 r4); clear r3; go_simp; try with_reducible rfl)
        try simp only [Act.put, List.setIfInBounds_toArray, List.set_cons_zero, List.set_cons_succ, List.getElem_toArray, List.getElem_cons_succ, List.getElem_cons_zero]
        refine HeldT.wpTill_takeT false (i := 2) (v := ?_) rfl (by kernel_rfl) (by kernel_rfl) (by kernel_rfl) (fun _ _ _ h => h) (by kernel_rfl) (Or.inl ⟨by first | rfl | kernel_rfl, ?_⟩) hHeld (fun hHeld => ?_)
        rotate_left
        · (intro w' hSw; obtain ⟨⟨r1, r2⟩, r3⟩ := hSw; (try have r4 := r3 rfl); (try dsimp only at r1 r2 r4); clear r3; go_simp; try with_reducible rfl)
        try simp only [Act.put, List.setIfInBounds_toArray, List.set_cons_zero, List.set_cons_succ, List.getElem_toArray, List.getElem_cons_succ, List.getElem_cons_zero]
        refine HeldT.wpTill_takeT false (i := 3) (v := ?_) rfl (by kernel_rfl) (by kernel_rfl) (by kernel_rfl) (fun _ _ _ h => h) (by kernel_rfl) (Or.inl ⟨by first | rfl | kernel_rfl, ?_⟩) hHeld (fun hHeld => ?_)
        rotate_left
        · (intro w' hSw; obtain ⟨⟨r1, r2⟩, r3⟩ := hSw; (try have r4 := r3 rfl); (try dsimp only at r1 r2 r4); clear r3; go_simp; try with_reducible rfl)
        try simp only [Act.put, List.setIfInBounds_toArray, List.set_cons_zero, List.set_cons_succ, List.getElem_toArray, List.getElem_cons_succ, List.getElem_cons_zero]
        refine HeldT.wpTill_takeT false (i := 4) (v := ?_) rfl (by kernel_rfl) (by kernel_rfl) (by kernel_rfl) (fun _ _ _ h => h) (by kernel_rfl) (Or.inl ⟨by first | rfl | kernel_rfl, ?_⟩) hHeld (fun hHeld => ?_)
        rotate_left
        · (intro w' hSw; obtain ⟨⟨r1, r2⟩, r3⟩ := hSw; (try have r4 := r3 rfl); (try dsimp only at r1 r2 r4); clear r3; go_simp; try with_reducible rfl)
        try simp only [Act.put, List.setIfInBounds_toArray, List.set_cons_zero, List.set_cons_succ, List.getElem_toArray, List.getElem_cons_succ, List.getElem_cons_zero]
        refine HeldT.wpTill_takeT false (i := 5) (v := ?_) rfl (by kernel_rfl) (by kernel_rfl) (by kernel_rfl) (fun _ _ _ h => h) (by kernel_rfl) (Or.inl ⟨by first | rfl | kernel_rfl, ?_⟩) hHeld (fun hHeld => ?_)
        rotate_left
        · (intro w' hSw; obtain ⟨⟨r1, r2⟩, r3⟩ := hSw; (try have r4 := r3 rfl); (try dsimp only at r1 r2 r4); clear r3; go_simp; try with_reducible rfl)
        try simp only [Act.put, List.setIfInBounds_toArray, List.set_cons_zero, List.set_cons_succ, List.getElem_toArray, List.getElem_cons_succ, List.getElem_cons_zero]
        refine HeldT.wpTill_takeT false (i := 6) (v := ?_) rfl (by kernel_rfl) (by kernel_rfl) (by kernel_rfl) (fun _ _ _ h => h) (by kernel_rfl) (Or.inl ⟨by first | rfl | kernel_rfl, ?_⟩) hHeld (fun hHeld => ?_)
        rotate_left
        · (intro w' hSw; obtain ⟨⟨r1, r2⟩, r3⟩ := hSw; (try have r4 := r3 rfl); (try dsimp only at r1 r2 r4); clear r3; go_simp; try with_reducible rfl)
        try simp only [Act.put, List.setIfInBounds_toArray, List.set_cons_zero, List.set_cons_succ, List.getElem_toArray, List.getElem_cons_succ, List.getElem_cons_zero]
        refine HeldT.wpTill_takeT false (i := 7) (v := ?_) rfl (by kernel_rfl) (by kernel_rfl) (by kernel_rfl) (fun _ _ _ h => h) (by kernel_rfl) (Or.inl ⟨by first | rfl | kernel_rfl, ?_⟩) hHeld (fun hHeld => ?_)
        rotate_left
        · (intro w' hSw; obtain ⟨⟨r1, r2⟩, r3⟩ := hSw; (try have r4 := r3 rfl); (try dsimp only at r1 r2 r4); clear r3; go_simp; try with_reducible rfl)
        try simp only [Act.put, List.setIfInBounds_toArray, List.set_cons_zero, List.set_cons_succ, List.getElem_toArray, List.getElem_cons_succ, List.getElem_cons_zero]
        refine HeldT.wpTill_takeT false (i := 8) (v := ?_) rfl (by kernel_rfl) (by kernel_rfl) (by kernel_rfl) (fun _ _ _ h => h) (by kernel_rfl) (Or.inl ⟨by first | rfl | kernel_rfl, ?_⟩) hHeld (fun hHeld => ?_)
        rotate_left
        · (intro w' hSw; obtain ⟨⟨r1, r2⟩, r3⟩ := hSw; (try have r4 := r3 rfl); (try dsimp only at r1 r2 r4); clear r3; go_simp; try with_reducible rfl)
        try simp only [Act.put, List.setIfInBounds_toArray, List.set_cons_zero, List.set_cons_succ, List.getElem_toArray, List.getElem_cons_succ, List.getElem_cons_zero]
        refine HeldT.wpTill_takeT false (i := 9) (v := ?_) rfl (by kernel_rfl) (by kernel_rfl) (by kernel_rfl) (fun _ _ _ h => h) (by kernel_rfl) (Or.inl ⟨by first | rfl | kernel_rfl, ?_⟩) hHeld (fun hHeld => ?_)
        rotate_left
        · (intro w' hSw; obtain ⟨⟨r1, r2⟩, r3⟩ := hSw; (try have r4 := r3 rfl); (try dsimp only at r1 r2 r4); clear r3; go_simp; try with_reducible rfl)
        try simp only [Act.put, List.setIfInBounds_toArray, List.set_cons_zero, List.set_cons_succ, List.getElem_toArray, List.getElem_cons_succ, List.getElem_cons_zero]
        refine HeldT.wpTill_takeT false (i := 10) (v := ?_) rfl (by kernel_rfl) (by kernel_rfl) (by kernel_rfl) (fun _ _ _ h => h) (by kernel_rfl) (Or.inl ⟨by first | rfl | kernel_rfl, ?_⟩) hHeld (fun hHeld => ?_)
        rotate_left
        · (intro w' hSw; obtain ⟨⟨r1, r2⟩, r3⟩ := hSw; (try have r4 := r3 rfl); (try dsimp only at r1 r2 r4); clear r3; go_simp; try with_reducible rfl)
        try simp only [Act.put, List.setIfInBounds_toArray, List.set_cons_zero, List.set_cons_succ, List.getElem_toArray, List.getElem_cons_succ, List.getElem_cons_zero]
        refine HeldT.wpTill_takeT false (i := 11) (v := ?_) rfl (by kernel_rfl) (by kernel_rfl) (by kernel_rfl) (fun _ _ _ h => h) (by kernel_rfl) (Or.inl ⟨by first | rfl | kernel_rfl, ?_⟩) hHeld (fun hHeld => ?_)
        rotate_left
        · (intro w' hSw; obtain ⟨⟨r1, r2⟩, r3⟩ := hSw; (try have r4 := r3 rfl); (try dsimp only at r1 r2 r4); clear r3; go_simp; try with_reducible rfl)
        try simp only [Act.put, List.setIfInBounds_toArray, List.set_cons_zero, List.set_cons_succ, List.getElem_toArray, List.getElem_cons_succ, List.getElem_cons_zero]
        refine wpTill_one (i := 12) (by kernel_rfl) rfl (fun K hK => ?_)
        go_simp
        have HB5 := (Below.refl w4.heap.size w4).alloc (Nat.le_refl _) (.cells #[.int .i64 c.ch, .int .i64 y0, .int .i64 c.ch] 3)
        have P5 := rp_next P4 HB5
        have R5 := rp_step R4 (Alt.of_below HB5) (.inl rfl) P5
        have T5 : Hid (R3 (w4.alloc (.cells #[.int .i64 c.ch, .int .i64 y0, .int .i64 c.ch] 3)) (w1.heap.size + 1) w2.heap.size w4.heap.size c y0 y1 y2 ns) := Lib.hid ⟨BS4.out.next HB5, BK4.out.next HB5, Box.new _ _ _⟩
        refine hK _ _ ⟨⟨P5.out.box.cell, (BN4.out.next HB5).cell⟩, fun _ => trivial⟩ (fun hHeld => ?_)
        clear hK K
        refine HeldT.wpTill_takeT false (i := 13) (v := ?_) rfl (by kernel_rfl) (by kernel_rfl) (by kernel_rfl) (fun _ _ _ h => h) (by kernel_rfl) (Or.inl ⟨by first | rfl | kernel_rfl, ?_⟩) hHeld (fun hHeld => ?_)
        rotate_left
        · (intro w' hSw; obtain ⟨⟨r1, r2⟩, r3⟩ := hSw; (try have r4 := r3 rfl); (try dsimp only at r1 r2 r4); clear r3; go_simp; try with_reducible rfl)
        try simp only [Act.put, List.setIfInBounds_toArray, List.set_cons_zero, List.set_cons_succ, List.getElem_toArray, List.getElem_cons_succ, List.getElem_cons_zero]
        refine wpTill_done (by kernel_rfl) ?_ 0
        clear hHeld pd nd BS4 BK4 BN4 P4 R4 HB5
        generalize (w4.alloc (.cells #[.int .i64 c.ch, .int .i64 y0, .int .i64 c.ch] 3)) = w5 at *
        go_wp2_with fail
        have NOW := Lib.hid (show s.now = tn + sumTo (sp3 y1 ns y2) 0 by rw [HT.out]; simp [sumTo])
        have R5 := Lib.hid R5
        clear P5 EA HT RJ
        have RJ := RJ2
        go_loopw [17] (fun x wr => ∃ (i : Nat) (s' : PS) (q' cap' : Nat), i ≤ 3 ∧ x = .int .i64 i ∧ Hid (RP w0 w wr b m q n c s' q' cap') ∧ Hid (R3 wr (w1.heap.size + 1) w2.heap.size w4.heap.size c y0 y1 y2 ns) ∧ Hid (s'.now = tn + sumTo (sp3 y1 ns y2) i)) (fun x _ => 3 - (intOf x).toNat)
        case atStart => exact ⟨0, s, q, cap, by omega, rfl, R5, T5, NOW⟩
        case round =>
          clear R5 T5 NOW
          obtain ⟨i, s', q', cap', hi, rfl, R5, T5, NOW⟩ := hrel
          have P5 := R5.out.pl
          by_cases hlt : i < 3
          · obtain ⟨tm, htm⟩ : ∃ t, s'.now = t := ⟨_, rfl⟩
            have HTM2 := Lib.hid (htm.symm.trans NOW.out)
            have HTM := Lib.hid htm
            have es : sumTo (sp3 y1 ns y2) (i + 1) = sumTo (sp3 y1 ns y2) i + sp3 y1 ns y2 i := rfl
            obtain ⟨v0, v1⟩ := RJ.out i hlt
            rw [es] at v1
            have vi := sp_i64 j1 j2 NSB i
            have tm0 := P5.out.ok.now
            rw [htm] at tm0
            have D := (Below.refl wr.heap.size wr).drew
            have P6 := rp_next P5 D
            have R6 := rp_step R5.out (Alt.of_below D) (.inl rfl) P6
            have T6 := r3_next T5 D
            clear D P5 R5 T5
            have b1 := T6.out.k.cell
            have b2 := T6.out.p.cell
            have ck : wr.drew.cell? ⟨w2.heap.size, i, none⟩ = some (.int .i64 (sp3 3 2 3 i)) := sp_cell (Lib.hid T6.out.k) i hlt
            have cp : wr.drew.cell? ⟨w4.heap.size, i, none⟩ = some (.int .i64 (sp3 c.ch y0 c.ch i)) := sp_cell (Lib.hid T6.out.p) i hlt
            have cs : wr.drew.cell? ⟨w1.heap.size + 1, i, none⟩ = some (.int .i64 (sp3 y1 ns y2 i)) := sp_cell (Lib.hid T6.out.s) i hlt
            have pi : I64 (sp3 c.ch y0 c.ch i) := by
              have := h.out.co.ch
              unfold sp3; split; exact this; split; exact j0; exact this
            have ES := Lib.hid es
            have SC := Lib.hid (fun (w' : World) (h : Hid (R3 w' (w1.heap.size + 1) w2.heap.size w4.heap.size c y0 y1 y2 ns)) => And.intro (sp_cell (Lib.hid h.out.k) i hlt) (And.intro (sp_cell (Lib.hid h.out.p) i hlt) (sp_cell (Lib.hid h.out.s) i hlt)))
            clear b1 b2 htm es
            generalize sp3 3 2 3 i = vk at *
            generalize sp3 c.ch y0 c.ch i = vp at *
            generalize sp3 y1 ns y2 i = v at *
            generalize sumTo (sp3 y1 ns y2) i = S at *
            have pd := P6.out.box.cell
            rw [HTM.out] at pd
            go_wp2_with fail
            refine wp_region_till (fun w' => (∀ i, w'.cell? ⟨b, i, none⟩ = (#[.int .i64 tm, .int .i64 s'.base, .int .i64 s'.done, .int .i64 s'.level, .slice c.la c.ln c.lc, .slice c.na c.nn c.nc, .int .i64 c.sw, .int .i64 c.id, .int .i64 c.ch, .int .i64 c.qu, .int .i64 c.sl, .int .i64 c.pp, .pointer (some ⟨m, 0, none⟩)] : Array Value)[i]?) ∧ w'.cell? ⟨w2.heap.size, i, none⟩ = some (.int .i64 vk) ∧ w'.cell? ⟨w4.heap.size, i, none⟩ = some (.int .i64 vp) ∧ w'.cell? ⟨w1.heap.size + 1, i, none⟩ = some (.int .i64 v)) (fun w' => True) 16 18 #[false, false, false, false, false, false, false, false, false, false, false, false, false, false, false, false, false, false] (by kernel_rfl) rfl rfl ⟨⟨pd, ck, cp, cs⟩, trivial⟩ (fun hHeld => ?_)
            refine HeldT.wpTill_takeT false (i := 0) (v := ?_) rfl (by kernel_rfl) (by kernel_rfl) (by kernel_rfl) (fun _ _ _ h => h) (by kernel_rfl) (Or.inl ⟨by first | rfl | kernel_rfl, ?_⟩) hHeld (fun hHeld => ?_)
            rotate_left
            · (intro w' hSw; obtain ⟨⟨r1, r2⟩, r3⟩ := hSw; (try have r4 := r3 rfl); (try dsimp only at r1 r2 r4); clear r3; go_simp; try with_reducible rfl)
            try simp only [Act.put, List.setIfInBounds_toArray, List.set_cons_zero, List.set_cons_succ, List.getElem_toArray, List.getElem_cons_succ, List.getElem_cons_zero]
            refine HeldT.wpTill_takeT false (i := 1) (v := ?_) rfl (by kernel_rfl) (by kernel_rfl) (by kernel_rfl) (fun _ _ _ h => h) (by kernel_rfl) (Or.inl ⟨by first | rfl | kernel_rfl, ?_⟩) hHeld (fun hHeld => ?_)
            rotate_left
            · (intro w' hSw; obtain ⟨⟨r1, r2⟩, r3⟩ := hSw; (try have r4 := r3 rfl); (try dsimp only at r1 r2 r4); clear r3; go_simp; try with_reducible rfl)
            try simp only [Act.put, List.setIfInBounds_toArray, List.set_cons_zero, List.set_cons_succ, List.getElem_toArray, List.getElem_cons_succ, List.getElem_cons_zero]
            refine HeldT.wpTill_takeT false (i := 2) (v := ?_) rfl (by kernel_rfl) (by kernel_rfl) (by kernel_rfl) (fun _ _ _ h => h) (by kernel_rfl) (Or.inl ⟨by first | rfl | kernel_rfl, ?_⟩) hHeld (fun hHeld => ?_)
            rotate_left
            · (intro w' hSw; obtain ⟨⟨r1, r2⟩, r3⟩ := hSw; (try have r4 := r3 rfl); (try dsimp only at r1 r2 r4); clear r3; go_simp; try with_reducible rfl)
            try simp only [Act.put, List.setIfInBounds_toArray, List.set_cons_zero, List.set_cons_succ, List.getElem_toArray, List.getElem_cons_succ, List.getElem_cons_zero]
            refine HeldT.wpTill_takeT false (i := 3) (v := ?_) rfl (by kernel_rfl) (by kernel_rfl) (by kernel_rfl) (fun _ _ _ h => h) (by kernel_rfl) (Or.inl ⟨by first | rfl | kernel_rfl, ?_⟩) hHeld (fun hHeld => ?_)
            rotate_left
            · (intro w' hSw; obtain ⟨⟨r1, r2⟩, r3⟩ := hSw; (try have r4 := r3 rfl); (try dsimp only at r1 r2 r4); clear r3; go_simp; try with_reducible rfl)
            try simp only [Act.put, List.setIfInBounds_toArray, List.set_cons_zero, List.set_cons_succ, List.getElem_toArray, List.getElem_cons_succ, List.getElem_cons_zero]
            refine HeldT.wpTill_takeT false (i := 4) (v := ?_) rfl (by kernel_rfl) (by kernel_rfl) (by kernel_rfl) (fun _ _ _ h => h) (by kernel_rfl) (Or.inl ⟨by first | rfl | kernel_rfl, ?_⟩) hHeld (fun hHeld => ?_)
            rotate_left
            · (intro w' hSw; obtain ⟨⟨r1, r2⟩, r3⟩ := hSw; (try have r4 := r3 rfl); (try dsimp only at r1 r2 r4); clear r3; go_simp; try with_reducible rfl)
            try simp only [Act.put, List.setIfInBounds_toArray, List.set_cons_zero, List.set_cons_succ, List.getElem_toArray, List.getElem_cons_succ, List.getElem_cons_zero]
            refine HeldT.wpTill_takeT false (i := 5) (v := ?_) rfl (by kernel_rfl) (by kernel_rfl) (by kernel_rfl) (fun _ _ _ h => h) (by kernel_rfl) (Or.inl ⟨by first | rfl | kernel_rfl, ?_⟩) hHeld (fun hHeld => ?_)
            rotate_left
            · (intro w' hSw; obtain ⟨⟨r1, r2⟩, r3⟩ := hSw; (try have r4 := r3 rfl); (try dsimp only at r1 r2 r4); clear r3; go_simp; try with_reducible rfl)
            try simp only [Act.put, List.setIfInBounds_toArray, List.set_cons_zero, List.set_cons_succ, List.getElem_toArray, List.getElem_cons_succ, List.getElem_cons_zero]
            refine HeldT.wpTill_takeT false (i := 6) (v := ?_) rfl (by kernel_rfl) (by kernel_rfl) (by kernel_rfl) (fun _ _ _ h => h) (by kernel_rfl) (Or.inl ⟨by first | rfl | kernel_rfl, ?_⟩) hHeld (fun hHeld => ?_)
            rotate_left
            · (intro w' hSw; obtain ⟨⟨r1, r2⟩, r3⟩ := hSw; (try have r4 := r3 rfl); (try dsimp only at r1 r2 r4); clear r3; go_simp; try with_reducible rfl)
            try simp only [Act.put, List.setIfInBounds_toArray, List.set_cons_zero, List.set_cons_succ, List.getElem_toArray, List.getElem_cons_succ, List.getElem_cons_zero]
            refine HeldT.wpTill_takeT false (i := 7) (v := ?_) rfl (by kernel_rfl) (by kernel_rfl) (by kernel_rfl) (fun _ _ _ h => h) (by kernel_rfl) (Or.inl ⟨by first | rfl | kernel_rfl, ?_⟩) hHeld (fun hHeld => ?_)
            rotate_left
            · (intro w' hSw; obtain ⟨⟨r1, r2⟩, r3⟩ := hSw; (try have r4 := r3 rfl); (try dsimp only at r1 r2 r4); clear r3; go_simp; try with_reducible rfl)
            try simp only [Act.put, List.setIfInBounds_toArray, List.set_cons_zero, List.set_cons_succ, List.getElem_toArray, List.getElem_cons_succ, List.getElem_cons_zero]
            refine HeldT.wpTill_takeT false (i := 8) (v := ?_) rfl (by kernel_rfl) (by kernel_rfl) (by kernel_rfl) (fun _ _ _ h => h) (by kernel_rfl) (Or.inl ⟨by first | rfl | kernel_rfl, ?_⟩) hHeld (fun hHeld => ?_)
            rotate_left
            · (intro w' hSw; obtain ⟨⟨r1, r2⟩, r3⟩ := hSw; (try have r4 := r3 rfl); (try dsimp only at r1 r2 r4); clear r3; go_simp; try with_reducible rfl)
            try simp only [Act.put, List.setIfInBounds_toArray, List.set_cons_zero, List.set_cons_succ, List.getElem_toArray, List.getElem_cons_succ, List.getElem_cons_zero]
            refine HeldT.wpTill_takeT false (i := 9) (v := ?_) rfl (by kernel_rfl) (by kernel_rfl) (by kernel_rfl) (fun _ _ _ h => h) (by kernel_rfl) (Or.inl ⟨by first | rfl | kernel_rfl, ?_⟩) hHeld (fun hHeld => ?_)
            rotate_left
            · (intro w' hSw; obtain ⟨⟨r1, r2⟩, r3⟩ := hSw; (try have r4 := r3 rfl); (try dsimp only at r1 r2 r4); clear r3; go_simp; try with_reducible rfl)
            try simp only [Act.put, List.setIfInBounds_toArray, List.set_cons_zero, List.set_cons_succ, List.getElem_toArray, List.getElem_cons_succ, List.getElem_cons_zero]
            refine HeldT.wpTill_takeT false (i := 10) (v := ?_) rfl (by kernel_rfl) (by kernel_rfl) (by kernel_rfl) (fun _ _ _ h => h) (by kernel_rfl) (Or.inl ⟨by first | rfl | kernel_rfl, ?_⟩) hHeld (fun hHeld => ?_)
            rotate_left
            · (intro w' hSw; obtain ⟨⟨r1, r2⟩, r3⟩ := hSw; (try have r4 := r3 rfl); (try dsimp only at r1 r2 r4); clear r3; go_simp; try with_reducible rfl)
            try simp only [Act.put, List.setIfInBounds_toArray, List.set_cons_zero, List.set_cons_succ, List.getElem_toArray, List.getElem_cons_succ, List.getElem_cons_zero]
            refine HeldT.wpTill_takeT false (i := 11) (v := ?_) rfl (by kernel_rfl) (by kernel_rfl) (by kernel_rfl) (fun _ _ _ h => h) (by kernel_rfl) (Or.inl ⟨by first | rfl | kernel_rfl, ?_⟩) hHeld (fun hHeld => ?_)
            rotate_left
            · (intro w' hSw; obtain ⟨⟨r1, r2⟩, r3⟩ := hSw; (try have r4 := r3 rfl); (try dsimp only at r1 r2 r4); clear r3; go_simp; try with_reducible rfl)
            try simp only [Act.put, List.setIfInBounds_toArray, List.set_cons_zero, List.set_cons_succ, List.getElem_toArray, List.getElem_cons_succ, List.getElem_cons_zero]
            refine HeldT.wpTill_takeT false (i := 12) (v := ?_) rfl (by kernel_rfl) (by kernel_rfl) (by kernel_rfl) (fun _ _ _ h => h) (by kernel_rfl) (Or.inl ⟨by first | rfl | kernel_rfl, ?_⟩) hHeld (fun hHeld => ?_)
            rotate_left
            · (intro w' hSw; obtain ⟨⟨r1, r2⟩, r3⟩ := hSw; (try have r4 := r3 rfl); (try dsimp only at r1 r2 r4); clear r3; go_simp; try with_reducible rfl)
            try simp only [Act.put, List.setIfInBounds_toArray, List.set_cons_zero, List.set_cons_succ, List.getElem_toArray, List.getElem_cons_succ, List.getElem_cons_zero]
            refine HeldT.wpTill_takeT false (i := 13) (v := ?_) rfl (by kernel_rfl) (by kernel_rfl) (by kernel_rfl) (fun _ _ _ h => h) (by kernel_rfl) (Or.inl ⟨by first | rfl | kernel_rfl, ?_⟩) hHeld (fun hHeld => ?_)
            rotate_left
            · (intro w' hSw; obtain ⟨⟨r1, r2⟩, r3⟩ := hSw; (try have r4 := r3 rfl); (try dsimp only at r1 r2 r4); clear r3; go_simp; try with_reducible rfl)
            try simp only [Act.put, List.setIfInBounds_toArray, List.set_cons_zero, List.set_cons_succ, List.getElem_toArray, List.getElem_cons_succ, List.getElem_cons_zero]
            refine HeldT.wpTill_takeT false (i := 14) (v := ?_) rfl (by kernel_rfl) (by kernel_rfl) (by kernel_rfl) (fun _ _ _ h => h) (by kernel_rfl) (Or.inl ⟨by first | rfl | kernel_rfl, ?_⟩) hHeld (fun hHeld => ?_)
            rotate_left
            · (intro w' hSw; obtain ⟨⟨r1, r2⟩, r3⟩ := hSw; (try have r4 := r3 rfl); (try dsimp only at r1 r2 r4); clear r3; go_simp; try with_reducible rfl)
            try simp only [Act.put, List.setIfInBounds_toArray, List.set_cons_zero, List.set_cons_succ, List.getElem_toArray, List.getElem_cons_succ, List.getElem_cons_zero]
            refine HeldT.wpTill_takeT false (i := 15) (v := ?_) rfl (by kernel_rfl) (by kernel_rfl) (by kernel_rfl) (fun _ _ _ h => h) (by kernel_rfl) (Or.inl ⟨by first | rfl | kernel_rfl, ?_⟩) hHeld (fun hHeld => ?_)
            rotate_left
            · (intro w' hSw; obtain ⟨⟨r1, r2⟩, r3⟩ := hSw; (try have r4 := r3 rfl); (try dsimp only at r1 r2 r4); clear r3; go_simp; try with_reducible rfl)
            try simp only [Act.put, List.setIfInBounds_toArray, List.set_cons_zero, List.set_cons_succ, List.getElem_toArray, List.getElem_cons_succ, List.getElem_cons_zero]
            refine wpTill_one (i := 16) (by kernel_rfl) rfl (fun K hK => ?_)
            rw [if_pos (by kernel_rfl)]
            go_simp
            refine (rp_take P6 vk 0 vp v pi vi).mono ?_
            rintro e1 w7 ⟨r, m', q2, cap2, rfl, T⟩
            have pd3 := T.out.2.1.cell
            rw [HTM.out] at pd3
            have P7 := T.out.2.2.pl
            have R7 := rp_step R6 T.out.2.2.alt (by have := T.out.2.2.hq; exact this) P7
            have T7 := r3_step P6 T6 T.out.2.2.alt
            refine hK _ _ ⟨⟨pd3, SC.out _ T7⟩, fun _ => trivial⟩ (fun hHeld => ?_)
            clear hK K
            refine HeldT.wpTill_takeT false (i := 17) (v := ?_) rfl (by kernel_rfl) (by kernel_rfl) (by kernel_rfl) (fun _ _ _ h => h) (by kernel_rfl) (Or.inl ⟨by first | rfl | kernel_rfl, ?_⟩) hHeld (fun hHeld => ?_)
            rotate_left
            · (intro w' hSw; obtain ⟨⟨r1, r2⟩, r3⟩ := hSw; (try have r4 := r3 rfl); (try dsimp only at r1 r2 r4); clear r3; go_simp; try with_reducible rfl)
            try simp only [Act.put, List.setIfInBounds_toArray, List.set_cons_zero, List.set_cons_succ, List.getElem_toArray, List.getElem_cons_succ, List.getElem_cons_zero]
            refine wpTill_done (by kernel_rfl) ?_ 0
            clear hHeld pd P6 R6 T T6 ck cp cs
            by_cases h7 : r = 0
            · subst h7
              go_wp2_with fail
              have D := (Below.refl w7.heap.size w7).drew
              have P8 := rp_next P7 D
              have R8 := rp_step R7 (Alt.of_below D) (.inl rfl) P8
              have T8 := r3_next T7 D
              clear D P7 R7 T7 pd3
              have pd := P8.out.box.cell
              have cs := (SC.out _ T8).2.2
              rw [HTM.out] at pd
              have WS : IntKind.i64.wrap (tm + v) = tm + v := IntWalk.i64_in _ (by have := HTM2.out; omega)
              have NB := Lib.hid (fun e => rx_ne P8 T8.out.s (by decide) (by decide) (.inl e))
              refine wp_region_till (fun w' => w'.cell? ⟨w1.heap.size + 1, i, none⟩ = some (.int .i64 v) ∧ True) (fun w' => ∀ i, w'.cell? ⟨b, i, none⟩ = (#[.int .i64 tm, .int .i64 s'.base, .int .i64 s'.done, .int .i64 s'.level, .slice c.la c.ln c.lc, .slice c.na c.nn c.nc, .int .i64 c.sw, .int .i64 c.id, .int .i64 c.ch, .int .i64 c.qu, .int .i64 c.sl, .int .i64 c.pp, .pointer (some ⟨m, 0, none⟩)] : Array Value)[i]?) 12 13 #[false, false, false, false, false, false, false, false, false, false, false, false, false] (by kernel_rfl) rfl rfl ⟨⟨cs, trivial⟩, pd⟩ (fun hHeld => ?_)
              generalize w7.drew = w8 at *
              refine HeldT.wpTill_takeT false (i := 0) (v := ?_) rfl (by kernel_rfl) (by kernel_rfl) (by kernel_rfl) (fun _ _ _ h => h) (by kernel_rfl) (Or.inl ⟨by first | rfl | kernel_rfl, ?_⟩) hHeld (fun hHeld => ?_)
              rotate_left
              · (intro w' hSw; obtain ⟨⟨r1, r2⟩, r3⟩ := hSw; (try have r4 := r3 rfl); (try dsimp only at r1 r2 r4); clear r3; go_simp; try with_reducible rfl)
              try simp only [Act.put, List.setIfInBounds_toArray, List.set_cons_zero, List.set_cons_succ, List.getElem_toArray, List.getElem_cons_succ, List.getElem_cons_zero]
              refine HeldT.wpTill_takeT false (i := 1) (v := ?_) rfl (by kernel_rfl) (by kernel_rfl) (by kernel_rfl) (fun _ _ _ h => h) (by kernel_rfl) (Or.inl ⟨by first | rfl | kernel_rfl, ?_⟩) hHeld (fun hHeld => ?_)
              rotate_left
              · (intro w' hSw; obtain ⟨⟨r1, r2⟩, r3⟩ := hSw; (try have r4 := r3 rfl); (try dsimp only at r1 r2 r4); clear r3; go_simp; try with_reducible rfl)
              try simp only [Act.put, List.setIfInBounds_toArray, List.set_cons_zero, List.set_cons_succ, List.getElem_toArray, List.getElem_cons_succ, List.getElem_cons_zero]
              refine HeldT.wpTill_takeT false (i := 2) (v := ?_) rfl (by kernel_rfl) (by kernel_rfl) (by kernel_rfl) (fun _ _ _ h => h) (by kernel_rfl) (Or.inl ⟨by first | rfl | kernel_rfl, ?_⟩) hHeld (fun hHeld => ?_)
              rotate_left
              · (intro w' hSw; obtain ⟨⟨r1, r2⟩, r3⟩ := hSw; (try have r4 := r3 rfl); (try dsimp only at r1 r2 r4); clear r3; go_simp; try with_reducible rfl)
              try simp only [Act.put, List.setIfInBounds_toArray, List.set_cons_zero, List.set_cons_succ, List.getElem_toArray, List.getElem_cons_succ, List.getElem_cons_zero]
              refine HeldT.wpTill_takeT false (i := 3) (v := ?_) rfl (by kernel_rfl) (by kernel_rfl) (by kernel_rfl) (fun _ _ _ h => h) (by kernel_rfl) (Or.inl ⟨by first | rfl | kernel_rfl, ?_⟩) hHeld (fun hHeld => ?_)
              rotate_left
              · (intro w' hSw; obtain ⟨⟨r1, r2⟩, r3⟩ := hSw; (try have r4 := r3 rfl); (try dsimp only at r1 r2 r4); clear r3; go_simp; try with_reducible rfl)
              try simp only [Act.put, List.setIfInBounds_toArray, List.set_cons_zero, List.set_cons_succ, List.getElem_toArray, List.getElem_cons_succ, List.getElem_cons_zero]
              refine HeldT.wpTill_takeT true (i := 4) (v := ?_) rfl (by kernel_rfl) (by kernel_rfl) (by kernel_rfl) (fun _ _ _ h => h) (by kernel_rfl) (Or.inl ⟨by first | rfl | kernel_rfl, ?_⟩) hHeld (fun hHeld => ?_)
              rotate_left
              · (intro w' hSw; obtain ⟨⟨r1, r2⟩, r3⟩ := hSw; (try have r4 := r3 rfl); (try dsimp only at r1 r2 r4); clear r3; go_simp; try with_reducible rfl)
              try simp only [Act.put, List.setIfInBounds_toArray, List.set_cons_zero, List.set_cons_succ, List.getElem_toArray, List.getElem_cons_succ, List.getElem_cons_zero]
              refine HeldT.wpTill_takeT false (i := 5) (v := ?_) rfl (by kernel_rfl) (by kernel_rfl) (by kernel_rfl) (fun _ _ _ h => h) (by kernel_rfl) (Or.inl ⟨by first | rfl | kernel_rfl, ?_⟩) hHeld (fun hHeld => ?_)
              rotate_left
              · (intro w' hSw; obtain ⟨⟨r1, r2⟩, r3⟩ := hSw; (try have r4 := r3 rfl); (try dsimp only at r1 r2 r4); clear r3; go_simp; try with_reducible rfl)
              try simp only [Act.put, List.setIfInBounds_toArray, List.set_cons_zero, List.set_cons_succ, List.getElem_toArray, List.getElem_cons_succ, List.getElem_cons_zero]
              refine HeldT.wpTill_takeT false (i := 6) (v := ?_) rfl (by kernel_rfl) (by kernel_rfl) (by kernel_rfl) (fun _ _ _ h => h) (by kernel_rfl) (Or.inl ⟨by first | rfl | kernel_rfl, ?_⟩) hHeld (fun hHeld => ?_)
              rotate_left
              · (intro w' hSw; obtain ⟨⟨r1, r2⟩, r3⟩ := hSw; (try have r4 := r3 rfl); (try dsimp only at r1 r2 r4); clear r3; go_simp; try with_reducible rfl)
              try simp only [Act.put, List.setIfInBounds_toArray, List.set_cons_zero, List.set_cons_succ, List.getElem_toArray, List.getElem_cons_succ, List.getElem_cons_zero]
              refine HeldT.wpTill_takeT false (i := 7) (v := ?_) rfl (by kernel_rfl) (by kernel_rfl) (by kernel_rfl) (fun _ _ _ h => h) (by kernel_rfl) (Or.inl ⟨by first | rfl | kernel_rfl, ?_⟩) hHeld (fun hHeld => ?_)
              rotate_left
              · (intro w' hSw; obtain ⟨⟨r1, r2⟩, r3⟩ := hSw; (try have r4 := r3 rfl); (try dsimp only at r1 r2 r4); clear r3; go_simp; try with_reducible rfl)
              try simp only [Act.put, List.setIfInBounds_toArray, List.set_cons_zero, List.set_cons_succ, List.getElem_toArray, List.getElem_cons_succ, List.getElem_cons_zero]
              refine HeldT.wpTill_takeT false (i := 8) (v := ?_) rfl (by kernel_rfl) (by kernel_rfl) (by kernel_rfl) (fun _ _ _ h => h) (by kernel_rfl) (Or.inl ⟨by first | rfl | kernel_rfl, ?_⟩) hHeld (fun hHeld => ?_)
              rotate_left
              · (intro w' hSw; obtain ⟨⟨r1, r2⟩, r3⟩ := hSw; (try have r4 := r3 rfl); (try dsimp only at r1 r2 r4); clear r3; go_simp; try with_reducible rfl)
              try simp only [Act.put, List.setIfInBounds_toArray, List.set_cons_zero, List.set_cons_succ, List.getElem_toArray, List.getElem_cons_succ, List.getElem_cons_zero]
              refine HeldT.wpTill_takeT false (i := 9) (v := ?_) rfl (by kernel_rfl) (by kernel_rfl) (by kernel_rfl) (fun _ _ _ h => h) (by kernel_rfl) (Or.inl ⟨by first | rfl | kernel_rfl, ?_⟩) hHeld (fun hHeld => ?_)
              rotate_left
              · (intro w' hSw; obtain ⟨⟨r1, r2⟩, r3⟩ := hSw; (try have r4 := r3 rfl); (try dsimp only at r1 r2 r4); clear r3; go_simp; try with_reducible rfl)
              try simp only [Act.put, List.setIfInBounds_toArray, List.set_cons_zero, List.set_cons_succ, List.getElem_toArray, List.getElem_cons_succ, List.getElem_cons_zero]
              refine HeldT.wpTill_takeT false (i := 10) (v := ?_) rfl (by kernel_rfl) (by kernel_rfl) (by kernel_rfl) (fun _ _ _ h => h) (by kernel_rfl) (Or.inl ⟨by first | rfl | kernel_rfl, ?_⟩) hHeld (fun hHeld => ?_)
              rotate_left
              · (intro w' hSw; obtain ⟨⟨r1, r2⟩, r3⟩ := hSw; (try have r4 := r3 rfl); (try dsimp only at r1 r2 r4); clear r3; go_simp; try with_reducible rfl)
              try simp only [Act.put, List.setIfInBounds_toArray, List.set_cons_zero, List.set_cons_succ, List.getElem_toArray, List.getElem_cons_succ, List.getElem_cons_zero]
              refine HeldT.wpTill_takeT false (i := 11) (v := ?_) rfl (by kernel_rfl) (by kernel_rfl) (by kernel_rfl) (fun _ _ _ h => h) (by kernel_rfl) (Or.inl ⟨by first | rfl | kernel_rfl, ?_⟩) hHeld (fun hHeld => ?_)
              rotate_left
              · (intro w' hSw; obtain ⟨⟨r1, r2⟩, r3⟩ := hSw; (try have r4 := r3 rfl); (try dsimp only at r1 r2 r4); clear r3; go_simp; try with_reducible rfl)
              try simp only [Act.put, List.setIfInBounds_toArray, List.set_cons_zero, List.set_cons_succ, List.getElem_toArray, List.getElem_cons_succ, List.getElem_cons_zero]
              have pf := P8.out.box.frozen
              refine wpTill_one (i := 12) (by kernel_rfl) rfl (fun K hK => ?_)
              go_simp
              have A9 := Alt.set (S := fun i => i = b) w8 ⟨b, 0, none⟩ (.int .i64 (tm + v)) rfl
              have P9 := rp_set (s' := { s' with now := tm + v, m := m' }) P8 A9 (fun vs hv e => by subst e; exact (hv.set 0 _)) rfl ⟨by simp only; have := HTM2.out; omega, P8.out.ok.base, P8.out.ok.done, P8.out.ok.level, P8.out.ok.ok⟩
              have R9 := rp_step R8 (A9.mono (fun i hi => .inl hi)) (.inl rfl) P9
              have T9 := r3_step P8 T8 (A9.mono (fun i hi => .inl hi))
              refine hK _ _ ⟨⟨(SC.out _ T9).2.2, trivial⟩, fun h => (by cases h)⟩ (fun hHeld => ?_)
              clear hK K
              refine wpTill_done (by kernel_rfl) ?_ 0
              have R9 := Lib.hid R9
              clear hHeld pd pf cs WS P8 R8 T8 A9 P9
              have NW := Lib.hid (show tm + v = tn + (S + v) by have := HTM2.out; omega)
              go_wp2_with fail
              go_roundw
              case rel => exact ⟨i + 1, _, _, _, by omega, by go_num, R9, T9, Lib.hid (by rw [ES.out]; exact NW.out)⟩
              case measure => simp [intOf]; omega
            · have h8 : (r != 0) = true := by simpa using h7
              clear h7
              go_wp2_with fail
              go_ret
              exact ⟨_, _, _, _, rfl, R7⟩
          · obtain rfl : i = 3 := by omega
            go_wp2_with fail
            refine (rsync_any P5).mono ?_
            rintro e1 w6 ⟨rfl, a6, P6⟩
            have R6 := rp_step R5.out a6 (.inl rfl) P6
            go_wp2_with fail
            go_ret
            exact ⟨_, _, _, _, rfl, R6⟩
  · have h4 : (f != 0) = true := by simpa using h3
    clear h3
    go_wp2_with fail
    go_ret
    exact ⟨_, _, _, _, rfl, R1⟩
end Go.Proofs.Ytgkahcchekiogaa.Plv
