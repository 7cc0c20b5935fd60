/- Package agenda: up. -/
import Derived.Test.YtlafeijkpnpdeaaAgb
namespace Go.Proofs.Ytlafeijkpnpdeaa.Agc
open Go.RowKit Base Kit Alt Held Agp Aga Agb
set_option linter.unusedVariables false
set_option linter.unusedSimpArgs false
attribute [local go_sem ↓] Go.wp_at_zero Go.wp_at_succ
/-- an agenda whose heap alone is altered -/
structure Us (w0 w : World) (ab g n cap : Nat) (L : List E) (last most : Int) : Prop where
  alt : Alt (fun k => k = g) w0 w
  ag : Hid (Ag w ab (.slice (some ⟨g, 0, none⟩) n cap) L last most)
theorem us_next {w0 w w1 : World} {ab g n cap : Nat} {L : List E} {last most : Int} (h : Hid (Us w0 w ab g n cap L last most)) (k : Below w.heap.size w w1) : Hid (Us w0 w1 ab g n cap L last most) := Lib.hid ⟨h.out.alt.trans (Alt.of_below k), ag_next h.out.ag k⟩
theorem own_len {w : World} {base n m size : Nat} {e : TypeId} {a : Option Addr} {cap : Nat} {xs : List Value} (h : w.ownsRow base e size (.slice a n cap) m xs) : n = m := by
  rcases h.2 with ⟨h1, h2⟩ | ⟨g, c, cur, h1, _⟩
  · simp at h1; omega
  · simp only [Value.slice.injEq] at h1; exact h1.2.1
theorem alt_set {g i : Nat} {w w1 : World} {v : Value} (h : Alt (fun k => k = g) w w1) : Alt (fun k => k = g) w (w1.setCell ⟨g, i, none⟩ v) := h.trans (Alt.set _ _ _ rfl)
theorem frz {w0 w : World} {ab g n cap : Nat} {L : List E} {last most : Int} (h : Hid (Us w0 w ab g n cap L last most)) : ∀ i, w.frozen? ⟨g, i, none⟩ = false := by
  have o := h.out.ag.out.own
  obtain rfl := own_len o
  exact o.frozenAt
/-- a world with two entries exchanged -/
def swp (w : World) (g i j : Nat) (x0 x1 x2 y0 y1 y2 : Int) : World := (((((w.setCell ⟨g, i * 3, none⟩ (.int .i64 y0)).setCell ⟨g, i * 3 + 1, none⟩ (.int .i64 y1)).setCell ⟨g, i * 3 + 2, none⟩ (.int .i64 y2)).setCell ⟨g, j * 3, none⟩ (.int .i64 x0)).setCell ⟨g, j * 3 + 1, none⟩ (.int .i64 x1)).setCell ⟨g, j * 3 + 2, none⟩ (.int .i64 x2)
theorem us_swap {w0 w : World} {ab g n cap : Nat} {L : List E} {last most : Int} (h : Hid (Us w0 w ab g n cap L last most)) (hne : g ≠ ab) (i j : Nat) {x0 x1 x2 y0 y1 y2 : Int} (hx : Hid (at_ L i = (x0, x1, x2))) (hy : Hid (at_ L j = (y0, y1, y2))) : Hid (Us w0 (swp w g i j x0 x1 x2 y0 y1 y2) ab g n cap (swap L i j) last most) := by
  have A : Alt (fun k => k = g) w (swp w g i j x0 x1 x2 y0 y1 y2) := by
    unfold swp
    iterate 6 (refine alt_set ?_)
    exact Alt.refl _ _
  refine Lib.hid ⟨h.out.alt.trans A, Lib.hid ⟨box_alt h.out.ag.out.box A (fun z => hne z.symm), ?_, by rw [swap_len]; exact h.out.ag.out.len⟩⟩
  have o := h.out.ag.out.own
  obtain rfl := own_len o
  have o2 := ((((((o.stored (i * 3) (.int .i64 y0)).1.stored (i * 3 + 1) (.int .i64 y1)).1.stored (i * 3 + 2) (.int .i64 y2)).1.stored (j * 3) (.int .i64 x0)).1.stored (j * 3 + 1) (.int .i64 x1)).1.stored (j * 3 + 2) (.int .i64 x2)).1
  rw [swap_len]
  have e : encE (swap L i j) = ((((((encE L).set (i * 3) (.int .i64 y0)).set (i * 3 + 1) (.int .i64 y1)).set (i * 3 + 2) (.int .i64 y2)).set (j * 3) (.int .i64 x0)).set (j * 3 + 1) (.int .i64 x1)).set (j * 3 + 2) (.int .i64 x2) := by
    unfold swap
    rw [enc_set, enc_set, hx.out, hy.out]
  rw [e]
  exact o2
set_option maxRecDepth 100000 in
set_option maxHeartbeats 2000000 in
theorem up_any (ab g n cap : Nat) (L : List E) (last most : Int) (i0 : Nat) (w : World) (h : Hid (Ag w ab (.slice (some ⟨g, 0, none⟩) n cap) L last most)) (hi : i0 = 0 ∨ i0 < L.length) :
    Calls Try.prog 19 #[.pointer (some ⟨ab, 0, none⟩), .int .i64 i0] w fun e w' => e = .returned (.tuple #[]) ∧ Hid (Us w w' ab g n cap (upF L i0) last most) := by
  have hne : Hid (g ≠ ab) := Lib.hid (by have o := h.out.own; rw [← own_len o] at o; exact own_ne o h.out.box (by decide))
  have hl := h.out.len
  have hnl := Lib.hid (own_len h.out.own)
  have S : Hid (Us w w ab g n cap L last most) := Lib.hid ⟨Alt.refl _ _, h⟩
  have hn1 : n ≤ 1000 := by rw [hnl.out]; exact hl
  clear h
  go_enter Try.func19, Try.ntmps19
  go_wp2_with fail
  go_loopw [1] (fun k wr => ∃ (i : Nat) (M : List E), k = .int .i64 (i : Int) ∧ (i = 0 ∨ i < n) ∧ Hid (M.length = n) ∧ Hid (upF M i = upF L i0) ∧ Hid (Us w wr ab g n cap M last most)) (fun k _ => (intOf k).toNat)
  case atStart => exact ⟨i0, L, rfl, by rw [hnl.out]; exact hi, Lib.hid hnl.out.symm, Lib.hid rfl, S⟩
  case round =>
    clear S hi hl hnl
    obtain ⟨i, M, rfl, hi, HM, HU, S⟩ := hrel
    by_cases h0 : i = 0
    · have e := HU.out
      rw [h0, upF_zero] at e
      subst h0
      rw [e] at S
      clear HU hi e
      go_wp2_with fail
      refine bodyPost_end (v := .tuple #[]) ?_ rfl ⟨rfl, S⟩
      simp [results, Try.results19, go_sem]
    · obtain ⟨j, hj⟩ : ∃ j, (i - 1) / 2 = j := ⟨_, rfl⟩
      have hin : i < n := by omega
      have hjn : j < i := by omega
      have hjd : Int.tdiv ((i : Int) - 1) 2 = (j : Int) := by rw [Int.tdiv_eq_ediv_of_nonneg (by omega)]; omega
      obtain ⟨⟨x0, x1, x2⟩, hx⟩ : ∃ x, at_ M i = x := ⟨_, rfl⟩
      obtain ⟨⟨y0, y1, y2⟩, hy⟩ : ∃ x, at_ M j = x := ⟨_, rfl⟩
      obtain ⟨z, hz⟩ : ∃ z, ordI (y0, y1, y2) (x0, x1, x2) = z := ⟨_, rfl⟩
      have NB : Hid ((z ≤ 0 → upF M i = M) ∧ (¬ z ≤ 0 → upF M i = upF (swap M i j) j)) := Lib.hid (by
        rw [← hz, ord_le, ← hx, ← hy, ← hj]
        exact ⟨fun h => upF_ok h, fun h => upF_no (by omega) h⟩)
      have hpos : 0 < i := by omega
      have hjn2 : j < n := by omega
      clear hj h0 hi
      have CO := Lib.hid (fun w' (h : Hid (Us w w' ab g n cap M last most)) => (order_any y0 y1 y2 x0 x1 x2 z w' (Lib.hid hz)).mono (R' := fun e w'' => e = .returned (.int .i64 z) ∧ Hid (Us w w'' ab g n cap M last most)) fun e w2 hh => ⟨hh.1, us_next h hh.2⟩)
      have CX := Lib.hid (fun w' (h : Hid (Us w w' ab g n cap M last most)) => ent_cells h.out.ag i (by rw [HM.out]; exact hin) (Lib.hid hx))
      have CY := Lib.hid (fun w' (h : Hid (Us w w' ab g n cap M last most)) => ent_cells h.out.ag j (by rw [HM.out]; omega) (Lib.hid hy))
      replace hx := Lib.hid hx
      replace hy := Lib.hid hy
      clear hz
      go_wp2_with fail
      have S := us_next S (Below.refl _ _).drew
      have bc := S.out.ag.out.box.cell
      refine Cls.cls_region (fun w' => Hid (Us w w' ab g n cap M last most)) (by kernel_rfl) (by kernel_rfl) S ?_
      clear bc
      repeat
        (first
          | (refine Cls.cls_take (v := ?_) (by rfl) (fun w' hC => ?_) ?_
             rotate_left
             · (have r1 := hC.out.ag.out.box.cell; obtain ⟨r2, r3, r4⟩ := CX.out _ hC; obtain ⟨r5, r6, r7⟩ := CY.out _ hC
                (go_simp)
                try (first
                  | done
                  | (with_reducible rfl)
                  | (exact CO.out _ hC))))
          | refine Cls.cls_skip (by rfl) ?_)
        try simp only [Act.put, List.setIfInBounds_toArray, List.set_cons_zero, List.set_cons_succ, List.getElem_toArray, List.getElem_cons_succ, List.getElem_cons_zero]
      refine wpQuiet_nil ?_
      clear S CO
      intro w6 S
      by_cases hz : z ≤ 0
      · have e := NB.out.1 hz
        rw [HU.out] at e
        rw [← e] at S
        clear NB HU e
        go_wp2_with fail
        refine bodyPost_ret (v := .tuple #[]) ?_ rfl ⟨rfl, S⟩
        simp [results, Try.results19, go_sem]
      · have e := NB.out.2 (by omega)
        rw [HU.out] at e
        have E := Lib.hid e
        clear NB HU e
        go_wp2_with fail
        have S := us_next S (Below.refl _ _).drew
        have fz := frz S
        have S2 := us_swap S hne.out i j hx hy
        obtain ⟨ux0, ux1, ux2⟩ := CX.out _ S
        obtain ⟨uy0, uy1, uy2⟩ := CY.out _ S
        have BOX := Lib.hid (fun w' (k : Alt (fun k => k = g) w6.drew w') => (box_alt S.out.ag.out.box k (fun z => hne.out z.symm)).cell)
        clear CX CY
        refine wp_region_till (fun w' => (∀ i, w'.cell? ⟨ab, i, none⟩ = (#[.slice (some ⟨g, 0, none⟩) n cap, .int .i64 last, .int .i64 most, .bool true] : Array Value)[i]?) ∧ True) (fun w' => EC w' g i x0 x1 x2 ∧ EC w' g j y0 y1 y2) 25 28 #[false, false, false, false, false, false, false, false, false, false, false, false, false, false, false, false, false, false, false, false, false, false, false, false, false, false, false, false] (by kernel_rfl) rfl rfl ⟨⟨S.out.ag.out.box.cell, trivial⟩, ⟨ux0, ux1, ux2⟩, ⟨uy0, uy1, uy2⟩⟩ (fun hHeld => ?_)
        generalize w6.drew = w8 at *
        refine HeldT.wpTill_takeT false (i := 0) (v := ?_) rfl (by kernel_rfl) (by kernel_rfl) (by kernel_rfl) (fun _ _ _ h => h) (by kernel_rfl) (Or.inl ⟨by first | rfl | kernel_rfl, ?_⟩) hHeld (fun hHeld => ?_)
        rotate_left
        · (intro w' hSw; obtain ⟨⟨r1, r2⟩, r3⟩ := hSw; (try have r4 := r3 rfl); (try dsimp only at r1 r2 r4); clear r3; go_simp; try with_reducible rfl)
        try simp only [Act.put, List.setIfInBounds_toArray, List.set_cons_zero, List.set_cons_succ, List.getElem_toArray, List.getElem_cons_succ, List.getElem_cons_zero]
        refine HeldT.wpTill_takeT false (i := 1) (v := ?_) rfl (by kernel_rfl) (by kernel_rfl) (by kernel_rfl) (fun _ _ _ h => h) (by kernel_rfl) (Or.inl ⟨by first | rfl | kernel_rfl, ?_⟩) hHeld (fun hHeld => ?_)
        rotate_left
        · (intro w' hSw; obtain ⟨⟨r1, r2⟩, r3⟩ := hSw; (try have r4 := r3 rfl); (try dsimp only at r1 r2 r4); clear r3; go_simp; try with_reducible rfl)
        try simp only [Act.put, List.setIfInBounds_toArray, List.set_cons_zero, List.set_cons_succ, List.getElem_toArray, List.getElem_cons_succ, List.getElem_cons_zero]
        refine HeldT.wpTill_takeT false (i := 2) (v := ?_) rfl (by kernel_rfl) (by kernel_rfl) (by kernel_rfl) (fun _ _ _ h => h) (by kernel_rfl) (Or.inl ⟨by first | rfl | kernel_rfl, ?_⟩) hHeld (fun hHeld => ?_)
        rotate_left
        · (intro w' hSw; obtain ⟨⟨r1, r2⟩, r3⟩ := hSw; (try have r4 := r3 rfl); (try dsimp only at r1 r2 r4); clear r3; go_simp; try with_reducible rfl)
        try simp only [Act.put, List.setIfInBounds_toArray, List.set_cons_zero, List.set_cons_succ, List.getElem_toArray, List.getElem_cons_succ, List.getElem_cons_zero]
        refine HeldT.wpTill_takeT false (i := 3) (v := ?_) rfl (by kernel_rfl) (by kernel_rfl) (by kernel_rfl) (fun _ _ _ h => h) (by kernel_rfl) (Or.inl ⟨by first | rfl | kernel_rfl, ?_⟩) hHeld (fun hHeld => ?_)
        rotate_left
        · (intro w' hSw; obtain ⟨⟨r1, r2⟩, r3⟩ := hSw; (try have r4 := r3 rfl); (try dsimp only at r1 r2 r4); clear r3; go_simp; try with_reducible rfl)
        try simp only [Act.put, List.setIfInBounds_toArray, List.set_cons_zero, List.set_cons_succ, List.getElem_toArray, List.getElem_cons_succ, List.getElem_cons_zero]
        refine HeldT.wpTill_takeT false (i := 4) (v := ?_) rfl (by kernel_rfl) (by kernel_rfl) (by kernel_rfl) (fun _ _ _ h => h) (by kernel_rfl) (Or.inl ⟨by first | rfl | kernel_rfl, ?_⟩) hHeld (fun hHeld => ?_)
        rotate_left
        · (intro w' hSw; obtain ⟨⟨r1, r2⟩, r3⟩ := hSw; (try have r4 := r3 rfl); (try dsimp only at r1 r2 r4); clear r3; go_simp; try with_reducible rfl)
        try simp only [Act.put, List.setIfInBounds_toArray, List.set_cons_zero, List.set_cons_succ, List.getElem_toArray, List.getElem_cons_succ, List.getElem_cons_zero]
        refine HeldT.wpTill_takeT false (i := 5) (v := ?_) rfl (by kernel_rfl) (by kernel_rfl) (by kernel_rfl) (fun _ _ _ h => h) (by kernel_rfl) (Or.inl ⟨by first | rfl | kernel_rfl, ?_⟩) hHeld (fun hHeld => ?_)
        rotate_left
        · (intro w' hSw; obtain ⟨⟨r1, r2⟩, r3⟩ := hSw; (try have r4 := r3 rfl); (try dsimp only at r1 r2 r4); clear r3; go_simp; try with_reducible rfl)
        try simp only [Act.put, List.setIfInBounds_toArray, List.set_cons_zero, List.set_cons_succ, List.getElem_toArray, List.getElem_cons_succ, List.getElem_cons_zero]
        refine HeldT.wpTill_takeT false (i := 6) (v := ?_) rfl (by kernel_rfl) (by kernel_rfl) (by kernel_rfl) (fun _ _ _ h => h) (by kernel_rfl) (Or.inl ⟨by first | rfl | kernel_rfl, ?_⟩) hHeld (fun hHeld => ?_)
        rotate_left
        · (intro w' hSw; obtain ⟨⟨r1, r2⟩, r3⟩ := hSw; (try have r4 := r3 rfl); (try dsimp only at r1 r2 r4); clear r3; go_simp; try with_reducible rfl)
        try simp only [Act.put, List.setIfInBounds_toArray, List.set_cons_zero, List.set_cons_succ, List.getElem_toArray, List.getElem_cons_succ, List.getElem_cons_zero]
        refine HeldT.wpTill_takeT false (i := 7) (v := ?_) rfl (by kernel_rfl) (by kernel_rfl) (by kernel_rfl) (fun _ _ _ h => h) (by kernel_rfl) (Or.inl ⟨by first | rfl | kernel_rfl, ?_⟩) hHeld (fun hHeld => ?_)
        rotate_left
        · (intro w' hSw; obtain ⟨⟨r1, r2⟩, r3⟩ := hSw; (try have r4 := r3 rfl); (try dsimp only at r1 r2 r4); clear r3; go_simp; try with_reducible rfl)
        try simp only [Act.put, List.setIfInBounds_toArray, List.set_cons_zero, List.set_cons_succ, List.getElem_toArray, List.getElem_cons_succ, List.getElem_cons_zero]
        refine HeldT.wpTill_takeT false (i := 8) (v := ?_) rfl (by kernel_rfl) (by kernel_rfl) (by kernel_rfl) (fun _ _ _ h => h) (by kernel_rfl) (Or.inl ⟨by first | rfl | kernel_rfl, ?_⟩) hHeld (fun hHeld => ?_)
        rotate_left
        · (intro w' hSw; obtain ⟨⟨r1, r2⟩, r3⟩ := hSw; (try have r4 := r3 rfl); (try dsimp only at r1 r2 r4); clear r3; go_simp; try with_reducible rfl)
        try simp only [Act.put, List.setIfInBounds_toArray, List.set_cons_zero, List.set_cons_succ, List.getElem_toArray, List.getElem_cons_succ, List.getElem_cons_zero]
        refine HeldT.wpTill_takeT false (i := 9) (v := ?_) rfl (by kernel_rfl) (by kernel_rfl) (by kernel_rfl) (fun _ _ _ h => h) (by kernel_rfl) (Or.inl ⟨by first | rfl | kernel_rfl, ?_⟩) hHeld (fun hHeld => ?_)
        rotate_left
        · (intro w' hSw; obtain ⟨⟨r1, r2⟩, r3⟩ := hSw; (try have r4 := r3 rfl); (try dsimp only at r1 r2 r4); clear r3; go_simp; try with_reducible rfl)
        try simp only [Act.put, List.setIfInBounds_toArray, List.set_cons_zero, List.set_cons_succ, List.getElem_toArray, List.getElem_cons_succ, List.getElem_cons_zero]
        refine HeldT.wpTill_takeT false (i := 10) (v := ?_) rfl (by kernel_rfl) (by kernel_rfl) (by kernel_rfl) (fun _ _ _ h => h) (by kernel_rfl) (Or.inl ⟨by first | rfl | kernel_rfl, ?_⟩) hHeld (fun hHeld => ?_)
        rotate_left
        · (intro w' hSw; obtain ⟨⟨r1, r2⟩, r3⟩ := hSw; (try have r4 := r3 rfl); (try dsimp only at r1 r2 r4); clear r3; go_simp; try with_reducible rfl)
        try simp only [Act.put, List.setIfInBounds_toArray, List.set_cons_zero, List.set_cons_succ, List.getElem_toArray, List.getElem_cons_succ, List.getElem_cons_zero]
        refine HeldT.wpTill_takeT false (i := 11) (v := ?_) rfl (by kernel_rfl) (by kernel_rfl) (by kernel_rfl) (fun _ _ _ h => h) (by kernel_rfl) (Or.inl ⟨by first | rfl | kernel_rfl, ?_⟩) hHeld (fun hHeld => ?_)
        rotate_left
        · (intro w' hSw; obtain ⟨⟨r1, r2⟩, r3⟩ := hSw; (try have r4 := r3 rfl); (try dsimp only at r1 r2 r4); clear r3; go_simp; try with_reducible rfl)
        try simp only [Act.put, List.setIfInBounds_toArray, List.set_cons_zero, List.set_cons_succ, List.getElem_toArray, List.getElem_cons_succ, List.getElem_cons_zero]
        refine HeldT.wpTill_takeT false (i := 12) (v := ?_) rfl (by kernel_rfl) (by kernel_rfl) (by kernel_rfl) (fun _ _ _ h => h) (by kernel_rfl) (Or.inl ⟨by first | rfl | kernel_rfl, ?_⟩) hHeld (fun hHeld => ?_)
        rotate_left
        · (intro w' hSw; obtain ⟨⟨r1, r2⟩, r3⟩ := hSw; (try have r4 := r3 rfl); (try dsimp only at r1 r2 r4); clear r3; go_simp; try with_reducible rfl)
        try simp only [Act.put, List.setIfInBounds_toArray, List.set_cons_zero, List.set_cons_succ, List.getElem_toArray, List.getElem_cons_succ, List.getElem_cons_zero]
        refine HeldT.wpTill_takeT false (i := 13) (v := ?_) rfl (by kernel_rfl) (by kernel_rfl) (by kernel_rfl) (fun _ _ _ h => h) (by kernel_rfl) (Or.inl ⟨by first | rfl | kernel_rfl, ?_⟩) hHeld (fun hHeld => ?_)
        rotate_left
        · (intro w' hSw; obtain ⟨⟨r1, r2⟩, r3⟩ := hSw; (try have r4 := r3 rfl); (try dsimp only at r1 r2 r4); clear r3; go_simp; try with_reducible rfl)
        try simp only [Act.put, List.setIfInBounds_toArray, List.set_cons_zero, List.set_cons_succ, List.getElem_toArray, List.getElem_cons_succ, List.getElem_cons_zero]
        refine HeldT.wpTill_takeT false (i := 14) (v := ?_) rfl (by kernel_rfl) (by kernel_rfl) (by kernel_rfl) (fun _ _ _ h => h) (by kernel_rfl) (Or.inl ⟨by first | rfl | kernel_rfl, ?_⟩) hHeld (fun hHeld => ?_)
        rotate_left
        · (intro w' hSw; obtain ⟨⟨r1, r2⟩, r3⟩ := hSw; (try have r4 := r3 rfl); (try dsimp only at r1 r2 r4); clear r3; go_simp; try with_reducible rfl)
        try simp only [Act.put, List.setIfInBounds_toArray, List.set_cons_zero, List.set_cons_succ, List.getElem_toArray, List.getElem_cons_succ, List.getElem_cons_zero]
        refine HeldT.wpTill_takeT false (i := 15) (v := ?_) rfl (by kernel_rfl) (by kernel_rfl) (by kernel_rfl) (fun _ _ _ h => h) (by kernel_rfl) (Or.inl ⟨by first | rfl | kernel_rfl, ?_⟩) hHeld (fun hHeld => ?_)
        rotate_left
        · (intro w' hSw; obtain ⟨⟨r1, r2⟩, r3⟩ := hSw; (try have r4 := r3 rfl); (try dsimp only at r1 r2 r4); clear r3; go_simp; try with_reducible rfl)
        try simp only [Act.put, List.setIfInBounds_toArray, List.set_cons_zero, List.set_cons_succ, List.getElem_toArray, List.getElem_cons_succ, List.getElem_cons_zero]
        refine HeldT.wpTill_takeT true (i := 16) (v := ?_) rfl (by kernel_rfl) (by kernel_rfl) (by kernel_rfl) (fun _ _ _ h => h) (by kernel_rfl) (Or.inl ⟨by first | rfl | kernel_rfl, ?_⟩) hHeld (fun hHeld => ?_)
        rotate_left
        · (intro w' hSw; obtain ⟨⟨r1, r2⟩, r3⟩ := hSw; obtain ⟨⟨q0, q1, q2⟩, ⟨q3, q4, q5⟩⟩ := r3 rfl; clear r3; go_simp; try with_reducible rfl)
        try simp only [Act.put, List.setIfInBounds_toArray, List.set_cons_zero, List.set_cons_succ, List.getElem_toArray, List.getElem_cons_succ, List.getElem_cons_zero]
        refine HeldT.wpTill_takeT false (i := 17) (v := ?_) rfl (by kernel_rfl) (by kernel_rfl) (by kernel_rfl) (fun _ _ _ h => h) (by kernel_rfl) (Or.inl ⟨by first | rfl | kernel_rfl, ?_⟩) hHeld (fun hHeld => ?_)
        rotate_left
        · (intro w' hSw; obtain ⟨⟨r1, r2⟩, r3⟩ := hSw; (try have r4 := r3 rfl); (try dsimp only at r1 r2 r4); clear r3; go_simp; try with_reducible rfl)
        try simp only [Act.put, List.setIfInBounds_toArray, List.set_cons_zero, List.set_cons_succ, List.getElem_toArray, List.getElem_cons_succ, List.getElem_cons_zero]
        refine HeldT.wpTill_takeT false (i := 18) (v := ?_) rfl (by kernel_rfl) (by kernel_rfl) (by kernel_rfl) (fun _ _ _ h => h) (by kernel_rfl) (Or.inl ⟨by first | rfl | kernel_rfl, ?_⟩) hHeld (fun hHeld => ?_)
        rotate_left
        · (intro w' hSw; obtain ⟨⟨r1, r2⟩, r3⟩ := hSw; (try have r4 := r3 rfl); (try dsimp only at r1 r2 r4); clear r3; go_simp; try with_reducible rfl)
        try simp only [Act.put, List.setIfInBounds_toArray, List.set_cons_zero, List.set_cons_succ, List.getElem_toArray, List.getElem_cons_succ, List.getElem_cons_zero]
        refine HeldT.wpTill_takeT false (i := 19) (v := ?_) rfl (by kernel_rfl) (by kernel_rfl) (by kernel_rfl) (fun _ _ _ h => h) (by kernel_rfl) (Or.inl ⟨by first | rfl | kernel_rfl, ?_⟩) hHeld (fun hHeld => ?_)
        rotate_left
        · (intro w' hSw; obtain ⟨⟨r1, r2⟩, r3⟩ := hSw; (try have r4 := r3 rfl); (try dsimp only at r1 r2 r4); clear r3; go_simp; try with_reducible rfl)
        try simp only [Act.put, List.setIfInBounds_toArray, List.set_cons_zero, List.set_cons_succ, List.getElem_toArray, List.getElem_cons_succ, List.getElem_cons_zero]
        refine HeldT.wpTill_takeT false (i := 20) (v := ?_) rfl (by kernel_rfl) (by kernel_rfl) (by kernel_rfl) (fun _ _ _ h => h) (by kernel_rfl) (Or.inl ⟨by first | rfl | kernel_rfl, ?_⟩) hHeld (fun hHeld => ?_)
        rotate_left
        · (intro w' hSw; obtain ⟨⟨r1, r2⟩, r3⟩ := hSw; (try have r4 := r3 rfl); (try dsimp only at r1 r2 r4); clear r3; go_simp; try with_reducible rfl)
        try simp only [Act.put, List.setIfInBounds_toArray, List.set_cons_zero, List.set_cons_succ, List.getElem_toArray, List.getElem_cons_succ, List.getElem_cons_zero]
        refine HeldT.wpTill_takeT false (i := 21) (v := ?_) rfl (by kernel_rfl) (by kernel_rfl) (by kernel_rfl) (fun _ _ _ h => h) (by kernel_rfl) (Or.inl ⟨by first | rfl | kernel_rfl, ?_⟩) hHeld (fun hHeld => ?_)
        rotate_left
        · (intro w' hSw; obtain ⟨⟨r1, r2⟩, r3⟩ := hSw; (try have r4 := r3 rfl); (try dsimp only at r1 r2 r4); clear r3; go_simp; try with_reducible rfl)
        try simp only [Act.put, List.setIfInBounds_toArray, List.set_cons_zero, List.set_cons_succ, List.getElem_toArray, List.getElem_cons_succ, List.getElem_cons_zero]
        refine HeldT.wpTill_takeT false (i := 22) (v := ?_) rfl (by kernel_rfl) (by kernel_rfl) (by kernel_rfl) (fun _ _ _ h => h) (by kernel_rfl) (Or.inl ⟨by first | rfl | kernel_rfl, ?_⟩) hHeld (fun hHeld => ?_)
        rotate_left
        · (intro w' hSw; obtain ⟨⟨r1, r2⟩, r3⟩ := hSw; (try have r4 := r3 rfl); (try dsimp only at r1 r2 r4); clear r3; go_simp; try with_reducible rfl)
        try simp only [Act.put, List.setIfInBounds_toArray, List.set_cons_zero, List.set_cons_succ, List.getElem_toArray, List.getElem_cons_succ, List.getElem_cons_zero]
        refine HeldT.wpTill_takeT true (i := 23) (v := ?_) rfl (by kernel_rfl) (by kernel_rfl) (by kernel_rfl) (fun _ _ _ h => h) (by kernel_rfl) (Or.inl ⟨by first | rfl | kernel_rfl, ?_⟩) hHeld (fun hHeld => ?_)
        rotate_left
        · (intro w' hSw; obtain ⟨⟨r1, r2⟩, r3⟩ := hSw; obtain ⟨⟨q0, q1, q2⟩, ⟨q3, q4, q5⟩⟩ := r3 rfl; clear r3; go_simp; try with_reducible rfl)
        try simp only [Act.put, List.setIfInBounds_toArray, List.set_cons_zero, List.set_cons_succ, List.getElem_toArray, List.getElem_cons_succ, List.getElem_cons_zero]
        refine HeldT.wpTill_takeT false (i := 24) (v := ?_) rfl (by kernel_rfl) (by kernel_rfl) (by kernel_rfl) (fun _ _ _ h => h) (by kernel_rfl) (Or.inl ⟨by first | rfl | kernel_rfl, ?_⟩) hHeld (fun hHeld => ?_)
        rotate_left
        · (intro w' hSw; obtain ⟨⟨r1, r2⟩, r3⟩ := hSw; (try have r4 := r3 rfl); (try dsimp only at r1 r2 r4); clear r3; go_simp; try with_reducible rfl)
        try simp only [Act.put, List.setIfInBounds_toArray, List.set_cons_zero, List.set_cons_succ, List.getElem_toArray, List.getElem_cons_succ, List.getElem_cons_zero]
        refine wpTill_one (i := 25) (by kernel_rfl) rfl (fun K hK => ?_)
        rw [if_pos (by kernel_rfl)]
        go_simp
        refine hK _ _ ⟨⟨BOX.out _ (by (iterate 3 (refine alt_set ?_)); exact Alt.refl _ _), trivial⟩, fun h => (by cases h)⟩ (fun hHeld => ?_)
        clear hK K
        refine HeldT.wpTill_takeT false (i := 26) (v := ?_) rfl (by kernel_rfl) (by kernel_rfl) (by kernel_rfl) (fun _ _ _ h => h) (by kernel_rfl) (Or.inl ⟨by first | rfl | kernel_rfl, ?_⟩) hHeld (fun hHeld => ?_)
        rotate_left
        · (intro w' hSw; obtain ⟨⟨r1, r2⟩, r3⟩ := hSw; (try have r4 := r3 rfl); (try dsimp only at r1 r2 r4); clear r3; go_simp; try with_reducible rfl)
        try simp only [Act.put, List.setIfInBounds_toArray, List.set_cons_zero, List.set_cons_succ, List.getElem_toArray, List.getElem_cons_succ, List.getElem_cons_zero]
        refine wpTill_one (i := 27) (by kernel_rfl) rfl (fun K hK => ?_)
        rw [if_pos (by kernel_rfl)]
        go_simp
        refine hK _ _ ⟨⟨BOX.out _ (by (iterate 6 (refine alt_set ?_)); exact Alt.refl _ _), trivial⟩, fun h => (by cases h)⟩ (fun hHeld => ?_)
        clear hK K
        refine wpTill_done (by kernel_rfl) ?_ 0
        clear hHeld
        clear S BOX
        go_wp2_with fail
        go_roundw
        case rel => exact ⟨j, swap M i j, rfl, by omega, Lib.hid (by rw [swap_len]; exact HM.out), Lib.hid E.out.symm, S2⟩
        case measure => simp [intOf]; omega
end Go.Proofs.Ytlafeijkpnpdeaa.Agc
