/- Package agenda: Add. -/
import Derived.Test.YtlafeijkpnpdeaaAgf
namespace Go.Proofs.Ytlafeijkpnpdeaa.Agg
open Go.RowKit Base Kit Alt Held Agp Aga Agb Agc Agd Age Agf
set_option linter.unusedVariables false
set_option linter.unusedSimpArgs false
attribute [local go_sem ↓] Go.wp_at_zero Go.wp_at_succ
theorem infoEntry : (Try.prog.info? 33).map (fun i => (i.zero, i.size, i.bytes)) = some (some (.agg #[.int .i64 0, .int .i64 0, .int .i64 0]), 3, 24) := by kernel_rfl
/-- a box of another type is no row's block -/
theorem own_neR {w : World} {base : Nat} {e T : TypeId} {size n b : Nat} {v : Value} {xs : List Value} {vs : Array Value} (h : w.ownsRow base e size v n xs) (k : Box w b vs T) (hne : e ≠ T) : v.ownBlock ≠ some b := by
  intro e1
  rcases h.2 with ⟨h1, _⟩ | ⟨g, cap, cur, h1, _, hh, _⟩
  · rw [h1] at e1; cases e1
  · rw [h1] at e1
    simp only [Value.ownBlock, Option.some.injEq] at e1
    subst e1
    unfold Box at k
    rw [hh] at k
    simp at k
    exact hne k.2
theorem ag_fld {w : World} {ab : Nat} {v : Value} {L : List E} {last most x : Int} (h : Hid (Ag w ab v L last most)) : Hid (Ag (w.setCell ⟨ab, 1, none⟩ (.int .i64 x)) ab v L x most) ∧ Mov ab v v w (w.setCell ⟨ab, 1, none⟩ (.int .i64 x)) := by
  have A : Alt (fun k => k = ab) w (w.setCell ⟨ab, 1, none⟩ (.int .i64 x)) := Alt.set _ _ _ rfl
  refine ⟨Lib.hid ⟨h.out.box.set 1 _, ?_, h.out.len⟩, A.mono (fun i hi => .inl hi), fun g hg => .inl hg⟩
  by_cases hv : v = .slice none 0 0
  · have o := h.out.own
    rw [hv] at o ⊢
    rcases o with ⟨o1, o2 | ⟨g, cap, cur, o2, _⟩⟩
    · exact ⟨o1, .inl o2⟩
    · simp at o2
  · obtain ⟨g, c, rfl, _, _⟩ := own_form h.out.own hv
    exact own_alt h.out.own A (fun z => own_neR h.out.own h.out.box (by decide) (by rw [← z]; rfl))
theorem ag_app {w w2 : World} {ab g cap n : Nat} {v : Value} {L : List E} {last most y0 y1 y2 : Int} (h : Hid (Ag w ab v L last most)) (hn : L.length = n) (hl : n + 1 ≤ 1000) (hg : w.grownBy w2 v.ownBlock)
    (ho : w2.ownsRow 0 33 3 (.slice (some ⟨g, 0, none⟩) (n + 1) cap) (n + 1) (encE L ++ [.int .i64 y0, .int .i64 y1, .int .i64 y2])) (hat : v.ownBlock = some g ∨ w.heap.size ≤ g) :
    Hid (Ag (w2.setCell ⟨ab, 0, none⟩ (.slice (some ⟨g, 0, none⟩) (n + 1) cap)) ab (.slice (some ⟨g, 0, none⟩) (n + 1) cap) (L ++ [(y0, y1, y2)]) last most) ∧ Mov ab v (.slice (some ⟨g, 0, none⟩) (n + 1) cap) w (w2.setCell ⟨ab, 0, none⟩ (.slice (some ⟨g, 0, none⟩) (n + 1) cap)) := by
  have B := h.out.box.grown hg (fun e => own_neR h.out.own h.out.box (by decide) e.symm)
  have A : Alt (fun k => k = ab) w2 (w2.setCell ⟨ab, 0, none⟩ (.slice (some ⟨g, 0, none⟩) (n + 1) cap)) := Alt.set _ _ _ rfl
  have A1 : Alt (fun k => k = ab ∨ v.ownBlock = some k) w w2 := Alt.of_grown hg (fun i hi => .inr hi)
  refine ⟨Lib.hid ⟨B.set 0 _, ?_, by simp; omega⟩, A1.trans (A.mono fun i hi => .inl hi), fun k hk => ?_⟩
  · rw [List.length_append, hn, encE_app]
    exact own_alt ho A (fun z => own_neR ho B (by decide) (by rw [z]; rfl))
  · simp only [Value.ownBlock, Option.some.injEq] at hk
    subst hk
    exact hat
set_option maxRecDepth 100000 in
set_option maxHeartbeats 2000000 in
theorem Add_full (ab : Nat) (v : Value) (L : List E) (last most at1 what : Int) (w : World) (h : Hid (Ag w ab v L last most)) (hm : most ≤ (L.length : Int)) : Calls Try.prog 8 #[.pointer (some ⟨ab, 0, none⟩), .int .i64 at1, .int .i64 what] w fun e w' => e = .returned (.tuple #[.int .i64 0, .int .i64 5]) ∧ Below w.heap.size w w' := by
  have C := Lib.hid (live h)
  have hl := h.out.len
  have H := h
  obtain ⟨a, cap, rfl⟩ := own_val h.out.own
  have hge : decide ((L.length : Int) < most) = false := decide_eq_false (by omega)
  have hge2 : decide (most ≤ (L.length : Int)) = true := decide_eq_true hm
  have bc := h.out.box.cell
  generalize L.length = n at *
  clear h
  go_enter Try.func8, Try.ntmps8
  go_wp2_with fail
  refine (C.out).mono ?_
  rintro e w5 ⟨rfl, e9⟩
  cases e9
  go_wp2_with fail
  go_quiet (fail)
  go_wp2_with fail
  go_ret2
  exact ⟨rfl, below_drewN' (Below.refl _ _) _⟩
set_option maxRecDepth 100000 in
set_option maxHeartbeats 2000000 in
theorem Add_any (ab : Nat) (v : Value) (L : List E) (last most at1 what : Int) (w : World) (h : Hid (Ag w ab v L last most)) (hm : (L.length : Int) < most) (hm2 : most ≤ 1000) (l0 : 0 ≤ last) (l1 : last ≤ 1000000) : Calls Try.prog 8 #[.pointer (some ⟨ab, 0, none⟩), .int .i64 at1, .int .i64 what] w fun e w' => e = .returned (.tuple #[.int .i64 (last + 1), .int .i64 0]) ∧ ∃ v', Hid (Ag w' ab v' (addF L (at1, last + 1, what)) (last + 1) most) ∧ Mov ab v v' w w' := by
  have C := Lib.hid (live h)
  have hl := h.out.len
  have hge : decide (most ≤ (L.length : Int)) = false := decide_eq_false (by omega)
  obtain ⟨n, hn⟩ : ∃ n, L.length = n := ⟨_, rfl⟩
  have HN := Lib.hid hn
  rw [hn] at hm hl hge
  have S : Hid (Ag w ab v L last most) := h
  obtain ⟨a, cap, hv⟩ := own_val h.out.own
  rw [hn] at hv
  clear h hn
  have bc := S.out.box.cell
  rw [hv] at bc
  have HV := Lib.hid hv
  clear hv
  go_enter Try.func8, Try.ntmps8
  go_wp2_with fail
  refine (C.out).mono ?_
  rintro e w5 ⟨rfl, e9⟩
  cases e9
  go_wp2_with fail
  go_quiet (fail)
  have M : Hid (Mov ab v v w (w.drewN nq)) := Lib.hid (Mov.below (below_drewN' (Below.refl _ _) nq))
  have S := ag_next S (below_drewN' (Below.refl _ _) nq)
  clear bc
  generalize w.drewN nq = W1 at *
  have bc := S.out.box.cell
  rw [HV.out] at bc
  have fz := S.out.box.frozen
  go_wp2_with fail
  obtain ⟨S2, M2⟩ := ag_fld (x := last + 1) S
  replace M := Lib.hid (M.out.trans M2)
  clear S M2 bc fz
  generalize W1.setCell ⟨ab, 1, none⟩ (.int .i64 (last + 1)) = W2 at *
  replace M := Lib.hid (M.out.trans (Mov.below (Below.refl W2.heap.size W2).drew))
  replace S2 := ag_next S2 (Below.refl _ _).drew
  have bc := S2.out.box.cell
  rw [HV.out] at bc
  obtain ⟨i0, hi0, hz0, hz1, hz2⟩ := info_parts infoEntry
  refine wp_region_till (fun _ => True ∧ True) (fun w' => ∀ i, w'.cell? ⟨ab, i, none⟩ = (#[.slice a n cap, .int .i64 (last + 1), .int .i64 most, .bool true] : Array Value)[i]?) 16 17 #[false, false, false, false, false, false, false, false, false, false, false, false, false, false, false, false, false] (by kernel_rfl) rfl rfl ⟨⟨trivial, trivial⟩, bc⟩ (fun hHeld => ?_)
  generalize W2.drew = W3 at *
  clear bc
  refine HeldT.wpTill_takeT false (i := 0) (v := ?_) rfl (by kernel_rfl) (by kernel_rfl) (by kernel_rfl) (fun _ _ _ h => h) (by kernel_rfl) (Or.inl ⟨by first | rfl | kernel_rfl, ?_⟩) hHeld (fun hHeld => ?_)
  rotate_left
  · (intro w' hSw; obtain ⟨⟨r1, r2⟩, r3⟩ := hSw; (try have r4 := r3 rfl); (try dsimp only at r1 r2 r4); clear r3; go_simp; try with_reducible rfl)
  try simp only [Act.put, List.setIfInBounds_toArray, List.set_cons_zero, List.set_cons_succ, List.getElem_toArray, List.getElem_cons_succ, List.getElem_cons_zero]
  refine HeldT.wpTill_takeT false (i := 1) (v := ?_) rfl (by kernel_rfl) (by kernel_rfl) (by kernel_rfl) (fun _ _ _ h => h) (by kernel_rfl) (Or.inl ⟨by first | rfl | kernel_rfl, ?_⟩) hHeld (fun hHeld => ?_)
  rotate_left
  · (intro w' hSw; obtain ⟨⟨r1, r2⟩, r3⟩ := hSw; (try have r4 := r3 rfl); (try dsimp only at r1 r2 r4); clear r3; go_simp; try with_reducible rfl)
  try simp only [Act.put, List.setIfInBounds_toArray, List.set_cons_zero, List.set_cons_succ, List.getElem_toArray, List.getElem_cons_succ, List.getElem_cons_zero]
  refine HeldT.wpTill_takeT false (i := 2) (v := ?_) rfl (by kernel_rfl) (by kernel_rfl) (by kernel_rfl) (fun _ _ _ h => h) (by kernel_rfl) (Or.inl ⟨by first | rfl | kernel_rfl, ?_⟩) hHeld (fun hHeld => ?_)
  rotate_left
  · (intro w' hSw; obtain ⟨⟨r1, r2⟩, r3⟩ := hSw; (try have r4 := r3 rfl); (try dsimp only at r1 r2 r4); clear r3; go_simp; try with_reducible rfl)
  try simp only [Act.put, List.setIfInBounds_toArray, List.set_cons_zero, List.set_cons_succ, List.getElem_toArray, List.getElem_cons_succ, List.getElem_cons_zero]
  refine HeldT.wpTill_takeT false (i := 3) (v := ?_) rfl (by kernel_rfl) (by kernel_rfl) (by kernel_rfl) (fun _ _ _ h => h) (by kernel_rfl) (Or.inl ⟨by first | rfl | kernel_rfl, ?_⟩) hHeld (fun hHeld => ?_)
  rotate_left
  · (intro w' hSw; obtain ⟨⟨r1, r2⟩, r3⟩ := hSw; (try have r4 := r3 rfl); (try dsimp only at r1 r2 r4); clear r3; go_simp; try with_reducible rfl)
  try simp only [Act.put, List.setIfInBounds_toArray, List.set_cons_zero, List.set_cons_succ, List.getElem_toArray, List.getElem_cons_succ, List.getElem_cons_zero]
  refine HeldT.wpTill_takeT true (i := 4) (v := ?_) rfl (by kernel_rfl) (by kernel_rfl) (by kernel_rfl) (fun _ _ _ h => h) (by kernel_rfl) (Or.inl ⟨by first | rfl | kernel_rfl, ?_⟩) hHeld (fun hHeld => ?_)
  rotate_left
  · (intro w' hSw; obtain ⟨⟨r1, r2⟩, r3⟩ := hSw; (try have r4 := r3 rfl); (try dsimp only at r1 r2 r4); clear r3; go_simp; try with_reducible rfl)
  try simp only [Act.put, List.setIfInBounds_toArray, List.set_cons_zero, List.set_cons_succ, List.getElem_toArray, List.getElem_cons_succ, List.getElem_cons_zero]
  refine HeldT.wpTill_takeT false (i := 5) (v := ?_) rfl (by kernel_rfl) (by kernel_rfl) (by kernel_rfl) (fun _ _ _ h => h) (by kernel_rfl) (Or.inl ⟨by first | rfl | kernel_rfl, ?_⟩) hHeld (fun hHeld => ?_)
  rotate_left
  · (intro w' hSw; obtain ⟨⟨r1, r2⟩, r3⟩ := hSw; (try have r4 := r3 rfl); (try dsimp only at r1 r2 r4); clear r3; go_simp; try with_reducible rfl)
  try simp only [Act.put, List.setIfInBounds_toArray, List.set_cons_zero, List.set_cons_succ, List.getElem_toArray, List.getElem_cons_succ, List.getElem_cons_zero]
  refine HeldT.wpTill_takeT false (i := 6) (v := ?_) rfl (by kernel_rfl) (by kernel_rfl) (by kernel_rfl) (fun _ _ _ h => h) (by kernel_rfl) (Or.inl ⟨by first | rfl | kernel_rfl, ?_⟩) hHeld (fun hHeld => ?_)
  rotate_left
  · (intro w' hSw; obtain ⟨⟨r1, r2⟩, r3⟩ := hSw; (try have r4 := r3 rfl); (try dsimp only at r1 r2 r4); clear r3; go_simp; try with_reducible rfl)
  try simp only [Act.put, List.setIfInBounds_toArray, List.set_cons_zero, List.set_cons_succ, List.getElem_toArray, List.getElem_cons_succ, List.getElem_cons_zero]
  refine HeldT.wpTill_takeT false (i := 7) (v := ?_) rfl (by kernel_rfl) (by kernel_rfl) (by kernel_rfl) (fun _ _ _ h => h) (by kernel_rfl) (Or.inl ⟨by first | rfl | kernel_rfl, ?_⟩) hHeld (fun hHeld => ?_)
  rotate_left
  · (intro w' hSw; obtain ⟨⟨r1, r2⟩, r3⟩ := hSw; (try have r4 := r3 rfl); (try dsimp only at r1 r2 r4); clear r3; go_simp; try with_reducible rfl)
  try simp only [Act.put, List.setIfInBounds_toArray, List.set_cons_zero, List.set_cons_succ, List.getElem_toArray, List.getElem_cons_succ, List.getElem_cons_zero]
  refine HeldT.wpTill_takeT false (i := 8) (v := ?_) rfl (by kernel_rfl) (by kernel_rfl) (by kernel_rfl) (fun _ _ _ h => h) (by kernel_rfl) (Or.inl ⟨by first | rfl | kernel_rfl, ?_⟩) hHeld (fun hHeld => ?_)
  rotate_left
  · (intro w' hSw; obtain ⟨⟨r1, r2⟩, r3⟩ := hSw; (try have r4 := r3 rfl); (try dsimp only at r1 r2 r4); clear r3; go_simp; try with_reducible rfl)
  try simp only [Act.put, List.setIfInBounds_toArray, List.set_cons_zero, List.set_cons_succ, List.getElem_toArray, List.getElem_cons_succ, List.getElem_cons_zero]
  refine HeldT.wpTill_takeT true (i := 9) (v := ?_) rfl (by kernel_rfl) (by kernel_rfl) (by kernel_rfl) (fun _ _ _ h => h) (by kernel_rfl) (Or.inl ⟨by first | rfl | kernel_rfl, ?_⟩) hHeld (fun hHeld => ?_)
  rotate_left
  · (intro w' hSw; obtain ⟨⟨r1, r2⟩, r3⟩ := hSw; (try have r4 := r3 rfl); (try dsimp only at r1 r2 r4); clear r3; go_simp; try with_reducible rfl)
  try simp only [Act.put, List.setIfInBounds_toArray, List.set_cons_zero, List.set_cons_succ, List.getElem_toArray, List.getElem_cons_succ, List.getElem_cons_zero]
  refine HeldT.wpTill_takeT false (i := 10) (v := ?_) rfl (by kernel_rfl) (by kernel_rfl) (by kernel_rfl) (fun _ _ _ h => h) (by kernel_rfl) (Or.inl ⟨by first | rfl | kernel_rfl, ?_⟩) hHeld (fun hHeld => ?_)
  rotate_left
  · (intro w' hSw; obtain ⟨⟨r1, r2⟩, r3⟩ := hSw; (try have r4 := r3 rfl); (try dsimp only at r1 r2 r4); clear r3; go_simp; try with_reducible rfl)
  try simp only [Act.put, List.setIfInBounds_toArray, List.set_cons_zero, List.set_cons_succ, List.getElem_toArray, List.getElem_cons_succ, List.getElem_cons_zero]
  refine HeldT.wpTill_takeT false (i := 11) (v := ?_) rfl (by kernel_rfl) (by kernel_rfl) (by kernel_rfl) (fun _ _ _ h => h) (by kernel_rfl) (Or.inl ⟨by first | rfl | kernel_rfl, ?_⟩) hHeld (fun hHeld => ?_)
  rotate_left
  · (intro w' hSw; obtain ⟨⟨r1, r2⟩, r3⟩ := hSw; (try have r4 := r3 rfl); (try dsimp only at r1 r2 r4); clear r3; go_simp; try with_reducible rfl)
  try simp only [Act.put, List.setIfInBounds_toArray, List.set_cons_zero, List.set_cons_succ, List.getElem_toArray, List.getElem_cons_succ, List.getElem_cons_zero]
  refine wpTill_one (i := 12) (by kernel_rfl) rfl (fun K hK => ?_)
  go_simp
  have S3 := ag_next S2 ((Below.refl _ _).alloc (Nat.le_refl _) (.cells #[.int .i64 at1, .int .i64 (last + 1), .int .i64 what] 33))
  have bc := S3.out.box.cell
  rw [HV.out] at bc
  refine hK _ _ ⟨⟨trivial, trivial⟩, fun _ => bc⟩ (fun hHeld => ?_)
  clear hK K bc
  have O := S3.out.own
  rw [HN.out] at O
  have M3 := Lib.hid (M.out.trans (Mov.below ((Below.refl W3.heap.size W3).alloc (Nat.le_refl _) (.cells #[.int .i64 at1, .int .i64 (last + 1), .int .i64 what] 33))))
  refine wpTill_one (i := 13) (by kernel_rfl) rfl (fun K hK => ?_)
  refine step_append_lies _ rfl _ _ _ rfl 0 33 i0 (.agg #[.int .i64 0, .int .i64 0, .int .i64 0]) 3 24 (by kernel_rfl) hi0 hz0 hz1 hz2 rfl (by decide) v n (encE L) (by rw [HV.out]; rfl) O ⟨W3.heap.size, 0, none⟩ 1 1 [.int .i64 at1, .int .i64 (last + 1), .int .i64 what] (by rfl) rfl (World.news_of_block (heap_alloc_new _ _)) (by simp [Value.oneCell']) (by omega) (by unfold maxLen; omega) (by omega) (Nat.zero_le _) _ rfl ?_
  intro g cap2 w2 hown hgrow hat hlt4
  obtain ⟨S4, M4⟩ := ag_app S3 HN.out (by omega) hgrow hown (by rcases hat with z | z; exact .inl z; exact .inr (by omega))
  have BX := Lib.hid (S3.out.box.grown hgrow (fun e => own_neR S3.out.own S3.out.box (by decide) e.symm))
  have bc := BX.out.cell
  rw [HV.out] at bc
  have fz := BX.out.frozen
  refine hK _ _ ⟨⟨trivial, trivial⟩, fun _ => bc⟩ (fun hHeld => ?_)
  clear hK K
  simp only [Act.put, List.getElem_toArray, List.getElem_cons_succ, List.getElem_cons_zero, List.setIfInBounds_toArray, List.set_cons_zero, List.set_cons_succ] at hHeld ⊢
  refine HeldT.wpTill_takeT false (i := 14) (v := ?_) rfl (by kernel_rfl) (by kernel_rfl) (by kernel_rfl) (fun _ _ _ h => h) (by kernel_rfl) (Or.inl ⟨by first | rfl | kernel_rfl, ?_⟩) hHeld (fun hHeld => ?_)
  rotate_left
  · (intro w' hSw; obtain ⟨⟨r1, r2⟩, r3⟩ := hSw; (try have r4 := r3 rfl); (try dsimp only at r1 r2 r4); clear r3; go_simp; try with_reducible rfl)
  try simp only [Act.put, List.setIfInBounds_toArray, List.set_cons_zero, List.set_cons_succ, List.getElem_toArray, List.getElem_cons_succ, List.getElem_cons_zero]
  refine HeldT.wpTill_takeT false (i := 15) (v := ?_) rfl (by kernel_rfl) (by kernel_rfl) (by kernel_rfl) (fun _ _ _ h => h) (by kernel_rfl) (Or.inl ⟨by first | rfl | kernel_rfl, ?_⟩) hHeld (fun hHeld => ?_)
  rotate_left
  · (intro w' hSw; obtain ⟨⟨r1, r2⟩, r3⟩ := hSw; (try have r4 := r3 rfl); (try dsimp only at r1 r2 r4); clear r3; go_simp; try with_reducible rfl)
  try simp only [Act.put, List.setIfInBounds_toArray, List.set_cons_zero, List.set_cons_succ, List.getElem_toArray, List.getElem_cons_succ, List.getElem_cons_zero]
  refine wpTill_one (i := 16) (by kernel_rfl) rfl (fun K hK => ?_)
  rw [if_pos (by kernel_rfl)]
  go_simp
  refine hK _ _ ⟨⟨trivial, trivial⟩, fun h => (by cases h)⟩ (fun hHeld => ?_)
  clear hK K
  refine wpTill_done (by kernel_rfl) ?_ 0
  clear hHeld bc fz BX hown hgrow hat hlt4 O S3 S2
  replace M := Lib.hid (M3.out.trans M4)
  clear M3 M4
  generalize w2.setCell ⟨ab, 0, none⟩ (.slice (some ⟨g, 0, none⟩) (n + 1) cap2) = W5 at *
  have bc := S4.out.box.cell
  go_wp2_with fail
  refine (up_any ab g (n + 1) cap2 _ _ most n _ S4 (by rw [List.length_append, HN.out]; simp)).mono ?_
  rintro e w9 ⟨rfl, U⟩
  replace M := Lib.hid (M.out.trans (⟨U.out.alt.mono (fun i hi => .inr (by rw [hi]; rfl)), fun g hg => .inl hg⟩ : Mov ab _ (.slice (some ⟨g, 0, none⟩) (n + 1) cap2) W5 w9))
  have S5 := U.out.ag
  clear bc S4 U
  have bc := S5.out.box.cell
  go_wp2_with fail
  go_ret2
  exact ⟨rfl, _, by have := S5; unfold addF; rw [HN.out]; exact this, M.out⟩
end Go.Proofs.Ytlafeijkpnpdeaa.Agg
