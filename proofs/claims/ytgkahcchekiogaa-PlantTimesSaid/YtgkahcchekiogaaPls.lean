/- Walks of the reference's plant: When, Run. -/
import Derived.Test.YtgkahcchekiogaaPlr
import Derived.Test.YtgkahcchekiogaaCls
import Derived.Test.YtgkahcchekiogaaRefC
namespace Go.Proofs.Ytgkahcchekiogaa.Pls
open Go.RowKit Base Kit RefA Alt WideA WideB RefC Plain MetA MetB MetC MetR MetQ Conf Plb Held Plr Cls
set_option linter.unusedVariables false
set_option linter.unusedSimpArgs false
attribute [local go_sem ↓] Go.wp_at_zero Go.wp_at_succ

structure RW (ln : Nat) (s : PS) (cy x e : Int) : Prop where
  x : 0 ≤ x ∧ x ≤ 2305843009213693952
  ok : e = 0 → 0 ≤ cy ∧ cy ≤ 2305843009213693952 - s.done ∧ 0 ≤ s.level
def RWPost (w : World) (ln : Nat) (s : PS) (cy : Int) (e' : Ending) (w' : World) : Prop := ∃ x e, e' = .returned (.tuple #[.int .i64 x, .int .i64 e]) ∧ RW ln s cy x e ∧ Below w.heap.size w w'
set_option maxRecDepth 100000 in
set_option maxHeartbeats 2000000 in
theorem rwhen_any {w0 w : World} {b m q cap n : Nat} {c : PowC} {s : PS} (h : Hid (RPl w0 w b m q cap n c s)) (cy : Int) (hcy : I64 cy) :
    Calls Try.prog 67 #[.pointer (some ⟨b, 0, none⟩), .int .i64 cy] w (RWPost w c.ln s cy) := by
  have bx := h.out.box
  have hb := h.out.box.cell
  have h3 := h.out.ok.level
  have ok1 := h.out.ok.base
  have ok2 := h.out.ok.done
  have bad : ∀ e : Int, e ≠ 0 → RW c.ln s cy 0 e := fun e he => ⟨by omega, fun h => absurd h he⟩
  have good : ∀ x : Int, 0 ≤ x ∧ x ≤ 2305843009213693952 → 0 ≤ cy ∧ cy ≤ 2305843009213693952 - s.done ∧ 0 ≤ s.level → RW c.ln s cy x 0 := fun x h1 h2 => ⟨h1, fun _ => h2⟩
  have BAD := Lib.hid bad
  have GOOD := Lib.hid good
  clear bad good
  have L : Hid (Open.RowsIn w c.la c.ln 2 c.lf) := Lib.hid (rows_below h.out.co.lev.out h.out.bel (Nat.le_refl _))
  obtain ⟨l, hl⟩ : ∃ l, s.level = l := ⟨_, rfl⟩
  obtain ⟨v0, hv0⟩ : ∃ l, s.now = l := ⟨_, rfl⟩
  obtain ⟨v1, hv1⟩ : ∃ l, s.base = l := ⟨_, rfl⟩
  obtain ⟨v2, hv2⟩ : ∃ l, s.done = l := ⟨_, rfl⟩
  rw [hl, hv0, hv1, hv2] at bx hb
  rw [hl] at h3
  rw [hv1] at ok1
  rw [hv2] at ok2
  rw [hl, hv2] at GOOD
  clear hl hv0 hv1 hv2
  by_cases h1 : cy < 0
  · --
    go_enter Try.func67, Try.ntmps67
    go_wp2_with fail
    go_quiet (fail)
    go_wp2_with fail
    go_ret2
    exact ⟨_, _, rfl, BAD.out _ (by decide), below_drewN' (Below.refl _ _) _⟩
  have d1 : decide (cy < 0) = false := by simpa using h1
  have h1 : 0 ≤ cy := by omega
  by_cases h2 : l < 0
  · --
    go_enter Try.func67, Try.ntmps67
    go_wp2_with fail
    go_quiet (fail)
    go_wp2_with fail
    go_ret2
    exact ⟨_, _, rfl, BAD.out _ (by decide), below_drewN' (Below.refl _ _) _⟩
  have h4 : 0 ≤ l := by omega
  obtain ⟨k, rfl⟩ := Int.eq_ofNat_of_zero_le h4
  have d2 : decide ((k : Int) < 0) = false := by simp
  have hk : k < c.ln := by omega
  obtain ⟨d, o, ea, l1, q0, q1, i0, i1⟩ := rows_at2 L k hk
  generalize c.lf k 0 = x at *
  generalize c.lf k 1 = y at *
  rw [ea] at hb bx
  clear ea h2 h3 L
  by_cases h5 : x < 1
  · --
    go_enter Try.func67, Try.ntmps67
    go_wp2_with fail
    go_quiet (fail)
    go_wp2_with fail
    go_ret2
    exact ⟨_, _, rfl, BAD.out _ (by decide), below_drewN' (Below.refl _ _) _⟩
  have d3 : decide (x < 1) = false := by simpa using h5
  have h5 : 1 ≤ x := by omega
  by_cases h6 : 2305843009213693952 - v2 < cy
  · --
    go_enter Try.func67, Try.ntmps67
    go_wp2_with fail
    go_quiet (fail)
    go_wp2_with fail
    go_ret2
    exact ⟨_, _, rfl, BAD.out _ (by decide), below_drewN' (Below.refl _ _) _⟩
  have h6 : cy ≤ 2305843009213693952 - v2 := by omega
  have GOOD := Lib.hid (fun x hx => GOOD.out x hx ⟨h1, h6, h4⟩)
  obtain ⟨t, ht⟩ : ∃ t, v2 + cy = t := ⟨_, rfl⟩
  have hws : IntKind.i64.wrap (v2 + cy) = t := by rw [← ht]; exact IntWalk.i64_in _ (by omega)
  have D := Lib.hid (fun w => mdr_any 1000 t x true w (by omega) (by omega) (by omega) (by omega) i0.1 i0.2)
  obtain ⟨m0, m1, m2, m3⟩ := FitB.md_bd 1000 t x true (fun _ _ _ => trivial)
  generalize (md 1000 t x true).1 = N at *
  generalize (md 1000 t x true).2 = E at *
  clear ht
  have ways : (E ≠ 0 ∧ (E != 0) = true) ∨ (E = 0 ∧ 2305843009213693952 - v1 < N) ∨ (E = 0 ∧ N ≤ 2305843009213693952 - v1) := by
    by_cases e1 : E = 0
    · omega
    · exact .inl ⟨e1, by simpa using e1⟩
  have BX : Hid (Box w b #[.int .i64 v0, .int .i64 v1, .int .i64 v2, .int .i64 (k : Int), .slice (some ⟨d, o, none⟩) c.ln c.lc, .slice c.na c.nn c.nc, .int .i64 c.sw, .int .i64 c.id, .int .i64 c.ch, .int .i64 c.qu, .int .i64 c.sl, .int .i64 c.pp, .pointer (some ⟨m, 0, none⟩)] 108) := Lib.hid bx
  clear bx
  have D' := fun w' (hC : Hid (Below w.heap.size w w' ∧ Box w' b #[.int .i64 v0, .int .i64 v1, .int .i64 v2, .int .i64 (k : Int), .slice (some ⟨d, o, none⟩) c.ln c.lc, .slice c.na c.nn c.nc, .int .i64 c.sw, .int .i64 c.id, .int .i64 c.ch, .int .i64 c.qu, .int .i64 c.sl, .int .i64 c.pp, .pointer (some ⟨m, 0, none⟩)] 108 ∧ w'.cell? ⟨d, o + k * 2, none⟩ = some (.int .i64 x) ∧ d < w'.heap.size)) => (D.out w').mono (R' := fun e w' => e = .returned (.tuple #[.int .i64 N, .int .i64 E]) ∧ Hid (Below w.heap.size w w' ∧ Box w' b #[.int .i64 v0, .int .i64 v1, .int .i64 v2, .int .i64 (k : Int), .slice (some ⟨d, o, none⟩) c.ln c.lc, .slice c.na c.nn c.nc, .int .i64 c.sw, .int .i64 c.id, .int .i64 c.ch, .int .i64 c.qu, .int .i64 c.sl, .int .i64 c.pp, .pointer (some ⟨m, 0, none⟩)] 108 ∧ w'.cell? ⟨d, o + k * 2, none⟩ = some (.int .i64 x) ∧ d < w'.heap.size)) (fun e w2 hh => ⟨hh.1, Lib.hid ⟨below_next hC.out.1 hh.2, hC.out.2.1.next hh.2, keep hh.2 hC.out.2.2.1 hC.out.2.2.2, lt_next hh.2 hC.out.2.2.2⟩⟩)
  have D' := Lib.hid D'
  rcases ways with ⟨e1, e2⟩ | ⟨rfl, e2⟩ | ⟨rfl, e2⟩
  · clear e1
    go_enter Try.func67, Try.ntmps67
    go_wp2_with fail
    go_quiet (fail)
    have C : Hid (Below w.heap.size w (w.drewN nq).drew ∧ Box (w.drewN nq).drew b #[.int .i64 v0, .int .i64 v1, .int .i64 v2, .int .i64 (k : Int), .slice (some ⟨d, o, none⟩) c.ln c.lc, .slice c.na c.nn c.nc, .int .i64 c.sw, .int .i64 c.id, .int .i64 c.ch, .int .i64 c.qu, .int .i64 c.sl, .int .i64 c.pp, .pointer (some ⟨m, 0, none⟩)] 108 ∧ (w.drewN nq).drew.cell? ⟨d, o + k * 2, none⟩ = some (.int .i64 x) ∧ d < (w.drewN nq).drew.heap.size) := Lib.hid ⟨(below_drewN' (Below.refl _ _) _).drew, BX.out, q0, l1⟩
    have hb0 : ∀ i, (w.drewN nq).cell? ⟨b, i, none⟩ = (#[.int .i64 v0, .int .i64 v1, .int .i64 v2, .int .i64 (k : Int), .slice (some ⟨d, o, none⟩) c.ln c.lc, .slice c.na c.nn c.nc, .int .i64 c.sw, .int .i64 c.id, .int .i64 c.ch, .int .i64 c.qu, .int .i64 c.sl, .int .i64 c.pp, .pointer (some ⟨m, 0, none⟩)] : Array Value)[i]? := hb
    clear hb q0 q1 l1 BX
    generalize w.drewN nq = W1 at *
    go_wp2_with fail
    clear hb0
    refine cls_region (fun w' => Hid (Below w.heap.size w w' ∧ Box w' b #[.int .i64 v0, .int .i64 v1, .int .i64 v2, .int .i64 (k : Int), .slice (some ⟨d, o, none⟩) c.ln c.lc, .slice c.na c.nn c.nc, .int .i64 c.sw, .int .i64 c.id, .int .i64 c.ch, .int .i64 c.qu, .int .i64 c.sl, .int .i64 c.pp, .pointer (some ⟨m, 0, none⟩)] 108 ∧ w'.cell? ⟨d, o + k * 2, none⟩ = some (.int .i64 x) ∧ d < w'.heap.size)) (by kernel_rfl) (by kernel_rfl) C ?_
    repeat
      (first
        | (refine Cls.cls_take (v := ?_) (by rfl) (fun w' hC => ?_) ?_
           rotate_left
           · (have ra := hC.out.2.1.cell; have rl := hC.out.2.2.1
              (go_simp)
              try (first
                | done
                | (with_reducible rfl)
                | exact D'.out _ hC)))
        | refine Cls.cls_skip (by rfl) ?_)
      try simp only [Act.put, List.setIfInBounds_toArray, List.set_cons_zero, List.set_cons_succ, List.getElem_toArray, List.getElem_cons_succ, List.getElem_cons_zero]
    refine wpQuiet_nil ?_
    clear C
    intro w6 C
    have HB := Lib.hid C.out.1
    have hb := C.out.2.1.cell
    go_wp2_with fail
    go_ret2
    exact ⟨_, _, rfl, BAD.out _ (by decide), HB.out⟩
  · --
    go_enter Try.func67, Try.ntmps67
    go_wp2_with fail
    go_quiet (fail)
    have C : Hid (Below w.heap.size w (w.drewN nq).drew ∧ Box (w.drewN nq).drew b #[.int .i64 v0, .int .i64 v1, .int .i64 v2, .int .i64 (k : Int), .slice (some ⟨d, o, none⟩) c.ln c.lc, .slice c.na c.nn c.nc, .int .i64 c.sw, .int .i64 c.id, .int .i64 c.ch, .int .i64 c.qu, .int .i64 c.sl, .int .i64 c.pp, .pointer (some ⟨m, 0, none⟩)] 108 ∧ (w.drewN nq).drew.cell? ⟨d, o + k * 2, none⟩ = some (.int .i64 x) ∧ d < (w.drewN nq).drew.heap.size) := Lib.hid ⟨(below_drewN' (Below.refl _ _) _).drew, BX.out, q0, l1⟩
    have hb0 : ∀ i, (w.drewN nq).cell? ⟨b, i, none⟩ = (#[.int .i64 v0, .int .i64 v1, .int .i64 v2, .int .i64 (k : Int), .slice (some ⟨d, o, none⟩) c.ln c.lc, .slice c.na c.nn c.nc, .int .i64 c.sw, .int .i64 c.id, .int .i64 c.ch, .int .i64 c.qu, .int .i64 c.sl, .int .i64 c.pp, .pointer (some ⟨m, 0, none⟩)] : Array Value)[i]? := hb
    clear hb q0 q1 l1 BX
    generalize w.drewN nq = W1 at *
    go_wp2_with fail
    clear hb0
    refine cls_region (fun w' => Hid (Below w.heap.size w w' ∧ Box w' b #[.int .i64 v0, .int .i64 v1, .int .i64 v2, .int .i64 (k : Int), .slice (some ⟨d, o, none⟩) c.ln c.lc, .slice c.na c.nn c.nc, .int .i64 c.sw, .int .i64 c.id, .int .i64 c.ch, .int .i64 c.qu, .int .i64 c.sl, .int .i64 c.pp, .pointer (some ⟨m, 0, none⟩)] 108 ∧ w'.cell? ⟨d, o + k * 2, none⟩ = some (.int .i64 x) ∧ d < w'.heap.size)) (by kernel_rfl) (by kernel_rfl) C ?_
    repeat
      (first
        | (refine Cls.cls_take (v := ?_) (by rfl) (fun w' hC => ?_) ?_
           rotate_left
           · (have ra := hC.out.2.1.cell; have rl := hC.out.2.2.1
              (go_simp)
              try (first
                | done
                | (with_reducible rfl)
                | exact D'.out _ hC)))
        | refine Cls.cls_skip (by rfl) ?_)
      try simp only [Act.put, List.setIfInBounds_toArray, List.set_cons_zero, List.set_cons_succ, List.getElem_toArray, List.getElem_cons_succ, List.getElem_cons_zero]
    refine wpQuiet_nil ?_
    clear C
    intro w6 C
    have HB := Lib.hid C.out.1
    have hb := C.out.2.1.cell
    go_wp2_with fail
    go_ret2
    exact ⟨_, _, rfl, BAD.out _ (by decide), HB.out⟩
  · --
    go_enter Try.func67, Try.ntmps67
    go_wp2_with fail
    go_quiet (fail)
    have C : Hid (Below w.heap.size w (w.drewN nq).drew ∧ Box (w.drewN nq).drew b #[.int .i64 v0, .int .i64 v1, .int .i64 v2, .int .i64 (k : Int), .slice (some ⟨d, o, none⟩) c.ln c.lc, .slice c.na c.nn c.nc, .int .i64 c.sw, .int .i64 c.id, .int .i64 c.ch, .int .i64 c.qu, .int .i64 c.sl, .int .i64 c.pp, .pointer (some ⟨m, 0, none⟩)] 108 ∧ (w.drewN nq).drew.cell? ⟨d, o + k * 2, none⟩ = some (.int .i64 x) ∧ d < (w.drewN nq).drew.heap.size) := Lib.hid ⟨(below_drewN' (Below.refl _ _) _).drew, BX.out, q0, l1⟩
    have hb0 : ∀ i, (w.drewN nq).cell? ⟨b, i, none⟩ = (#[.int .i64 v0, .int .i64 v1, .int .i64 v2, .int .i64 (k : Int), .slice (some ⟨d, o, none⟩) c.ln c.lc, .slice c.na c.nn c.nc, .int .i64 c.sw, .int .i64 c.id, .int .i64 c.ch, .int .i64 c.qu, .int .i64 c.sl, .int .i64 c.pp, .pointer (some ⟨m, 0, none⟩)] : Array Value)[i]? := hb
    clear hb q0 q1 l1 BX
    generalize w.drewN nq = W1 at *
    go_wp2_with fail
    clear hb0
    refine cls_region (fun w' => Hid (Below w.heap.size w w' ∧ Box w' b #[.int .i64 v0, .int .i64 v1, .int .i64 v2, .int .i64 (k : Int), .slice (some ⟨d, o, none⟩) c.ln c.lc, .slice c.na c.nn c.nc, .int .i64 c.sw, .int .i64 c.id, .int .i64 c.ch, .int .i64 c.qu, .int .i64 c.sl, .int .i64 c.pp, .pointer (some ⟨m, 0, none⟩)] 108 ∧ w'.cell? ⟨d, o + k * 2, none⟩ = some (.int .i64 x) ∧ d < w'.heap.size)) (by kernel_rfl) (by kernel_rfl) C ?_
    repeat
      (first
        | (refine Cls.cls_take (v := ?_) (by rfl) (fun w' hC => ?_) ?_
           rotate_left
           · (have ra := hC.out.2.1.cell; have rl := hC.out.2.2.1
              (go_simp)
              try (first
                | done
                | (with_reducible rfl)
                | exact D'.out _ hC)))
        | refine Cls.cls_skip (by rfl) ?_)
      try simp only [Act.put, List.setIfInBounds_toArray, List.set_cons_zero, List.set_cons_succ, List.getElem_toArray, List.getElem_cons_succ, List.getElem_cons_zero]
    refine wpQuiet_nil ?_
    clear C
    intro w6 C
    have HB := Lib.hid C.out.1
    have hb := C.out.2.1.cell
    go_wp2_with fail
    go_ret2
    exact ⟨_, _, rfl, GOOD.out _ (by omega), HB.out⟩
end Go.Proofs.Ytgkahcchekiogaa.Pls
