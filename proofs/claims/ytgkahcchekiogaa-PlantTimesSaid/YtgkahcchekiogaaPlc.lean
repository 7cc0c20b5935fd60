/- Walks of package plant: When. -/
import Derived.Test.YtgkahcchekiogaaPlb
import Derived.Test.YtgkahcchekiogaaWideB
import Derived.IntWalk
namespace Go.Proofs.Ytgkahcchekiogaa.Plc
open Go.RowKit Base Kit RefA Alt WideA WideB Plain MetA MetB MetC Conf Plb
set_option linter.unusedVariables false
set_option linter.unusedSimpArgs false

set_option maxRecDepth 100000 in
set_option maxHeartbeats 1000000 in
theorem when_bad {w0 w : World} {b m g n : Nat} {c : PowC} {s : PS} (h : Hid (Pl w0 w b m g n c s)) (cy : Int) (hc : cy < 0 ∨ s.level < 0 ∨ c.lf s.level.toNat 0 < 1) :
    Calls Try.prog 22 #[.pointer (some ⟨b, 0, none⟩), .int .i64 cy] w fun e w' => e = .returned (.tuple #[.int .i64 0, .int .i64 2]) ∧ Below w.heap.size w w' := by
  have hb := h.out.box.cell
  have h3 := h.out.ok.level
  have L := pl_lev h
  generalize s.level = l at *
  generalize s.now = v0 at *
  generalize s.base = v1 at *
  generalize s.done = v2 at *
  have ways : cy < 0 ∨ (0 ≤ cy ∧ decide (cy < 0) = false ∧ l < 0) ∨ (0 ≤ cy ∧ decide (cy < 0) = false ∧ 0 ≤ l ∧ decide (l < 0) = false ∧ c.lf l.toNat 0 < 1) := by
    rcases hc with h | h | h
    · exact .inl h
    · by_cases h' : cy < 0
      · exact .inl h'
      · exact .inr (.inl ⟨by omega, by simpa using h', h⟩)
    · by_cases h' : cy < 0
      · exact .inl h'
      · by_cases h'' : l < 0
        · exact .inr (.inl ⟨by omega, by simpa using h', h''⟩)
        · exact .inr (.inr ⟨by omega, by simpa using h', by omega, by simpa using h'', h⟩)
  clear hc
  rcases ways with h1 | ⟨h1, h2, h4⟩ | ⟨h1, h2, h4, h5, h6⟩
  · --
    go_enter Try.func22, Try.ntmps22
    go_wp2_with fail
    refine (dead_any _ _ m (by rw [hb]; rfl)).mono ?_
    rintro e w' ⟨rfl, rfl⟩
    go_wp2_with fail
    go_quiet (fail)
    go_wp2_with fail
    go_ret2
    exact ⟨rfl, below_drewN' (Below.refl _ _) _⟩
  · --
    go_enter Try.func22, Try.ntmps22
    go_wp2_with fail
    refine (dead_any _ _ m (by rw [hb]; rfl)).mono ?_
    rintro e w' ⟨rfl, rfl⟩
    go_wp2_with fail
    go_quiet (fail)
    go_wp2_with fail
    go_ret2
    exact ⟨rfl, below_drewN' (Below.refl _ _) _⟩
  · obtain ⟨k, rfl⟩ := Int.eq_ofNat_of_zero_le h4
    have hk : k < c.ln := by omega
    obtain ⟨d, o, ea, l1, q0, q1, i0, i1⟩ := rows_at2 L k hk
    simp only [Int.toNat_natCast] at h6
    generalize c.lf k 0 = x at *
    generalize c.lf k 1 = y at *
    rw [ea] at hb
    clear ea h3
    go_enter Try.func22, Try.ntmps22
    go_wp2_with fail
    refine (dead_any _ _ m (by rw [hb]; rfl)).mono ?_
    rintro e w' ⟨rfl, rfl⟩
    go_wp2_with fail
    go_quiet (fail)
    go_wp2_with fail
    go_ret2
    exact ⟨rfl, below_drewN' (Below.refl _ _) _⟩

set_option maxRecDepth 100000 in
set_option maxHeartbeats 1000000 in
theorem when_any {w0 w : World} {b m g n : Nat} {c : PowC} {s : PS} (h : Hid (Pl w0 w b m g n c s)) (cy : Int) (r e : Int) (hcy : I64 cy) (hr : Hid (whenP c s cy = (r, e))) :
    Calls Try.prog 22 #[.pointer (some ⟨b, 0, none⟩), .int .i64 cy] w fun e' w' => e' = .returned (.tuple #[.int .i64 r, .int .i64 e]) ∧ Below w.heap.size w w' := by
  by_cases hc : cy < 0 ∨ s.level < 0 ∨ c.lf s.level.toNat 0 < 1
  · have := hr.out; unfold whenP at this; rw [if_pos hc] at this
    cases this
    exact when_bad h cy hc
  have hw := hr.out
  unfold whenP at hw
  rw [if_neg hc] at hw
  have bx := h.out.box
  have hb := h.out.box.cell
  have h3 := h.out.ok.level
  have ok1 := h.out.ok.base
  have ok2 := h.out.ok.done
  have L := pl_lev h
  generalize s.level = l at *
  generalize s.now = v0 at *
  generalize s.base = v1 at *
  generalize s.done = v2 at *
  have h1 : 0 ≤ cy := by omega
  have h4 : 0 ≤ l := by omega
  obtain ⟨k, rfl⟩ := Int.eq_ofNat_of_zero_le h4
  have hk : k < c.ln := by omega
  obtain ⟨d, o, ea, l1, q0, q1, i0, i1⟩ := rows_at2 L k hk
  simp only [Int.toNat_natCast] at hc hw
  generalize c.lf k 0 = x at *
  generalize c.lf k 1 = y at *
  rw [ea] at hb
  have BX : Hid (Box w b #[.int .i64 v0, .int .i64 v1, .int .i64 v2, .int .i64 (k : Int), .slice (some ⟨d, o, none⟩) c.ln c.lc, .slice c.na c.nn c.nc, .int .i64 c.sw, .int .i64 c.id, .int .i64 c.ch, .int .i64 c.qu, .int .i64 c.sl, .int .i64 c.pp, .pointer (some ⟨m, 0, none⟩)] 43) := Lib.hid (by rw [ea] at bx; exact bx)
  have h5 : 1 ≤ x := by omega
  have d1 : decide (cy < 0) = false := by simp; omega
  have d2 : decide ((k : Int) < 0) = false := by simp
  have d3 : decide (x < 1) = false := by simp; omega
  clear ea h3 hc L hr bx
  by_cases hr : 2305843009213693952 - v2 < cy
  · rw [if_pos hr] at hw
    cases hw
    go_enter Try.func22, Try.ntmps22
    go_wp2_with fail
    refine (dead_any _ _ m (by rw [hb]; rfl)).mono ?_
    rintro e w' ⟨rfl, rfl⟩
    go_wp2_with fail
    go_quiet (fail)
    go_wp2_with fail
    go_ret2
    exact ⟨rfl, below_drewN' (Below.refl _ _) _⟩
  rw [if_neg hr] at hw
  have hr' : cy ≤ 2305843009213693952 - v2 := by omega
  obtain ⟨t, ht⟩ : ∃ t, v2 + cy = t := ⟨_, rfl⟩
  have hws : IntKind.i64.wrap (v2 + cy) = t := by rw [← ht]; exact IntWalk.i64_in _ (by omega)
  rw [ht] at hw
  have D := Lib.hid (fun w => md_any t 1000 x true w (by omega) (by omega) (by omega) (by omega) i0.1 i0.2)
  obtain ⟨m0, m1, m2, m3⟩ := FitB.md_bd t 1000 x true (fun _ _ _ => trivial)
  generalize (md t 1000 x true).1 = N at *
  generalize (md t 1000 x true).2 = E at *
  have HWS := Lib.hid hws
  clear hws ht
  clear hr
  have ways : (E ≠ 0 ∧ r = 0 ∧ e = 6) ∨ (E = 0 ∧ 2305843009213693952 - v1 < N ∧ r = 0 ∧ e = 6) ∨ (E = 0 ∧ N ≤ 2305843009213693952 - v1 ∧ r = v1 + N ∧ e = 0) := by
    by_cases e1 : E = 0
    · by_cases e2 : 2305843009213693952 - v1 < N
      · rw [if_pos (.inr e2)] at hw; cases hw; exact .inr (.inl ⟨e1, e2, rfl, rfl⟩)
      · rw [if_neg (by intro h; rcases h with h | h; exact h e1; exact e2 h)] at hw; cases hw; exact .inr (.inr ⟨e1, by omega, rfl, rfl⟩)
    · rw [if_pos (.inl e1)] at hw; cases hw; exact .inl ⟨e1, rfl, rfl⟩
  clear hw
  have hws := HWS.out
  rcases ways with ⟨e1, rfl, rfl⟩ | ⟨rfl, e2, rfl, rfl⟩ | ⟨rfl, e2, rfl, rfl⟩
  · have e2 : (E != 0) = true := by simpa using e1
    clear e1
    go_enter Try.func22, Try.ntmps22
    go_wp2_with fail
    refine (dead_any _ _ m (by rw [hb]; rfl)).mono ?_
    rintro e w' ⟨rfl, rfl⟩
    go_wp2_with fail
    go_quiet (fail)
    have HB : Hid (Below w.heap.size w (w.drewN nq).drew) := Lib.hid (below_drewN' (Below.refl _ _) _).drew
    have hb' : ∀ i, (w.drewN nq).drew.cell? ⟨b, i, none⟩ = (#[.int .i64 v0, .int .i64 v1, .int .i64 v2, .int .i64 (k : Int), .slice (some ⟨d, o, none⟩) c.ln c.lc, .slice c.na c.nn c.nc, .int .i64 c.sw, .int .i64 c.id, .int .i64 c.ch, .int .i64 c.qu, .int .i64 c.sl, .int .i64 c.pp, .pointer (some ⟨m, 0, none⟩)] : Array Value)[i]? := hb
    have hb0 : ∀ i, (w.drewN nq).cell? ⟨b, i, none⟩ = (#[.int .i64 v0, .int .i64 v1, .int .i64 v2, .int .i64 (k : Int), .slice (some ⟨d, o, none⟩) c.ln c.lc, .slice c.na c.nn c.nc, .int .i64 c.sw, .int .i64 c.id, .int .i64 c.ch, .int .i64 c.qu, .int .i64 c.sl, .int .i64 c.pp, .pointer (some ⟨m, 0, none⟩)] : Array Value)[i]? := hb
    have q' : (w.drewN nq).drew.cell? ⟨d, o + k * 2, none⟩ = some (.int .i64 x) := q0
    have BL : Hid (Box (w.drewN nq).drew b #[.int .i64 v0, .int .i64 v1, .int .i64 v2, .int .i64 (k : Int), .slice (some ⟨d, o, none⟩) c.ln c.lc, .slice c.na c.nn c.nc, .int .i64 c.sw, .int .i64 c.id, .int .i64 c.ch, .int .i64 c.qu, .int .i64 c.sl, .int .i64 c.pp, .pointer (some ⟨m, 0, none⟩)] 43) := BX
    have l2 : d < (w.drewN nq).drew.heap.size := l1
    clear hb q0 q1 l1 BX
    generalize w.drewN nq = W1 at *
    go_wp2_with fail
    go_region_held3 (fun w' => (∀ i, w'.cell? ⟨b, i, none⟩ = (#[.int .i64 v0, .int .i64 v1, .int .i64 v2, .int .i64 (k : Int), .slice (some ⟨d, o, none⟩) c.ln c.lc, .slice c.na c.nn c.nc, .int .i64 c.sw, .int .i64 c.id, .int .i64 c.ch, .int .i64 c.qu, .int .i64 c.sl, .int .i64 c.pp, .pointer (some ⟨m, 0, none⟩)] : Array Value)[i]?) ∧ w'.cell? ⟨d, o + k * 2, none⟩ = some (.int .i64 x))
      (first
        | exact ⟨hb', q'⟩
        | exact ⟨(BL.out.next hb2).cell, keep hb2 q' l2⟩)
      (first
        | (go_at_call 69; refine (D.out _).mono ?_; rintro e1 w2 ⟨rfl, hb2⟩))
    have hb3 := (BL.out.next hb2).cell
    clear hb' q' hb0 hws
    have HB := below_hid HB hb2
    clear hb2
    go_wp2_with fail
    go_ret2
    exact ⟨rfl, HB.out⟩
  · --
    go_enter Try.func22, Try.ntmps22
    go_wp2_with fail
    refine (dead_any _ _ m (by rw [hb]; rfl)).mono ?_
    rintro e w' ⟨rfl, rfl⟩
    go_wp2_with fail
    go_quiet (fail)
    have HB : Hid (Below w.heap.size w (w.drewN nq).drew) := Lib.hid (below_drewN' (Below.refl _ _) _).drew
    have hb' : ∀ i, (w.drewN nq).drew.cell? ⟨b, i, none⟩ = (#[.int .i64 v0, .int .i64 v1, .int .i64 v2, .int .i64 (k : Int), .slice (some ⟨d, o, none⟩) c.ln c.lc, .slice c.na c.nn c.nc, .int .i64 c.sw, .int .i64 c.id, .int .i64 c.ch, .int .i64 c.qu, .int .i64 c.sl, .int .i64 c.pp, .pointer (some ⟨m, 0, none⟩)] : Array Value)[i]? := hb
    have hb0 : ∀ i, (w.drewN nq).cell? ⟨b, i, none⟩ = (#[.int .i64 v0, .int .i64 v1, .int .i64 v2, .int .i64 (k : Int), .slice (some ⟨d, o, none⟩) c.ln c.lc, .slice c.na c.nn c.nc, .int .i64 c.sw, .int .i64 c.id, .int .i64 c.ch, .int .i64 c.qu, .int .i64 c.sl, .int .i64 c.pp, .pointer (some ⟨m, 0, none⟩)] : Array Value)[i]? := hb
    have q' : (w.drewN nq).drew.cell? ⟨d, o + k * 2, none⟩ = some (.int .i64 x) := q0
    have BL : Hid (Box (w.drewN nq).drew b #[.int .i64 v0, .int .i64 v1, .int .i64 v2, .int .i64 (k : Int), .slice (some ⟨d, o, none⟩) c.ln c.lc, .slice c.na c.nn c.nc, .int .i64 c.sw, .int .i64 c.id, .int .i64 c.ch, .int .i64 c.qu, .int .i64 c.sl, .int .i64 c.pp, .pointer (some ⟨m, 0, none⟩)] 43) := BX
    have l2 : d < (w.drewN nq).drew.heap.size := l1
    clear hb q0 q1 l1 BX
    generalize w.drewN nq = W1 at *
    go_wp2_with fail
    go_region_held3 (fun w' => (∀ i, w'.cell? ⟨b, i, none⟩ = (#[.int .i64 v0, .int .i64 v1, .int .i64 v2, .int .i64 (k : Int), .slice (some ⟨d, o, none⟩) c.ln c.lc, .slice c.na c.nn c.nc, .int .i64 c.sw, .int .i64 c.id, .int .i64 c.ch, .int .i64 c.qu, .int .i64 c.sl, .int .i64 c.pp, .pointer (some ⟨m, 0, none⟩)] : Array Value)[i]?) ∧ w'.cell? ⟨d, o + k * 2, none⟩ = some (.int .i64 x))
      (first
        | exact ⟨hb', q'⟩
        | exact ⟨(BL.out.next hb2).cell, keep hb2 q' l2⟩)
      (first
        | (go_at_call 69; refine (D.out _).mono ?_; rintro e1 w2 ⟨rfl, hb2⟩))
    have hb3 := (BL.out.next hb2).cell
    clear hb' q' hb0 hws
    have HB := below_hid HB hb2
    clear hb2
    go_wp2_with fail
    go_ret2
    exact ⟨rfl, HB.out⟩
  · --
    go_enter Try.func22, Try.ntmps22
    go_wp2_with fail
    refine (dead_any _ _ m (by rw [hb]; rfl)).mono ?_
    rintro e w' ⟨rfl, rfl⟩
    go_wp2_with fail
    go_quiet (fail)
    have HB : Hid (Below w.heap.size w (w.drewN nq).drew) := Lib.hid (below_drewN' (Below.refl _ _) _).drew
    have hb' : ∀ i, (w.drewN nq).drew.cell? ⟨b, i, none⟩ = (#[.int .i64 v0, .int .i64 v1, .int .i64 v2, .int .i64 (k : Int), .slice (some ⟨d, o, none⟩) c.ln c.lc, .slice c.na c.nn c.nc, .int .i64 c.sw, .int .i64 c.id, .int .i64 c.ch, .int .i64 c.qu, .int .i64 c.sl, .int .i64 c.pp, .pointer (some ⟨m, 0, none⟩)] : Array Value)[i]? := hb
    have hb0 : ∀ i, (w.drewN nq).cell? ⟨b, i, none⟩ = (#[.int .i64 v0, .int .i64 v1, .int .i64 v2, .int .i64 (k : Int), .slice (some ⟨d, o, none⟩) c.ln c.lc, .slice c.na c.nn c.nc, .int .i64 c.sw, .int .i64 c.id, .int .i64 c.ch, .int .i64 c.qu, .int .i64 c.sl, .int .i64 c.pp, .pointer (some ⟨m, 0, none⟩)] : Array Value)[i]? := hb
    have q' : (w.drewN nq).drew.cell? ⟨d, o + k * 2, none⟩ = some (.int .i64 x) := q0
    have BL : Hid (Box (w.drewN nq).drew b #[.int .i64 v0, .int .i64 v1, .int .i64 v2, .int .i64 (k : Int), .slice (some ⟨d, o, none⟩) c.ln c.lc, .slice c.na c.nn c.nc, .int .i64 c.sw, .int .i64 c.id, .int .i64 c.ch, .int .i64 c.qu, .int .i64 c.sl, .int .i64 c.pp, .pointer (some ⟨m, 0, none⟩)] 43) := BX
    have l2 : d < (w.drewN nq).drew.heap.size := l1
    clear hb q0 q1 l1 BX
    generalize w.drewN nq = W1 at *
    go_wp2_with fail
    go_region_held3 (fun w' => (∀ i, w'.cell? ⟨b, i, none⟩ = (#[.int .i64 v0, .int .i64 v1, .int .i64 v2, .int .i64 (k : Int), .slice (some ⟨d, o, none⟩) c.ln c.lc, .slice c.na c.nn c.nc, .int .i64 c.sw, .int .i64 c.id, .int .i64 c.ch, .int .i64 c.qu, .int .i64 c.sl, .int .i64 c.pp, .pointer (some ⟨m, 0, none⟩)] : Array Value)[i]?) ∧ w'.cell? ⟨d, o + k * 2, none⟩ = some (.int .i64 x))
      (first
        | exact ⟨hb', q'⟩
        | exact ⟨(BL.out.next hb2).cell, keep hb2 q' l2⟩)
      (first
        | (go_at_call 69; refine (D.out _).mono ?_; rintro e1 w2 ⟨rfl, hb2⟩))
    have hb3 := (BL.out.next hb2).cell
    clear hb' q' hb0 hws
    have HB := below_hid HB hb2
    clear hb2
    go_wp2_with fail
    go_ret2
    exact ⟨rfl, HB.out⟩
end Go.Proofs.Ytgkahcchekiogaa.Plc
