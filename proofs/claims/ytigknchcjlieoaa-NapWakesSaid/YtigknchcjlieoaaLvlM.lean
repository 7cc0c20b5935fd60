/- Package level and its reference: Pick. -/
import Derived.Test.YtigknchcjlieoaaLvlK
namespace Go.Proofs.Ytigknchcjlieoaa.LvlM
open Go.RowKit Go.Shelf Base Kit Conf PowA PowB PowC PowR WideB Alt RefA LvlA LvlB LvlC LvlD LvlE LvlF LvlG LvlH LvlI LvlJ LvlK
set_option linter.unusedVariables false
set_option linter.unusedSimpArgs false

/-- the one that is picked -/
def pickR (p : PowC) (x : X5) (e c : Int) : Int := if c < 1 ∨ (alwL p x e).length = 0 then bestR p x e else (((alwL p x e).getD ((c - 1).toNat % (alwL p x e).length) 0 : Nat) : Int)
set_option maxRecDepth 100000 in
set_option maxHeartbeats 4000000 in
theorem Pick_any (p : PowC) (x : X5) (e c : Int) (hc : I64 c) (w : World) (ok : p.Ok w) (h100 : p.ln ≤ 100) (r : Int) (hr : Hid (pickR p x e c = r)) :
    Calls Try.prog 19 #[.agg #[.slice p.la p.ln p.lc, .slice p.na p.nn p.nc, .int .i64 p.sw, .int .i64 p.id, .int .i64 p.ch, .int .i64 p.qu, .int .i64 p.sl, .int .i64 p.pp], .agg #[.int .i64 x.now, .int .i64 x.base, .int .i64 x.dn, .int .i64 x.lv, .int .i64 x.lf], .int .i64 e, .int .i64 c] w fun e w' => e = .returned (.int .i64 r) ∧ Below w.heap.size w w' := by
  have hr := hr.out
  have A := Lib.hid (fun w1 (h : Below w.heap.size w w1) => Allowed_any p x e w1 (ok.below h (Nat.le_refl _)) h100 _ (Lib.hid rfl))
  obtain ⟨be, hbe⟩ : ∃ b, bestR p x e = b := ⟨_, rfl⟩
  have B := Lib.hid (fun w1 (h : Below w.heap.size w w1) => Best_any p x e w1 (ok.below h (Nat.le_refl _)) h100 be (Lib.hid hbe))
  have ln := alwL_len p x e
  unfold pickR at hr
  rw [hbe] at hr
  clear hbe
  generalize alwL p x e = L at hr A ln
  have b1 := (Box.new w #[.slice p.la p.ln p.lc, .slice p.na p.nn p.nc, .int .i64 p.sw, .int .i64 p.id, .int .i64 p.ch, .int .i64 p.qu, .int .i64 p.sl, .int .i64 p.pp] 25).alloc (.cells #[.int .i64 x.now, .int .i64 x.base, .int .i64 x.dn, .int .i64 x.lv, .int .i64 x.lf] 34)
  have b2 := Box.new (w.alloc (.cells #[.slice p.la p.ln p.lc, .slice p.na p.nn p.nc, .int .i64 p.sw, .int .i64 p.id, .int .i64 p.ch, .int .i64 p.qu, .int .i64 p.sl, .int .i64 p.pp] 25)) #[.int .i64 x.now, .int .i64 x.base, .int .i64 x.dn, .int .i64 x.lv, .int .i64 x.lf] 34
  rw [World.size_alloc] at b2
  have B1 := Lib.hid b1
  have B2 := Lib.hid b2
  clear b1 b2
  have bb := Lib.hid (((Below.refl w.heap.size w).alloc (Nat.le_refl _) (.cells #[.slice p.la p.ln p.lc, .slice p.na p.nn p.nc, .int .i64 p.sw, .int .i64 p.id, .int .i64 p.ch, .int .i64 p.qu, .int .i64 p.sl, .int .i64 p.pp] 25)).alloc (by simp) (.cells #[.int .i64 x.now, .int .i64 x.base, .int .i64 x.dn, .int .i64 x.lv, .int .i64 x.lf] 34))
  go_enter Try.func19, Try.ntmps19
  go_wp2_with fail
  refine (A.out _ bb.out).mono ?_
  rintro e1 w5 ⟨v, rfl, hown, k5⟩
  have HB := Lib.hid (below_next bb.out k5)
  have X1 := Lib.hid (B1.out.next k5)
  have X2 := Lib.hid (B2.out.next k5)
  clear k5
  obtain ⟨n, hn⟩ : ∃ n, L.length = n := ⟨_, rfl⟩
  rw [hn] at hr ln hown
  by_cases hbad : c < 1 ∨ n = 0
  · rw [if_pos hbad] at hr
    subst hr
    obtain ⟨a, cp, rfl⟩ := own_zero hown
    have x1 := X1.out.cell
    have x2 := X2.out.cell
    rcases hbad with hc1 | rfl
    · go_wp2_with (go_at_call 17; refine (B.out _ HB.out).mono ?_; rintro e1 w6 ⟨rfl, k6⟩; have HB6 := Lib.hid (below_next HB.out k6); clear k6)
      go_ret
      exact ⟨rfl, HB6.out⟩
    · by_cases hc1 : c < 1
      · go_wp2_with (go_at_call 17; refine (B.out _ HB.out).mono ?_; rintro e1 w6 ⟨rfl, k6⟩; have HB6 := Lib.hid (below_next HB.out k6); clear k6)
        go_ret
        exact ⟨rfl, HB6.out⟩
      · have hc2 : 1 ≤ c := by omega
        clear hc1
        go_wp2_with (go_at_call 17; refine (B.out _ HB.out).mono ?_; rintro e1 w6 ⟨rfl, k6⟩; have HB6 := Lib.hid (below_next HB.out k6); clear k6)
        go_ret
        exact ⟨rfl, HB6.out⟩
  · rw [if_neg hbad] at hr
    obtain ⟨g, cap, rfl, lg0, lg⟩ := ownsRow_open hown (by omega)
    obtain ⟨m, rfl⟩ : ∃ m : Nat, c = (m : Int) + 1 := ⟨(c - 1).toNat, by omega⟩
    rw [Int.add_sub_cancel, Int.toNat_natCast] at hr
    have hlt : m % n < n := Nat.mod_lt _ (by omega)
    have hg : w5.cell? ⟨g, m % n, none⟩ = some (.int .i64 ((L.getD (m % n) 0 : Nat) : Int)) := by
      have hown' := hown
      rw [encL_row, hn] at hown'
      have := hown'.cells (g := g) rfl (m % n) _ (row_get _ _ _ hlt)
      rw [Open.add_none, Nat.zero_add] at this
      exact this
    rw [hr] at hg
    have hw1 : IntKind.i64.wrap (m : Int) = (m : Int) := IntWalk.i64_in _ (by have := hc.2; omega)
    have hw2 : Int.tmod (m : Int) (n : Int) = ((m % n : Nat) : Int) := by rw [Int.tmod_eq_emod_of_nonneg (by omega)]; rfl
    have hn0 : ¬ n = 0 := by omega
    generalize m % n = q at hw2 hlt hg
    have h1 : ¬ ((m : Int) + 1 < 1) := by omega
    clear hown hr hbad
    have hn2 : ((n : Int) == 0) = false := by simpa using hn0
    go_wp2_with fail
    go_ret
    exact ⟨rfl, HB.out⟩
set_option maxRecDepth 100000 in
set_option maxHeartbeats 4000000 in
theorem Pickr_any (p : PowC) (x : X5) (e c : Int) (hc : I64 c) (w : World) (ok : p.Ok w) (h100 : p.ln ≤ 100) (r : Int) (hr : Hid (pickR p x e c = r)) :
    Calls Try.prog 20 #[.agg #[.slice p.la p.ln p.lc, .slice p.na p.nn p.nc, .int .i64 p.sw, .int .i64 p.id, .int .i64 p.ch, .int .i64 p.qu, .int .i64 p.sl, .int .i64 p.pp], .agg #[.int .i64 x.now, .int .i64 x.base, .int .i64 x.dn, .int .i64 x.lv, .int .i64 x.lf], .int .i64 e, .int .i64 c] w fun e w' => e = .returned (.int .i64 r) ∧ Below w.heap.size w w' := by
  have hr := hr.out
  have A := Lib.hid (fun w1 (h : Below w.heap.size w w1) => Allowedr_any p x e w1 (ok.below h (Nat.le_refl _)) h100 _ (Lib.hid rfl))
  obtain ⟨be, hbe⟩ : ∃ b, bestR p x e = b := ⟨_, rfl⟩
  have B := Lib.hid (fun w1 (h : Below w.heap.size w w1) => Bestr_any p x e w1 (ok.below h (Nat.le_refl _)) h100 be (Lib.hid hbe))
  have ln := alwL_len p x e
  unfold pickR at hr
  rw [hbe] at hr
  clear hbe
  generalize alwL p x e = L at hr A ln
  have b1 := (Box.new w #[.slice p.la p.ln p.lc, .slice p.na p.nn p.nc, .int .i64 p.sw, .int .i64 p.id, .int .i64 p.ch, .int .i64 p.qu, .int .i64 p.sl, .int .i64 p.pp] 25).alloc (.cells #[.int .i64 x.now, .int .i64 x.base, .int .i64 x.dn, .int .i64 x.lv, .int .i64 x.lf] 27)
  have b2 := Box.new (w.alloc (.cells #[.slice p.la p.ln p.lc, .slice p.na p.nn p.nc, .int .i64 p.sw, .int .i64 p.id, .int .i64 p.ch, .int .i64 p.qu, .int .i64 p.sl, .int .i64 p.pp] 25)) #[.int .i64 x.now, .int .i64 x.base, .int .i64 x.dn, .int .i64 x.lv, .int .i64 x.lf] 27
  rw [World.size_alloc] at b2
  have B1 := Lib.hid b1
  have B2 := Lib.hid b2
  clear b1 b2
  have bb := Lib.hid (((Below.refl w.heap.size w).alloc (Nat.le_refl _) (.cells #[.slice p.la p.ln p.lc, .slice p.na p.nn p.nc, .int .i64 p.sw, .int .i64 p.id, .int .i64 p.ch, .int .i64 p.qu, .int .i64 p.sl, .int .i64 p.pp] 25)).alloc (by simp) (.cells #[.int .i64 x.now, .int .i64 x.base, .int .i64 x.dn, .int .i64 x.lv, .int .i64 x.lf] 27))
  go_enter Try.func20, Try.ntmps20
  go_wp2_with fail
  refine (A.out _ bb.out).mono ?_
  rintro e1 w5 ⟨v, rfl, hown, k5⟩
  have HB := Lib.hid (below_next bb.out k5)
  have X1 := Lib.hid (B1.out.next k5)
  have X2 := Lib.hid (B2.out.next k5)
  clear k5
  obtain ⟨n, hn⟩ : ∃ n, L.length = n := ⟨_, rfl⟩
  rw [hn] at hr ln hown
  by_cases hbad : c < 1 ∨ n = 0
  · rw [if_pos hbad] at hr
    subst hr
    obtain ⟨a, cp, rfl⟩ := own_zero hown
    have x1 := X1.out.cell
    have x2 := X2.out.cell
    rcases hbad with hc1 | rfl
    · go_wp2_with (go_at_call 18; refine (B.out _ HB.out).mono ?_; rintro e1 w6 ⟨rfl, k6⟩; have HB6 := Lib.hid (below_next HB.out k6); clear k6)
      go_ret
      exact ⟨rfl, HB6.out⟩
    · by_cases hc1 : c < 1
      · go_wp2_with (go_at_call 18; refine (B.out _ HB.out).mono ?_; rintro e1 w6 ⟨rfl, k6⟩; have HB6 := Lib.hid (below_next HB.out k6); clear k6)
        go_ret
        exact ⟨rfl, HB6.out⟩
      · have hc2 : 1 ≤ c := by omega
        clear hc1
        go_wp2_with (go_at_call 18; refine (B.out _ HB.out).mono ?_; rintro e1 w6 ⟨rfl, k6⟩; have HB6 := Lib.hid (below_next HB.out k6); clear k6)
        go_ret
        exact ⟨rfl, HB6.out⟩
  · rw [if_neg hbad] at hr
    obtain ⟨g, cap, rfl, lg0, lg⟩ := ownsRow_open hown (by omega)
    obtain ⟨m, rfl⟩ : ∃ m : Nat, c = (m : Int) + 1 := ⟨(c - 1).toNat, by omega⟩
    rw [Int.add_sub_cancel, Int.toNat_natCast] at hr
    have hlt : m % n < n := Nat.mod_lt _ (by omega)
    have hg : w5.cell? ⟨g, m % n, none⟩ = some (.int .i64 ((L.getD (m % n) 0 : Nat) : Int)) := by
      have hown' := hown
      rw [encL_row, hn] at hown'
      have := hown'.cells (g := g) rfl (m % n) _ (row_get _ _ _ hlt)
      rw [Open.add_none, Nat.zero_add] at this
      exact this
    rw [hr] at hg
    have hw1 : IntKind.i64.wrap (m : Int) = (m : Int) := IntWalk.i64_in _ (by have := hc.2; omega)
    have hw2 : Int.tmod (m : Int) (n : Int) = ((m % n : Nat) : Int) := by rw [Int.tmod_eq_emod_of_nonneg (by omega)]; rfl
    have hn0 : ¬ n = 0 := by omega
    generalize m % n = q at hw2 hlt hg
    have h1 : ¬ ((m : Int) + 1 < 1) := by omega
    clear hown hr hbad
    have hn2 : ((n : Int) == 0) = false := by simpa using hn0
    go_wp2_with fail
    go_ret
    exact ⟨rfl, HB.out⟩
end Go.Proofs.Ytigknchcjlieoaa.LvlM
