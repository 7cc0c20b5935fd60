/- Package level: cost; End, Cost. -/
import Derived.Test.YtigknchcjlieoaaLvlB
namespace Go.Proofs.Ytigknchcjlieoaa.LvlC
open Go.RowKit Base Kit Conf PowA PowB PowC PowR WideB LvlA LvlB
set_option linter.unusedVariables false
set_option linter.unusedSimpArgs false

theorem endP_bd {p : PowC} {x : X5} (may : MayP p x) {k : Nat} (hk : k < p.ln) : x.now ≤ endP p x k ∧ ((k : Int) = x.lv → endP p x k - x.now ≤ 4294967296000) ∧ ((k : Int) ≠ x.lv → x.now + p.sw ≤ endP p x k ∧ endP p x k - x.now - p.sw ≤ 2147483648000) := by
  obtain ⟨f0, f1, q0, q1⟩ := lev_bd may.1 hk
  obtain ⟨⟨s0, s1⟩, -⟩ := rest_bd may.1
  obtain ⟨-, m1, m2, m3, m4, m5, m6, m7, m8, m9⟩ := may
  obtain ⟨t0, t1⟩ := tm_bd f0 (show 0 ≤ x.dn + x.lf by omega)
  obtain ⟨t2, t3⟩ := tm_bd f0 (show 0 ≤ x.lf by omega)
  unfold endP
  by_cases h : (k : Int) = x.lv
  · rw [if_pos h]
    split <;> exact ⟨by omega, fun _ => by omega, fun h' => absurd h h'⟩
  · rw [if_neg h]
    exact ⟨by omega, fun h' => absurd h' h, fun _ => ⟨by omega, by omega⟩⟩
theorem mul_bd {q D M : Int} (q0 : 0 ≤ q) (q1 : q ≤ 1000000) (d0 : 0 ≤ D) (d1 : D ≤ M) : 0 ≤ q * D ∧ q * D ≤ 1000000 * M := by
  refine ⟨Int.mul_nonneg q0 d0, ?_⟩
  exact Int.le_trans (Int.mul_le_mul_of_nonneg_right q1 d0) (Int.mul_le_mul_of_nonneg_left d1 (by omega))
set_option maxRecDepth 100000 in
set_option maxHeartbeats 2000000 in
theorem cost_any (p : PowC) (x : X5) (w : World) (ok : p.Ok w) (may : MayP p x) (k : Nat) (hk : k < p.ln) (r : Int) (hr : Hid (costP p x k = r)) :
    Calls Try.prog 43 #[.agg #[.int .i64 x.now, .int .i64 x.base, .int .i64 x.dn, .int .i64 x.lv, .int .i64 x.lf], .agg #[.slice p.la p.ln p.lc, .slice p.na p.nn p.nc, .int .i64 p.sw, .int .i64 p.id, .int .i64 p.ch, .int .i64 p.qu, .int .i64 p.sl, .int .i64 p.pp], .int .i64 (k : Int)] w fun e w' => e = .returned (.int .i64 r) ∧ Below w.heap.size w w' := by
  obtain ⟨E, hE⟩ : ∃ E, endP p x k = E := ⟨_, rfl⟩
  have C := (fun w1 (h : Below w.heap.size w w1) => end_any p x w1 (ok.below h (Nat.le_refl _)) may k hk E (Lib.hid hE))
  have eb := endP_bd may hk
  have hc := hr.out
  clear hr
  unfold costP at hc
  rw [hE] at hc eb
  clear hE
  obtain ⟨b, off, ea, hbl, c0, c1, i0, i1⟩ := rows_at2 ok.lev k hk
  have hm := ok.lev.out.1
  obtain ⟨f0, f1, q0, q1⟩ := lev_bd may.1 hk
  obtain ⟨⟨s0, s1⟩, -, ⟨g0, g1⟩, -⟩ := rest_bd may.1
  obtain ⟨-, m1, m2, m3, m4, m5, m6, m7, m8, m9⟩ := may
  have hki : (k : Int) < (p.ln : Int) := by omega
  obtain ⟨now, base, dn, lv, lf⟩ := x
  dsimp only at m1 m2 m3 m4 m5 m6 m7 m8 m9
  dsimp only at hc eb C ⊢
  generalize p.lf k 0 = f at *
  generalize p.lf k 1 = q at *
  have S : Hid (Two w _ _ _ _ _ _ _ b (off + k * 2) f q) := two_in w #[.int .i64 now, .int .i64 base, .int .i64 dn, .int .i64 lv, .int .i64 lf] #[.slice p.la p.ln p.lc, .slice p.na p.nn p.nc, .int .i64 p.sw, .int .i64 p.id, .int .i64 p.ch, .int .i64 p.qu, .int .i64 p.sl, .int .i64 p.pp] 34 25 c0 c1
  rw [ea] at S C ⊢
  clear ea c0 c1 i0 i1
  by_cases hl : (k : Int) = lv
  · rw [if_pos hl] at hc
    obtain ⟨eb0, eb1⟩ := And.intro eb.1 (eb.2.1 hl)
    clear eb
    subst hl
    have pb := mul_bd q0 q1 (show 0 ≤ E - now by omega) eb1
    have HR := Lib.hid hc
    clear hc
    have C := Lib.hid C
    go_enter Try.func43, Try.ntmps43
    go_wp2_with fail
    have hw1 : IntKind.i64.wrap (E - now) = E - now := IntWalk.i64_in _ (by omega)
    have hw2 : IntKind.i64.wrap (q * (E - now)) = q * (E - now) := IntWalk.i64_in _ (by omega)
    clear pb
    have k0 := Lib.hid S.out.bel
    generalize (w.alloc (.cells #[.int .i64 now, .int .i64 base, .int .i64 dn, .int .i64 (k : Int), .int .i64 lf] 34)).alloc (.cells #[.slice (some ⟨b, off, none⟩) p.ln p.lc, .slice p.na p.nn p.nc, .int .i64 p.sw, .int .i64 p.id, .int .i64 p.ch, .int .i64 p.qu, .int .i64 p.sl, .int .i64 p.pp] 25) = W at S k0 ⊢
    have S := two_next S ((Below.refl W.heap.size W).drew)
    have bd := two_rules S
    go_region_held3 (fun w' => (∀ m, w'.cell? ⟨w.heap.size, m, none⟩ = (#[.int .i64 now, .int .i64 base, .int .i64 dn, .int .i64 (k : Int), .int .i64 lf] : Array Value)[m]?) ∧ (∀ m, w'.cell? ⟨w.heap.size + 1, m, none⟩ = (#[.slice (some ⟨b, off, none⟩) p.ln p.lc, .slice p.na p.nn p.nc, .int .i64 p.sw, .int .i64 p.id, .int .i64 p.ch, .int .i64 p.qu, .int .i64 p.sl, .int .i64 p.pp] : Array Value)[m]?) ∧ w'.cell? ⟨b, off + k * 2, none⟩ = some (.int .i64 f) ∧ w'.cell? ⟨b, off + k * 2 + 1, none⟩ = some (.int .i64 q))
      (first
        | exact bd
        | exact r5)
      (first
        | (go_at_call 46; refine (C.out _ S.out.bel).mono ?_; rintro e1 w5 ⟨rfl, k5⟩; have S5 := two_next S k5; have r5 := two_rules S5; clear k5))
    all_goals
      clear bd hw1
      obtain ⟨x1, x2, y0, y1⟩ := r5
      go_wp2_with fail
      go_ret
      exact ⟨Kit.ret_int HR.out, S5.out.bel⟩
  · rw [if_neg hl] at hc
    have hl' : ((k : Int) == lv) = false := by simpa using hl
    have eb := eb.2.2 hl
    have pb := mul_bd q0 q1 (show 0 ≤ E - now - p.sw by omega) eb.2
    have pc := mul_bd g0 g1 s0 s1
    have HR := Lib.hid hc
    clear hc
    have C := Lib.hid C
    go_enter Try.func43, Try.ntmps43
    go_wp2_with fail
    have hw1 : IntKind.i64.wrap (E - now) = E - now := IntWalk.i64_in _ (by omega)
    have hw2 : IntKind.i64.wrap (E - now - p.sw) = E - now - p.sw := IntWalk.i64_in _ (by omega)
    have hw3 : IntKind.i64.wrap (q * (E - now - p.sw)) = q * (E - now - p.sw) := IntWalk.i64_in _ (by omega)
    have hw4 : IntKind.i64.wrap (p.ch * p.sw) = p.ch * p.sw := IntWalk.i64_in _ (by omega)
    have hw5 : IntKind.i64.wrap (q * (E - now - p.sw) + p.ch * p.sw) = q * (E - now - p.sw) + p.ch * p.sw := IntWalk.i64_in _ (by omega)
    clear pb pc hl
    generalize (w.alloc (.cells #[.int .i64 now, .int .i64 base, .int .i64 dn, .int .i64 lv, .int .i64 lf] 34)).alloc (.cells #[.slice (some ⟨b, off, none⟩) p.ln p.lc, .slice p.na p.nn p.nc, .int .i64 p.sw, .int .i64 p.id, .int .i64 p.ch, .int .i64 p.qu, .int .i64 p.sl, .int .i64 p.pp] 25) = W at S ⊢
    have S := two_next S ((Below.refl W.heap.size W).drew)
    have bd := two_rules S
    go_region_held3 (fun w' => (∀ m, w'.cell? ⟨w.heap.size, m, none⟩ = (#[.int .i64 now, .int .i64 base, .int .i64 dn, .int .i64 lv, .int .i64 lf] : Array Value)[m]?) ∧ (∀ m, w'.cell? ⟨w.heap.size + 1, m, none⟩ = (#[.slice (some ⟨b, off, none⟩) p.ln p.lc, .slice p.na p.nn p.nc, .int .i64 p.sw, .int .i64 p.id, .int .i64 p.ch, .int .i64 p.qu, .int .i64 p.sl, .int .i64 p.pp] : Array Value)[m]?) ∧ w'.cell? ⟨b, off + k * 2, none⟩ = some (.int .i64 f) ∧ w'.cell? ⟨b, off + k * 2 + 1, none⟩ = some (.int .i64 q))
      (first
        | exact bd
        | exact r5)
      (first
        | (go_at_call 46; refine (C.out _ S.out.bel).mono ?_; rintro e1 w5 ⟨rfl, k5⟩; have S5 := two_next S k5; have r5 := two_rules S5; clear k5))
    all_goals
      clear bd hw1
      obtain ⟨x1, x2, y0, y1⟩ := r5
      go_wp2_with fail
    all_goals
      go_quiet (fail)
    all_goals
      go_wp2_with fail
    all_goals
      go_ret
      exact ⟨Kit.ret_int HR.out, below_drewN' S5.out.bel _⟩
def endR (p : PowC) (x : X5) (tt : Int) : Int × Int := if MayP p x ∧ 0 ≤ tt ∧ tt < p.ln then (endP p x tt.toNat, 0) else (0, 2)
def costR (p : PowC) (x : X5) (tt : Int) : Int × Int := if MayP p x ∧ 0 ≤ tt ∧ tt < p.ln then (costP p x tt.toNat, 0) else (0, 2)
set_option maxRecDepth 100000 in
set_option maxHeartbeats 1000000 in
theorem End_any (p : PowC) (x : X5) (tt : Int) (w : World) (ok : p.Ok w) (r : Int × Int) (hr : Hid (endR p x tt = r)) :
    Calls Try.prog 22 #[.agg #[.slice p.la p.ln p.lc, .slice p.na p.nn p.nc, .int .i64 p.sw, .int .i64 p.id, .int .i64 p.ch, .int .i64 p.qu, .int .i64 p.sl, .int .i64 p.pp], .agg #[.int .i64 x.now, .int .i64 x.base, .int .i64 x.dn, .int .i64 x.lv, .int .i64 x.lf], .int .i64 tt] w fun e w' => e = .returned (.tuple #[.int .i64 r.1, .int .i64 r.2]) ∧ Below w.heap.size w w' := by
  have hc := hr.out
  clear hr
  unfold endR at hc
  have hm := ok.lev.out.1
  by_cases may : MayP p x
  rotate_left
  · rw [if_neg (fun h => may h.1)] at hc
    subst hc
    have C := Lib.hid (fun w1 (h : Below w.heap.size w w1) => may_any p x w1 (ok.below h (Nat.le_refl _)) false (Lib.hid (decide_eq_false may)))
    clear may
    have b1 := Lib.hid ((Box.new w #[.slice p.la p.ln p.lc, .slice p.na p.nn p.nc, .int .i64 p.sw, .int .i64 p.id, .int .i64 p.ch, .int .i64 p.qu, .int .i64 p.sl, .int .i64 p.pp] 25).alloc (.cells #[.int .i64 x.now, .int .i64 x.base, .int .i64 x.dn, .int .i64 x.lv, .int .i64 x.lf] 34))
    have b2' := Box.new (w.alloc (.cells #[.slice p.la p.ln p.lc, .slice p.na p.nn p.nc, .int .i64 p.sw, .int .i64 p.id, .int .i64 p.ch, .int .i64 p.qu, .int .i64 p.sl, .int .i64 p.pp] 25)) #[.int .i64 x.now, .int .i64 x.base, .int .i64 x.dn, .int .i64 x.lv, .int .i64 x.lf] 34
    rw [World.size_alloc] at b2'
    have b2 := Lib.hid b2'
    clear b2'
    have bb := Lib.hid (((Below.refl w.heap.size w).alloc (Nat.le_refl _) (.cells #[.slice p.la p.ln p.lc, .slice p.na p.nn p.nc, .int .i64 p.sw, .int .i64 p.id, .int .i64 p.ch, .int .i64 p.qu, .int .i64 p.sl, .int .i64 p.pp] 25)).alloc (by simp) (.cells #[.int .i64 x.now, .int .i64 x.base, .int .i64 x.dn, .int .i64 x.lv, .int .i64 x.lf] 34))
    go_enter Try.func22, Try.ntmps22
    go_wp2_with fail
    refine (C.out _ bb.out).mono ?_
    rintro e1 w5 ⟨rfl, k5⟩
    have HB := Lib.hid (below_next bb.out k5)
    clear k5
    go_wp2_with fail
    go_ret2
    exact ⟨rfl, HB.out⟩
  have C := Lib.hid (fun w1 (h : Below w.heap.size w w1) => may_any p x w1 (ok.below h (Nat.le_refl _)) true (Lib.hid (decide_eq_true may)))
  by_cases c1 : 0 ≤ tt
  rotate_left
  · rw [if_neg (fun h => c1 h.2.1)] at hc
    subst hc
    have c1' : tt < 0 := by omega
    clear may c1
    have b1 := Lib.hid ((Box.new w #[.slice p.la p.ln p.lc, .slice p.na p.nn p.nc, .int .i64 p.sw, .int .i64 p.id, .int .i64 p.ch, .int .i64 p.qu, .int .i64 p.sl, .int .i64 p.pp] 25).alloc (.cells #[.int .i64 x.now, .int .i64 x.base, .int .i64 x.dn, .int .i64 x.lv, .int .i64 x.lf] 34))
    have b2' := Box.new (w.alloc (.cells #[.slice p.la p.ln p.lc, .slice p.na p.nn p.nc, .int .i64 p.sw, .int .i64 p.id, .int .i64 p.ch, .int .i64 p.qu, .int .i64 p.sl, .int .i64 p.pp] 25)) #[.int .i64 x.now, .int .i64 x.base, .int .i64 x.dn, .int .i64 x.lv, .int .i64 x.lf] 34
    rw [World.size_alloc] at b2'
    have b2 := Lib.hid b2'
    clear b2'
    have bb := Lib.hid (((Below.refl w.heap.size w).alloc (Nat.le_refl _) (.cells #[.slice p.la p.ln p.lc, .slice p.na p.nn p.nc, .int .i64 p.sw, .int .i64 p.id, .int .i64 p.ch, .int .i64 p.qu, .int .i64 p.sl, .int .i64 p.pp] 25)).alloc (by simp) (.cells #[.int .i64 x.now, .int .i64 x.base, .int .i64 x.dn, .int .i64 x.lv, .int .i64 x.lf] 34))
    go_enter Try.func22, Try.ntmps22
    go_wp2_with fail
    refine (C.out _ bb.out).mono ?_
    rintro e1 w5 ⟨rfl, k5⟩
    have HB := Lib.hid (below_next bb.out k5)
    clear k5
    go_wp2_with fail
    go_ret2
    exact ⟨rfl, HB.out⟩
  by_cases c2 : tt < (p.ln : Int)
  rotate_left
  · rw [if_neg (fun h => c2 h.2.2)] at hc
    subst hc
    have c2' : (p.ln : Int) ≤ tt := by omega
    clear may c2
    have b1 := Lib.hid ((Box.new w #[.slice p.la p.ln p.lc, .slice p.na p.nn p.nc, .int .i64 p.sw, .int .i64 p.id, .int .i64 p.ch, .int .i64 p.qu, .int .i64 p.sl, .int .i64 p.pp] 25).alloc (.cells #[.int .i64 x.now, .int .i64 x.base, .int .i64 x.dn, .int .i64 x.lv, .int .i64 x.lf] 34))
    have b2' := Box.new (w.alloc (.cells #[.slice p.la p.ln p.lc, .slice p.na p.nn p.nc, .int .i64 p.sw, .int .i64 p.id, .int .i64 p.ch, .int .i64 p.qu, .int .i64 p.sl, .int .i64 p.pp] 25)) #[.int .i64 x.now, .int .i64 x.base, .int .i64 x.dn, .int .i64 x.lv, .int .i64 x.lf] 34
    rw [World.size_alloc] at b2'
    have b2 := Lib.hid b2'
    clear b2'
    have bb := Lib.hid (((Below.refl w.heap.size w).alloc (Nat.le_refl _) (.cells #[.slice p.la p.ln p.lc, .slice p.na p.nn p.nc, .int .i64 p.sw, .int .i64 p.id, .int .i64 p.ch, .int .i64 p.qu, .int .i64 p.sl, .int .i64 p.pp] 25)).alloc (by simp) (.cells #[.int .i64 x.now, .int .i64 x.base, .int .i64 x.dn, .int .i64 x.lv, .int .i64 x.lf] 34))
    go_enter Try.func22, Try.ntmps22
    go_wp2_with fail
    refine (C.out _ bb.out).mono ?_
    rintro e1 w5 ⟨rfl, k5⟩
    have HB := Lib.hid (below_next bb.out k5)
    have x1 := (b1.out.next k5).cell
    clear k5
    go_wp2_with fail
    go_ret2
    exact ⟨rfl, HB.out⟩
  rw [if_pos ⟨may, c1, c2⟩] at hc
  subst hc
  obtain ⟨k, rfl⟩ : ∃ k : Nat, tt = (k : Int) := ⟨tt.toNat, by omega⟩
  rw [Int.toNat_natCast]
  obtain ⟨E, hE⟩ : ∃ E, endP p x k = E := ⟨_, rfl⟩
  rw [hE]
  have D := Lib.hid (fun w1 (h : Below w.heap.size w w1) => end_any p x w1 (ok.below h (Nat.le_refl _)) may k (by omega) E (Lib.hid hE))
  clear may hE
  have b1 := Lib.hid ((Box.new w #[.slice p.la p.ln p.lc, .slice p.na p.nn p.nc, .int .i64 p.sw, .int .i64 p.id, .int .i64 p.ch, .int .i64 p.qu, .int .i64 p.sl, .int .i64 p.pp] 25).alloc (.cells #[.int .i64 x.now, .int .i64 x.base, .int .i64 x.dn, .int .i64 x.lv, .int .i64 x.lf] 34))
  have b2' := Box.new (w.alloc (.cells #[.slice p.la p.ln p.lc, .slice p.na p.nn p.nc, .int .i64 p.sw, .int .i64 p.id, .int .i64 p.ch, .int .i64 p.qu, .int .i64 p.sl, .int .i64 p.pp] 25)) #[.int .i64 x.now, .int .i64 x.base, .int .i64 x.dn, .int .i64 x.lv, .int .i64 x.lf] 34
  rw [World.size_alloc] at b2'
  have b2 := Lib.hid b2'
  clear b2'
  have bb := Lib.hid (((Below.refl w.heap.size w).alloc (Nat.le_refl _) (.cells #[.slice p.la p.ln p.lc, .slice p.na p.nn p.nc, .int .i64 p.sw, .int .i64 p.id, .int .i64 p.ch, .int .i64 p.qu, .int .i64 p.sl, .int .i64 p.pp] 25)).alloc (by simp) (.cells #[.int .i64 x.now, .int .i64 x.base, .int .i64 x.dn, .int .i64 x.lv, .int .i64 x.lf] 34))
  go_enter Try.func22, Try.ntmps22
  go_wp2_with fail
  refine (C.out _ bb.out).mono ?_
  rintro e1 w5 ⟨rfl, k5⟩
  have HB := Lib.hid (below_next bb.out k5)
  have x1 := (b1.out.next k5).cell
  have x2 := (b2.out.next k5).cell
  clear k5
  go_wp2_with (go_at_call 46; refine (D.out _ HB.out).mono ?_; rintro e1 w6 ⟨rfl, k6⟩; have HB2 := Lib.hid (below_next HB.out k6); clear k6)
  go_ret2
  exact ⟨rfl, HB2.out⟩
set_option maxRecDepth 100000 in
set_option maxHeartbeats 1000000 in
theorem Cost_any (p : PowC) (x : X5) (tt : Int) (w : World) (ok : p.Ok w) (r : Int × Int) (hr : Hid (costR p x tt = r)) :
    Calls Try.prog 24 #[.agg #[.slice p.la p.ln p.lc, .slice p.na p.nn p.nc, .int .i64 p.sw, .int .i64 p.id, .int .i64 p.ch, .int .i64 p.qu, .int .i64 p.sl, .int .i64 p.pp], .agg #[.int .i64 x.now, .int .i64 x.base, .int .i64 x.dn, .int .i64 x.lv, .int .i64 x.lf], .int .i64 tt] w fun e w' => e = .returned (.tuple #[.int .i64 r.1, .int .i64 r.2]) ∧ Below w.heap.size w w' := by
  have hc := hr.out
  clear hr
  unfold costR at hc
  have hm := ok.lev.out.1
  by_cases may : MayP p x
  rotate_left
  · rw [if_neg (fun h => may h.1)] at hc
    subst hc
    have C := Lib.hid (fun w1 (h : Below w.heap.size w w1) => may_any p x w1 (ok.below h (Nat.le_refl _)) false (Lib.hid (decide_eq_false may)))
    clear may
    have b1 := Lib.hid ((Box.new w #[.slice p.la p.ln p.lc, .slice p.na p.nn p.nc, .int .i64 p.sw, .int .i64 p.id, .int .i64 p.ch, .int .i64 p.qu, .int .i64 p.sl, .int .i64 p.pp] 25).alloc (.cells #[.int .i64 x.now, .int .i64 x.base, .int .i64 x.dn, .int .i64 x.lv, .int .i64 x.lf] 34))
    have b2' := Box.new (w.alloc (.cells #[.slice p.la p.ln p.lc, .slice p.na p.nn p.nc, .int .i64 p.sw, .int .i64 p.id, .int .i64 p.ch, .int .i64 p.qu, .int .i64 p.sl, .int .i64 p.pp] 25)) #[.int .i64 x.now, .int .i64 x.base, .int .i64 x.dn, .int .i64 x.lv, .int .i64 x.lf] 34
    rw [World.size_alloc] at b2'
    have b2 := Lib.hid b2'
    clear b2'
    have bb := Lib.hid (((Below.refl w.heap.size w).alloc (Nat.le_refl _) (.cells #[.slice p.la p.ln p.lc, .slice p.na p.nn p.nc, .int .i64 p.sw, .int .i64 p.id, .int .i64 p.ch, .int .i64 p.qu, .int .i64 p.sl, .int .i64 p.pp] 25)).alloc (by simp) (.cells #[.int .i64 x.now, .int .i64 x.base, .int .i64 x.dn, .int .i64 x.lv, .int .i64 x.lf] 34))
    go_enter Try.func24, Try.ntmps24
    go_wp2_with fail
    refine (C.out _ bb.out).mono ?_
    rintro e1 w5 ⟨rfl, k5⟩
    have HB := Lib.hid (below_next bb.out k5)
    clear k5
    go_wp2_with fail
    go_ret2
    exact ⟨rfl, HB.out⟩
  have C := Lib.hid (fun w1 (h : Below w.heap.size w w1) => may_any p x w1 (ok.below h (Nat.le_refl _)) true (Lib.hid (decide_eq_true may)))
  by_cases c1 : 0 ≤ tt
  rotate_left
  · rw [if_neg (fun h => c1 h.2.1)] at hc
    subst hc
    have c1' : tt < 0 := by omega
    clear may c1
    have b1 := Lib.hid ((Box.new w #[.slice p.la p.ln p.lc, .slice p.na p.nn p.nc, .int .i64 p.sw, .int .i64 p.id, .int .i64 p.ch, .int .i64 p.qu, .int .i64 p.sl, .int .i64 p.pp] 25).alloc (.cells #[.int .i64 x.now, .int .i64 x.base, .int .i64 x.dn, .int .i64 x.lv, .int .i64 x.lf] 34))
    have b2' := Box.new (w.alloc (.cells #[.slice p.la p.ln p.lc, .slice p.na p.nn p.nc, .int .i64 p.sw, .int .i64 p.id, .int .i64 p.ch, .int .i64 p.qu, .int .i64 p.sl, .int .i64 p.pp] 25)) #[.int .i64 x.now, .int .i64 x.base, .int .i64 x.dn, .int .i64 x.lv, .int .i64 x.lf] 34
    rw [World.size_alloc] at b2'
    have b2 := Lib.hid b2'
    clear b2'
    have bb := Lib.hid (((Below.refl w.heap.size w).alloc (Nat.le_refl _) (.cells #[.slice p.la p.ln p.lc, .slice p.na p.nn p.nc, .int .i64 p.sw, .int .i64 p.id, .int .i64 p.ch, .int .i64 p.qu, .int .i64 p.sl, .int .i64 p.pp] 25)).alloc (by simp) (.cells #[.int .i64 x.now, .int .i64 x.base, .int .i64 x.dn, .int .i64 x.lv, .int .i64 x.lf] 34))
    go_enter Try.func24, Try.ntmps24
    go_wp2_with fail
    refine (C.out _ bb.out).mono ?_
    rintro e1 w5 ⟨rfl, k5⟩
    have HB := Lib.hid (below_next bb.out k5)
    clear k5
    go_wp2_with fail
    go_ret2
    exact ⟨rfl, HB.out⟩
  by_cases c2 : tt < (p.ln : Int)
  rotate_left
  · rw [if_neg (fun h => c2 h.2.2)] at hc
    subst hc
    have c2' : (p.ln : Int) ≤ tt := by omega
    clear may c2
    have b1 := Lib.hid ((Box.new w #[.slice p.la p.ln p.lc, .slice p.na p.nn p.nc, .int .i64 p.sw, .int .i64 p.id, .int .i64 p.ch, .int .i64 p.qu, .int .i64 p.sl, .int .i64 p.pp] 25).alloc (.cells #[.int .i64 x.now, .int .i64 x.base, .int .i64 x.dn, .int .i64 x.lv, .int .i64 x.lf] 34))
    have b2' := Box.new (w.alloc (.cells #[.slice p.la p.ln p.lc, .slice p.na p.nn p.nc, .int .i64 p.sw, .int .i64 p.id, .int .i64 p.ch, .int .i64 p.qu, .int .i64 p.sl, .int .i64 p.pp] 25)) #[.int .i64 x.now, .int .i64 x.base, .int .i64 x.dn, .int .i64 x.lv, .int .i64 x.lf] 34
    rw [World.size_alloc] at b2'
    have b2 := Lib.hid b2'
    clear b2'
    have bb := Lib.hid (((Below.refl w.heap.size w).alloc (Nat.le_refl _) (.cells #[.slice p.la p.ln p.lc, .slice p.na p.nn p.nc, .int .i64 p.sw, .int .i64 p.id, .int .i64 p.ch, .int .i64 p.qu, .int .i64 p.sl, .int .i64 p.pp] 25)).alloc (by simp) (.cells #[.int .i64 x.now, .int .i64 x.base, .int .i64 x.dn, .int .i64 x.lv, .int .i64 x.lf] 34))
    go_enter Try.func24, Try.ntmps24
    go_wp2_with fail
    refine (C.out _ bb.out).mono ?_
    rintro e1 w5 ⟨rfl, k5⟩
    have HB := Lib.hid (below_next bb.out k5)
    have x1 := (b1.out.next k5).cell
    clear k5
    go_wp2_with fail
    go_ret2
    exact ⟨rfl, HB.out⟩
  rw [if_pos ⟨may, c1, c2⟩] at hc
  subst hc
  obtain ⟨k, rfl⟩ : ∃ k : Nat, tt = (k : Int) := ⟨tt.toNat, by omega⟩
  rw [Int.toNat_natCast]
  obtain ⟨E, hE⟩ : ∃ E, costP p x k = E := ⟨_, rfl⟩
  rw [hE]
  have D := Lib.hid (fun w1 (h : Below w.heap.size w w1) => cost_any p x w1 (ok.below h (Nat.le_refl _)) may k (by omega) E (Lib.hid hE))
  clear may hE
  have b1 := Lib.hid ((Box.new w #[.slice p.la p.ln p.lc, .slice p.na p.nn p.nc, .int .i64 p.sw, .int .i64 p.id, .int .i64 p.ch, .int .i64 p.qu, .int .i64 p.sl, .int .i64 p.pp] 25).alloc (.cells #[.int .i64 x.now, .int .i64 x.base, .int .i64 x.dn, .int .i64 x.lv, .int .i64 x.lf] 34))
  have b2' := Box.new (w.alloc (.cells #[.slice p.la p.ln p.lc, .slice p.na p.nn p.nc, .int .i64 p.sw, .int .i64 p.id, .int .i64 p.ch, .int .i64 p.qu, .int .i64 p.sl, .int .i64 p.pp] 25)) #[.int .i64 x.now, .int .i64 x.base, .int .i64 x.dn, .int .i64 x.lv, .int .i64 x.lf] 34
  rw [World.size_alloc] at b2'
  have b2 := Lib.hid b2'
  clear b2'
  have bb := Lib.hid (((Below.refl w.heap.size w).alloc (Nat.le_refl _) (.cells #[.slice p.la p.ln p.lc, .slice p.na p.nn p.nc, .int .i64 p.sw, .int .i64 p.id, .int .i64 p.ch, .int .i64 p.qu, .int .i64 p.sl, .int .i64 p.pp] 25)).alloc (by simp) (.cells #[.int .i64 x.now, .int .i64 x.base, .int .i64 x.dn, .int .i64 x.lv, .int .i64 x.lf] 34))
  go_enter Try.func24, Try.ntmps24
  go_wp2_with fail
  refine (C.out _ bb.out).mono ?_
  rintro e1 w5 ⟨rfl, k5⟩
  have HB := Lib.hid (below_next bb.out k5)
  have x1 := (b1.out.next k5).cell
  have x2 := (b2.out.next k5).cell
  clear k5
  go_wp2_with (go_at_call 43; refine (D.out _ HB.out).mono ?_; rintro e1 w6 ⟨rfl, k6⟩; have HB2 := Lib.hid (below_next HB.out k6); clear k6)
  go_ret2
  exact ⟨rfl, HB2.out⟩
end Go.Proofs.Ytigknchcjlieoaa.LvlC
