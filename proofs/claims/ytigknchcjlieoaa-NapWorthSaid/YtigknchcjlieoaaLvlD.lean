/- The reference of level: End, Cost. -/
import Derived.Test.YtigknchcjlieoaaLvlC
namespace Go.Proofs.Ytigknchcjlieoaa.LvlD
open Go.RowKit Base Kit Conf PowA PowB PowC PowR WideB LvlA LvlB LvlC
set_option linter.unusedVariables false
set_option linter.unusedSimpArgs false

set_option maxRecDepth 100000 in
set_option maxHeartbeats 4000000 in
theorem Endr_any (p : PowC) (x : X5) (tt : Int) (w : World) (ok : p.Ok w) (r : Int × Int) (hr : Hid (endR p x tt = r)) :
    Calls Try.prog 23 #[.agg #[.slice p.la p.ln p.lc, .slice p.na p.nn p.nc, .int .i64 p.sw, .int .i64 p.id, .int .i64 p.ch, .int .i64 p.qu, .int .i64 p.sl, .int .i64 p.pp], .agg #[.int .i64 x.now, .int .i64 x.base, .int .i64 x.dn, .int .i64 x.lv, .int .i64 x.lf], .int .i64 tt] w fun e w' => e = .returned (.tuple #[.int .i64 r.1, .int .i64 r.2]) ∧ Below w.heap.size w w' := by
  have hc := hr.out
  clear hr
  unfold endR at hc
  have hm := ok.lev.out.1
  by_cases may : MayP p x
  rotate_left
  · rw [if_neg (fun h => may h.1)] at hc
    subst hc
    have C := Lib.hid (fun w1 (h : Below w.heap.size w w1) => mayr_any p x w1 (ok.below h (Nat.le_refl _)) false (Lib.hid (decide_eq_false may)))
    clear may
    have b1 := Lib.hid ((Box.new w #[.slice p.la p.ln p.lc, .slice p.na p.nn p.nc, .int .i64 p.sw, .int .i64 p.id, .int .i64 p.ch, .int .i64 p.qu, .int .i64 p.sl, .int .i64 p.pp] 25).alloc (.cells #[.int .i64 x.now, .int .i64 x.base, .int .i64 x.dn, .int .i64 x.lv, .int .i64 x.lf] 27))
    have b2' := Box.new (w.alloc (.cells #[.slice p.la p.ln p.lc, .slice p.na p.nn p.nc, .int .i64 p.sw, .int .i64 p.id, .int .i64 p.ch, .int .i64 p.qu, .int .i64 p.sl, .int .i64 p.pp] 25)) #[.int .i64 x.now, .int .i64 x.base, .int .i64 x.dn, .int .i64 x.lv, .int .i64 x.lf] 27
    rw [World.size_alloc] at b2'
    have b2 := Lib.hid b2'
    clear b2'
    have bb := Lib.hid (((Below.refl w.heap.size w).alloc (Nat.le_refl _) (.cells #[.slice p.la p.ln p.lc, .slice p.na p.nn p.nc, .int .i64 p.sw, .int .i64 p.id, .int .i64 p.ch, .int .i64 p.qu, .int .i64 p.sl, .int .i64 p.pp] 25)).alloc (by simp) (.cells #[.int .i64 x.now, .int .i64 x.base, .int .i64 x.dn, .int .i64 x.lv, .int .i64 x.lf] 27))
    go_enter Try.func23, Try.ntmps23
    go_wp2_with fail
    refine (C.out _ bb.out).mono ?_
    rintro e1 w5 ⟨rfl, k5⟩
    have HB := Lib.hid (below_next bb.out k5)
    clear k5
    go_wp2_with fail
    go_ret2
    exact ⟨rfl, HB.out⟩
  have C := (fun w1 (h : Below w.heap.size w w1) => mayr_any p x w1 (ok.below h (Nat.le_refl _)) true (Lib.hid (decide_eq_true may)))
  by_cases c1 : 0 ≤ tt
  rotate_left
  · rw [if_neg (fun h => c1 h.2.1)] at hc
    subst hc
    have c1' : tt < 0 := by omega
    have C := Lib.hid C
    clear may c1
    have b1 := Lib.hid ((Box.new w #[.slice p.la p.ln p.lc, .slice p.na p.nn p.nc, .int .i64 p.sw, .int .i64 p.id, .int .i64 p.ch, .int .i64 p.qu, .int .i64 p.sl, .int .i64 p.pp] 25).alloc (.cells #[.int .i64 x.now, .int .i64 x.base, .int .i64 x.dn, .int .i64 x.lv, .int .i64 x.lf] 27))
    have b2' := Box.new (w.alloc (.cells #[.slice p.la p.ln p.lc, .slice p.na p.nn p.nc, .int .i64 p.sw, .int .i64 p.id, .int .i64 p.ch, .int .i64 p.qu, .int .i64 p.sl, .int .i64 p.pp] 25)) #[.int .i64 x.now, .int .i64 x.base, .int .i64 x.dn, .int .i64 x.lv, .int .i64 x.lf] 27
    rw [World.size_alloc] at b2'
    have b2 := Lib.hid b2'
    clear b2'
    have bb := Lib.hid (((Below.refl w.heap.size w).alloc (Nat.le_refl _) (.cells #[.slice p.la p.ln p.lc, .slice p.na p.nn p.nc, .int .i64 p.sw, .int .i64 p.id, .int .i64 p.ch, .int .i64 p.qu, .int .i64 p.sl, .int .i64 p.pp] 25)).alloc (by simp) (.cells #[.int .i64 x.now, .int .i64 x.base, .int .i64 x.dn, .int .i64 x.lv, .int .i64 x.lf] 27))
    go_enter Try.func23, Try.ntmps23
    go_wp2_with fail
    refine (C.out _ bb.out).mono ?_
    rintro e1 w5 ⟨rfl, k5⟩
    have HB := Lib.hid (below_next bb.out k5)
    clear k5
    go_wp2_with fail
    go_ret2
    exact ⟨rfl, HB.out⟩
  by_cases c2 : tt < (p.ln : Int)
  rotate_left
  · rw [if_neg (fun h => c2 h.2.2)] at hc
    subst hc
    have c2' : (p.ln : Int) ≤ tt := by omega
    have C := Lib.hid C
    clear may c2
    have b1 := Lib.hid ((Box.new w #[.slice p.la p.ln p.lc, .slice p.na p.nn p.nc, .int .i64 p.sw, .int .i64 p.id, .int .i64 p.ch, .int .i64 p.qu, .int .i64 p.sl, .int .i64 p.pp] 25).alloc (.cells #[.int .i64 x.now, .int .i64 x.base, .int .i64 x.dn, .int .i64 x.lv, .int .i64 x.lf] 27))
    have b2' := Box.new (w.alloc (.cells #[.slice p.la p.ln p.lc, .slice p.na p.nn p.nc, .int .i64 p.sw, .int .i64 p.id, .int .i64 p.ch, .int .i64 p.qu, .int .i64 p.sl, .int .i64 p.pp] 25)) #[.int .i64 x.now, .int .i64 x.base, .int .i64 x.dn, .int .i64 x.lv, .int .i64 x.lf] 27
    rw [World.size_alloc] at b2'
    have b2 := Lib.hid b2'
    clear b2'
    have bb := Lib.hid (((Below.refl w.heap.size w).alloc (Nat.le_refl _) (.cells #[.slice p.la p.ln p.lc, .slice p.na p.nn p.nc, .int .i64 p.sw, .int .i64 p.id, .int .i64 p.ch, .int .i64 p.qu, .int .i64 p.sl, .int .i64 p.pp] 25)).alloc (by simp) (.cells #[.int .i64 x.now, .int .i64 x.base, .int .i64 x.dn, .int .i64 x.lv, .int .i64 x.lf] 27))
    go_enter Try.func23, Try.ntmps23
    go_wp2_with fail
    refine (C.out _ bb.out).mono ?_
    rintro e1 w5 ⟨rfl, k5⟩
    have HB := Lib.hid (below_next bb.out k5)
    have x1 := (b1.out.next k5).cell
    clear k5
    go_wp2_with fail
    go_ret2
    exact ⟨rfl, HB.out⟩
  rw [if_pos ⟨may, c1, c2⟩] at hc
  subst hc
  obtain ⟨k, rfl⟩ : ∃ k : Nat, tt = (k : Int) := ⟨tt.toNat, by omega⟩
  rw [Int.toNat_natCast]
  have hk : k < p.ln := by omega
  obtain ⟨E, hE⟩ : ∃ E, endP p x k = E := ⟨_, rfl⟩
  rw [hE]
  unfold endP at hE
  clear hm
  obtain ⟨b, off, ea, hbl, c0, c1, i0, i1⟩ := rows_at2 ok.lev k hk
  have hm := ok.lev.out.1
  obtain ⟨f0, f1, q0, q1⟩ := lev_bd may.1 hk
  obtain ⟨⟨s0, s1⟩, -, ⟨g0, g1⟩, -⟩ := rest_bd may.1
  obtain ⟨-, m1, m2, m3, m4, m5, m6, m7, m8, m9⟩ := may
  have hki : (k : Int) < (p.ln : Int) := by omega
  obtain ⟨now, base, dn, lv, lf⟩ := x
  dsimp only at m1 m2 m3 m4 m5 m6 m7 m8 m9
  dsimp only at hE C ⊢
  generalize p.lf k 0 = f at *
  generalize p.lf k 1 = q at *
  have S : Hid (Two w _ _ _ _ _ _ _ b (off + k * 2) f q) := two_in w #[.slice p.la p.ln p.lc, .slice p.na p.nn p.nc, .int .i64 p.sw, .int .i64 p.id, .int .i64 p.ch, .int .i64 p.qu, .int .i64 p.sl, .int .i64 p.pp] #[.int .i64 now, .int .i64 base, .int .i64 dn, .int .i64 lv, .int .i64 lf] 25 27 c0 c1
  rw [ea] at S C ⊢
  clear ea c0 c1 i0 i1
  have C := Lib.hid C
  by_cases hl : (k : Int) = lv
  · rw [if_pos hl] at hE
    subst hl
    obtain ⟨t0, t1⟩ := tm_bd f0 (show 0 ≤ dn + lf by omega)
    have D := (fun w => RefC.mdr_any 1000 (dn + lf) f true w (by omega) (by omega) (by omega) (by omega) (by omega) (by omega))
    rw [md_tm' f0 (by omega) (by omega)] at D
    dsimp only at D
    have D := Lib.hid D
    obtain ⟨T, hT⟩ : ∃ T, tm f (dn + lf) = T := ⟨_, rfl⟩
    rw [hT] at t0 t1 D hE
    have HR := Lib.hid hE
    clear hT hE
    go_enter Try.func23, Try.ntmps23
    go_wp2_with fail
    refine (C.out _ S.out.bel).mono ?_
    rintro e1 w5 ⟨rfl, k5⟩
    have S5 := two_next S k5
    clear k5
    obtain ⟨x1, x2, y0, y1⟩ := two_rules S5
    have hw1 : IntKind.i64.wrap (dn + lf) = dn + lf := IntWalk.i64_in _ (by omega)
    have hw2 : IntKind.i64.wrap (base + T) = base + T := IntWalk.i64_in _ (by omega)
    go_wp2_with fail
    have S6 := two_next S5 ((Below.refl w5.heap.size w5).drew)
    have bd := two_rules S6
    clear x1 x2 y0 y1
    go_region_held3 (fun w' => (∀ m, w'.cell? ⟨w.heap.size, m, none⟩ = (#[.slice (some ⟨b, off, none⟩) p.ln p.lc, .slice p.na p.nn p.nc, .int .i64 p.sw, .int .i64 p.id, .int .i64 p.ch, .int .i64 p.qu, .int .i64 p.sl, .int .i64 p.pp] : Array Value)[m]?) ∧ (∀ m, w'.cell? ⟨w.heap.size + 1, m, none⟩ = ((#[.int .i64 now, .int .i64 base, .int .i64 dn, .int .i64 (k : Int), .int .i64 lf]) : Array Value)[m]?) ∧ w'.cell? ⟨b, off + k * 2, none⟩ = some (.int .i64 f) ∧ w'.cell? ⟨b, off + k * 2 + 1, none⟩ = some (.int .i64 q))
      (first
        | exact bd
        | exact r7)
      (first
        | (go_at_call 47; refine (D.out _).mono ?_; rintro e1 w7 ⟨rfl, k7⟩; have S7 := two_next S6 k7; have r7 := two_rules S7; clear k7))
    all_goals
      clear bd hw1
      obtain ⟨x1, x2, y0, y1⟩ := r7
      by_cases hlt : base + T < now
      · have e : now = E := by
          have h := HR.out
          rw [if_neg (by omega)] at h
          exact h
        clear HR
        subst e
        go_wp2_with fail
        go_ret2
        exact ⟨rfl, S7.out.bel⟩
      · have e : base + T = E := by
          have h := HR.out
          split at h <;> omega
        clear HR
        subst e
        go_wp2_with fail
        go_ret2
        exact ⟨rfl, S7.out.bel⟩
  · rw [if_neg hl] at hE
    have hl' : ((k : Int) != lv) = true := by simpa using hl
    have hl2 : ((k : Int) == lv) = false := by simpa using hl
    obtain ⟨t0, t1⟩ := tm_bd f0 (show 0 ≤ lf by omega)
    have D := (fun w => RefC.mdr_any 1000 lf f true w (by omega) (by omega) (by omega) (by omega) (by omega) (by omega))
    rw [md_tm' f0 (by omega) (by omega)] at D
    dsimp only at D
    have D := Lib.hid D
    obtain ⟨T, hT⟩ : ∃ T, tm f lf = T := ⟨_, rfl⟩
    rw [hT] at t0 t1 D hE
    have HR := Lib.hid hE
    clear hT hE hl
    go_enter Try.func23, Try.ntmps23
    go_wp2_with fail
    refine (C.out _ S.out.bel).mono ?_
    rintro e1 w5 ⟨rfl, k5⟩
    have S5 := two_next S k5
    clear k5
    obtain ⟨x1, x2, y0, y1⟩ := two_rules S5
    have hw1 : IntKind.i64.wrap (now + p.sw) = now + p.sw := IntWalk.i64_in _ (by omega)
    have hw2 : IntKind.i64.wrap (now + p.sw + T) = now + p.sw + T := IntWalk.i64_in _ (by omega)
    go_wp2_with fail
    have S6 := two_next S5 ((Below.refl w5.heap.size w5).drew)
    have bd := two_rules S6
    clear x1 x2 y0 y1
    go_region_held3 (fun w' => (∀ m, w'.cell? ⟨w.heap.size, m, none⟩ = (#[.slice (some ⟨b, off, none⟩) p.ln p.lc, .slice p.na p.nn p.nc, .int .i64 p.sw, .int .i64 p.id, .int .i64 p.ch, .int .i64 p.qu, .int .i64 p.sl, .int .i64 p.pp] : Array Value)[m]?) ∧ (∀ m, w'.cell? ⟨w.heap.size + 1, m, none⟩ = ((#[.int .i64 now, .int .i64 base, .int .i64 dn, .int .i64 lv, .int .i64 lf]) : Array Value)[m]?) ∧ w'.cell? ⟨b, off + k * 2, none⟩ = some (.int .i64 f) ∧ w'.cell? ⟨b, off + k * 2 + 1, none⟩ = some (.int .i64 q))
      (first
        | exact bd
        | exact r7)
      (first
        | (go_at_call 47; refine (D.out _).mono ?_; rintro e1 w7 ⟨rfl, k7⟩; have S7 := two_next S6 k7; have r7 := two_rules S7; clear k7))
    all_goals
      clear bd
      obtain ⟨x1, x2, y0, y1⟩ := r7
      go_wp2_with fail
      go_ret2
      have := HR.out
      subst this
      exact ⟨rfl, S7.out.bel⟩
end Go.Proofs.Ytigknchcjlieoaa.LvlD
