/- The reference of level: Cost. -/
import Derived.Test.YtigknchcjlieoaaLvlD
namespace Go.Proofs.Ytigknchcjlieoaa.LvlE
open Go.RowKit Base Kit Conf PowA PowB PowC PowR WideB LvlA LvlB LvlC LvlD
set_option linter.unusedVariables false
set_option linter.unusedSimpArgs false

set_option maxRecDepth 100000 in
set_option maxHeartbeats 4000000 in
theorem Costr_any (p : PowC) (x : X5) (tt : Int) (w : World) (ok : p.Ok w) (r : Int × Int) (hr : Hid (costR p x tt = r)) :
    Calls Try.prog 25 #[.agg #[.slice p.la p.ln p.lc, .slice p.na p.nn p.nc, .int .i64 p.sw, .int .i64 p.id, .int .i64 p.ch, .int .i64 p.qu, .int .i64 p.sl, .int .i64 p.pp], .agg #[.int .i64 x.now, .int .i64 x.base, .int .i64 x.dn, .int .i64 x.lv, .int .i64 x.lf], .int .i64 tt] w fun e w' => e = .returned (.tuple #[.int .i64 r.1, .int .i64 r.2]) ∧ Below w.heap.size w w' := by
  have hc := hr.out
  clear hr
  obtain ⟨s, hs⟩ : ∃ s, endR p x tt = s := ⟨_, rfl⟩
  have C := (fun w1 (h : Below w.heap.size w w1) => Endr_any p x tt w1 (ok.below h (Nat.le_refl _)) s (Lib.hid hs))
  unfold costR at hc
  unfold endR at hs
  by_cases all : MayP p x ∧ 0 ≤ tt ∧ tt < p.ln
  rotate_left
  · rw [if_neg all] at hc hs
    subst hc
    subst hs
    dsimp only at C
    have C := Lib.hid C
    clear all
    have b1 := Lib.hid ((Box.new w #[.slice p.la p.ln p.lc, .slice p.na p.nn p.nc, .int .i64 p.sw, .int .i64 p.id, .int .i64 p.ch, .int .i64 p.qu, .int .i64 p.sl, .int .i64 p.pp] 25).alloc (.cells #[.int .i64 x.now, .int .i64 x.base, .int .i64 x.dn, .int .i64 x.lv, .int .i64 x.lf] 27))
    have b2' := Box.new (w.alloc (.cells #[.slice p.la p.ln p.lc, .slice p.na p.nn p.nc, .int .i64 p.sw, .int .i64 p.id, .int .i64 p.ch, .int .i64 p.qu, .int .i64 p.sl, .int .i64 p.pp] 25)) #[.int .i64 x.now, .int .i64 x.base, .int .i64 x.dn, .int .i64 x.lv, .int .i64 x.lf] 27
    rw [World.size_alloc] at b2'
    have b2 := Lib.hid b2'
    clear b2'
    have bb := Lib.hid (((Below.refl w.heap.size w).alloc (Nat.le_refl _) (.cells #[.slice p.la p.ln p.lc, .slice p.na p.nn p.nc, .int .i64 p.sw, .int .i64 p.id, .int .i64 p.ch, .int .i64 p.qu, .int .i64 p.sl, .int .i64 p.pp] 25)).alloc (by simp) (.cells #[.int .i64 x.now, .int .i64 x.base, .int .i64 x.dn, .int .i64 x.lv, .int .i64 x.lf] 27))
    go_enter Try.func25, Try.ntmps25
    go_wp2_with fail
    refine (C.out _ bb.out).mono ?_
    rintro e1 w5 ⟨rfl, k5⟩
    have HB := Lib.hid (below_next bb.out k5)
    clear k5
    go_wp2_with fail
    go_ret2
    exact ⟨rfl, HB.out⟩
  rw [if_pos all] at hc hs
  obtain ⟨may, c1, c2⟩ := all
  obtain ⟨k, rfl⟩ : ∃ k : Nat, tt = (k : Int) := ⟨tt.toNat, by omega⟩
  rw [Int.toNat_natCast] at hc hs
  have hk : k < p.ln := by omega
  have eb := endP_bd may hk
  obtain ⟨E, hE⟩ : ∃ E, endP p x k = E := ⟨_, rfl⟩
  rw [hE] at hs eb
  subst hs
  obtain ⟨K, hK⟩ : ∃ K, costP p x k = K := ⟨_, rfl⟩
  rw [hK] at hc
  subst hc
  unfold costP at hK
  rw [hE] at hK
  clear hE
  obtain ⟨b, off, ea, hbl, c0, c1, i0, i1⟩ := rows_at2 ok.lev k hk
  have hm := ok.lev.out.1
  obtain ⟨f0, f1, q0, q1⟩ := lev_bd may.1 hk
  obtain ⟨⟨s0, s1⟩, -, ⟨g0, g1⟩, -⟩ := rest_bd may.1
  obtain ⟨-, m1, m2, m3, m4, m5, m6, m7, m8, m9⟩ := may
  have hki : (k : Int) < (p.ln : Int) := by omega
  obtain ⟨now, base, dn, lv, lf⟩ := x
  dsimp only at m1 m2 m3 m4 m5 m6 m7 m8 m9
  dsimp only at hK eb C ⊢
  generalize p.lf k 0 = f at *
  generalize p.lf k 1 = q at *
  have S : Hid (Two w _ _ _ _ _ _ _ b (off + k * 2) f q) := two_in w #[.slice p.la p.ln p.lc, .slice p.na p.nn p.nc, .int .i64 p.sw, .int .i64 p.id, .int .i64 p.ch, .int .i64 p.qu, .int .i64 p.sl, .int .i64 p.pp] #[.int .i64 now, .int .i64 base, .int .i64 dn, .int .i64 lv, .int .i64 lf] 25 27 c0 c1
  rw [ea] at S C ⊢
  clear ea c0 c1 i0 i1
  have C := Lib.hid C
  by_cases hl : (k : Int) = lv
  · rw [if_pos hl] at hK
    obtain ⟨eb0, eb1⟩ := And.intro eb.1 (eb.2.1 hl)
    clear eb
    subst hl
    have pb := mul_bd q0 q1 (show 0 ≤ E - now by omega) eb1
    subst hK
    go_enter Try.func25, Try.ntmps25
    go_wp2_with fail
    refine (C.out _ S.out.bel).mono ?_
    rintro e1 w5 ⟨rfl, k5⟩
    have S5 := two_next S k5
    clear k5
    obtain ⟨x1, x2, y0, y1⟩ := two_rules S5
    have hw1 : IntKind.i64.wrap (E - now) = E - now := IntWalk.i64_in _ (by omega)
    have hw2 : IntKind.i64.wrap (q * (E - now)) = q * (E - now) := IntWalk.i64_in _ (by omega)
    clear pb
    go_wp2_with fail
    go_quiet (fail)
    go_wp2_with fail
    go_ret2
    exact ⟨rfl, below_drewN' S5.out.bel _⟩
  · rw [if_neg hl] at hK
    have hl' : ((k : Int) == lv) = false := by simpa using hl
    have eb := eb.2.2 hl
    have pb := mul_bd q0 q1 (show 0 ≤ E - now - p.sw by omega) eb.2
    have pc := mul_bd g0 g1 s0 s1
    subst hK
    go_enter Try.func25, Try.ntmps25
    go_wp2_with fail
    refine (C.out _ S.out.bel).mono ?_
    rintro e1 w5 ⟨rfl, k5⟩
    have S5 := two_next S k5
    clear k5
    obtain ⟨x1, x2, y0, y1⟩ := two_rules S5
    have hw1 : IntKind.i64.wrap (E - now) = E - now := IntWalk.i64_in _ (by omega)
    have hw2 : IntKind.i64.wrap (E - now - p.sw) = E - now - p.sw := IntWalk.i64_in _ (by omega)
    have hw3 : IntKind.i64.wrap (q * (E - now - p.sw)) = q * (E - now - p.sw) := IntWalk.i64_in _ (by omega)
    have hw4 : IntKind.i64.wrap (p.ch * p.sw) = p.ch * p.sw := IntWalk.i64_in _ (by omega)
    have hw5 : IntKind.i64.wrap (q * (E - now - p.sw) + p.ch * p.sw) = q * (E - now - p.sw) + p.ch * p.sw := IntWalk.i64_in _ (by omega)
    clear pb pc hl
    go_wp2_with fail
    go_quiet (fail)
    go_wp2_with fail
    go_ret2
    exact ⟨rfl, below_drewN' S5.out.bel _⟩
end Go.Proofs.Ytigknchcjlieoaa.LvlE
