/- Package level: time, end, cost; End, Cost. -/
import Derived.Test.YtigknchcjlieoaaLvlA
namespace Go.Proofs.Ytigknchcjlieoaa.LvlB
open Go.RowKit Base Kit Conf PowA PowB PowC PowR WideB LvlA
set_option linter.unusedVariables false
set_option linter.unusedSimpArgs false

theorem keepc {W w1 : World} {b : Nat} {vs : Array Value} (hb : Below W.heap.size W w1) (hlt : b < W.heap.size) (h : ∀ i, W.cell? ⟨b, i, none⟩ = vs[i]?) : ∀ i, w1.cell? ⟨b, i, none⟩ = vs[i]? := fun i => (hb.cell (p := ⟨b, i, none⟩) hlt).trans (h i)
theorem time_any (f q c : Int) (w : World) (h0 : 0 ≤ c) (h1 : c ≤ 4294967296) (hf : 1 ≤ f) (hf' : f ≤ 10000) :
    Calls Try.prog 61 #[.agg #[.int .i64 f, .int .i64 q], .int .i64 c] w fun e w' => e = .returned (.int .i64 (tm f c)) ∧ Below w.heap.size w w' := by
  have C := Lib.hid (fun w => md_any c 1000 f true w (by omega) (by omega) (by omega) (by omega) (by omega) (by omega))
  rw [md_tm hf h0 h1] at C
  go_enter Try.func61, Try.ntmps61
  go_wp2_with fail
  refine (C.out _).mono ?_
  rintro e1 w5 ⟨rfl, k5⟩
  have HB := Lib.hid (below_in _ k5)
  clear k5
  go_wp2_with fail
  go_ret
  exact ⟨rfl, HB.out⟩
/-- the two blocks of a call by value, and a level's cells -/
structure Two (w0 w : World) (i j : Nat) (A B : Array Value) (T U : TypeId) (b o : Nat) (f q : Int) : Prop where
  bel : Below w0.heap.size w0 w
  one : Box w i A T
  two : Box w j B U
  c0 : w.cell? ⟨b, o, none⟩ = some (.int .i64 f)
  c1 : w.cell? ⟨b, o + 1, none⟩ = some (.int .i64 q)
theorem two_next {w0 w w1 : World} {i j : Nat} {A B : Array Value} {T U : TypeId} {b o : Nat} {f q : Int} (h : Hid (Two w0 w i j A B T U b o f q)) (k : Below w.heap.size w w1) : Hid (Two w0 w1 i j A B T U b o f q) :=
  Lib.hid ⟨below_next h.out.bel k, h.out.one.next k, h.out.two.next k, keep' k h.out.c0, keep' k h.out.c1⟩
theorem two_in (w : World) (A B : Array Value) (T U : TypeId) {b o : Nat} {f q : Int} (c0 : w.cell? ⟨b, o, none⟩ = some (.int .i64 f)) (c1 : w.cell? ⟨b, o + 1, none⟩ = some (.int .i64 q)) : Hid (Two w ((w.alloc (.cells A T)).alloc (.cells B U)) w.heap.size (w.heap.size + 1) A B T U b o f q) := by
  have b2 := Box.new (w.alloc (.cells A T)) B U
  rw [World.size_alloc] at b2
  have k : Below w.heap.size w ((w.alloc (.cells A T)).alloc (.cells B U)) := ((Below.refl _ _).alloc (Nat.le_refl _) _).alloc (by simp) _
  exact Lib.hid ⟨k, (Box.new w A T).alloc _, b2, keep' k c0, keep' k c1⟩
theorem two_rules {w0 w : World} {i j : Nat} {A B : Array Value} {T U : TypeId} {b o : Nat} {f q : Int} (h : Hid (Two w0 w i j A B T U b o f q)) :
    (∀ m, w.cell? ⟨i, m, none⟩ = A[m]?) ∧ (∀ m, w.cell? ⟨j, m, none⟩ = B[m]?) ∧ w.cell? ⟨b, o, none⟩ = some (.int .i64 f) ∧ w.cell? ⟨b, o + 1, none⟩ = some (.int .i64 q) := ⟨h.out.one.cell, h.out.two.cell, h.out.c0, h.out.c1⟩
set_option maxRecDepth 100000 in
set_option maxHeartbeats 2000000 in
theorem end_any (p : PowC) (x : X5) (w : World) (ok : p.Ok w) (may : MayP p x) (k : Nat) (hk : k < p.ln) (r : Int) (hr : Hid (endP p x k = r)) :
    Calls Try.prog 46 #[.agg #[.int .i64 x.now, .int .i64 x.base, .int .i64 x.dn, .int .i64 x.lv, .int .i64 x.lf], .agg #[.slice p.la p.ln p.lc, .slice p.na p.nn p.nc, .int .i64 p.sw, .int .i64 p.id, .int .i64 p.ch, .int .i64 p.qu, .int .i64 p.sl, .int .i64 p.pp], .int .i64 (k : Int)] w fun e w' => e = .returned (.int .i64 r) ∧ Below w.heap.size w w' := by
  obtain ⟨b, off, ea, hbl, c0, c1, i0, i1⟩ := rows_at2 ok.lev k hk
  have hm := ok.lev.out.1
  obtain ⟨f0, f1, q0, q1⟩ := lev_bd may.1 hk
  obtain ⟨⟨s0, s1⟩, -, ⟨g0, g1⟩, -⟩ := rest_bd may.1
  obtain ⟨-, m1, m2, m3, m4, m5, m6, m7, m8, m9⟩ := may
  have hki : (k : Int) < (p.ln : Int) := by omega
  obtain ⟨now, base, dn, lv, lf⟩ := x
  dsimp only at m1 m2 m3 m4 m5 m6 m7 m8 m9
  have hr := hr.out
  unfold endP at hr
  dsimp only at hr ⊢
  generalize p.lf k 0 = f at *
  generalize p.lf k 1 = q at *
  have S : Hid (Two w _ _ _ _ _ _ _ b (off + k * 2) f q) := two_in w #[.int .i64 now, .int .i64 base, .int .i64 dn, .int .i64 lv, .int .i64 lf] #[.slice p.la p.ln p.lc, .slice p.na p.nn p.nc, .int .i64 p.sw, .int .i64 p.id, .int .i64 p.ch, .int .i64 p.qu, .int .i64 p.sl, .int .i64 p.pp] 34 25 c0 c1
  rw [ea] at S ⊢
  clear ea c0 c1 i0 i1
  by_cases hl : (k : Int) = lv
  · rw [if_pos hl] at hr
    subst hl
    obtain ⟨t0, t1⟩ := tm_bd f0 (show 0 ≤ dn + lf by omega)
    have C := Lib.hid (fun w => time_any f q (dn + lf) w (by omega) (by omega) f0 f1)
    obtain ⟨T, hT⟩ : ∃ T, tm f (dn + lf) = T := ⟨_, rfl⟩
    rw [hT] at t0 t1 C hr
    have HR := Lib.hid hr
    clear hT hr
    go_enter Try.func46, Try.ntmps46
    go_wp2_with fail
    have hw1 : IntKind.i64.wrap (dn + lf) = dn + lf := IntWalk.i64_in _ (by omega)
    have hw2 : IntKind.i64.wrap (base + T) = base + T := IntWalk.i64_in _ (by omega)
    generalize (w.alloc (.cells #[.int .i64 now, .int .i64 base, .int .i64 dn, .int .i64 (k : Int), .int .i64 lf] 34)).alloc (.cells #[.slice (some ⟨b, off, none⟩) p.ln p.lc, .slice p.na p.nn p.nc, .int .i64 p.sw, .int .i64 p.id, .int .i64 p.ch, .int .i64 p.qu, .int .i64 p.sl, .int .i64 p.pp] 25) = W at S ⊢
    have S := two_next S ((Below.refl W.heap.size W).drew)
    have bd := two_rules S
    go_region_held3 (fun w' => (∀ m, w'.cell? ⟨w.heap.size, m, none⟩ = (#[.int .i64 now, .int .i64 base, .int .i64 dn, .int .i64 (k : Int), .int .i64 lf] : Array Value)[m]?) ∧ (∀ m, w'.cell? ⟨w.heap.size + 1, m, none⟩ = (#[.slice (some ⟨b, off, none⟩) p.ln p.lc, .slice p.na p.nn p.nc, .int .i64 p.sw, .int .i64 p.id, .int .i64 p.ch, .int .i64 p.qu, .int .i64 p.sl, .int .i64 p.pp] : Array Value)[m]?) ∧ w'.cell? ⟨b, off + k * 2, none⟩ = some (.int .i64 f) ∧ w'.cell? ⟨b, off + k * 2 + 1, none⟩ = some (.int .i64 q))
      (first
        | exact bd
        | exact r5)
      (first
        | (go_at_call 61; refine (C.out _).mono ?_; rintro e1 w5 ⟨rfl, k5⟩; have S5 := two_next S k5; have r5 := two_rules S5; clear k5))
    all_goals
      clear bd r5 hw1 hw2
      go_wp2_with fail
    all_goals
      go_ret
      refine ⟨Kit.ret_int ?_, S5.out.bel⟩
      rw [← HR.out]
      (repeat' split) <;> omega
  · rw [if_neg hl] at hr
    have hl' : ((k : Int) == lv) = false := by simpa using hl
    obtain ⟨t0, t1⟩ := tm_bd f0 (show 0 ≤ lf by omega)
    have C := Lib.hid (fun w => time_any f q lf w (by omega) (by omega) f0 f1)
    obtain ⟨T, hT⟩ : ∃ T, tm f lf = T := ⟨_, rfl⟩
    rw [hT] at t0 t1 C hr
    have HR := Lib.hid hr
    clear hT hr hl
    go_enter Try.func46, Try.ntmps46
    go_wp2_with fail
    have hw1 : IntKind.i64.wrap (now + p.sw) = now + p.sw := IntWalk.i64_in _ (by omega)
    have hw2 : IntKind.i64.wrap (now + p.sw + T) = now + p.sw + T := IntWalk.i64_in _ (by omega)
    generalize (w.alloc (.cells #[.int .i64 now, .int .i64 base, .int .i64 dn, .int .i64 lv, .int .i64 lf] 34)).alloc (.cells #[.slice (some ⟨b, off, none⟩) p.ln p.lc, .slice p.na p.nn p.nc, .int .i64 p.sw, .int .i64 p.id, .int .i64 p.ch, .int .i64 p.qu, .int .i64 p.sl, .int .i64 p.pp] 25) = W at S ⊢
    have S := two_next S ((Below.refl W.heap.size W).drew)
    have bd := two_rules S
    go_region_held3 (fun w' => (∀ m, w'.cell? ⟨w.heap.size, m, none⟩ = (#[.int .i64 now, .int .i64 base, .int .i64 dn, .int .i64 lv, .int .i64 lf] : Array Value)[m]?) ∧ (∀ m, w'.cell? ⟨w.heap.size + 1, m, none⟩ = (#[.slice (some ⟨b, off, none⟩) p.ln p.lc, .slice p.na p.nn p.nc, .int .i64 p.sw, .int .i64 p.id, .int .i64 p.ch, .int .i64 p.qu, .int .i64 p.sl, .int .i64 p.pp] : Array Value)[m]?) ∧ w'.cell? ⟨b, off + k * 2, none⟩ = some (.int .i64 f) ∧ w'.cell? ⟨b, off + k * 2 + 1, none⟩ = some (.int .i64 q))
      (first
        | exact bd
        | exact r5)
      (first
        | (go_at_call 61; refine (C.out _).mono ?_; rintro e1 w5 ⟨rfl, k5⟩; have S5 := two_next S k5; have r5 := two_rules S5; clear k5))
    all_goals
      clear bd r5 hw1 hw2
      go_wp2_with fail
      go_ret
      exact ⟨Kit.ret_int HR.out, S5.out.bel⟩
end Go.Proofs.Ytigknchcjlieoaa.LvlB
