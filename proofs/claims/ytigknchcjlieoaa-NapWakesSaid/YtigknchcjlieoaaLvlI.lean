/- Package level: the least of some levels. -/
import Derived.Test.YtigknchcjlieoaaLvlH
namespace Go.Proofs.Ytigknchcjlieoaa.LvlI
open Go.RowKit Go.Shelf Base Kit Conf PowA PowB PowC PowR WideB Alt RefA LvlA LvlB LvlC LvlD LvlE LvlF LvlG LvlH
set_option linter.unusedVariables false
set_option linter.unusedSimpArgs false

theorem costP_bd {p : PowC} {x : X5} (may : MayP p x) {k : Nat} (hk : k < p.ln) : 0 ≤ costP p x k ∧ costP p x k ≤ 4300000000000000000 := by
  have e := endP_bd may hk
  obtain ⟨f0, f1, q0, q1⟩ := lev_bd may.1 hk
  obtain ⟨⟨s0, s1⟩, -, ⟨g0, g1⟩, -⟩ := rest_bd may.1
  unfold costP
  by_cases h : (k : Int) = x.lv
  · rw [if_pos h]
    have := mul_bd q0 q1 (show 0 ≤ endP p x k - x.now by omega) (e.2.1 h)
    omega
  · rw [if_neg h]
    have e2 := e.2.2 h
    have := mul_bd q0 q1 (show 0 ≤ endP p x k - x.now - p.sw by omega) e2.2
    have := mul_bd g0 g1 s0 s1
    omega
set_option maxRecDepth 100000 in
set_option maxHeartbeats 4000000 in
theorem best1_any (p : PowC) (x : X5) (Bx Bp k1 k2 : Nat) (w : World) (ok : p.Ok w) (may : MayP p x) (h1 : k1 < p.ln) (h2 : k2 < p.ln)
    (hx : Hid (∀ i, w.cell? ⟨Bx, i, none⟩ = (#[.int .i64 x.now, .int .i64 x.base, .int .i64 x.dn, .int .i64 x.lv, .int .i64 x.lf] : Array Value)[i]?)) (hp : Hid (∀ i, w.cell? ⟨Bp, i, none⟩ = (#[.slice p.la p.ln p.lc, .slice p.na p.nn p.nc, .int .i64 p.sw, .int .i64 p.id, .int .i64 p.ch, .int .i64 p.qu, .int .i64 p.sl, .int .i64 p.pp] : Array Value)[i]?)) (lx : Bx < w.heap.size) (lp : Bp < w.heap.size) (r : Int) (hr : Hid (costP p x k1 - costP p x k2 = r)) :
    Calls Try.prog 42 #[.int .i64 (k1 : Int), .int .i64 (k2 : Int), .pointer (some ⟨Bx, 0, none⟩), .pointer (some ⟨Bp, 0, none⟩)] w fun e w' => e = .returned (.int .i64 r) ∧ Below w.heap.size w w' := by
  have d1 := costP_bd may h1
  have d2 := costP_bd may h2
  obtain ⟨c1, e1⟩ : ∃ c, costP p x k1 = c := ⟨_, rfl⟩
  obtain ⟨c2, e2⟩ : ∃ c, costP p x k2 = c := ⟨_, rfl⟩
  have hr := hr.out
  have C1 := Lib.hid (fun w1 (h : Below w.heap.size w w1) => cost_any p x w1 (ok.below h (Nat.le_refl _)) may k1 h1 c1 (Lib.hid e1))
  have C2 := Lib.hid (fun w1 (h : Below w.heap.size w w1) => cost_any p x w1 (ok.below h (Nat.le_refl _)) may k2 h2 c2 (Lib.hid e2))
  rw [e1] at d1 hr
  rw [e2] at d2 hr
  subst hr
  clear e1 e2
  have hw := IntWalk.i64_in (c1 - c2) (by omega)
  have S := Lib.hid ((Below.refl w.heap.size w).drew)
  have K := Lib.hid (fun w1 (h : Below w.heap.size w w1) => (⟨fun i => (h.cell (p := ⟨Bx, i, none⟩) lx).trans (hx.out i), fun i => (h.cell (p := ⟨Bp, i, none⟩) lp).trans (hp.out i)⟩ : (∀ i, w1.cell? ⟨Bx, i, none⟩ = (#[.int .i64 x.now, .int .i64 x.base, .int .i64 x.dn, .int .i64 x.lv, .int .i64 x.lf] : Array Value)[i]?) ∧ (∀ i, w1.cell? ⟨Bp, i, none⟩ = (#[.slice p.la p.ln p.lc, .slice p.na p.nn p.nc, .int .i64 p.sw, .int .i64 p.id, .int .i64 p.ch, .int .i64 p.qu, .int .i64 p.sl, .int .i64 p.pp] : Array Value)[i]?)))
  go_enter Try.func42, Try.ntmps42
  go_wp2_with fail
  have bd := K.out _ S.out
  go_region_held3 (fun w' => (∀ i, w'.cell? ⟨Bx, i, none⟩ = (#[.int .i64 x.now, .int .i64 x.base, .int .i64 x.dn, .int .i64 x.lv, .int .i64 x.lf] : Array Value)[i]?) ∧ (∀ i, w'.cell? ⟨Bp, i, none⟩ = (#[.slice p.la p.ln p.lc, .slice p.na p.nn p.nc, .int .i64 p.sw, .int .i64 p.id, .int .i64 p.ch, .int .i64 p.qu, .int .i64 p.sl, .int .i64 p.pp] : Array Value)[i]?))
    (first
      | exact r6
      | exact r5
      | exact bd)
    (first
      | (go_at_call 43; refine (C2.out _ S5.out).mono ?_; rintro e1 w6 ⟨rfl, k6⟩; have S6 := Lib.hid (S5.out.trans (k6.mono S5.out.size)); have r6 := K.out _ S6.out; clear k6)
      | (go_at_call 43; refine (C1.out _ S.out).mono ?_; rintro e1 w5 ⟨rfl, k5⟩; have S5 := Lib.hid (S.out.trans (k5.mono S.out.size)); have r5 := K.out _ S5.out; clear k5))
  all_goals
    clear bd r5 r6
    go_wp2_with fail
    go_ret
    exact ⟨rfl, S6.out⟩
/-- the least of the first ones -/
def bst (c : Nat → Int) (L : Nat → Nat) : Nat → Nat
  | 0 => L 0
  | i + 1 => if c (L (i + 1)) < c (bst c L i) then L (i + 1) else bst c L i
theorem bst_in (c : Nat → Int) (L : Nat → Nat) : ∀ i, ∃ j, j ≤ i ∧ bst c L i = L j
  | 0 => ⟨0, Nat.le_refl _, rfl⟩
  | i + 1 => by
    obtain ⟨j, hj, h⟩ := bst_in c L i
    unfold bst; split
    · exact ⟨i + 1, Nat.le_refl _, rfl⟩
    · exact ⟨j, by omega, h⟩
set_option maxRecDepth 100000 in
set_option maxHeartbeats 4000000 in
theorem min_any (p : PowC) (x : X5) (Bx Bp g n cap : Nat) (L : Nat → Nat) (w : World) (ok : p.Ok w) (may : MayP p x) (hL : ∀ i, i < n → L i < p.ln) (hn : n ≤ 100) (h0 : 0 < n)
    (hx : Hid (∀ i, w.cell? ⟨Bx, i, none⟩ = (#[.int .i64 x.now, .int .i64 x.base, .int .i64 x.dn, .int .i64 x.lv, .int .i64 x.lf] : Array Value)[i]?)) (hp : Hid (∀ i, w.cell? ⟨Bp, i, none⟩ = (#[.slice p.la p.ln p.lc, .slice p.na p.nn p.nc, .int .i64 p.sw, .int .i64 p.id, .int .i64 p.ch, .int .i64 p.qu, .int .i64 p.sl, .int .i64 p.pp] : Array Value)[i]?)) (lx : Bx < w.heap.size) (lp : Bp < w.heap.size) (lg : g < w.heap.size)
    (hg : Hid (∀ i, i < n → w.cell? ⟨g, i, none⟩ = some (.int .i64 (L i : Int)))) (r : Nat) (hr : Hid (bst (costP p x) L (n - 1) = r)) :
    Calls Try.prog 41 #[.slice (some ⟨g, 0, none⟩) n cap, .func (.func 42) #[] #[.pointer (some ⟨Bx, 0, none⟩), .pointer (some ⟨Bp, 0, none⟩)]] w fun e w' => e = .returned (.int .i64 (r : Int)) ∧ Below w.heap.size w w' := by
  have c0 := hg.out 0 h0
  have hn1 : ¬ (n : Int) < 1 := by omega
  have M := Lib.hid may
  have HL := Lib.hid hL
  clear may hL
  go_enter Try.func41, Try.ntmps41
  go_wp2_with fail
  go_loopw [5, 6] (fun m i wr => ∃ k : Nat, 1 ≤ k ∧ k ≤ n ∧ i = .int .i64 k ∧ m = .int .i64 ((bst (costP p x) L (k - 1) : Nat) : Int) ∧ Hid (Below w.heap.size w wr)) (fun _ i _ => n - (intOf i).toNat)
  case atStart => exact ⟨1, Nat.le_refl _, h0, rfl, rfl, Lib.hid (Below.refl _ _)⟩
  case round =>
    clear c0
    obtain ⟨k, hk1, hk, rfl, rfl, hb⟩ := hrel
    by_cases hlt : k < n
    · obtain ⟨q, rfl⟩ : ∃ q, k = q + 1 := ⟨k - 1, by omega⟩
      rw [Nat.add_sub_cancel]
      have ck : wr.cell? ⟨g, q + 1, none⟩ = some (.int .i64 (L (q + 1) : Int)) := (hb.out.cell (p := ⟨g, q + 1, none⟩) lg).trans (hg.out _ hlt)
      have hbs : bst (costP p x) L (q + 1) = if costP p x (L (q + 1)) < costP p x (bst (costP p x) L q) then L (q + 1) else bst (costP p x) L q := rfl
      have hin : bst (costP p x) L q < p.ln := by
        obtain ⟨j, hj, h⟩ := bst_in (costP p x) L q
        rw [h]; exact HL.out j (by omega)
      generalize bst (costP p x) L q = m at hbs hin ⊢
      have hq := HL.out (q + 1) hlt
      obtain ⟨y, hy⟩ : ∃ y, L (q + 1) = y := ⟨_, rfl⟩
      rw [hy] at ck hbs hq
      clear hy
      obtain ⟨t, ht⟩ : ∃ t, costP p x y - costP p x m = t := ⟨_, rfl⟩
      have C := Lib.hid (best1_any p x Bx Bp y m wr (ok.below hb.out (Nat.le_refl _)) M.out hq hin (Lib.hid (fun i => (hb.out.cell (p := ⟨Bx, i, none⟩) lx).trans (hx.out i))) (Lib.hid (fun i => (hb.out.cell (p := ⟨Bp, i, none⟩) lp).trans (hp.out i))) (Nat.lt_of_lt_of_le lx hb.out.size) (Nat.lt_of_lt_of_le lp hb.out.size) t (Lib.hid ht))
      have lg' : g < wr.heap.size := Nat.lt_of_lt_of_le lg hb.out.size
      by_cases ht0 : t < 0
      · have HB := Lib.hid (show bst (costP p x) L (q + 1) = y by rw [hbs, if_pos (by omega)])
        clear hbs ht
        go_wp2_with (go_at_call 42; refine C.out.mono ?_; rintro e1 w5 ⟨rfl, k5⟩; have ck5 := (k5.cell (p := ⟨g, q + 1, none⟩) lg').trans ck; have HB5 := Lib.hid (hb.out.trans (k5.mono hb.out.size)); clear k5)
        go_roundw
        case rel => exact ⟨q + 1 + 1, by omega, by omega, by go_num, by rw [Nat.add_sub_cancel, HB.out], HB5⟩
        case measure => simp [intOf]; omega
      · have HB := Lib.hid (show bst (costP p x) L (q + 1) = m by rw [hbs, if_neg (by omega)])
        clear hbs ht
        go_wp2_with (go_at_call 42; refine C.out.mono ?_; rintro e1 w5 ⟨rfl, k5⟩; have HB5 := Lib.hid (hb.out.trans (k5.mono hb.out.size)); clear k5)
        go_roundw
        case rel => exact ⟨q + 1 + 1, by omega, by omega, by go_num, by rw [Nat.add_sub_cancel, HB.out], HB5⟩
        case measure => simp [intOf]; omega
    · obtain rfl : k = n := by omega
      have HR := hr.out
      go_wp2_with fail
      go_ret
      exact ⟨Kit.ret_int (congrArg Int.ofNat HR), hb.out⟩
end Go.Proofs.Ytigknchcjlieoaa.LvlI
