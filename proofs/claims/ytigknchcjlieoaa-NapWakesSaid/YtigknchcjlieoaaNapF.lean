/- Package nap: the least one (slices.MinFunc with the closure of Best). -/
import Derived.Test.YtigknchcjlieoaaNapE
namespace Go.Proofs.Ytigknchcjlieoaa.NapF
open Go.RowKit Go.Shelf Base Kit Conf PowA PowB PowC PowR WideB Alt RefA LvlA LvlG LvlH LvlI LvlJ OscPlain OscZ NapA NapB NapC NapD NapE
set_option linter.unusedVariables false
set_option linter.unusedSimpArgs false

/-- what the closure reads -/
def Cap (p : PowC) (now en : Int) (Bp Bn Be : Nat) (w : World) : Prop := (∀ i, w.cell? ⟨Bp, i, none⟩ = (#[.slice p.la p.ln p.lc, .slice p.na p.nn p.nc, .int .i64 p.sw, .int .i64 p.id, .int .i64 p.ch, .int .i64 p.qu, .int .i64 p.sl, .int .i64 p.pp] : Array Value)[i]?) ∧ w.cell? ⟨Bn, 0, none⟩ = some (.int .i64 now) ∧ w.cell? ⟨Be, 0, none⟩ = some (.int .i64 en)
theorem cap_next {p : PowC} {now en : Int} {Bp Bn Be : Nat} {w w1 : World} (h : Cap p now en Bp Bn Be w) (lp : Bp < w.heap.size) (k : Below w.heap.size w w1) : Cap p now en Bp Bn Be w1 :=
  ⟨fun i => (k.cell (p := ⟨Bp, i, none⟩) lp).trans (h.1 i), keep' k h.2.1, keep' k h.2.2⟩
set_option maxRecDepth 100000 in
set_option maxHeartbeats 4000000 in
theorem best1_any (p : PowC) (now en : Int) (Bp Bn Be k1 k2 : Nat) (w : World) (ok : p.Ok w) (may : MayN p now en) (h1 : k1 < p.nn ∧ 0 ≤ roomN p k1 now en) (h2 : k2 < p.nn ∧ 0 ≤ roomN p k2 now en) (hl : en - now ≤ 1099511627776)
    (hc : Hid (Cap p now en Bp Bn Be w)) (lp : Bp < w.heap.size) (r : Int) (hr : Hid (costN p k1 now en - costN p k2 now en = r)) :
    Calls Try.prog 48 #[.int .i64 (k1 : Int), .int .i64 (k2 : Int), .pointer (some ⟨Bp, 0, none⟩), .pointer (some ⟨Bn, 0, none⟩), .pointer (some ⟨Be, 0, none⟩)] w fun e w' => e = .returned (.int .i64 r) ∧ Below w.heap.size w w' := by
  have d1 := cost_bd may h1.1 h1.2 hl
  have d2 := cost_bd may h2.1 h2.2 hl
  obtain ⟨c1, e1⟩ : ∃ c, costN p k1 now en = c := ⟨_, rfl⟩
  obtain ⟨c2, e2⟩ : ∃ c, costN p k2 now en = c := ⟨_, rfl⟩
  have hr := hr.out
  have C1 := Lib.hid (fun w1 (h : Below w.heap.size w w1) => cost_any p k1 now en w1 (ok.below h (Nat.le_refl _)) may h1.1 h1.2 hl c1 (Lib.hid e1))
  have C2 := Lib.hid (fun w1 (h : Below w.heap.size w w1) => cost_any p k2 now en w1 (ok.below h (Nat.le_refl _)) may h2.1 h2.2 hl c2 (Lib.hid e2))
  rw [e1] at d1 hr
  rw [e2] at d2 hr
  subst hr
  clear e1 e2 may h1 h2 hl
  have hw := IntWalk.i64_in (c1 - c2) (by omega)
  have S := Lib.hid ((Below.refl w.heap.size w).drew)
  have K := Lib.hid (fun w1 (h : Below w.heap.size w w1) => cap_next hc.out lp h)
  go_enter Try.func48, Try.ntmps48
  go_wp2_with fail
  have bd := K.out _ S.out
  unfold Cap at bd
  go_region_held3 (fun w' => (∀ i, w'.cell? ⟨Bp, i, none⟩ = (#[.slice p.la p.ln p.lc, .slice p.na p.nn p.nc, .int .i64 p.sw, .int .i64 p.id, .int .i64 p.ch, .int .i64 p.qu, .int .i64 p.sl, .int .i64 p.pp] : Array Value)[i]?) ∧ w'.cell? ⟨Bn, 0, none⟩ = some (.int .i64 now) ∧ w'.cell? ⟨Be, 0, none⟩ = some (.int .i64 en))
    (first
      | exact r6
      | exact r5
      | exact bd)
    (first
      | (go_at_call 49; refine (C2.out _ S5.out).mono ?_; rintro e1 w6 ⟨rfl, k6⟩; have S6 := Lib.hid (S5.out.trans (k6.mono S5.out.size)); have r6 := K.out _ S6.out; unfold Cap at r6; clear k6)
      | (go_at_call 49; refine (C1.out _ S.out).mono ?_; rintro e1 w5 ⟨rfl, k5⟩; have S5 := Lib.hid (S.out.trans (k5.mono S.out.size)); have r5 := K.out _ S5.out; unfold Cap at r5; clear k5))
  all_goals
    clear bd r5 r6
    go_wp2_with fail
    go_ret
    exact ⟨rfl, S6.out⟩
set_option maxRecDepth 100000 in
set_option maxHeartbeats 4000000 in
theorem min_any (p : PowC) (now en : Int) (Bp Bn Be g n cap : Nat) (L : Nat → Nat) (w : World) (ok : p.Ok w) (may : MayN p now en) (hL : ∀ i, i < n → L i < p.nn ∧ 0 ≤ roomN p (L i) now en) (hl : en - now ≤ 1099511627776) (hn : n ≤ 100) (h0 : 0 < n)
    (hc : Hid (Cap p now en Bp Bn Be w)) (lp : Bp < w.heap.size) (lg : g < w.heap.size)
    (hg : Hid (∀ i, i < n → w.cell? ⟨g, i, none⟩ = some (.int .i64 (L i : Int)))) (r : Nat) (hr : Hid (bst (fun k => costN p k now en) L (n - 1) = r)) :
    Calls Try.prog 41 #[.slice (some ⟨g, 0, none⟩) n cap, .func (.func 48) #[] #[.pointer (some ⟨Bp, 0, none⟩), .pointer (some ⟨Bn, 0, none⟩), .pointer (some ⟨Be, 0, none⟩)]] w fun e w' => e = .returned (.int .i64 (r : Int)) ∧ Below w.heap.size w w' := by
  have c0 := hg.out 0 h0
  have hn1 : ¬ (n : Int) < 1 := by omega
  have M := Lib.hid (And.intro may hl)
  have HL := Lib.hid hL
  clear may hL hl
  obtain ⟨C, hC⟩ : ∃ C : Nat → Int, ∀ k, costN p k now en = C k := ⟨_, fun _ => rfl⟩
  rw [show (fun k => costN p k now en) = C from funext hC] at hr
  have HC := Lib.hid hC
  clear hC
  go_enter Try.func41, Try.ntmps41
  go_wp2_with fail
  go_loopw [5, 6] (fun m i wr => ∃ k : Nat, 1 ≤ k ∧ k ≤ n ∧ i = .int .i64 k ∧ m = .int .i64 ((bst C L (k - 1) : Nat) : Int) ∧ Hid (Below w.heap.size w wr)) (fun _ i _ => n - (intOf i).toNat)
  case atStart => exact ⟨1, Nat.le_refl _, h0, rfl, rfl, Lib.hid (Below.refl _ _)⟩
  case round =>
    clear c0
    obtain ⟨k, hk1, hk, rfl, rfl, hb⟩ := hrel
    by_cases hlt : k < n
    · obtain ⟨q, rfl⟩ : ∃ q, k = q + 1 := ⟨k - 1, by omega⟩
      rw [Nat.add_sub_cancel]
      have ck : wr.cell? ⟨g, q + 1, none⟩ = some (.int .i64 (L (q + 1) : Int)) := (hb.out.cell (p := ⟨g, q + 1, none⟩) lg).trans (hg.out _ hlt)
      have hbs : bst C L (q + 1) = if C (L (q + 1)) < C (bst C L q) then L (q + 1) else bst C L q := rfl
      have hin : bst C L q < p.nn ∧ 0 ≤ roomN p (bst C L q) now en := by
        obtain ⟨j, hj, h⟩ := bst_in C L q
        rw [h]; exact HL.out j (by omega)
      generalize bst C L q = m at hbs hin ⊢
      have hq := HL.out (q + 1) hlt
      obtain ⟨y, hy⟩ : ∃ y, L (q + 1) = y := ⟨_, rfl⟩
      rw [hy] at ck hbs hq
      clear hy
      obtain ⟨t, ht⟩ : ∃ t, C y - C m = t := ⟨_, rfl⟩
      have D := Lib.hid (best1_any p now en Bp Bn Be y m wr (ok.below hb.out (Nat.le_refl _)) M.out.1 hq hin M.out.2 (Lib.hid (cap_next hc.out lp hb.out)) (Nat.lt_of_lt_of_le lp hb.out.size) t (Lib.hid (by rw [HC.out, HC.out]; exact ht)))
      have lg' : g < wr.heap.size := Nat.lt_of_lt_of_le lg hb.out.size
      clear hq hin
      by_cases ht0 : t < 0
      · have HB := Lib.hid (show bst C L (q + 1) = y by rw [hbs, if_pos (by omega)])
        clear hbs ht
        go_wp2_with (go_at_call 48; refine D.out.mono ?_; rintro e1 w5 ⟨rfl, k5⟩; have ck5 := (k5.cell (p := ⟨g, q + 1, none⟩) lg').trans ck; have HB5 := Lib.hid (hb.out.trans (k5.mono hb.out.size)); clear k5)
        go_roundw
        case rel => exact ⟨q + 1 + 1, by omega, by omega, by go_num, by rw [Nat.add_sub_cancel, HB.out], HB5⟩
        case measure => simp [intOf]; omega
      · have HB := Lib.hid (show bst C L (q + 1) = m by rw [hbs, if_neg (by omega)])
        clear hbs ht
        go_wp2_with (go_at_call 48; refine D.out.mono ?_; rintro e1 w5 ⟨rfl, k5⟩; have HB5 := Lib.hid (hb.out.trans (k5.mono hb.out.size)); clear k5)
        go_roundw
        case rel => exact ⟨q + 1 + 1, by omega, by omega, by go_num, by rw [Nat.add_sub_cancel, HB.out], HB5⟩
        case measure => simp [intOf]; omega
    · obtain rfl : k = n := by omega
      have HR := hr.out
      go_wp2_with fail
      go_ret
      exact ⟨Kit.ret_int (congrArg Int.ofNat HR), hb.out⟩
end Go.Proofs.Ytigknchcjlieoaa.NapF
