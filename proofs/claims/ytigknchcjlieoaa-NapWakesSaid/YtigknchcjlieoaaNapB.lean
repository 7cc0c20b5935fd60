/- Package nap: Counts, and its reference. -/
import Derived.Test.YtigknchcjlieoaaNapA
namespace Go.Proofs.Ytigknchcjlieoaa.NapB
open Go.RowKit Base Kit Conf PowA PowB PowC PowR WideB LvlA OscPlain OscZ NapA
set_option linter.unusedVariables false
set_option linter.unusedSimpArgs false

/-- a function's world: the platform's box, and a nap's cells -/
structure Nw (w0 w : World) (A : Array Value) (b o : Nat) (x0 x1 x2 : Int) : Prop where
  bel : Below w0.heap.size w0 w
  box : Box w w0.heap.size A 25
  c0 : w.cell? ⟨b, o, none⟩ = some (.int .i64 x0)
  c1 : w.cell? ⟨b, o + 1, none⟩ = some (.int .i64 x1)
  c2 : w.cell? ⟨b, o + 2, none⟩ = some (.int .i64 x2)
section
variable {w0 w w1 : World} {A : Array Value} {b o : Nat} {x0 x1 x2 : Int}
theorem nw_next (h : Hid (Nw w0 w A b o x0 x1 x2)) (k : Below w.heap.size w w1) : Hid (Nw w0 w1 A b o x0 x1 x2) :=
  Lib.hid ⟨below_next h.out.bel k, h.out.box.next k, keep' k h.out.c0, keep' k h.out.c1, keep' k h.out.c2⟩
theorem nw_in (w : World) (A : Array Value) (c0 : w.cell? ⟨b, o, none⟩ = some (.int .i64 x0)) (c1 : w.cell? ⟨b, o + 1, none⟩ = some (.int .i64 x1)) (c2 : w.cell? ⟨b, o + 2, none⟩ = some (.int .i64 x2)) : Hid (Nw w (w.alloc (.cells A 25)) A b o x0 x1 x2) :=
  Lib.hid ⟨(Below.refl _ _).alloc (Nat.le_refl _) _, Box.new _ _ _, alloc_keep c0, alloc_keep c1, alloc_keep c2⟩
theorem nw_drew (h : Hid (Nw w0 w A b o x0 x1 x2)) : Hid (Nw w0 w.drew A b o x0 x1 x2) := nw_next h (Below.refl _ _).drew
theorem nw_rules (h : Hid (Nw w0 w A b o x0 x1 x2)) : (∀ i, w.cell? ⟨w0.heap.size, i, none⟩ = A[i]?) ∧ w.cell? ⟨b, o, none⟩ = some (.int .i64 x0) ∧ w.cell? ⟨b, o + 1, none⟩ = some (.int .i64 x1) ∧ w.cell? ⟨b, o + 2, none⟩ = some (.int .i64 x2) := ⟨h.out.box.cell, h.out.c0, h.out.c1, h.out.c2⟩
end

set_option maxRecDepth 100000 in
set_option maxHeartbeats 1000000 in
theorem Counts_any (p : PowC) (t now en : Int) (w : World) (ok : p.Ok w) (r : Int) (hr : Hid (CntR p t now en = r)) :
    Calls Try.prog 34 #[.agg #[.slice p.la p.ln p.lc, .slice p.na p.nn p.nc, .int .i64 p.sw, .int .i64 p.id, .int .i64 p.ch, .int .i64 p.qu, .int .i64 p.sl, .int .i64 p.pp], .int .i64 t, .int .i64 now, .int .i64 en] w fun e w' => e = .returned (.int .i64 r) ∧ Below w.heap.size w w' := by
  have hm2 := ok.nap.out.1
  have okh := fun w1 (h : Below w.heap.size w w1) => ok.below h (Nat.le_refl _)
  have hr := hr.out
  unfold CntR at hr
  by_cases may : MayN p now en
  rotate_left
  · rw [if_neg (fun h => may h.1)] at hr
    subst hr
    have M := Lib.hid (fun w1 (h : Below w.heap.size w w1) => may_any p now en w1 (okh w1 h) false (Lib.hid (decide_eq_false may)))
    clear may
    have S := pst_in w p
    have bc := S.out.box.cell
    go_enter Try.func34, Try.ntmps34
    go_wp2_with fail
    refine (M.out _ S.out.bel).mono ?_
    rintro e1 w5 ⟨rfl, k5⟩
    have S := pst_next S k5
    clear k5 bc
    have bc := S.out.box.cell
    go_wp2_with fail
    go_ret
    exact ⟨rfl, S.out.bel⟩
  have M := fun w1 (h : Below w.heap.size w w1) => may_any p now en w1 (okh w1 h) true (Lib.hid (decide_eq_true may))
  by_cases c0 : 0 ≤ t
  rotate_left
  · rw [if_neg (fun h => c0 h.2.1)] at hr
    subst hr
    have c0 : t < 0 := by omega
    have M := Lib.hid M
    clear may
    have S := pst_in w p
    have bc := S.out.box.cell
    go_enter Try.func34, Try.ntmps34
    go_wp2_with fail
    refine (M.out _ S.out.bel).mono ?_
    rintro e1 w5 ⟨rfl, k5⟩
    have S := pst_next S k5
    clear k5 bc
    have bc := S.out.box.cell
    go_wp2_with fail
    go_ret
    exact ⟨rfl, S.out.bel⟩
  by_cases c1 : t < p.nn
  rotate_left
  · rw [if_neg (fun h => c1 h.2.2)] at hr
    subst hr
    have c1 : (p.nn : Int) ≤ t := by omega
    have M := Lib.hid M
    clear may
    have S := pst_in w p
    have bc := S.out.box.cell
    go_enter Try.func34, Try.ntmps34
    go_wp2_with fail
    refine (M.out _ S.out.bel).mono ?_
    rintro e1 w5 ⟨rfl, k5⟩
    have S := pst_next S k5
    clear k5 bc
    have bc := S.out.box.cell
    go_wp2_with fail
    go_ret
    exact ⟨rfl, S.out.bel⟩
  rw [if_pos ⟨may, c0, c1⟩] at hr
  obtain ⟨k, rfl⟩ := Int.eq_ofNat_of_zero_le c0
  rw [Int.toNat_natCast] at hr
  have hk : k < p.nn := by omega
  clear c0 c1
  have C := fun w1 => counts_any p k now en w1 may hk r (Lib.hid hr)
  obtain ⟨b, off, ea, hbl, c0, c1, c2, i0, i1, i2⟩ := rows_at3 ok.nap k hk
  have nb := nap_bd may.1 hk
  obtain ⟨-, m1, m2, m3⟩ := id may
  generalize p.nf k 0 = x0 at *
  generalize p.nf k 1 = x1 at *
  generalize p.nf k 2 = x2 at *
  obtain ⟨⟨n0, n1⟩, ⟨n2, n3⟩, ⟨n4, n5⟩⟩ := nb
  clear i0 i1 i2
  rw [ea] at C M ⊢
  have C := Lib.hid C
  have M := Lib.hid M
  clear may hr ea okh
  have S := nw_in w #[.slice p.la p.ln p.lc, .slice (some ⟨b, off, none⟩) p.nn p.nc, .int .i64 p.sw, .int .i64 p.id, .int .i64 p.ch, .int .i64 p.qu, .int .i64 p.sl, .int .i64 p.pp] c0 c1 c2
  clear c0 c1 c2
  have bc := S.out.box.cell
  go_enter Try.func34, Try.ntmps34
  go_wp2_with fail
  refine (M.out _ S.out.bel).mono ?_
  rintro e1 w5 ⟨rfl, k5⟩
  have S := nw_next S k5
  clear k5 bc
  have bc := S.out.box.cell
  go_wp2_with fail
  have S := nw_drew S
  clear bc
  have bd := nw_rules S
  go_region_held3 (fun w' => (∀ i, w'.cell? ⟨w.heap.size, i, none⟩ = (#[.slice p.la p.ln p.lc, .slice (some ⟨b, off, none⟩) p.nn p.nc, .int .i64 p.sw, .int .i64 p.id, .int .i64 p.ch, .int .i64 p.qu, .int .i64 p.sl, .int .i64 p.pp] : Array Value)[i]?) ∧ w'.cell? ⟨b, off + k * 3, none⟩ = some (.int .i64 x0) ∧ w'.cell? ⟨b, off + k * 3 + 1, none⟩ = some (.int .i64 x1) ∧ w'.cell? ⟨b, off + k * 3 + 2, none⟩ = some (.int .i64 x2))
    (first
      | exact r5
      | exact bd)
    (first
      | (go_at_call 54; refine (C.out _).mono ?_; rintro e1 w6 ⟨rfl, k6⟩; have S5 := nw_next S k6; have r5 := nw_rules S5; clear k6))
  go_wp2_with fail
  go_ret
  exact ⟨rfl, S5.out.bel⟩
set_option maxRecDepth 100000 in
set_option maxHeartbeats 1000000 in
theorem roomr_any (p : PowC) (k : Nat) (now en : Int) (w : World) (ok : p.Ok w) (may : MayN p now en) (hk : k < p.nn) (r : Int) (hr : Hid (roomN p k now en = r)) :
    Calls Try.prog 51 #[.agg #[.slice p.la p.ln p.lc, .slice p.na p.nn p.nc, .int .i64 p.sw, .int .i64 p.id, .int .i64 p.ch, .int .i64 p.qu, .int .i64 p.sl, .int .i64 p.pp], .int .i64 (k : Int), .int .i64 now, .int .i64 en] w fun e w' => e = .returned (.int .i64 r) ∧ Below w.heap.size w w' := by
  have hm2 := ok.nap.out.1
  have hr := hr.out
  unfold roomN at hr
  obtain ⟨b, off, ea, hbl, c0, c1, c2, i0, i1, i2⟩ := rows_at3 ok.nap k hk
  have nb := nap_bd may.1 hk
  obtain ⟨-, m1, m2, m3⟩ := id may
  generalize p.nf k 0 = x0 at *
  generalize p.nf k 1 = x1 at *
  generalize p.nf k 2 = x2 at *
  obtain ⟨⟨n0, n1⟩, ⟨n2, n3⟩, ⟨n4, n5⟩⟩ := nb
  clear i0 i1 i2
  rw [ea] at ⊢
  clear may ea
  have S := nw_in w #[.slice p.la p.ln p.lc, .slice (some ⟨b, off, none⟩) p.nn p.nc, .int .i64 p.sw, .int .i64 p.id, .int .i64 p.ch, .int .i64 p.qu, .int .i64 p.sl, .int .i64 p.pp] c0 c1 c2
  clear c0 c1 c2
  have hw1 : IntKind.i64.wrap (en - now) = en - now := IntWalk.i64_in _ (by omega)
  have hw2 : IntKind.i64.wrap (en - now - x1) = en - now - x1 := IntWalk.i64_in _ (by omega)
  have hw3 : IntKind.i64.wrap (en - now - x1 - x2) = en - now - x1 - x2 := IntWalk.i64_in _ (by omega)
  subst hr
  go_enter Try.func51, Try.ntmps51
  go_wp2_with fail
  have S := nw_drew S
  have bd := nw_rules S
  go_region_held3 (fun w' => (∀ i, w'.cell? ⟨w.heap.size, i, none⟩ = (#[.slice p.la p.ln p.lc, .slice (some ⟨b, off, none⟩) p.nn p.nc, .int .i64 p.sw, .int .i64 p.id, .int .i64 p.ch, .int .i64 p.qu, .int .i64 p.sl, .int .i64 p.pp] : Array Value)[i]?) ∧ w'.cell? ⟨b, off + k * 3, none⟩ = some (.int .i64 x0) ∧ w'.cell? ⟨b, off + k * 3 + 1, none⟩ = some (.int .i64 x1) ∧ w'.cell? ⟨b, off + k * 3 + 2, none⟩ = some (.int .i64 x2))
    (exact bd)
    (fail)
  go_wp2_with fail
  go_ret
  exact ⟨rfl, S.out.bel⟩
set_option maxRecDepth 100000 in
set_option maxHeartbeats 2000000 in
theorem Countsr_any (p : PowC) (t now en : Int) (w : World) (ok : p.Ok w) (r : Int) (hr : Hid (CntR p t now en = r)) :
    Calls Try.prog 35 #[.agg #[.slice p.la p.ln p.lc, .slice p.na p.nn p.nc, .int .i64 p.sw, .int .i64 p.id, .int .i64 p.ch, .int .i64 p.qu, .int .i64 p.sl, .int .i64 p.pp], .int .i64 t, .int .i64 now, .int .i64 en] w fun e w' => e = .returned (.int .i64 r) ∧ Below w.heap.size w w' := by
  have hm2 := ok.nap.out.1
  have okh := fun w1 (h : Below w.heap.size w w1) => ok.below h (Nat.le_refl _)
  have hr := hr.out
  unfold CntR at hr
  by_cases may : MayN p now en
  rotate_left
  · rw [if_neg (fun h => may h.1)] at hr
    subst hr
    have M := Lib.hid (fun w1 (h : Below w.heap.size w w1) => mayr_any p now en w1 (okh w1 h) false (Lib.hid (decide_eq_false may)))
    clear may
    have S := pst_in w p
    have bc := S.out.box.cell
    go_enter Try.func35, Try.ntmps35
    go_wp2_with fail
    refine (M.out _ S.out.bel).mono ?_
    rintro e1 w5 ⟨rfl, k5⟩
    have S := pst_next S k5
    clear k5 bc
    have bc := S.out.box.cell
    go_wp2_with fail
    go_ret
    exact ⟨rfl, S.out.bel⟩
  have M := fun w1 (h : Below w.heap.size w w1) => mayr_any p now en w1 (okh w1 h) true (Lib.hid (decide_eq_true may))
  by_cases c0 : 0 ≤ t
  rotate_left
  · rw [if_neg (fun h => c0 h.2.1)] at hr
    subst hr
    have c0 : t < 0 := by omega
    have M := Lib.hid M
    clear may
    have S := pst_in w p
    have bc := S.out.box.cell
    go_enter Try.func35, Try.ntmps35
    go_wp2_with fail
    refine (M.out _ S.out.bel).mono ?_
    rintro e1 w5 ⟨rfl, k5⟩
    have S := pst_next S k5
    clear k5 bc
    have bc := S.out.box.cell
    go_wp2_with fail
    go_ret
    exact ⟨rfl, S.out.bel⟩
  by_cases c1 : t < p.nn
  rotate_left
  · rw [if_neg (fun h => c1 h.2.2)] at hr
    subst hr
    have c1 : (p.nn : Int) ≤ t := by omega
    have M := Lib.hid M
    clear may
    have S := pst_in w p
    have bc := S.out.box.cell
    go_enter Try.func35, Try.ntmps35
    go_wp2_with fail
    refine (M.out _ S.out.bel).mono ?_
    rintro e1 w5 ⟨rfl, k5⟩
    have S := pst_next S k5
    clear k5 bc
    have bc := S.out.box.cell
    go_wp2_with fail
    go_ret
    exact ⟨rfl, S.out.bel⟩
  rw [if_pos ⟨may, c0, c1⟩] at hr
  obtain ⟨k, rfl⟩ := Int.eq_ofNat_of_zero_le c0
  rw [Int.toNat_natCast] at hr
  have hk : k < p.nn := by omega
  clear c0 c1
  obtain ⟨R, hR⟩ : ∃ R, roomN p k now en = R := ⟨_, rfl⟩
  have rb := room_bd may hk
  have sfc := fun ns (h : 0 ≤ ns) => sf_cnt may.1 (ns := ns) h
  have pb := rest_bd may.1
  obtain ⟨-, -, -, -, ⟨pb1, pb2⟩, ⟨pb3, pb4⟩, -⟩ := pb
  unfold cntN at hr
  rw [hR] at hr rb
  have C := Lib.hid (fun w1 (h : Below w.heap.size w w1) => roomr_any p k now en w1 (okh w1 h) may hk R (Lib.hid hR))
  have S := pst_in w p
  have bc := S.out.box.cell
  have m1 := may.2.1
  have m2 := may.2.2.1
  have m3 := may.2.2.2
  have M := Lib.hid M
  clear may hR
  by_cases hneg : R < 0
  · rw [if_pos hneg] at hr
    subst hr
    clear sfc
    go_enter Try.func35, Try.ntmps35
    go_wp2_with fail
    refine (M.out _ S.out.bel).mono ?_
    rintro e1 w5 ⟨rfl, k5⟩
    have S := pst_next S k5
    clear k5 bc
    have bc := S.out.box.cell
    go_wp2_with fail
    refine (C.out _ S.out.bel).mono ?_
    rintro e1 w5 ⟨rfl, k5⟩
    have S := pst_next S k5
    clear k5 bc
    have bc := S.out.box.cell
    go_wp2_with fail
    go_ret
    exact ⟨rfl, S.out.bel⟩
  · have hneg : 0 ≤ R := by omega
    rw [if_neg (by omega)] at hr
    have D := Lib.hid (fun w1 => OscC.countsr_any p.sl (-p.pp) R r 0 w1 (Lib.hid (by rw [sfc R hneg, hr])) ⟨by omega, by omega⟩)
    have hw1 : IntKind.i64.wrap (0 - p.pp) = -p.pp := by rw [Int.zero_sub]; exact IntWalk.i64_in _ (by omega)
    have hw2 : IntKind.i64.wrap (-p.pp) = -p.pp := IntWalk.i64_in _ (by omega)
    clear sfc hr
    go_enter Try.func35, Try.ntmps35
    go_wp2_with fail
    refine (M.out _ S.out.bel).mono ?_
    rintro e1 w5 ⟨rfl, k5⟩
    have S := pst_next S k5
    clear k5 bc
    have bc := S.out.box.cell
    go_wp2_with fail
    refine (C.out _ S.out.bel).mono ?_
    rintro e1 w5 ⟨rfl, k5⟩
    have S := pst_next S k5
    clear k5 bc
    have bc := S.out.box.cell
    go_wp2_with fail
    have S := pst_next S (Below.refl _ _).drew
    clear bc
    have bd := S.out.box.cell
    go_region_held3 (fun w' => ∀ i, w'.cell? ⟨w.heap.size, i, none⟩ = (#[.slice p.la p.ln p.lc, .slice p.na p.nn p.nc, .int .i64 p.sw, .int .i64 p.id, .int .i64 p.ch, .int .i64 p.qu, .int .i64 p.sl, .int .i64 p.pp] : Array Value)[i]?)
      (first
        | exact r5
        | exact bd)
      (first
        | (go_at_call 51; refine (C.out _ S.out.bel).mono ?_; rintro e1 w6 ⟨rfl, k6⟩; have S5 := pst_next S k6; have r5 := S5.out.box.cell; clear k6)
        | (go_at_call 56; refine (D.out _).mono ?_; rintro e1 w6 ⟨rfl, k6⟩; have S6 := pst_next S5 k6; have r5 := S6.out.box.cell; clear k6))
    go_wp2_with fail
    go_ret
    exact ⟨rfl, S6.out.bel⟩
end Go.Proofs.Ytigknchcjlieoaa.NapB
