import Derived.Test.YtlafeijkpnpdeaaGreatMg21
import Derived.Test.YtlafeijkpnpdeaaGreatMg17
import Derived.Test.YtlafeijkpnpdeaaGreatMg20

/- Package nap: Counts, and its reference. -/
namespace Go.Proofs.YtlafeijkpnpdeaaGreat.NapB
open Go.RowKit Base Kit Conf PowA PowB PowC PowR WideB LvlA OscPlain OscZ NapA
set_option linter.unusedVariables false
set_option linter.unusedSimpArgs false

/-- a function's world: the platform's box, and a nap's cells -/
structure Nw (w0 w : World) (A : Array Value) (b o : Nat) (x0 x1 x2 : Int) : Prop where
  bel : Below w0.heap.size w0 w
  box : Box w w0.heap.size A 28
  c0 : w.cell? ⟨b, o, none⟩ = some (.int .i64 x0)
  c1 : w.cell? ⟨b, o + 1, none⟩ = some (.int .i64 x1)
  c2 : w.cell? ⟨b, o + 2, none⟩ = some (.int .i64 x2)
section
variable {w0 w w1 : World} {A : Array Value} {b o : Nat} {x0 x1 x2 : Int}
theorem nw_next (h : Hid (Nw w0 w A b o x0 x1 x2)) (k : Below w.heap.size w w1) : Hid (Nw w0 w1 A b o x0 x1 x2) :=
  Lib.hid ⟨below_next h.out.bel k, h.out.box.next k, keep' k h.out.c0, keep' k h.out.c1, keep' k h.out.c2⟩
theorem nw_in (w : World) (A : Array Value) (c0 : w.cell? ⟨b, o, none⟩ = some (.int .i64 x0)) (c1 : w.cell? ⟨b, o + 1, none⟩ = some (.int .i64 x1)) (c2 : w.cell? ⟨b, o + 2, none⟩ = some (.int .i64 x2)) : Hid (Nw w (w.alloc (.cells A 28)) A b o x0 x1 x2) :=
  Lib.hid ⟨(Below.refl _ _).alloc (Nat.le_refl _) _, Box.new _ _ _, alloc_keep c0, alloc_keep c1, alloc_keep c2⟩
theorem nw_drew (h : Hid (Nw w0 w A b o x0 x1 x2)) : Hid (Nw w0 w.drew A b o x0 x1 x2) := nw_next h (Below.refl _ _).drew
theorem nw_rules (h : Hid (Nw w0 w A b o x0 x1 x2)) : (∀ i, w.cell? ⟨w0.heap.size, i, none⟩ = A[i]?) ∧ w.cell? ⟨b, o, none⟩ = some (.int .i64 x0) ∧ w.cell? ⟨b, o + 1, none⟩ = some (.int .i64 x1) ∧ w.cell? ⟨b, o + 2, none⟩ = some (.int .i64 x2) := ⟨h.out.box.cell, h.out.c0, h.out.c1, h.out.c2⟩
end

set_option maxRecDepth 100000 in
set_option maxHeartbeats 1000000 in
theorem Counts_any (p : PowC) (t now en : Int) (w : World) (ok : p.Ok w) (r : Int) (hr : Hid (CntR p t now en = r)) :
    Calls Tryz.prog 87 #[.agg #[.slice p.la p.ln p.lc, .slice p.na p.nn p.nc, .int .i64 p.sw, .int .i64 p.id, .int .i64 p.ch, .int .i64 p.qu, .int .i64 p.sl, .int .i64 p.pp], .int .i64 t, .int .i64 now, .int .i64 en] w fun e w' => e = .returned (.int .i64 r) ∧ Below w.heap.size w w' := by
  have hm2 := ok.nap.out.1
  have okh := fun w1 (h : Below w.heap.size w w1) => ok.below h (Nat.le_refl _)
  have hr := hr.out
  unfold CntR at hr
  by_cases may : MayN p now en
  rotate_left
  · rw [if_neg (fun h => may h.1)] at hr
    subst hr
    have M := Lib.hid (fun w1 (h : Below w.heap.size w w1) => may_any p now en w1 (okh w1 h) false (Lib.hid (decide_eq_false may)))
    clear may
    have S := pst_in w p
    have bc := S.out.box.cell
    go_enter Tryz.func87, Tryz.ntmps87
    go_wp2_with fail
    refine (M.out _ S.out.bel).mono ?_
    rintro e1 w5 ⟨rfl, k5⟩
    have S := pst_next S k5
    clear k5 bc
    have bc := S.out.box.cell
    go_wp2_with fail
    go_ret
    exact ⟨rfl, S.out.bel⟩
  have M := fun w1 (h : Below w.heap.size w w1) => may_any p now en w1 (okh w1 h) true (Lib.hid (decide_eq_true may))
  by_cases c0 : 0 ≤ t
  rotate_left
  · rw [if_neg (fun h => c0 h.2.1)] at hr
    subst hr
    have c0 : t < 0 := by omega
    have M := Lib.hid M
    clear may
    have S := pst_in w p
    have bc := S.out.box.cell
    go_enter Tryz.func87, Tryz.ntmps87
    go_wp2_with fail
    refine (M.out _ S.out.bel).mono ?_
    rintro e1 w5 ⟨rfl, k5⟩
    have S := pst_next S k5
    clear k5 bc
    have bc := S.out.box.cell
    go_wp2_with fail
    go_ret
    exact ⟨rfl, S.out.bel⟩
  by_cases c1 : t < p.nn
  rotate_left
  · rw [if_neg (fun h => c1 h.2.2)] at hr
    subst hr
    have c1 : (p.nn : Int) ≤ t := by omega
    have M := Lib.hid M
    clear may
    have S := pst_in w p
    have bc := S.out.box.cell
    go_enter Tryz.func87, Tryz.ntmps87
    go_wp2_with fail
    refine (M.out _ S.out.bel).mono ?_
    rintro e1 w5 ⟨rfl, k5⟩
    have S := pst_next S k5
    clear k5 bc
    have bc := S.out.box.cell
    go_wp2_with fail
    go_ret
    exact ⟨rfl, S.out.bel⟩
  rw [if_pos ⟨may, c0, c1⟩] at hr
  obtain ⟨k, rfl⟩ := Int.eq_ofNat_of_zero_le c0
  rw [Int.toNat_natCast] at hr
  have hk : k < p.nn := by omega
  clear c0 c1
  have C := fun w1 => counts_any p k now en w1 may hk r (Lib.hid hr)
  obtain ⟨b, off, ea, hbl, c0, c1, c2, i0, i1, i2⟩ := rows_at3 ok.nap k hk
  have nb := nap_bd may.1 hk
  obtain ⟨-, m1, m2, m3⟩ := id may
  generalize p.nf k 0 = x0 at *
  generalize p.nf k 1 = x1 at *
  generalize p.nf k 2 = x2 at *
  obtain ⟨⟨n0, n1⟩, ⟨n2, n3⟩, ⟨n4, n5⟩⟩ := nb
  clear i0 i1 i2
  rw [ea] at C M ⊢
  have C := Lib.hid C
  have M := Lib.hid M
  clear may hr ea okh
  have S := nw_in w #[.slice p.la p.ln p.lc, .slice (some ⟨b, off, none⟩) p.nn p.nc, .int .i64 p.sw, .int .i64 p.id, .int .i64 p.ch, .int .i64 p.qu, .int .i64 p.sl, .int .i64 p.pp] c0 c1 c2
  clear c0 c1 c2
  have bc := S.out.box.cell
  go_enter Tryz.func87, Tryz.ntmps87
  go_wp2_with fail
  refine (M.out _ S.out.bel).mono ?_
  rintro e1 w5 ⟨rfl, k5⟩
  have S := nw_next S k5
  clear k5 bc
  have bc := S.out.box.cell
  go_wp2_with fail
  have S := nw_drew S
  clear bc
  have bd := nw_rules S
  go_region_held3 (fun w' => (∀ i, w'.cell? ⟨w.heap.size, i, none⟩ = (#[.slice p.la p.ln p.lc, .slice (some ⟨b, off, none⟩) p.nn p.nc, .int .i64 p.sw, .int .i64 p.id, .int .i64 p.ch, .int .i64 p.qu, .int .i64 p.sl, .int .i64 p.pp] : Array Value)[i]?) ∧ w'.cell? ⟨b, off + k * 3, none⟩ = some (.int .i64 x0) ∧ w'.cell? ⟨b, off + k * 3 + 1, none⟩ = some (.int .i64 x1) ∧ w'.cell? ⟨b, off + k * 3 + 2, none⟩ = some (.int .i64 x2))
    (first
      | exact r5
      | exact bd)
    (first
      | (go_at_call 90; refine (C.out _).mono ?_; rintro e1 w6 ⟨rfl, k6⟩; have S5 := nw_next S k6; have r5 := nw_rules S5; clear k6))
  go_wp2_with fail
  go_ret
  exact ⟨rfl, S5.out.bel⟩
set_option maxRecDepth 100000 in
set_option maxHeartbeats 1000000 in
theorem roomr_any (p : PowC) (k : Nat) (now en : Int) (w : World) (ok : p.Ok w) (may : MayN p now en) (hk : k < p.nn) (r : Int) (hr : Hid (roomN p k now en = r)) :
    Calls Tryz.prog 61 #[.agg #[.slice p.la p.ln p.lc, .slice p.na p.nn p.nc, .int .i64 p.sw, .int .i64 p.id, .int .i64 p.ch, .int .i64 p.qu, .int .i64 p.sl, .int .i64 p.pp], .int .i64 (k : Int), .int .i64 now, .int .i64 en] w fun e w' => e = .returned (.int .i64 r) ∧ Below w.heap.size w w' := by
  have hm2 := ok.nap.out.1
  have hr := hr.out
  unfold roomN at hr
  obtain ⟨b, off, ea, hbl, c0, c1, c2, i0, i1, i2⟩ := rows_at3 ok.nap k hk
  have nb := nap_bd may.1 hk
  obtain ⟨-, m1, m2, m3⟩ := id may
  generalize p.nf k 0 = x0 at *
  generalize p.nf k 1 = x1 at *
  generalize p.nf k 2 = x2 at *
  obtain ⟨⟨n0, n1⟩, ⟨n2, n3⟩, ⟨n4, n5⟩⟩ := nb
  clear i0 i1 i2
  rw [ea] at ⊢
  clear may ea
  have S := nw_in w #[.slice p.la p.ln p.lc, .slice (some ⟨b, off, none⟩) p.nn p.nc, .int .i64 p.sw, .int .i64 p.id, .int .i64 p.ch, .int .i64 p.qu, .int .i64 p.sl, .int .i64 p.pp] c0 c1 c2
  clear c0 c1 c2
  have hw1 : IntKind.i64.wrap (en - now) = en - now := IntWalk.i64_in _ (by omega)
  have hw2 : IntKind.i64.wrap (en - now - x1) = en - now - x1 := IntWalk.i64_in _ (by omega)
  have hw3 : IntKind.i64.wrap (en - now - x1 - x2) = en - now - x1 - x2 := IntWalk.i64_in _ (by omega)
  subst hr
  go_enter Tryz.func61, Tryz.ntmps61
  go_wp2_with fail
  have S := nw_drew S
  have bd := nw_rules S
  go_region_held3 (fun w' => (∀ i, w'.cell? ⟨w.heap.size, i, none⟩ = (#[.slice p.la p.ln p.lc, .slice (some ⟨b, off, none⟩) p.nn p.nc, .int .i64 p.sw, .int .i64 p.id, .int .i64 p.ch, .int .i64 p.qu, .int .i64 p.sl, .int .i64 p.pp] : Array Value)[i]?) ∧ w'.cell? ⟨b, off + k * 3, none⟩ = some (.int .i64 x0) ∧ w'.cell? ⟨b, off + k * 3 + 1, none⟩ = some (.int .i64 x1) ∧ w'.cell? ⟨b, off + k * 3 + 2, none⟩ = some (.int .i64 x2))
    (exact bd)
    (fail)
  go_wp2_with fail
  go_ret
  exact ⟨rfl, S.out.bel⟩
set_option maxRecDepth 100000 in
set_option maxHeartbeats 2000000 in
theorem Countsr_any (p : PowC) (t now en : Int) (w : World) (ok : p.Ok w) (r : Int) (hr : Hid (CntR p t now en = r)) :
    Calls Tryz.prog 60 #[.agg #[.slice p.la p.ln p.lc, .slice p.na p.nn p.nc, .int .i64 p.sw, .int .i64 p.id, .int .i64 p.ch, .int .i64 p.qu, .int .i64 p.sl, .int .i64 p.pp], .int .i64 t, .int .i64 now, .int .i64 en] w fun e w' => e = .returned (.int .i64 r) ∧ Below w.heap.size w w' := by
  have hm2 := ok.nap.out.1
  have okh := fun w1 (h : Below w.heap.size w w1) => ok.below h (Nat.le_refl _)
  have hr := hr.out
  unfold CntR at hr
  by_cases may : MayN p now en
  rotate_left
  · rw [if_neg (fun h => may h.1)] at hr
    subst hr
    have M := Lib.hid (fun w1 (h : Below w.heap.size w w1) => mayr_any p now en w1 (okh w1 h) false (Lib.hid (decide_eq_false may)))
    clear may
    have S := pst_in w p
    have bc := S.out.box.cell
    go_enter Tryz.func60, Tryz.ntmps60
    go_wp2_with fail
    refine (M.out _ S.out.bel).mono ?_
    rintro e1 w5 ⟨rfl, k5⟩
    have S := pst_next S k5
    clear k5 bc
    have bc := S.out.box.cell
    go_wp2_with fail
    go_ret
    exact ⟨rfl, S.out.bel⟩
  have M := fun w1 (h : Below w.heap.size w w1) => mayr_any p now en w1 (okh w1 h) true (Lib.hid (decide_eq_true may))
  by_cases c0 : 0 ≤ t
  rotate_left
  · rw [if_neg (fun h => c0 h.2.1)] at hr
    subst hr
    have c0 : t < 0 := by omega
    have M := Lib.hid M
    clear may
    have S := pst_in w p
    have bc := S.out.box.cell
    go_enter Tryz.func60, Tryz.ntmps60
    go_wp2_with fail
    refine (M.out _ S.out.bel).mono ?_
    rintro e1 w5 ⟨rfl, k5⟩
    have S := pst_next S k5
    clear k5 bc
    have bc := S.out.box.cell
    go_wp2_with fail
    go_ret
    exact ⟨rfl, S.out.bel⟩
  by_cases c1 : t < p.nn
  rotate_left
  · rw [if_neg (fun h => c1 h.2.2)] at hr
    subst hr
    have c1 : (p.nn : Int) ≤ t := by omega
    have M := Lib.hid M
    clear may
    have S := pst_in w p
    have bc := S.out.box.cell
    go_enter Tryz.func60, Tryz.ntmps60
    go_wp2_with fail
    refine (M.out _ S.out.bel).mono ?_
    rintro e1 w5 ⟨rfl, k5⟩
    have S := pst_next S k5
    clear k5 bc
    have bc := S.out.box.cell
    go_wp2_with fail
    go_ret
    exact ⟨rfl, S.out.bel⟩
  rw [if_pos ⟨may, c0, c1⟩] at hr
  obtain ⟨k, rfl⟩ := Int.eq_ofNat_of_zero_le c0
  rw [Int.toNat_natCast] at hr
  have hk : k < p.nn := by omega
  clear c0 c1
  obtain ⟨R, hR⟩ : ∃ R, roomN p k now en = R := ⟨_, rfl⟩
  have rb := room_bd may hk
  have sfc := fun ns (h : 0 ≤ ns) => sf_cnt may.1 (ns := ns) h
  have pb := rest_bd may.1
  obtain ⟨-, -, -, -, ⟨pb1, pb2⟩, ⟨pb3, pb4⟩, -⟩ := pb
  unfold cntN at hr
  rw [hR] at hr rb
  have C := Lib.hid (fun w1 (h : Below w.heap.size w w1) => roomr_any p k now en w1 (okh w1 h) may hk R (Lib.hid hR))
  have S := pst_in w p
  have bc := S.out.box.cell
  have m1 := may.2.1
  have m2 := may.2.2.1
  have m3 := may.2.2.2
  have M := Lib.hid M
  clear may hR
  by_cases hneg : R < 0
  · rw [if_pos hneg] at hr
    subst hr
    clear sfc
    go_enter Tryz.func60, Tryz.ntmps60
    go_wp2_with fail
    refine (M.out _ S.out.bel).mono ?_
    rintro e1 w5 ⟨rfl, k5⟩
    have S := pst_next S k5
    clear k5 bc
    have bc := S.out.box.cell
    go_wp2_with fail
    refine (C.out _ S.out.bel).mono ?_
    rintro e1 w5 ⟨rfl, k5⟩
    have S := pst_next S k5
    clear k5 bc
    have bc := S.out.box.cell
    go_wp2_with fail
    go_ret
    exact ⟨rfl, S.out.bel⟩
  · have hneg : 0 ≤ R := by omega
    rw [if_neg (by omega)] at hr
    have D := Lib.hid (fun w1 => OscC.countsr_any p.sl (-p.pp) R r 0 w1 (Lib.hid (by rw [sfc R hneg, hr])) ⟨by omega, by omega⟩)
    have hw1 : IntKind.i64.wrap (0 - p.pp) = -p.pp := by rw [Int.zero_sub]; exact IntWalk.i64_in _ (by omega)
    have hw2 : IntKind.i64.wrap (-p.pp) = -p.pp := IntWalk.i64_in _ (by omega)
    clear sfc hr
    go_enter Tryz.func60, Tryz.ntmps60
    go_wp2_with fail
    refine (M.out _ S.out.bel).mono ?_
    rintro e1 w5 ⟨rfl, k5⟩
    have S := pst_next S k5
    clear k5 bc
    have bc := S.out.box.cell
    go_wp2_with fail
    refine (C.out _ S.out.bel).mono ?_
    rintro e1 w5 ⟨rfl, k5⟩
    have S := pst_next S k5
    clear k5 bc
    have bc := S.out.box.cell
    go_wp2_with fail
    have S := pst_next S (Below.refl _ _).drew
    clear bc
    have bd := S.out.box.cell
    go_region_held3 (fun w' => ∀ i, w'.cell? ⟨w.heap.size, i, none⟩ = (#[.slice p.la p.ln p.lc, .slice p.na p.nn p.nc, .int .i64 p.sw, .int .i64 p.id, .int .i64 p.ch, .int .i64 p.qu, .int .i64 p.sl, .int .i64 p.pp] : Array Value)[i]?)
      (first
        | exact r5
        | exact bd)
      (first
        | (go_at_call 61; refine (C.out _ S.out.bel).mono ?_; rintro e1 w6 ⟨rfl, k6⟩; have S5 := pst_next S k6; have r5 := S5.out.box.cell; clear k6)
        | (go_at_call 93; refine (D.out _).mono ?_; rintro e1 w6 ⟨rfl, k6⟩; have S6 := pst_next S5 k6; have r5 := S6.out.box.cell; clear k6))
    go_wp2_with fail
    go_ret
    exact ⟨rfl, S6.out.bel⟩
end Go.Proofs.YtlafeijkpnpdeaaGreat.NapB

/- Package nap: cost, Cost, and its reference. -/
namespace Go.Proofs.YtlafeijkpnpdeaaGreat.NapC
open Go.RowKit Base Kit Conf PowA PowB PowC PowR WideB LvlA OscPlain OscZ NapA NapB
set_option linter.unusedVariables false
set_option linter.unusedSimpArgs false

def aslN (p : PowC) (k : Nat) (now en : Int) : Int :=
  if (el p.sl 0 (cntN p k now en)).2 ≠ 0 ∨ roomN p k now en < (el p.sl 0 (cntN p k now en)).1 then roomN p k now en else (el p.sl 0 (cntN p k now en)).1
def costN (p : PowC) (k : Nat) (now en : Int) : Int := p.ch * (p.nf k 1 + p.nf k 2) + p.nf k 0 * aslN p k now en + p.id * (roomN p k now en - aslN p k now en)
def CostR (p : PowC) (t now en : Int) : Int × Int := if CntR p t now en < 1 ∨ 1099511627776 < en - now then (0, 2) else (costN p t.toNat now en, 0)
theorem mul_bd {q D M : Int} (q0 : 0 ≤ q) (q1 : q ≤ 1000000) (d0 : 0 ≤ D) (d1 : D ≤ M) : 0 ≤ q * D ∧ q * D ≤ 1000000 * M := by
  refine ⟨Int.mul_nonneg q0 d0, ?_⟩
  exact Int.le_trans (Int.mul_le_mul_of_nonneg_right q1 d0) (Int.mul_le_mul_of_nonneg_left d1 (by omega))
theorem md_bd (a b c : Int) (up : Bool) (hc : 1 ≤ c → 0 ≤ a → 0 ≤ b → True) : 0 ≤ (md a b c up).1 ∧ (md a b c up).1 ≤ 9223372036854775807 ∧ 0 ≤ (md a b c up).2 ∧ (md a b c up).2 ≤ 6 := by
  unfold md
  split
  · simp
  · rename_i h
    have h1 : 0 ≤ a := by omega
    have h2 : 0 ≤ b := by omega
    have h3 : 1 ≤ c := by omega
    have hp : 0 ≤ a * b := Int.mul_nonneg h1 h2
    have hq : 0 ≤ mdQ a b c up := by
      unfold mdQ; split
      · exact Int.ediv_nonneg (by omega) (by omega)
      · exact Int.ediv_nonneg (by omega) (by omega)
    split
    · exact ⟨hq, by assumption, by simp, by simp⟩
    · simp

theorem el_nn (h p n : Int) : 0 ≤ (el h p n).1 := by
  unfold el
  split
  · simp
  · exact (md_bd _ _ _ _ (fun _ _ _ => trivial)).1
theorem asl_bd {p : PowC} {k : Nat} {now en : Int} (h0 : 0 ≤ roomN p k now en) : 0 ≤ aslN p k now en ∧ aslN p k now en ≤ roomN p k now en := by
  have := el_nn p.sl 0 (cntN p k now en)
  unfold aslN
  split
  · omega
  · rename_i h
    have h2 : ¬ roomN p k now en < (el p.sl 0 (cntN p k now en)).1 := fun h' => h (.inr h')
    omega
theorem cntN_bd {p : PowC} {k : Nat} {now en : Int} (h : (powR p).1 = 0) : 0 ≤ cntN p k now en ∧ cntN p k now en ≤ 1000000000000 := by
  have b := rest_bd h
  unfold cntN
  split
  · omega
  · rename_i h'
    exact cnt_bd (slow_ok h (d := -p.pp) (by omega) (by omega)) (by omega)
theorem cnt_ge {p : PowC} {t now en : Int} (h : 1 ≤ CntR p t now en) : ∃ k : Nat, t = (k : Int) ∧ k < p.nn ∧ MayN p now en ∧ 0 ≤ roomN p k now en ∧ CntR p t now en = cntN p k now en := by
  unfold CntR at h ⊢
  by_cases c : MayN p now en ∧ 0 ≤ t ∧ t < p.nn
  · rw [if_pos c] at h ⊢
    refine ⟨t.toNat, by omega, by omega, c.1, ?_, rfl⟩
    unfold cntN at h
    split at h <;> omega
  · rw [if_neg c] at h; omega
theorem cost_bd {p : PowC} {k : Nat} {now en : Int} (may : MayN p now en) (hk : k < p.nn) (h0 : 0 ≤ roomN p k now en) (hl : en - now ≤ 1099511627776) : 0 ≤ costN p k now en ∧ costN p k now en ≤ 4000000000000000000 := by
  have nb := nap_bd may.1 hk
  have rb := room_bd may hk
  have ab := asl_bd h0
  have pb := rest_bd may.1
  have a := mul_bd pb.2.2.1.1 pb.2.2.1.2 (show 0 ≤ p.nf k 1 + p.nf k 2 by omega) (show _ ≤ 200000000 by omega)
  have b := mul_bd nb.1.1 nb.1.2 ab.1 (show _ ≤ 1099511627776 by omega)
  have c := mul_bd pb.2.1.1 pb.2.1.2 (show 0 ≤ roomN p k now en - aslN p k now en by omega) (show _ ≤ 1099511627776 by omega)
  unfold costN
  omega

set_option maxRecDepth 100000 in
set_option maxHeartbeats 2000000 in
theorem cost_any (p : PowC) (k : Nat) (now en : Int) (w : World) (ok : p.Ok w) (may : MayN p now en) (hk : k < p.nn) (h0 : 0 ≤ roomN p k now en) (hl : en - now ≤ 1099511627776) (r : Int) (hr : Hid (costN p k now en = r)) :
    Calls Tryz.prog 57 #[.agg #[.slice p.la p.ln p.lc, .slice p.na p.nn p.nc, .int .i64 p.sw, .int .i64 p.id, .int .i64 p.ch, .int .i64 p.qu, .int .i64 p.sl, .int .i64 p.pp], .int .i64 (k : Int), .int .i64 now, .int .i64 en] w fun e w' => e = .returned (.int .i64 r) ∧ Below w.heap.size w w' := by
  have hm2 := ok.nap.out.1
  have hr := hr.out
  have nb := nap_bd may.1 hk
  have rb := room_bd may hk
  have ab := asl_bd h0
  have pb := rest_bd may.1
  have cb := cntN_bd (k := k) (now := now) (en := en) may.1
  obtain ⟨R, hR⟩ : ∃ R, roomN p k now en = R := ⟨_, rfl⟩
  obtain ⟨c, hc⟩ : ∃ c, cntN p k now en = c := ⟨_, rfl⟩
  obtain ⟨⟨T, E⟩, hE⟩ : ∃ x, el p.sl 0 c = x := ⟨_, rfl⟩
  obtain ⟨a, ha⟩ : ∃ a, aslN p k now en = a := ⟨_, rfl⟩
  have e0 := el_nn p.sl 0 c
  unfold costN at hr
  rw [hR] at rb h0 ab
  rw [ha] at ab
  rw [hc] at cb
  rw [hE] at e0
  rw [hR, ha] at hr
  unfold aslN at ha
  rw [hc, hE, hR] at ha
  dsimp only at ha e0
  have C := fun w1 => counts_any p k now en w1 may hk c (Lib.hid hc)
  have D := fun w1 => OscA.elapsed_any p.sl 0 c T E w1 (Lib.hid hE) ⟨by omega, by omega⟩
  obtain ⟨b, off, ea, hbl, c0, c1, c2, i0, i1, i2⟩ := rows_at3 ok.nap k hk
  obtain ⟨-, m1, m2, m3⟩ := id may
  unfold roomN at hR
  clear hc hE may i0 i1 i2
  generalize p.nf k 0 = x0 at *
  generalize p.nf k 1 = x1 at *
  generalize p.nf k 2 = x2 at *
  obtain ⟨⟨n0, n1⟩, ⟨n2, n3⟩, ⟨n4, n5⟩⟩ := nb
  obtain ⟨-, ⟨d0, d1⟩, ⟨g0, g1⟩, -, ⟨pb1, pb2⟩, ⟨pb3, pb4⟩, -⟩ := pb
  have A0 := mul_bd g0 g1 (show 0 ≤ x1 + x2 by omega) (show _ ≤ 200000000 by omega)
  have B0 := mul_bd n0 n1 ab.1 (show _ ≤ 1099511627776 by omega)
  have D0 := mul_bd d0 d1 (show 0 ≤ R - a by omega) (show _ ≤ 1099511627776 by omega)
  have B := fun w1 => room_any x0 x1 x2 now en w1 m1 m2 m3 n2 n3 n4 n5
  rw [hR] at B
  rw [ea] at C ⊢
  have B := Lib.hid B
  have C := Lib.hid C
  have D := Lib.hid D
  have S := tw_in w #[.slice p.la p.ln p.lc, .slice (some ⟨b, off, none⟩) p.nn p.nc, .int .i64 p.sw, .int .i64 p.id, .int .i64 p.ch, .int .i64 p.qu, .int .i64 p.sl, .int .i64 p.pp] #[.int .i64 x0, .int .i64 x1, .int .i64 x2] 28 120
  by_cases hE0 : E = 0
  · subst hE0
    by_cases hT : R < T
    · obtain rfl : R = a := by rw [← ha, if_pos (.inr hT)]
      obtain ⟨PA, hA⟩ : ∃ z, p.ch * (x1 + x2) = z := ⟨_, rfl⟩
      obtain ⟨PB, hB⟩ : ∃ z, x0 * R = z := ⟨_, rfl⟩
      obtain ⟨PD, hD⟩ : ∃ z, p.id * (R - R) = z := ⟨_, rfl⟩
      rw [hA] at A0 hr
      rw [hB] at B0 hr
      rw [hD] at D0 hr
      have HR := Lib.hid hr
      have HA := Lib.hid hA
      have HB := Lib.hid hB
      have HD := Lib.hid hD
      clear hA hB hD hr ha hR ea
      try clear hE0
      go_enter Tryz.func57, Tryz.ntmps57
      go_wp2_with fail
      generalize (w.alloc (.cells #[.slice p.la p.ln p.lc, .slice (some ⟨b, off, none⟩) p.nn p.nc, .int .i64 p.sw, .int .i64 p.id, .int .i64 p.ch, .int .i64 p.qu, .int .i64 p.sl, .int .i64 p.pp] 28)).alloc (.cells #[.int .i64 x0, .int .i64 x1, .int .i64 x2] 120) = W at S ⊢
      refine (B.out _).mono ?_
      rintro e1 w5 ⟨rfl, k5⟩
      have S := tw_next S k5
      clear k5
      go_wp2_with fail
      have S := tw_next S (Below.refl _ _).drew
      have y1 := S.out.one.cell
      have y2 := S.out.two.cell
      go_region_held3 (fun w' => (∀ i, w'.cell? ⟨w.heap.size, i, none⟩ = (#[.slice p.la p.ln p.lc, .slice (some ⟨b, off, none⟩) p.nn p.nc, .int .i64 p.sw, .int .i64 p.id, .int .i64 p.ch, .int .i64 p.qu, .int .i64 p.sl, .int .i64 p.pp] : Array Value)[i]?) ∧ (∀ i, w'.cell? ⟨w.heap.size + 1, i, none⟩ = (#[.int .i64 x0, .int .i64 x1, .int .i64 x2] : Array Value)[i]?))
        (first
          | exact r6
          | exact r5
          | exact ⟨y1, y2⟩)
        (first
          | (go_at_call 90; refine (C.out _).mono ?_; rintro e1 w6 ⟨rfl, k6⟩; have S5 := tw_next S k6; have r5 := And.intro S5.out.one.cell S5.out.two.cell; clear k6)
          | (go_at_call 89; refine (D.out _).mono ?_; rintro e1 w6 ⟨rfl, k6⟩; have S6 := tw_next S5 k6; have r6 := And.intro S6.out.one.cell S6.out.two.cell; clear k6))
      clear y1 y2 r5
      obtain ⟨y1, y2⟩ := r6
      have hA := HA.out
      have hB := HB.out
      have hD := HD.out
      go_wp2_with fail
      go_ret
      refine ⟨Kit.ret_int ?_, S6.out.bel⟩
      have hr := HR.out
      try rw [Int.sub_self, Int.mul_zero] at hD
      first | exact hr | omega | (simp; omega)
    · obtain rfl : a = T := by rw [← ha, if_neg (by omega)]
      have hT : a ≤ R := by omega
      obtain ⟨PA, hA⟩ : ∃ z, p.ch * (x1 + x2) = z := ⟨_, rfl⟩
      obtain ⟨PB, hB⟩ : ∃ z, x0 * a = z := ⟨_, rfl⟩
      obtain ⟨PD, hD⟩ : ∃ z, p.id * (R - a) = z := ⟨_, rfl⟩
      rw [hA] at A0 hr
      rw [hB] at B0 hr
      rw [hD] at D0 hr
      have HR := Lib.hid hr
      have HA := Lib.hid hA
      have HB := Lib.hid hB
      have HD := Lib.hid hD
      clear hA hB hD hr ha hR ea
      try clear hE0
      go_enter Tryz.func57, Tryz.ntmps57
      go_wp2_with fail
      generalize (w.alloc (.cells #[.slice p.la p.ln p.lc, .slice (some ⟨b, off, none⟩) p.nn p.nc, .int .i64 p.sw, .int .i64 p.id, .int .i64 p.ch, .int .i64 p.qu, .int .i64 p.sl, .int .i64 p.pp] 28)).alloc (.cells #[.int .i64 x0, .int .i64 x1, .int .i64 x2] 120) = W at S ⊢
      refine (B.out _).mono ?_
      rintro e1 w5 ⟨rfl, k5⟩
      have S := tw_next S k5
      clear k5
      go_wp2_with fail
      have S := tw_next S (Below.refl _ _).drew
      have y1 := S.out.one.cell
      have y2 := S.out.two.cell
      go_region_held3 (fun w' => (∀ i, w'.cell? ⟨w.heap.size, i, none⟩ = (#[.slice p.la p.ln p.lc, .slice (some ⟨b, off, none⟩) p.nn p.nc, .int .i64 p.sw, .int .i64 p.id, .int .i64 p.ch, .int .i64 p.qu, .int .i64 p.sl, .int .i64 p.pp] : Array Value)[i]?) ∧ (∀ i, w'.cell? ⟨w.heap.size + 1, i, none⟩ = (#[.int .i64 x0, .int .i64 x1, .int .i64 x2] : Array Value)[i]?))
        (first
          | exact r6
          | exact r5
          | exact ⟨y1, y2⟩)
        (first
          | (go_at_call 90; refine (C.out _).mono ?_; rintro e1 w6 ⟨rfl, k6⟩; have S5 := tw_next S k6; have r5 := And.intro S5.out.one.cell S5.out.two.cell; clear k6)
          | (go_at_call 89; refine (D.out _).mono ?_; rintro e1 w6 ⟨rfl, k6⟩; have S6 := tw_next S5 k6; have r6 := And.intro S6.out.one.cell S6.out.two.cell; clear k6))
      clear y1 y2 r5
      obtain ⟨y1, y2⟩ := r6
      have hA := HA.out
      have hB := HB.out
      have hD := HD.out
      go_wp2_with fail
      go_ret
      refine ⟨Kit.ret_int ?_, S6.out.bel⟩
      have hr := HR.out
      try rw [Int.sub_self, Int.mul_zero] at hD
      first | exact hr | omega | (simp; omega)
  · obtain rfl : R = a := by rw [← ha, if_pos (.inl hE0)]
    have hE1 : (E != 0) = true := by simpa using hE0
    obtain ⟨PA, hA⟩ : ∃ z, p.ch * (x1 + x2) = z := ⟨_, rfl⟩
    obtain ⟨PB, hB⟩ : ∃ z, x0 * R = z := ⟨_, rfl⟩
    obtain ⟨PD, hD⟩ : ∃ z, p.id * (R - R) = z := ⟨_, rfl⟩
    rw [hA] at A0 hr
    rw [hB] at B0 hr
    rw [hD] at D0 hr
    have HR := Lib.hid hr
    have HA := Lib.hid hA
    have HB := Lib.hid hB
    have HD := Lib.hid hD
    clear hA hB hD hr ha hR ea
    try clear hE0
    go_enter Tryz.func57, Tryz.ntmps57
    go_wp2_with fail
    generalize (w.alloc (.cells #[.slice p.la p.ln p.lc, .slice (some ⟨b, off, none⟩) p.nn p.nc, .int .i64 p.sw, .int .i64 p.id, .int .i64 p.ch, .int .i64 p.qu, .int .i64 p.sl, .int .i64 p.pp] 28)).alloc (.cells #[.int .i64 x0, .int .i64 x1, .int .i64 x2] 120) = W at S ⊢
    refine (B.out _).mono ?_
    rintro e1 w5 ⟨rfl, k5⟩
    have S := tw_next S k5
    clear k5
    go_wp2_with fail
    have S := tw_next S (Below.refl _ _).drew
    have y1 := S.out.one.cell
    have y2 := S.out.two.cell
    go_region_held3 (fun w' => (∀ i, w'.cell? ⟨w.heap.size, i, none⟩ = (#[.slice p.la p.ln p.lc, .slice (some ⟨b, off, none⟩) p.nn p.nc, .int .i64 p.sw, .int .i64 p.id, .int .i64 p.ch, .int .i64 p.qu, .int .i64 p.sl, .int .i64 p.pp] : Array Value)[i]?) ∧ (∀ i, w'.cell? ⟨w.heap.size + 1, i, none⟩ = (#[.int .i64 x0, .int .i64 x1, .int .i64 x2] : Array Value)[i]?))
      (first
        | exact r6
        | exact r5
        | exact ⟨y1, y2⟩)
      (first
        | (go_at_call 90; refine (C.out _).mono ?_; rintro e1 w6 ⟨rfl, k6⟩; have S5 := tw_next S k6; have r5 := And.intro S5.out.one.cell S5.out.two.cell; clear k6)
        | (go_at_call 89; refine (D.out _).mono ?_; rintro e1 w6 ⟨rfl, k6⟩; have S6 := tw_next S5 k6; have r6 := And.intro S6.out.one.cell S6.out.two.cell; clear k6))
    clear y1 y2 r5
    obtain ⟨y1, y2⟩ := r6
    have hA := HA.out
    have hB := HB.out
    have hD := HD.out
    go_wp2_with fail
    go_ret
    refine ⟨Kit.ret_int ?_, S6.out.bel⟩
    have hr := HR.out
    try rw [Int.sub_self, Int.mul_zero] at hD
    first | exact hr | omega | (simp; omega)
end Go.Proofs.YtlafeijkpnpdeaaGreat.NapC

/- Package nap: Cost, and its reference. -/
namespace Go.Proofs.YtlafeijkpnpdeaaGreat.NapD
open Go.RowKit Base Kit Conf PowA PowB PowC PowR WideB LvlA OscPlain OscZ NapA NapB NapC
set_option linter.unusedVariables false
set_option linter.unusedSimpArgs false

set_option maxRecDepth 100000 in
set_option maxHeartbeats 2000000 in
theorem Costr_any (p : PowC) (t now en : Int) (w : World) (ok : p.Ok w) (x e : Int) (hr : Hid (CostR p t now en = (x, e))) :
    Calls Tryz.prog 35 #[.agg #[.slice p.la p.ln p.lc, .slice p.na p.nn p.nc, .int .i64 p.sw, .int .i64 p.id, .int .i64 p.ch, .int .i64 p.qu, .int .i64 p.sl, .int .i64 p.pp], .int .i64 t, .int .i64 now, .int .i64 en] w fun e' w' => e' = .returned (.tuple #[.int .i64 x, .int .i64 e]) ∧ Below w.heap.size w w' := by
  obtain ⟨c, hc⟩ : ∃ c, CntR p t now en = c := ⟨_, rfl⟩
  have hr := hr.out
  unfold CostR at hr
  rw [hc] at hr
  have C := Lib.hid (fun w1 (h : Below w.heap.size w w1) => Countsr_any p t now en w1 (ok.below h (Nat.le_refl _)) c (Lib.hid hc))
  by_cases hlt : c < 1
  · rw [if_pos (.inl hlt)] at hr
    simp only [Prod.mk.injEq] at hr
    obtain ⟨rfl, rfl⟩ := hr
    clear hc
    have S := pst_in w p
    have bc := S.out.box.cell
    go_enter Tryz.func35, Tryz.ntmps35
    go_wp2_with fail
    refine (C.out _ S.out.bel).mono ?_
    rintro e1 w5 ⟨rfl, k5⟩
    have S := pst_next S k5
    clear k5 bc
    have bc := S.out.box.cell
    go_wp2_with fail
    go_ret2
    exact ⟨rfl, S.out.bel⟩
  have hlt : 1 ≤ c := by omega
  obtain ⟨k, rfl, hk, may, h0, hcn⟩ := cnt_ge (by rw [hc]; exact hlt : 1 ≤ CntR p t now en)
  rw [hc] at hcn
  have m1 := may.2.1
  have m2 := may.2.2.1
  have m3 := may.2.2.2
  by_cases hlo : 1099511627776 < en - now
  · rw [if_pos (.inr hlo)] at hr
    simp only [Prod.mk.injEq] at hr
    obtain ⟨rfl, rfl⟩ := hr
    clear hc may hcn h0
    have S := pst_in w p
    have bc := S.out.box.cell
    go_enter Tryz.func35, Tryz.ntmps35
    go_wp2_with fail
    refine (C.out _ S.out.bel).mono ?_
    rintro e1 w5 ⟨rfl, k5⟩
    have S := pst_next S k5
    clear k5 bc
    have bc := S.out.box.cell
    go_wp2_with fail
    go_ret2
    exact ⟨rfl, S.out.bel⟩
  rw [if_neg (by omega), Int.toNat_natCast] at hr
  simp only [Prod.mk.injEq] at hr
  have hlo : en - now ≤ 1099511627776 := by omega
  clear hc
  obtain ⟨hr9, rfl⟩ := hr
  have hr := hr9
  clear hr9
  have hm2 := ok.nap.out.1
  have C := C.out
  have B := fun w1 (h : Below w.heap.size w w1) R (hR : Hid (roomN p k now en = R)) => roomr_any p k now en w1 (ok.below h (Nat.le_refl _)) may hk R hR
  have hl := hlo
  obtain rfl : c = cntN p k now en := hcn
  have nb := nap_bd may.1 hk
  have rb := room_bd may hk
  have ab := asl_bd h0
  have pb := rest_bd may.1
  have cb := cntN_bd (k := k) (now := now) (en := en) may.1
  obtain ⟨R, hR⟩ : ∃ R, roomN p k now en = R := ⟨_, rfl⟩
  obtain ⟨c, hc⟩ : ∃ c, cntN p k now en = c := ⟨_, rfl⟩
  obtain ⟨⟨T, E⟩, hE⟩ : ∃ x, el p.sl 0 c = x := ⟨_, rfl⟩
  obtain ⟨a, ha⟩ : ∃ a, aslN p k now en = a := ⟨_, rfl⟩
  have e0 := el_nn p.sl 0 c
  unfold costN at hr
  rw [hR] at rb h0 ab
  rw [ha] at ab
  rw [hc] at cb
  rw [hE] at e0
  rw [hR, ha] at hr
  unfold aslN at ha
  rw [hc, hE, hR] at ha
  dsimp only at ha e0
  have D := fun w1 => OscB.elapsedr_any p.sl 0 c T E w1 (Lib.hid hE) ⟨by omega, by omega⟩
  rw [hc] at C hlt
  have B := fun w1 h => B w1 h R (Lib.hid hR)
  obtain ⟨b, off, ea, hbl, c0, c1, c2, i0, i1, i2⟩ := rows_at3 ok.nap k hk
  clear hc hE may i0 i1 i2
  clear hR
  generalize p.nf k 0 = x0 at *
  generalize p.nf k 1 = x1 at *
  generalize p.nf k 2 = x2 at *
  obtain ⟨⟨n0, n1⟩, ⟨n2, n3⟩, ⟨n4, n5⟩⟩ := nb
  obtain ⟨-, ⟨d0, d1⟩, ⟨g0, g1⟩, -, ⟨pb1, pb2⟩, ⟨pb3, pb4⟩, -⟩ := pb
  have A0 := mul_bd g0 g1 (show 0 ≤ x1 + x2 by omega) (show _ ≤ 200000000 by omega)
  have B0 := mul_bd n0 n1 ab.1 (show _ ≤ 1099511627776 by omega)
  have D0 := mul_bd d0 d1 (show 0 ≤ R - a by omega) (show _ ≤ 1099511627776 by omega)
  have A1 := mul_bd g0 g1 n2 n3
  have A2 := mul_bd g0 g1 n4 n5
  rw [ea] at C B ⊢
  have B := Lib.hid B
  have C := Lib.hid C
  have D := Lib.hid D
  have S := nw_in w #[.slice p.la p.ln p.lc, .slice (some ⟨b, off, none⟩) p.nn p.nc, .int .i64 p.sw, .int .i64 p.id, .int .i64 p.ch, .int .i64 p.qu, .int .i64 p.sl, .int .i64 p.pp] c0 c1 c2
  clear c0 c1 c2
  by_cases hE0 : E = 0
  · subst hE0
    by_cases hT : R < T
    · obtain rfl : R = a := by rw [← ha, if_pos (.inr hT)]
      rw [Int.mul_add] at hr A0
      obtain ⟨P1, h1⟩ : ∃ z, p.ch * x1 = z := ⟨_, rfl⟩
      obtain ⟨P2, h2⟩ : ∃ z, p.ch * x2 = z := ⟨_, rfl⟩
      obtain ⟨PB, hB⟩ : ∃ z, x0 * R = z := ⟨_, rfl⟩
      obtain ⟨PD, hD⟩ : ∃ z, p.id * (R - R) = z := ⟨_, rfl⟩
      rw [h1] at A0 hr A1
      rw [h2] at A0 hr A2
      rw [hB] at B0 hr
      rw [hD] at D0 hr
      have HR := Lib.hid hr
      have H1 := Lib.hid h1
      have H2 := Lib.hid h2
      have HB := Lib.hid hB
      have HD := Lib.hid hD
      clear h1 h2 hB hD hr ha ea
      try clear hE0
      have bc := S.out.box.cell
      go_enter Tryz.func35, Tryz.ntmps35
      go_wp2_with fail
      refine (C.out _ S.out.bel).mono ?_
      rintro e1 w5 ⟨rfl, k5⟩
      have S := nw_next S k5
      clear k5 bc
      have bc := S.out.box.cell
      go_wp2_with fail
      refine (B.out _ S.out.bel).mono ?_
      rintro e1 w5 ⟨rfl, k5⟩
      have S := nw_next S k5
      clear k5 bc
      have bc := S.out.box.cell
      go_wp2_with fail
      refine (D.out _).mono ?_
      rintro e1 w5 ⟨rfl, k5⟩
      have S := nw_next S k5
      clear k5 bc
      obtain ⟨y0, y1, y2, y3⟩ := nw_rules S
      have z1 := (S.out.box.alloc (.cells #[.int .i64 x0, .int .i64 x1, .int .i64 x2] 120)).cell
      have z2 := (Box.new w5 #[.int .i64 x0, .int .i64 x1, .int .i64 x2] 120).cell
      have h1 := H1.out
      have h2 := H2.out
      have hB := HB.out
      have hD := HD.out
      go_wp2_with fail
      go_ret2
      refine ⟨Kit.ret_pair (Prod.ext ?_ rfl), S.out.bel.alloc S.out.bel.size _⟩
      have hr := HR.out
      try rw [Int.sub_self, Int.mul_zero] at hD
      first | exact hr | omega | (simp; omega)
    · obtain rfl : a = T := by rw [← ha, if_neg (by omega)]
      have hT : a ≤ R := by omega
      rw [Int.mul_add] at hr A0
      obtain ⟨P1, h1⟩ : ∃ z, p.ch * x1 = z := ⟨_, rfl⟩
      obtain ⟨P2, h2⟩ : ∃ z, p.ch * x2 = z := ⟨_, rfl⟩
      obtain ⟨PB, hB⟩ : ∃ z, x0 * a = z := ⟨_, rfl⟩
      obtain ⟨PD, hD⟩ : ∃ z, p.id * (R - a) = z := ⟨_, rfl⟩
      rw [h1] at A0 hr A1
      rw [h2] at A0 hr A2
      rw [hB] at B0 hr
      rw [hD] at D0 hr
      have HR := Lib.hid hr
      have H1 := Lib.hid h1
      have H2 := Lib.hid h2
      have HB := Lib.hid hB
      have HD := Lib.hid hD
      clear h1 h2 hB hD hr ha ea
      try clear hE0
      have bc := S.out.box.cell
      go_enter Tryz.func35, Tryz.ntmps35
      go_wp2_with fail
      refine (C.out _ S.out.bel).mono ?_
      rintro e1 w5 ⟨rfl, k5⟩
      have S := nw_next S k5
      clear k5 bc
      have bc := S.out.box.cell
      go_wp2_with fail
      refine (B.out _ S.out.bel).mono ?_
      rintro e1 w5 ⟨rfl, k5⟩
      have S := nw_next S k5
      clear k5 bc
      have bc := S.out.box.cell
      go_wp2_with fail
      refine (D.out _).mono ?_
      rintro e1 w5 ⟨rfl, k5⟩
      have S := nw_next S k5
      clear k5 bc
      obtain ⟨y0, y1, y2, y3⟩ := nw_rules S
      have z1 := (S.out.box.alloc (.cells #[.int .i64 x0, .int .i64 x1, .int .i64 x2] 120)).cell
      have z2 := (Box.new w5 #[.int .i64 x0, .int .i64 x1, .int .i64 x2] 120).cell
      have h1 := H1.out
      have h2 := H2.out
      have hB := HB.out
      have hD := HD.out
      go_wp2_with fail
      go_ret2
      refine ⟨Kit.ret_pair (Prod.ext ?_ rfl), S.out.bel.alloc S.out.bel.size _⟩
      have hr := HR.out
      try rw [Int.sub_self, Int.mul_zero] at hD
      first | exact hr | omega | (simp; omega)
  · obtain rfl : R = a := by rw [← ha, if_pos (.inl hE0)]
    have hE1 : (E != 0) = true := by simpa using hE0
    rw [Int.mul_add] at hr A0
    obtain ⟨P1, h1⟩ : ∃ z, p.ch * x1 = z := ⟨_, rfl⟩
    obtain ⟨P2, h2⟩ : ∃ z, p.ch * x2 = z := ⟨_, rfl⟩
    obtain ⟨PB, hB⟩ : ∃ z, x0 * R = z := ⟨_, rfl⟩
    obtain ⟨PD, hD⟩ : ∃ z, p.id * (R - R) = z := ⟨_, rfl⟩
    rw [h1] at A0 hr A1
    rw [h2] at A0 hr A2
    rw [hB] at B0 hr
    rw [hD] at D0 hr
    have HR := Lib.hid hr
    have H1 := Lib.hid h1
    have H2 := Lib.hid h2
    have HB := Lib.hid hB
    have HD := Lib.hid hD
    clear h1 h2 hB hD hr ha ea
    try clear hE0
    have bc := S.out.box.cell
    go_enter Tryz.func35, Tryz.ntmps35
    go_wp2_with fail
    refine (C.out _ S.out.bel).mono ?_
    rintro e1 w5 ⟨rfl, k5⟩
    have S := nw_next S k5
    clear k5 bc
    have bc := S.out.box.cell
    go_wp2_with fail
    refine (B.out _ S.out.bel).mono ?_
    rintro e1 w5 ⟨rfl, k5⟩
    have S := nw_next S k5
    clear k5 bc
    have bc := S.out.box.cell
    go_wp2_with fail
    refine (D.out _).mono ?_
    rintro e1 w5 ⟨rfl, k5⟩
    have S := nw_next S k5
    clear k5 bc
    obtain ⟨y0, y1, y2, y3⟩ := nw_rules S
    have z1 := (S.out.box.alloc (.cells #[.int .i64 x0, .int .i64 x1, .int .i64 x2] 120)).cell
    have z2 := (Box.new w5 #[.int .i64 x0, .int .i64 x1, .int .i64 x2] 120).cell
    have h1 := H1.out
    have h2 := H2.out
    have hB := HB.out
    have hD := HD.out
    go_wp2_with fail
    go_ret2
    refine ⟨Kit.ret_pair (Prod.ext ?_ rfl), S.out.bel.alloc S.out.bel.size _⟩
    have hr := HR.out
    try rw [Int.sub_self, Int.mul_zero] at hD
    first | exact hr | omega | (simp; omega)
end Go.Proofs.YtlafeijkpnpdeaaGreat.NapD

/- Package valid: Mode. -/
namespace Go.Proofs.YtlafeijkpnpdeaaGreat.Vmo
open Go.RowKit Base Kit Conf Conf2 PowA PowB Vfa Vfb Val Vld Vpa Vpr Short Vcf FitA FitB FitC
set_option linter.unusedVariables false
set_option linter.unusedSimpArgs false
def winB (pn : Nat) (fr x0 x1 x2 e : Int) : Bool := inB x0 0 ((pn : Int) - 1) && (inB x1 e fr && inB x2 1 (fr - x1))
def winP (c : ConfC) (m : ModeC) (k : Nat) : Bool := winB c.pn m.fr (m.wf k 0) (m.wf k 1) (m.wf k 2) (ahI (fun j => m.wf j 1) k + ahI (fun j => m.wf j 2) k)
def fitP (c : ConfC) (m : ModeC) (k : Nat) : Bool := ft (top c.w.ln c.w.lf 0) c.w.sw (c.p (m.wf k 0).toNat).cap (m.wf k 2)
def ModeQ (c : ConfC) (m : ModeC) : Int := if (inB m.fr 1 1000000000 && (decide (m.wn ≤ 16) && decide (fb (winP c m) m.wn = m.wn))) = true then (if decide (fb (fitP c m) m.wn = m.wn) = true then 0 else 29) else 26
def ModeR (c : ConfC) (k : Int) : Int := if inB k 0 ((c.mn : Int) - 1) = true then ModeQ c (c.m k.toNat) else 26
theorem rule_next {w w1 : World} {b : Nat} {A : Array Value} (h : ∀ i, w.cell? ⟨b, i, none⟩ = A[i]?) (k : Below w.heap.size w w1) (ha : 0 < A.size) : ∀ i, w1.cell? ⟨b, i, none⟩ = A[i]? := fun i => by
  have h0 := h 0
  rw [Array.getElem?_eq_getElem ha] at h0
  rw [World.cell?_of_block (a := ⟨b, i, none⟩) (k.block b (lt_of_cell h0))]; exact h i
theorem win_ah {c : ConfC} {m : ModeC} (h1 : inB m.fr 1 1000000000 = true) (k : Nat) (h : ∀ j, j < k → winP c m j = true) : (0 ≤ ahI (fun j => m.wf j 1) k ∧ ahI (fun j => m.wf j 1) k ≤ m.fr) ∧ (0 ≤ ahI (fun j => m.wf j 2) k ∧ ahI (fun j => m.wf j 2) k ≤ m.fr) ∧ ahI (fun j => m.wf j 1) k + ahI (fun j => m.wf j 2) k ≤ m.fr := by
  have h2 := inB_iff.1 h1
  induction k with
  | zero => simp only [ahI]; omega
  | succ k ih =>
    have h3 := ih (fun j hj => h j (by omega))
    have h4 := h k (by omega)
    unfold winP winB at h4
    simp only [Bool.and_eq_true, inB_iff] at h4
    simp only [ahI]
    omega
theorem win_in {c : ConfC} {m : ModeC} {k : Nat} (h4 : winP c m k = true) : 0 ≤ m.wf k 0 ∧ m.wf k 0 ≤ (c.pn : Int) - 1 := by
  unfold winP winB at h4
  simp only [Bool.and_eq_true, inB_iff] at h4
  exact h4.1
set_option maxHeartbeats 2000000 in
theorem mode1_any (c : ConfC) (fr x0 x1 x2 a0 a1 a2 : Int) (mw : Value) (bc bm : Nat) (r : Bool) (w : World) (hc : Hid (Box w bc #[.slice c.pa c.pn c.pc, .slice c.ca c.cn c.cc, .slice c.ma c.mn c.mc, .slice c.w.la c.w.ln c.w.lc, .slice c.w.na c.w.nn c.w.nc, .int .i64 c.w.sw, .int .i64 c.w.id, .int .i64 c.w.ch, .int .i64 c.w.qu, .int .i64 c.w.sl, .int .i64 c.w.pp, .slice c.da c.dn c.dc, .slice c.ua c.un c.uc] 33)) (hm : Hid (Box w bm #[.int .i64 fr, mw] 52)) (hpn : c.pn ≤ 9223372036854775807)
    (f0 : 1 ≤ fr) (f1 : fr ≤ 1000000000) (a10 : 0 ≤ a1) (a11 : a1 ≤ fr) (a20 : 0 ≤ a2) (a21 : a2 ≤ fr) (hr : Hid (winB c.pn fr x0 x1 x2 (a1 + a2) = r)) :
    Calls Tryz.prog 120 #[.agg #[.int .i64 x0, .int .i64 x1, .int .i64 x2], .agg #[.int .i64 a0, .int .i64 a1, .int .i64 a2], .pointer (some ⟨bc, 0, none⟩), .pointer (some ⟨bm, 0, none⟩)] w fun e w' => e = .returned (.bool r) ∧ Below w.heap.size w w' := by
  have cc := ((hc.out.alloc (.cells #[.int .i64 x0, .int .i64 x1, .int .i64 x2] 54)).alloc (.cells #[.int .i64 a0, .int .i64 a1, .int .i64 a2] 54)).cell
  have mc := ((hm.out.alloc (.cells #[.int .i64 x0, .int .i64 x1, .int .i64 x2] 54)).alloc (.cells #[.int .i64 a0, .int .i64 a1, .int .i64 a2] 54)).cell
  have HB := Lib.hid (((Below.refl w.heap.size w).alloc (Nat.le_refl _) (.cells #[.int .i64 x0, .int .i64 x1, .int .i64 x2] 54)).alloc (by simp) (.cells #[.int .i64 a0, .int .i64 a1, .int .i64 a2] 54))
  have hr := hr.out
  unfold winB at hr
  obtain ⟨r0, d0⟩ : ∃ z, inB x0 0 ((c.pn : Int) - 1) = z := ⟨_, rfl⟩
  obtain ⟨r1, d1⟩ : ∃ z, inB x1 (a1 + a2) fr = z := ⟨_, rfl⟩
  obtain ⟨r2, d2⟩ : ∃ z, inB x2 1 (fr - x1) = z := ⟨_, rfl⟩
  have C0 := Lib.hid (fun w => in_any x0 0 ((c.pn : Int) - 1) r0 w (Lib.hid d0))
  have C1 := Lib.hid (fun w => in_any x1 (a1 + a2) fr r1 w (Lib.hid d1))
  have C2 := Lib.hid (fun w => in_any x2 1 (fr - x1) r2 w (Lib.hid d2))
  rw [d0, d1, d2] at hr
  cases r0
  · rw [Bool.false_and] at hr
    subst hr
    clear d0 d1 d2
    go_enter Tryz.func120, Tryz.ntmps120
    go_wp2_with fail
    refine (C0.out _).mono ?_
    rintro e1 w5 ⟨rfl, e9⟩
    cases e9
    go_wp2_with fail
    go_ret
    exact ⟨rfl, HB.out⟩
  · rw [Bool.true_and] at hr
    cases r1
    · rw [Bool.false_and] at hr
      subst hr
      clear d0 d1 d2
      go_enter Tryz.func120, Tryz.ntmps120
      go_wp2_with fail
      refine (C0.out _).mono ?_
      rintro e1 w5 ⟨rfl, e9⟩
      cases e9
      go_wp2_with fail
      refine (C1.out _).mono ?_
      rintro e1 w5 ⟨rfl, e9⟩
      cases e9
      go_wp2_with fail
      go_ret
      exact ⟨rfl, HB.out⟩
    · rw [Bool.true_and] at hr
      subst hr
      have e1 := inB_iff.1 d1
      have e10 : 0 ≤ x1 := by omega
      have e11 := e1.2
      clear d0 d1 d2 e1
      go_enter Tryz.func120, Tryz.ntmps120
      go_wp2_with fail
      refine (C0.out _).mono ?_
      rintro e1 w5 ⟨rfl, e9⟩
      cases e9
      go_wp2_with fail
      refine (C1.out _).mono ?_
      rintro e1 w5 ⟨rfl, e9⟩
      cases e9
      go_wp2_with fail
      refine (C2.out _).mono ?_
      rintro e1 w5 ⟨rfl, e9⟩
      cases e9
      go_wp2_with fail
      go_ret
      exact ⟨rfl, HB.out⟩
set_option maxHeartbeats 2000000 in
theorem mode2_any (c : ConfC) (x0 x1 x2 a0 a1 a2 : Int) (bc : Nat) (r : Bool) (w : World) (ok : c.Ok w) (hc : Hid (Box w bc #[.slice c.pa c.pn c.pc, .slice c.ca c.cn c.cc, .slice c.ma c.mn c.mc, .slice c.w.la c.w.ln c.w.lc, .slice c.w.na c.w.nn c.w.nc, .int .i64 c.w.sw, .int .i64 c.w.id, .int .i64 c.w.ch, .int .i64 c.w.qu, .int .i64 c.w.sl, .int .i64 c.w.pp, .slice c.da c.dn c.dc, .slice c.ua c.un c.uc] 33)) (p0 : 0 ≤ x0) (p1 : x0 ≤ (c.pn : Int) - 1) (hr : Hid (ft (top c.w.ln c.w.lf 0) c.w.sw (c.p x0.toNat).cap x2 = r)) :
    Calls Tryz.prog 122 #[.agg #[.int .i64 x0, .int .i64 x1, .int .i64 x2], .agg #[.int .i64 a0, .int .i64 a1, .int .i64 a2], .pointer (some ⟨bc, 0, none⟩)] w fun e w' => e = .returned (.bool r) ∧ Below w.heap.size w w' := by
  have h1 := ok.parts.out.1
  obtain ⟨b, off, ea, hlt, u7⟩ : ∃ b off, c.pa = some ⟨b, off, none⟩ ∧ b < w.heap.size ∧ w.cell? ⟨b, off + x0.toNat * 11 + 7, none⟩ = some (.int .i64 (c.p x0.toNat).cap) := by
    obtain ⟨b, off, ea, hlt, _, _, _, _, _, _, _, u7, _, _, _⟩ := part_at ok.parts x0.toNat (by omega)
    exact ⟨b, off, ea, hlt, u7⟩
  replace ea := Lib.hid ea
  have icap := (ok.part x0.toNat (by omega)).cap
  have hx : x0 < (c.pn : Int) := by omega
  have OK := Lib.hid (fun w' (h : Below w.heap.size w w') => ok.below h (Nat.le_refl _))
  have C := Lib.hid (fun w' ok => fits_any c.w.la c.w.ln c.w.lc c.w.lf (.slice c.w.na c.w.nn c.w.nc) c.w.sw (.int .i64 c.w.id) (.int .i64 c.w.ch) (.int .i64 c.w.qu) (.int .i64 c.w.sl) (.int .i64 c.w.pp) (c.p x0.toNat).cap x2 r w' (ConfC.Ok.pow ok).lev (ConfC.Ok.pow ok).sw icap hr)
  clear icap hr
  generalize (c.p x0.toNat).cap = cap at *
  have cc := ((hc.out.alloc (.cells #[.int .i64 x0, .int .i64 x1, .int .i64 x2] 54)).alloc (.cells #[.int .i64 a0, .int .i64 a1, .int .i64 a2] 54)).cell
  rw [ea.out] at cc
  have xc := ((Box.new w #[.int .i64 x0, .int .i64 x1, .int .i64 x2] 54).alloc (.cells #[.int .i64 a0, .int .i64 a1, .int .i64 a2] 54)).cell
  have HB := Lib.hid (((Below.refl w.heap.size w).alloc (Nat.le_refl _) (.cells #[.int .i64 x0, .int .i64 x1, .int .i64 x2] 54)).alloc (by simp) (.cells #[.int .i64 a0, .int .i64 a1, .int .i64 a2] 54))
  replace u7 := keep HB.out u7 hlt
  go_enter Tryz.func122, Tryz.ntmps122
  go_wp2_with fail
  generalize (w.alloc (.cells #[.int .i64 x0, .int .i64 x1, .int .i64 x2] 54)).alloc (.cells #[.int .i64 a0, .int .i64 a1, .int .i64 a2] 54) = W at *
  have HBD := Lib.hid HB.out.drew
  have cc : ∀ i, W.drew.cell? ⟨bc, i, none⟩ = (#[.slice (some ⟨b, off, none⟩) c.pn c.pc, .slice c.ca c.cn c.cc, .slice c.ma c.mn c.mc, .slice c.w.la c.w.ln c.w.lc, .slice c.w.na c.w.nn c.w.nc, .int .i64 c.w.sw, .int .i64 c.w.id, .int .i64 c.w.ch, .int .i64 c.w.qu, .int .i64 c.w.sl, .int .i64 c.w.pp, .slice c.da c.dn c.dc, .slice c.ua c.un c.uc] : Array Value)[i]? := cc
  have xc : ∀ i, W.drew.cell? ⟨w.heap.size, i, none⟩ = (#[.int .i64 x0, .int .i64 x1, .int .i64 x2] : Array Value)[i]? := xc
  have u7 : W.drew.cell? ⟨b, off + x0.toNat * 11 + 7, none⟩ = some (.int .i64 cap) := u7
  go_region_held3 (fun w' => (∀ i, w'.cell? ⟨bc, i, none⟩ = (#[.slice (some ⟨b, off, none⟩) c.pn c.pc, .slice c.ca c.cn c.cc, .slice c.ma c.mn c.mc, .slice c.w.la c.w.ln c.w.lc, .slice c.w.na c.w.nn c.w.nc, .int .i64 c.w.sw, .int .i64 c.w.id, .int .i64 c.w.ch, .int .i64 c.w.qu, .int .i64 c.w.sl, .int .i64 c.w.pp, .slice c.da c.dn c.dc, .slice c.ua c.un c.uc] : Array Value)[i]?) ∧ (∀ i, w'.cell? ⟨w.heap.size, i, none⟩ = (#[.int .i64 x0, .int .i64 x1, .int .i64 x2] : Array Value)[i]?) ∧ w'.cell? ⟨b, off + x0.toNat * 11 + 7, none⟩ = some (.int .i64 cap) ∧ Hid (Below w.heap.size w w'))
    (first | exact ⟨cc, xc, u7, HBD⟩ | exact ⟨rule_next cc k5 (by simp), rule_next xc k5 (by simp), keep' k5 u7, below_hid HBD k5⟩)
    (first
      | (go_at_call 37; go_split_ands; rename_i hS; refine (C.out _ (OK.out _ hS.out)).mono ?_; rintro e1 w5 ⟨rfl, k5⟩))
  have HB5 := below_hid HBD k5
  clear k5 cc xc u7 hS
  go_wp2_with fail
  go_ret
  exact ⟨rfl, HB5.out⟩
set_option maxRecDepth 100000 in
set_option maxHeartbeats 4000000 in
theorem Mode_any (c : ConfC) (k : Int) (r : Int) (w : World) (ok : c.Ok w) (ik : I64 k) (hr : Hid (ModeR c k = r)) :
    Calls Tryz.prog 86 #[.agg #[.slice c.pa c.pn c.pc, .slice c.ca c.cn c.cc, .slice c.ma c.mn c.mc, .slice c.w.la c.w.ln c.w.lc, .slice c.w.na c.w.nn c.w.nc, .int .i64 c.w.sw, .int .i64 c.w.id, .int .i64 c.w.ch, .int .i64 c.w.qu, .int .i64 c.w.sl, .int .i64 c.w.pp, .slice c.da c.dn c.dc, .slice c.ua c.un c.uc], .int .i64 k] w fun e w' => e = .returned (.int .i64 r) ∧ Below w.heap.size w w' := by
  have h1 := ok.modes.out.1
  have h2 := ok.parts.out.1
  obtain ⟨ik0, ik1⟩ := ik
  have hr := hr.out
  unfold ModeR at hr
  obtain ⟨r0, d0⟩ : ∃ z, inB k 0 ((c.mn : Int) - 1) = z := ⟨_, rfl⟩
  have C0 := Lib.hid (fun w => in_any k 0 ((c.mn : Int) - 1) r0 w (Lib.hid d0))
  rw [d0] at hr
  have S := cs_in w c
  have bc := S.out.box.cell
  cases r0
  · rw [if_neg (by decide)] at hr
    subst hr
    clear d0
    go_enter Tryz.func86, Tryz.ntmps86
    go_wp2_with fail
    generalize w.alloc (.cells #[.slice c.pa c.pn c.pc, .slice c.ca c.cn c.cc, .slice c.ma c.mn c.mc, .slice c.w.la c.w.ln c.w.lc, .slice c.w.na c.w.nn c.w.nc, .int .i64 c.w.sw, .int .i64 c.w.id, .int .i64 c.w.ch, .int .i64 c.w.qu, .int .i64 c.w.sl, .int .i64 c.w.pp, .slice c.da c.dn c.dc, .slice c.ua c.un c.uc] 33) = W at *
    try rw [ea.out] at bc
    refine (C0.out _).mono ?_
    rintro e1 w5 ⟨rfl, e9⟩
    cases e9
    go_wp2_with fail
    go_ret
    exact ⟨rfl, S.out.bel⟩
  · obtain ⟨p0, p1⟩ := inB_iff.1 d0
    clear d0
    rw [if_pos rfl] at hr
    have hk : k.toNat < c.mn := by omega
    have hkI : k < (c.mn : Int) := by omega
    obtain ⟨b, off, ea, hlt, c0, c1⟩ := mode_at ok.modes k.toNat hk
    replace ea := Lib.hid ea
    have OK := Lib.hid (fun w' (h : Below w.heap.size w w') => ok.below h (Nat.le_refl _))
    have HB := (Below.refl w.heap.size w).alloc (Nat.le_refl _) (.cells #[.slice c.pa c.pn c.pc, .slice c.ca c.cn c.cc, .slice c.ma c.mn c.mc, .slice c.w.la c.w.ln c.w.lc, .slice c.w.na c.w.nn c.w.nc, .int .i64 c.w.sw, .int .i64 c.w.id, .int .i64 c.w.ch, .int .i64 c.w.qu, .int .i64 c.w.sl, .int .i64 c.w.pp, .slice c.da c.dn c.dc, .slice c.ua c.un c.uc] 33)
    replace c0 := keep HB c0 hlt
    replace c1 := keep HB c1 hlt
    have win := (ok.mode k.toNat hk).win
    have ifr := (ok.mode k.toNat hk).fr
    clear HB
    generalize c.m k.toNat = m at *
    obtain ⟨fr, wa, wn, wc, wf⟩ := m
    dsimp only at c0 c1 win ifr
    obtain ⟨if0, if1⟩ := ifr
    unfold ModeQ at hr
    dsimp only at hr
    have hwn := win.out.1
    obtain ⟨r1, d1⟩ : ∃ z, inB fr 1 1000000000 = z := ⟨_, rfl⟩
    have C1 := Lib.hid (fun w => in_any fr 1 1000000000 r1 w (Lib.hid d1))
    rw [d1] at hr
    cases r1
    · rw [Bool.false_and, if_neg (by decide)] at hr
      subst hr
      clear d1
      go_enter Tryz.func86, Tryz.ntmps86
      go_wp2_with fail
      generalize w.alloc (.cells #[.slice c.pa c.pn c.pc, .slice c.ca c.cn c.cc, .slice c.ma c.mn c.mc, .slice c.w.la c.w.ln c.w.lc, .slice c.w.na c.w.nn c.w.nc, .int .i64 c.w.sw, .int .i64 c.w.id, .int .i64 c.w.ch, .int .i64 c.w.qu, .int .i64 c.w.sl, .int .i64 c.w.pp, .slice c.da c.dn c.dc, .slice c.ua c.un c.uc] 33) = W at *
      try rw [ea.out] at bc
      refine (C0.out _).mono ?_
      rintro e1 w5 ⟨rfl, e9⟩
      cases e9
      go_wp2_with fail
      have M := Lib.hid (Box.new W #[.int .i64 fr, .slice wa wn wc] 52)
      have S := cs_alloc S (.cells #[.int .i64 fr, .slice wa wn wc] 52)
      generalize W.alloc (.cells #[.int .i64 fr, .slice wa wn wc] 52) = W2 at *
      clear bc
      have mc := M.out.cell
      refine (C1.out _).mono ?_
      rintro e1 w5 ⟨rfl, e9⟩
      cases e9
      go_wp2_with fail
      go_ret
      exact ⟨rfl, S.out.bel⟩
    · rw [Bool.true_and] at hr
      obtain ⟨f0, f1⟩ := inB_iff.1 d1
      by_cases h16 : wn ≤ 16
      · rw [decide_eq_true h16, Bool.true_and] at hr
        obtain ⟨z, hz⟩ : ∃ z, frI (winP c ⟨fr, wa, wn, wc, wf⟩) wn = z := ⟨_, rfl⟩
        obtain ⟨v, hv⟩ : ∃ v, decide (fb (winP c ⟨fr, wa, wn, wc, wf⟩) wn = wn) = v := ⟨_, rfl⟩
        have C2 := Lib.hid (fun w' bc bm (hb : Below w.heap.size w w') (X : Hid (Box w' bc #[.slice c.pa c.pn c.pc, .slice c.ca c.cn c.cc, .slice c.ma c.mn c.mc, .slice c.w.la c.w.ln c.w.lc, .slice c.w.na c.w.nn c.w.nc, .int .i64 c.w.sw, .int .i64 c.w.id, .int .i64 c.w.ch, .int .i64 c.w.qu, .int .i64 c.w.sl, .int .i64 c.w.pp, .slice c.da c.dn c.dc, .slice c.ua c.un c.uc] 33)) (M : Hid (Box w' bm #[.int .i64 fr, .slice wa wn wc] 52)) =>
          first_win wa wn wc (fun k => wf k 0) (fun k => wf k 1) (fun k => wf k 2) (winP c ⟨fr, wa, wn, wc, wf⟩) 120 #[.pointer (some ⟨bc, 0, none⟩), .pointer (some ⟨bm, 0, none⟩)] z w' (ri3 (Lib.hid (rows_below win.out hb (Nat.le_refl _)))) (by omega) (fun args w => by go_simp)
            (Lib.hid (fun k wr hk hb hP => have A := win_ah d1 k hP
              mode1_any c fr (wf k 0) (wf k 1) (wf k 2) (ahI (fun j => wf j 0) k) (ahI (fun j => wf j 1) k) (ahI (fun j => wf j 2) k) (.slice wa wn wc) bc bm _ wr (Lib.hid (X.out.next hb)) (Lib.hid (M.out.next hb)) h2 f0 f1 A.1.1 A.1.2 A.2.1.1 A.2.1.2 (Lib.hid rfl))) (Lib.hid hz))
        have zr := fr_neg hz hv
        rw [hv] at hr
        clear d1 hz
        rcases zr with ⟨hz, rfl⟩ | ⟨hz, rfl⟩
        · rw [if_pos rfl] at hr
          have hall := fb_iff.1 (of_decide_eq_true hv)
          obtain ⟨y, hy⟩ : ∃ y, frI (fitP c ⟨fr, wa, wn, wc, wf⟩) wn = y := ⟨_, rfl⟩
          obtain ⟨u, hu⟩ : ∃ u, decide (fb (fitP c ⟨fr, wa, wn, wc, wf⟩) wn = wn) = u := ⟨_, rfl⟩
          have C3 := Lib.hid (fun w' bc (hb : Below w.heap.size w w') (X : Hid (Box w' bc #[.slice c.pa c.pn c.pc, .slice c.ca c.cn c.cc, .slice c.ma c.mn c.mc, .slice c.w.la c.w.ln c.w.lc, .slice c.w.na c.w.nn c.w.nc, .int .i64 c.w.sw, .int .i64 c.w.id, .int .i64 c.w.ch, .int .i64 c.w.qu, .int .i64 c.w.sl, .int .i64 c.w.pp, .slice c.da c.dn c.dc, .slice c.ua c.un c.uc] 33)) =>
            first_win wa wn wc (fun k => wf k 0) (fun k => wf k 1) (fun k => wf k 2) (fitP c ⟨fr, wa, wn, wc, wf⟩) 122 #[.pointer (some ⟨bc, 0, none⟩)] y w' (ri3 (Lib.hid (rows_below win.out hb (Nat.le_refl _)))) (by omega) (fun args w => by go_simp)
              (Lib.hid (fun k wr hk hb1 hP => have A := win_in (hall k hk)
                mode2_any c (wf k 0) (wf k 1) (wf k 2) (ahI (fun j => wf j 0) k) (ahI (fun j => wf j 1) k) (ahI (fun j => wf j 2) k) bc _ wr (OK.out _ (below_next hb hb1)) (Lib.hid (X.out.next hb1)) A.1 A.2 (Lib.hid rfl))) (Lib.hid hy))
          have yr := fr_neg hy hu
          rw [hu] at hr
          clear hy hu hv hall win
          rcases yr with ⟨hy, rfl⟩ | ⟨hy, rfl⟩
          · rw [if_pos rfl] at hr
            subst hr
            go_enter Tryz.func86, Tryz.ntmps86
            go_wp2_with fail
            generalize w.alloc (.cells #[.slice c.pa c.pn c.pc, .slice c.ca c.cn c.cc, .slice c.ma c.mn c.mc, .slice c.w.la c.w.ln c.w.lc, .slice c.w.na c.w.nn c.w.nc, .int .i64 c.w.sw, .int .i64 c.w.id, .int .i64 c.w.ch, .int .i64 c.w.qu, .int .i64 c.w.sl, .int .i64 c.w.pp, .slice c.da c.dn c.dc, .slice c.ua c.un c.uc] 33) = W at *
            try rw [ea.out] at bc
            refine (C0.out _).mono ?_
            rintro e1 w5 ⟨rfl, e9⟩
            cases e9
            go_wp2_with fail
            have M := Lib.hid (Box.new W #[.int .i64 fr, .slice wa wn wc] 52)
            have S := cs_alloc S (.cells #[.int .i64 fr, .slice wa wn wc] 52)
            generalize W.alloc (.cells #[.int .i64 fr, .slice wa wn wc] 52) = W2 at *
            clear bc
            have mc := M.out.cell
            refine (C1.out _).mono ?_
            rintro e1 w5 ⟨rfl, e9⟩
            cases e9
            go_wp2_with fail
            refine (C2.out _ _ _ S.out.bel (Lib.hid S.out.box) M).mono ?_
            rintro e1 w6 ⟨rfl, k5⟩
            have S := cs_next S k5
            have M := Lib.hid (M.out.next k5)
            clear k5 mc
            have mc := M.out.cell
            go_wp2_with fail
            refine (C3.out _ _ S.out.bel (Lib.hid S.out.box)).mono ?_
            rintro e1 w7 ⟨rfl, k5⟩
            have S := cs_next S k5
            clear k5 mc
            go_wp2_with fail
            go_ret
            exact ⟨rfl, S.out.bel⟩
          · rw [if_neg (by decide)] at hr
            subst hr
            go_enter Tryz.func86, Tryz.ntmps86
            go_wp2_with fail
            generalize w.alloc (.cells #[.slice c.pa c.pn c.pc, .slice c.ca c.cn c.cc, .slice c.ma c.mn c.mc, .slice c.w.la c.w.ln c.w.lc, .slice c.w.na c.w.nn c.w.nc, .int .i64 c.w.sw, .int .i64 c.w.id, .int .i64 c.w.ch, .int .i64 c.w.qu, .int .i64 c.w.sl, .int .i64 c.w.pp, .slice c.da c.dn c.dc, .slice c.ua c.un c.uc] 33) = W at *
            try rw [ea.out] at bc
            refine (C0.out _).mono ?_
            rintro e1 w5 ⟨rfl, e9⟩
            cases e9
            go_wp2_with fail
            have M := Lib.hid (Box.new W #[.int .i64 fr, .slice wa wn wc] 52)
            have S := cs_alloc S (.cells #[.int .i64 fr, .slice wa wn wc] 52)
            generalize W.alloc (.cells #[.int .i64 fr, .slice wa wn wc] 52) = W2 at *
            clear bc
            have mc := M.out.cell
            refine (C1.out _).mono ?_
            rintro e1 w5 ⟨rfl, e9⟩
            cases e9
            go_wp2_with fail
            refine (C2.out _ _ _ S.out.bel (Lib.hid S.out.box) M).mono ?_
            rintro e1 w6 ⟨rfl, k5⟩
            have S := cs_next S k5
            have M := Lib.hid (M.out.next k5)
            clear k5 mc
            have mc := M.out.cell
            go_wp2_with fail
            refine (C3.out _ _ S.out.bel (Lib.hid S.out.box)).mono ?_
            rintro e1 w7 ⟨rfl, k5⟩
            have S := cs_next S k5
            clear k5 mc
            go_wp2_with fail
            go_ret
            exact ⟨rfl, S.out.bel⟩
        · rw [if_neg (by decide)] at hr
          subst hr
          clear hv win
          go_enter Tryz.func86, Tryz.ntmps86
          go_wp2_with fail
          generalize w.alloc (.cells #[.slice c.pa c.pn c.pc, .slice c.ca c.cn c.cc, .slice c.ma c.mn c.mc, .slice c.w.la c.w.ln c.w.lc, .slice c.w.na c.w.nn c.w.nc, .int .i64 c.w.sw, .int .i64 c.w.id, .int .i64 c.w.ch, .int .i64 c.w.qu, .int .i64 c.w.sl, .int .i64 c.w.pp, .slice c.da c.dn c.dc, .slice c.ua c.un c.uc] 33) = W at *
          try rw [ea.out] at bc
          refine (C0.out _).mono ?_
          rintro e1 w5 ⟨rfl, e9⟩
          cases e9
          go_wp2_with fail
          have M := Lib.hid (Box.new W #[.int .i64 fr, .slice wa wn wc] 52)
          have S := cs_alloc S (.cells #[.int .i64 fr, .slice wa wn wc] 52)
          generalize W.alloc (.cells #[.int .i64 fr, .slice wa wn wc] 52) = W2 at *
          clear bc
          have mc := M.out.cell
          refine (C1.out _).mono ?_
          rintro e1 w5 ⟨rfl, e9⟩
          cases e9
          go_wp2_with fail
          refine (C2.out _ _ _ S.out.bel (Lib.hid S.out.box) M).mono ?_
          rintro e1 w6 ⟨rfl, k5⟩
          have S := cs_next S k5
          clear k5 mc
          go_wp2_with fail
          go_ret
          exact ⟨rfl, S.out.bel⟩
      · rw [decide_eq_false h16, Bool.false_and, if_neg (by decide)] at hr
        subst hr
        clear d1 win
        have h16 : (16 : Int) < (wn : Int) := by omega
        go_enter Tryz.func86, Tryz.ntmps86
        go_wp2_with fail
        generalize w.alloc (.cells #[.slice c.pa c.pn c.pc, .slice c.ca c.cn c.cc, .slice c.ma c.mn c.mc, .slice c.w.la c.w.ln c.w.lc, .slice c.w.na c.w.nn c.w.nc, .int .i64 c.w.sw, .int .i64 c.w.id, .int .i64 c.w.ch, .int .i64 c.w.qu, .int .i64 c.w.sl, .int .i64 c.w.pp, .slice c.da c.dn c.dc, .slice c.ua c.un c.uc] 33) = W at *
        try rw [ea.out] at bc
        refine (C0.out _).mono ?_
        rintro e1 w5 ⟨rfl, e9⟩
        cases e9
        go_wp2_with fail
        have M := Lib.hid (Box.new W #[.int .i64 fr, .slice wa wn wc] 52)
        have S := cs_alloc S (.cells #[.int .i64 fr, .slice wa wn wc] 52)
        generalize W.alloc (.cells #[.int .i64 fr, .slice wa wn wc] 52) = W2 at *
        clear bc
        have mc := M.out.cell
        refine (C1.out _).mono ?_
        rintro e1 w5 ⟨rfl, e9⟩
        cases e9
        go_wp2_with fail
        go_ret
        exact ⟨rfl, S.out.bel⟩
end Go.Proofs.YtlafeijkpnpdeaaGreat.Vmo
