/- Package nap: Wakes, and its reference. -/
import Derived.Test.YtigknchcjlieoaaNapH
namespace Go.Proofs.Ytigknchcjlieoaa.NapI
open Go.RowKit Go.Shelf Base Kit Conf PowA PowB PowC PowR WideB Alt RefA Boo LvlA LvlG LvlH LvlI LvlJ OscPlain OscZ NapA NapB NapC NapD NapE NapF NapG NapH
set_option linter.unusedVariables false
set_option linter.unusedSimpArgs false

def WakR (p : PowC) (t now c d : Int) : Int × Int :=
  if MayN p now 1152921504606846976 ∧ 0 ≤ t ∧ t < p.nn then
    (if (el p.sl d c).2 ≠ 0 ∨ 1152921504606846976 < (el p.sl d c).1 then (0, 2) else (now + p.nf t.toNat 1 + (el p.sl d c).1 + p.nf t.toNat 2, 0))
  else (0, 2)
set_option maxRecDepth 100000 in
set_option maxHeartbeats 2000000 in
theorem Wakes_any (p : PowC) (t now c d : Int) (hc : I64 c) (w : World) (ok : p.Ok w) (x e : Int) (hr : Hid (WakR p t now c d = (x, e))) :
    Calls Try.prog 38 #[.agg #[.slice p.la p.ln p.lc, .slice p.na p.nn p.nc, .int .i64 p.sw, .int .i64 p.id, .int .i64 p.ch, .int .i64 p.qu, .int .i64 p.sl, .int .i64 p.pp], .int .i64 t, .int .i64 now, .int .i64 c, .int .i64 d] w fun e' w' => e' = .returned (.tuple #[.int .i64 x, .int .i64 e]) ∧ Below w.heap.size w w' := by
  have hm2 := ok.nap.out.1
  have okh := fun w1 (h : Below w.heap.size w w1) => ok.below h (Nat.le_refl _)
  have hr := hr.out
  unfold WakR at hr
  by_cases may : MayN p now 1152921504606846976
  rotate_left
  · rw [if_neg (fun h => may h.1)] at hr
    have M := Lib.hid (fun w1 (h : Below w.heap.size w w1) => may_any p now 1152921504606846976 w1 (okh w1 h) false (Lib.hid (decide_eq_false may)))
    clear may
    simp only [Prod.mk.injEq] at hr
    obtain ⟨rfl, rfl⟩ := hr
    have S := pst_in w p
    have bc := S.out.box.cell
    go_enter Try.func38, Try.ntmps38
    go_wp2_with fail
    refine (M.out _ S.out.bel).mono ?_
    rintro e1 w5 ⟨rfl, k5⟩
    have S := pst_next S k5
    clear k5 bc
    have bc := S.out.box.cell
    go_wp2_with fail
    go_ret2
    exact ⟨rfl, S.out.bel⟩
  have M := fun w1 (h : Below w.heap.size w w1) => may_any p now 1152921504606846976 w1 (okh w1 h) true (Lib.hid (decide_eq_true may))
  by_cases c0 : 0 ≤ t
  rotate_left
  · rw [if_neg (fun h => c0 h.2.1)] at hr
    have c0 : t < 0 := by omega
    have M := Lib.hid M
    clear may
    simp only [Prod.mk.injEq] at hr
    obtain ⟨rfl, rfl⟩ := hr
    have S := pst_in w p
    have bc := S.out.box.cell
    go_enter Try.func38, Try.ntmps38
    go_wp2_with fail
    refine (M.out _ S.out.bel).mono ?_
    rintro e1 w5 ⟨rfl, k5⟩
    have S := pst_next S k5
    clear k5 bc
    have bc := S.out.box.cell
    go_wp2_with fail
    go_ret2
    exact ⟨rfl, S.out.bel⟩
  by_cases c1 : t < p.nn
  rotate_left
  · rw [if_neg (fun h => c1 h.2.2)] at hr
    have c1 : (p.nn : Int) ≤ t := by omega
    have M := Lib.hid M
    clear may
    simp only [Prod.mk.injEq] at hr
    obtain ⟨rfl, rfl⟩ := hr
    have S := pst_in w p
    have bc := S.out.box.cell
    go_enter Try.func38, Try.ntmps38
    go_wp2_with fail
    refine (M.out _ S.out.bel).mono ?_
    rintro e1 w5 ⟨rfl, k5⟩
    have S := pst_next S k5
    clear k5 bc
    have bc := S.out.box.cell
    go_wp2_with fail
    go_ret2
    exact ⟨rfl, S.out.bel⟩
  rw [if_pos ⟨may, c0, c1⟩] at hr
  obtain ⟨k, rfl⟩ := Int.eq_ofNat_of_zero_le c0
  rw [Int.toNat_natCast] at hr
  have hk : k < p.nn := by omega
  clear c0 c1
  obtain ⟨b, off, ea, hbl, c0, c1, c2, i0, i1, i2⟩ := rows_at3 ok.nap k hk
  have nb := nap_bd may.1 hk
  obtain ⟨-, m1, m2, m3⟩ := id may
  generalize p.nf k 0 = x0 at *
  generalize p.nf k 1 = x1 at *
  generalize p.nf k 2 = x2 at *
  obtain ⟨⟨n0, n1⟩, ⟨n2, n3⟩, ⟨n4, n5⟩⟩ := nb
  clear i0 i1 i2
  obtain ⟨⟨T, E⟩, hE⟩ : ∃ x, el p.sl d c = x := ⟨_, rfl⟩
  have e0 := el_nn p.sl d c
  rw [hE] at hr e0
  dsimp only at hr e0
  have D := Lib.hid (fun w1 => OscA.elapsed_any p.sl d c T E w1 (Lib.hid hE) hc)
  rw [ea] at M ⊢
  have M := Lib.hid M
  clear may hE okh ea
  have S := nw_in w #[.slice p.la p.ln p.lc, .slice (some ⟨b, off, none⟩) p.nn p.nc, .int .i64 p.sw, .int .i64 p.id, .int .i64 p.ch, .int .i64 p.qu, .int .i64 p.sl, .int .i64 p.pp] c0 c1 c2
  clear c0 c1 c2
  have bc := S.out.box.cell
  by_cases hE0 : E = 0
  · subst hE0
    by_cases hT : 1152921504606846976 < T
    · rw [if_pos (.inr hT)] at hr
      simp only [Prod.mk.injEq] at hr
      obtain ⟨rfl, rfl⟩ := hr
      go_enter Try.func38, Try.ntmps38
      go_wp2_with fail
      refine (M.out _ S.out.bel).mono ?_
      rintro e1 w5 ⟨rfl, k5⟩
      have S := nw_next S k5
      clear k5 bc
      have bc := S.out.box.cell
      go_wp2_with fail
      refine (D.out _).mono ?_
      rintro e1 w5 ⟨rfl, k5⟩
      have S := nw_next S k5
      clear k5 bc
      go_wp2_with fail
      go_ret2
      exact ⟨rfl, S.out.bel⟩
    · rw [if_neg (by omega)] at hr
      simp only [Prod.mk.injEq] at hr
      obtain ⟨hr9, rfl⟩ := hr
      have HR := Lib.hid hr9
      clear hr9
      have hT : T ≤ 1152921504606846976 := by omega
      go_enter Try.func38, Try.ntmps38
      go_wp2_with fail
      refine (M.out _ S.out.bel).mono ?_
      rintro e1 w5 ⟨rfl, k5⟩
      have S := nw_next S k5
      clear k5 bc
      have bc := S.out.box.cell
      go_wp2_with fail
      refine (D.out _).mono ?_
      rintro e1 w5 ⟨rfl, k5⟩
      have S := nw_next S k5
      clear k5 bc
      obtain ⟨y0, y1, y2, y3⟩ := nw_rules S
      have z1 := (S.out.box.alloc (.cells #[.int .i64 x0, .int .i64 x1, .int .i64 x2] 73)).cell
      have z2 := (Box.new w5 #[.int .i64 x0, .int .i64 x1, .int .i64 x2] 73).cell
      go_wp2_with fail
      go_ret2
      refine ⟨Kit.ret_pair (Prod.ext ?_ rfl), S.out.bel.alloc S.out.bel.size _⟩
      exact HR.out
  · have hE1 : (E != 0) = true := by simpa using hE0
    rw [if_pos (.inl hE0)] at hr
    clear hE0
    simp only [Prod.mk.injEq] at hr
    obtain ⟨rfl, rfl⟩ := hr
    go_enter Try.func38, Try.ntmps38
    go_wp2_with fail
    refine (M.out _ S.out.bel).mono ?_
    rintro e1 w5 ⟨rfl, k5⟩
    have S := nw_next S k5
    clear k5 bc
    have bc := S.out.box.cell
    go_wp2_with fail
    refine (D.out _).mono ?_
    rintro e1 w5 ⟨rfl, k5⟩
    have S := nw_next S k5
    clear k5 bc
    go_wp2_with fail
    go_ret2
    exact ⟨rfl, S.out.bel⟩
set_option maxRecDepth 100000 in
set_option maxHeartbeats 2000000 in
theorem Wakesr_any (p : PowC) (t now c d : Int) (hc : I64 c) (w : World) (ok : p.Ok w) (x e : Int) (hr : Hid (WakR p t now c d = (x, e))) :
    Calls Try.prog 39 #[.agg #[.slice p.la p.ln p.lc, .slice p.na p.nn p.nc, .int .i64 p.sw, .int .i64 p.id, .int .i64 p.ch, .int .i64 p.qu, .int .i64 p.sl, .int .i64 p.pp], .int .i64 t, .int .i64 now, .int .i64 c, .int .i64 d] w fun e' w' => e' = .returned (.tuple #[.int .i64 x, .int .i64 e]) ∧ Below w.heap.size w w' := by
  have hm2 := ok.nap.out.1
  have okh := fun w1 (h : Below w.heap.size w w1) => ok.below h (Nat.le_refl _)
  have hr := hr.out
  unfold WakR at hr
  by_cases may : MayN p now 1152921504606846976
  rotate_left
  · rw [if_neg (fun h => may h.1)] at hr
    have M := Lib.hid (fun w1 (h : Below w.heap.size w w1) => mayr_any p now 1152921504606846976 w1 (okh w1 h) false (Lib.hid (decide_eq_false may)))
    clear may
    simp only [Prod.mk.injEq] at hr
    obtain ⟨rfl, rfl⟩ := hr
    have S := pst_in w p
    have bc := S.out.box.cell
    go_enter Try.func39, Try.ntmps39
    go_wp2_with fail
    refine (M.out _ S.out.bel).mono ?_
    rintro e1 w5 ⟨rfl, k5⟩
    have S := pst_next S k5
    clear k5 bc
    have bc := S.out.box.cell
    go_wp2_with fail
    go_ret2
    exact ⟨rfl, S.out.bel⟩
  have M := fun w1 (h : Below w.heap.size w w1) => mayr_any p now 1152921504606846976 w1 (okh w1 h) true (Lib.hid (decide_eq_true may))
  by_cases c0 : 0 ≤ t
  rotate_left
  · rw [if_neg (fun h => c0 h.2.1)] at hr
    have c0 : t < 0 := by omega
    have M := Lib.hid M
    clear may
    simp only [Prod.mk.injEq] at hr
    obtain ⟨rfl, rfl⟩ := hr
    have S := pst_in w p
    have bc := S.out.box.cell
    go_enter Try.func39, Try.ntmps39
    go_wp2_with fail
    refine (M.out _ S.out.bel).mono ?_
    rintro e1 w5 ⟨rfl, k5⟩
    have S := pst_next S k5
    clear k5 bc
    have bc := S.out.box.cell
    go_wp2_with fail
    go_ret2
    exact ⟨rfl, S.out.bel⟩
  by_cases c1 : t < p.nn
  rotate_left
  · rw [if_neg (fun h => c1 h.2.2)] at hr
    have c1 : (p.nn : Int) ≤ t := by omega
    have M := Lib.hid M
    clear may
    simp only [Prod.mk.injEq] at hr
    obtain ⟨rfl, rfl⟩ := hr
    have S := pst_in w p
    have bc := S.out.box.cell
    go_enter Try.func39, Try.ntmps39
    go_wp2_with fail
    refine (M.out _ S.out.bel).mono ?_
    rintro e1 w5 ⟨rfl, k5⟩
    have S := pst_next S k5
    clear k5 bc
    have bc := S.out.box.cell
    go_wp2_with fail
    go_ret2
    exact ⟨rfl, S.out.bel⟩
  rw [if_pos ⟨may, c0, c1⟩] at hr
  obtain ⟨k, rfl⟩ := Int.eq_ofNat_of_zero_le c0
  rw [Int.toNat_natCast] at hr
  have hk : k < p.nn := by omega
  clear c0 c1
  obtain ⟨b, off, ea, hbl, c0, c1, c2, i0, i1, i2⟩ := rows_at3 ok.nap k hk
  have nb := nap_bd may.1 hk
  obtain ⟨-, m1, m2, m3⟩ := id may
  generalize p.nf k 0 = x0 at *
  generalize p.nf k 1 = x1 at *
  generalize p.nf k 2 = x2 at *
  obtain ⟨⟨n0, n1⟩, ⟨n2, n3⟩, ⟨n4, n5⟩⟩ := nb
  clear i0 i1 i2
  obtain ⟨⟨T, E⟩, hE⟩ : ∃ x, el p.sl d c = x := ⟨_, rfl⟩
  have e0 := el_nn p.sl d c
  rw [hE] at hr e0
  dsimp only at hr e0
  have D := Lib.hid (fun w1 => OscB.elapsedr_any p.sl d c T E w1 (Lib.hid hE) hc)
  rw [ea] at M ⊢
  have M := Lib.hid M
  clear may hE okh ea
  have S := nw_in w #[.slice p.la p.ln p.lc, .slice (some ⟨b, off, none⟩) p.nn p.nc, .int .i64 p.sw, .int .i64 p.id, .int .i64 p.ch, .int .i64 p.qu, .int .i64 p.sl, .int .i64 p.pp] c0 c1 c2
  clear c0 c1 c2
  have bc := S.out.box.cell
  by_cases hE0 : E = 0
  · subst hE0
    by_cases hT : 1152921504606846976 < T
    · rw [if_pos (.inr hT)] at hr
      simp only [Prod.mk.injEq] at hr
      obtain ⟨rfl, rfl⟩ := hr
      go_enter Try.func39, Try.ntmps39
      go_wp2_with fail
      refine (M.out _ S.out.bel).mono ?_
      rintro e1 w5 ⟨rfl, k5⟩
      have S := nw_next S k5
      clear k5 bc
      have bc := S.out.box.cell
      go_wp2_with fail
      refine (D.out _).mono ?_
      rintro e1 w5 ⟨rfl, k5⟩
      have S := nw_next S k5
      clear k5 bc
      go_wp2_with fail
      go_ret2
      exact ⟨rfl, S.out.bel⟩
    · rw [if_neg (by omega)] at hr
      simp only [Prod.mk.injEq] at hr
      obtain ⟨hr9, rfl⟩ := hr
      have HR := Lib.hid hr9
      clear hr9
      have hT : T ≤ 1152921504606846976 := by omega
      go_enter Try.func39, Try.ntmps39
      go_wp2_with fail
      refine (M.out _ S.out.bel).mono ?_
      rintro e1 w5 ⟨rfl, k5⟩
      have S := nw_next S k5
      clear k5 bc
      have bc := S.out.box.cell
      go_wp2_with fail
      refine (D.out _).mono ?_
      rintro e1 w5 ⟨rfl, k5⟩
      have S := nw_next S k5
      clear k5 bc
      have bc := S.out.box.cell
      go_wp2_with fail
      have S := nw_drew S
      clear bc
      have bd := nw_rules S
      have hw1 : IntKind.i64.wrap (now + x1) = now + x1 := IntWalk.i64_in _ (by omega)
      have hw2 : IntKind.i64.wrap (now + x1 + T) = now + x1 + T := IntWalk.i64_in _ (by omega)
      have hw3 : IntKind.i64.wrap (now + x1 + T + x2) = now + x1 + T + x2 := IntWalk.i64_in _ (by omega)
      go_region_held3 (fun w' => (∀ i, w'.cell? ⟨w.heap.size, i, none⟩ = (#[.slice p.la p.ln p.lc, .slice (some ⟨b, off, none⟩) p.nn p.nc, .int .i64 p.sw, .int .i64 p.id, .int .i64 p.ch, .int .i64 p.qu, .int .i64 p.sl, .int .i64 p.pp] : Array Value)[i]?) ∧ w'.cell? ⟨b, off + k * 3, none⟩ = some (.int .i64 x0) ∧ w'.cell? ⟨b, off + k * 3 + 1, none⟩ = some (.int .i64 x1) ∧ w'.cell? ⟨b, off + k * 3 + 2, none⟩ = some (.int .i64 x2))
        (exact bd)
        (fail)
      go_wp2_with fail
      go_ret2
      refine ⟨Kit.ret_pair (Prod.ext ?_ rfl), S.out.bel⟩
      exact HR.out
  · have hE1 : (E != 0) = true := by simpa using hE0
    rw [if_pos (.inl hE0)] at hr
    clear hE0
    simp only [Prod.mk.injEq] at hr
    obtain ⟨rfl, rfl⟩ := hr
    go_enter Try.func39, Try.ntmps39
    go_wp2_with fail
    refine (M.out _ S.out.bel).mono ?_
    rintro e1 w5 ⟨rfl, k5⟩
    have S := nw_next S k5
    clear k5 bc
    have bc := S.out.box.cell
    go_wp2_with fail
    refine (D.out _).mono ?_
    rintro e1 w5 ⟨rfl, k5⟩
    have S := nw_next S k5
    clear k5 bc
    go_wp2_with fail
    go_ret2
    exact ⟨rfl, S.out.bel⟩
end Go.Proofs.Ytigknchcjlieoaa.NapI
