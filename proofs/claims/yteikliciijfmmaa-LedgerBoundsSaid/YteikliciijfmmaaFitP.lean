/- Walks of fit: Demand, Sure, windows, Covered; and their references. -/
import Derived.Test.YteikliciijfmmaaFitC
import Derived.Test.YteikliciijfmmaaOwn
import Derived.Test.YteikliciijfmmaaShort
namespace Go.Proofs.Yteikliciijfmmaa.FitP
open Go.RowKit Base Kit WideA WideB Plain FitA FitB FitC Conf Conf2 Alt RefA Own
set_option linter.unusedVariables false
set_option linter.unusedSimpArgs false

/-- a partition's block -/
def pv (p : PartC) : Array Value := #[.slice p.ra p.rn p.rc, .slice p.pa p.pn p.pc, .slice p.oa p.on p.oc, .slice p.sa p.sn p.sc, .int .i64 p.fl, .slice p.qa p.qn p.qc, .slice p.ta p.tn p.tc, .int .i64 p.cap, .int .i64 p.bud, .int .i64 p.lad, .slice p.ca p.cn p.cc]
/-- what a partition wants -/
def dem (p : PartC) : Int × Int := sumR (fun i => p.pf i 2) p.pn

set_option maxRecDepth 100000 in
set_option maxHeartbeats 2000000 in
theorem demand_any (p : PartC) (w : World) (h : Hid (Open.RowsIn w p.pa p.pn 3 p.pf)) (hn : p.pn ≤ 100) :
    Calls Try.prog 50 #[.agg #[.slice p.ra p.rn p.rc, .slice p.pa p.pn p.pc, .slice p.oa p.on p.oc, .slice p.sa p.sn p.sc, .int .i64 p.fl, .slice p.qa p.qn p.qc, .slice p.ta p.tn p.tc, .int .i64 p.cap, .int .i64 p.bud, .int .i64 p.lad, .slice p.ca p.cn p.cc]] w fun e w' => e = .returned (.tuple #[.int .i64 (dem p).1, .int .i64 (dem p).2]) ∧ Below w.heap.size w w' := by
  have B := Lib.hid (Box.new w (pv p) 57)
  have HB : Hid (Below w.heap.size w _) := Lib.hid ((Below.refl w.heap.size w).alloc (Nat.le_refl _) (.cells (pv p) 57))
  have R := rows_alloc h (.cells (pv p) 57)
  unfold pv at B HB R
  obtain ⟨i0, hi, hz0, hz1, hz2⟩ := info_parts infoInt
  obtain ⟨r1, q1⟩ : ∃ r, (dem p).1 = r := ⟨_, rfl⟩
  obtain ⟨r2, q2⟩ : ∃ r, (dem p).2 = r := ⟨_, rfl⟩
  rw [q1, q2]
  have Q := Lib.hid (Prod.ext q1 q2 : dem p = (r1, r2))
  unfold dem at Q
  clear q1 q2
  obtain ⟨ra, rn, rc, rb, rs, rw, pa, pn, pc, pf, oa, on, oc, oq, oi, os, od, sa, sn, sc, sf, fl, qa, qn, qc, qf, ta, tn, tc, tf, cap, bud, lad, ca, cn, cc, cf⟩ := p
  dsimp only at *
  go_enter Try.func50, Try.ntmps50
  go_wp2_with fail
  generalize w.alloc (.cells #[.slice ra rn rc, .slice pa pn pc, .slice oa on oc, .slice sa sn sc, .int .i64 fl, .slice qa qn qc, .slice ta tn tc, .int .i64 cap, .int .i64 bud, .int .i64 lad, .slice ca cn cc] 57) = w1 at B HB R ⊢
  go_loopw [4, 10] (fun v i wr => ∃ k : Nat, k ≤ pn ∧ i = .int .i64 k ∧ wr.ownsRow w1.heap.size 3 1 v k (row (fun i => pf i 2) k) ∧ Hid (Below w1.heap.size w1 wr)) (fun _ i _ => pn - (intOf i).toNat)
  case atStart => exact ⟨0, by omega, rfl, World.ownsRow_nil _ _ _ _, Lib.hid (Below.refl _ _)⟩
  case round =>
    obtain ⟨k, hk, rfl, hown, HC⟩ := hrel
    have bc := (B.out.next HC.out).cell
    have hz := HC.out.size
    by_cases hlt : k < pn
    · obtain ⟨b, off, rfl, hl, c0, c1, c2, j0, j1, j2⟩ := rows_at3 R k hlt
      have d0 := keep HC.out c0 hl
      have d1 := keep HC.out c1 hl
      have d2 := keep HC.out c2 hl
      obtain ⟨x0, hx0⟩ : ∃ x, pf k 0 = x := ⟨_, rfl⟩
      obtain ⟨x1, hx1⟩ : ∃ x, pf k 1 = x := ⟨_, rfl⟩
      rw [hx0] at d0
      rw [hx1] at d1
      clear hx0 hx1
      obtain ⟨x, hx⟩ : ∃ x, pf k 2 = x := ⟨_, rfl⟩
      rw [hx] at d2
      have HX := Lib.hid hx
      clear hx c0 c1 c2
      go_wp2_with (at_builtin; go_loud (refine append1 (wr.alloc (.cells #[.int .i64 x0, .int .i64 x1, .int .i64 x] 131)) rfl _ _ 41 rfl w1.heap.size 3 (.int .i64 0) 8 Try.underlying41 infoInt rfl _ (.int .i64 x) _ _ _ rfl (by exact hown.alloc _) (by rw [World.size_alloc]; rfl) rfl ?c1 ?c2 ?c3 ?_))
      case c1 => unfold maxLen; omega
      case c2 => omega
      case c3 => simp; omega
      intro v' w3 hown1 hsz hb1 _
      have HC' := Lib.hid ((HC.out.alloc hz _).trans hb1)
      have HO : Hid (w3.ownsRow w1.heap.size 3 1 v' (k + 1) (row (fun i => pf i 2) (k + 1))) := Lib.hid (by
        rw [row_succ]
        show w3.ownsRow _ _ _ _ _ (row (fun i => pf i 2) k ++ [.int .i64 (pf k 2)])
        rw [HX.out]; exact hown1)
      clear hown hown1 hb1 bc d0 d1 d2
      go_wp2
      go_roundw
      case rel => exact ⟨k + 1, by omega, by go_num, HO.out, HC'⟩
      case measure => simp [intOf]; omega
    · obtain rfl : k = pn := by omega
      go_wp2_with fail
      obtain ⟨a, c', rfl, hI⟩ := ints_of_own hown (by omega) (fun i hi => R.out.2.2 i hi 2 (by omega))
      have C := WideS.sum_any a k c' (fun i => pf i 2) _ hI
      rw [Q.out] at C
      refine C.mono ?_
      rintro e1 w3 ⟨rfl, hb3⟩
      have HB := below_next HB.out (below_next HC.out hb3)
      clear hown hI C hb3 bc
      have HB := Lib.hid HB
      go_wp2_with fail
      go_ret2
      exact ⟨rfl, HB.out⟩
set_option maxRecDepth 100000 in
set_option maxHeartbeats 2000000 in
theorem demandr_any (p : PartC) (w : World) (h : Hid (Open.RowsIn w p.pa p.pn 3 p.pf)) (hn : p.pn ≤ 100) :
    Calls Try.prog 51 #[.agg #[.slice p.ra p.rn p.rc, .slice p.pa p.pn p.pc, .slice p.oa p.on p.oc, .slice p.sa p.sn p.sc, .int .i64 p.fl, .slice p.qa p.qn p.qc, .slice p.ta p.tn p.tc, .int .i64 p.cap, .int .i64 p.bud, .int .i64 p.lad, .slice p.ca p.cn p.cc]] w fun e w' => e = .returned (.tuple #[.int .i64 (dem p).1, .int .i64 (dem p).2]) ∧ Below w.heap.size w w' := by
  have B := Lib.hid (Box.new w (pv p) 57)
  have HB : Hid (Below w.heap.size w _) := Lib.hid ((Below.refl w.heap.size w).alloc (Nat.le_refl _) (.cells (pv p) 57))
  have R := rows_alloc h (.cells (pv p) 57)
  unfold pv at B HB R
  obtain ⟨i0, hi, hz0, hz1, hz2⟩ := info_parts infoInt
  obtain ⟨r1, q1⟩ : ∃ r, (dem p).1 = r := ⟨_, rfl⟩
  obtain ⟨r2, q2⟩ : ∃ r, (dem p).2 = r := ⟨_, rfl⟩
  rw [q1, q2]
  have Q := Lib.hid (Prod.ext q1 q2 : dem p = (r1, r2))
  unfold dem at Q
  clear q1 q2
  obtain ⟨ra, rn, rc, rb, rs, rw, pa, pn, pc, pf, oa, on, oc, oq, oi, os, od, sa, sn, sc, sf, fl, qa, qn, qc, qf, ta, tn, tc, tf, cap, bud, lad, ca, cn, cc, cf⟩ := p
  dsimp only at *
  go_enter Try.func51, Try.ntmps51
  go_wp2_with fail
  generalize w.alloc (.cells #[.slice ra rn rc, .slice pa pn pc, .slice oa on oc, .slice sa sn sc, .int .i64 fl, .slice qa qn qc, .slice ta tn tc, .int .i64 cap, .int .i64 bud, .int .i64 lad, .slice ca cn cc] 57) = w1 at B HB R ⊢
  go_loopw [4, 5] (fun v i wr => ∃ k : Nat, k ≤ pn ∧ i = .int .i64 k ∧ wr.ownsRow w1.heap.size 3 1 v k (row (fun i => pf i 2) k) ∧ Hid (Below w1.heap.size w1 wr)) (fun _ i _ => pn - (intOf i).toNat)
  case atStart => exact ⟨0, by omega, rfl, World.ownsRow_nil _ _ _ _, Lib.hid (Below.refl _ _)⟩
  case round =>
    obtain ⟨k, hk, rfl, hown, HC⟩ := hrel
    have bc := (B.out.next HC.out).cell
    have hz := HC.out.size
    by_cases hlt : k < pn
    · obtain ⟨b, off, rfl, hl, c0, c1, c2, j0, j1, j2⟩ := rows_at3 R k hlt
      have d0 := keep HC.out c0 hl
      have d1 := keep HC.out c1 hl
      have d2 := keep HC.out c2 hl
      obtain ⟨x0, hx0⟩ : ∃ x, pf k 0 = x := ⟨_, rfl⟩
      obtain ⟨x1, hx1⟩ : ∃ x, pf k 1 = x := ⟨_, rfl⟩
      rw [hx0] at d0
      rw [hx1] at d1
      clear hx0 hx1
      obtain ⟨x, hx⟩ : ∃ x, pf k 2 = x := ⟨_, rfl⟩
      rw [hx] at d2
      have HX := Lib.hid hx
      clear hx c0 c1 c2
      go_wp2_with (at_builtin; go_loud (refine append1 wr rfl _ _ 41 rfl w1.heap.size 3 (.int .i64 0) 8 Try.underlying41 infoInt rfl _ (.int .i64 x) _ _ _ rfl (by exact hown) rfl rfl ?c1 ?c2 ?c3 ?_))
      case c1 => unfold maxLen; omega
      case c2 => omega
      case c3 => exact hz
      intro v' w3 hown1 hsz hb1 _
      have HC' := Lib.hid (HC.out.trans hb1)
      have HO : Hid (w3.ownsRow w1.heap.size 3 1 v' (k + 1) (row (fun i => pf i 2) (k + 1))) := Lib.hid (by
        rw [row_succ]
        show w3.ownsRow _ _ _ _ _ (row (fun i => pf i 2) k ++ [.int .i64 (pf k 2)])
        rw [HX.out]; exact hown1)
      clear hown hown1 hb1 bc d0 d1 d2
      go_wp2
      go_roundw
      case rel => exact ⟨k + 1, by omega, by go_num, HO.out, HC'⟩
      case measure => simp [intOf]; omega
    · obtain rfl : k = pn := by omega
      go_wp2_with fail
      obtain ⟨a, c', rfl, hI⟩ := ints_of_own hown (by omega) (fun i hi => R.out.2.2 i hi 2 (by omega))
      have C := sumr_any' a k c' (fun i => pf i 2) _ hI
      rw [Q.out] at C
      refine C.mono ?_
      rintro e1 w3 ⟨rfl, hb3⟩
      have HB := below_next HB.out (below_next HC.out hb3)
      clear hown hI C hb3 bc
      have HB := Lib.hid HB
      go_wp2_with fail
      go_ret2
      exact ⟨rfl, HB.out⟩

set_option maxRecDepth 100000 in
set_option maxHeartbeats 1000000 in
theorem sure_any (p : PartC) (w : World) (h : Hid (Open.RowsIn w p.pa p.pn 3 p.pf)) (hn : p.pn ≤ 100) (ok : Bool) (hok : Hid ((decide ((dem p).2 = 0) && decide ((dem p).1 ≤ p.cap)) = ok)) :
    Calls Try.prog 52 #[.agg #[.slice p.ra p.rn p.rc, .slice p.pa p.pn p.pc, .slice p.oa p.on p.oc, .slice p.sa p.sn p.sc, .int .i64 p.fl, .slice p.qa p.qn p.qc, .slice p.ta p.tn p.tc, .int .i64 p.cap, .int .i64 p.bud, .int .i64 p.lad, .slice p.ca p.cn p.cc]] w fun e w' => e = .returned (.bool ok) ∧ Below w.heap.size w w' := by
  have C := fun w h => demand_any p w h hn
  have hok := hok.out
  generalize (dem p).1 = d1 at *
  generalize (dem p).2 = d2 at *
  have C := Lib.hid C
  by_cases hz : d2 = 0
  · subst hz
    by_cases hl : d1 ≤ p.cap
    · obtain rfl : ok = true := by rw [← hok]; simp [hl]
      clear hok
      go_enter Try.func52, Try.ntmps52
      go_wp2_with fail
      refine (C.out _ (rows_alloc h _)).mono ?_
      rintro e1 w2 ⟨rfl, hb2⟩
      have HB := Lib.hid (below_in _ hb2)
      have bc := ((Box.new w _ _).next hb2).cell
      clear hb2
      go_wp2_with fail
      go_ret
      refine ⟨?_, HB.out⟩
      first | rfl | exact ret_bool (by simp; omega)
    · obtain rfl : ok = false := by rw [← hok]; simp [hl]
      have hl2 : p.cap < d1 := by omega
      clear hok hl
      go_enter Try.func52, Try.ntmps52
      go_wp2_with fail
      refine (C.out _ (rows_alloc h _)).mono ?_
      rintro e1 w2 ⟨rfl, hb2⟩
      have HB := Lib.hid (below_in _ hb2)
      have bc := ((Box.new w _ _).next hb2).cell
      clear hb2
      go_wp2_with fail
      go_ret
      refine ⟨?_, HB.out⟩
      first | rfl | exact ret_bool (by simp; omega)
  · obtain rfl : ok = false := by rw [← hok]; simp [hz]
    have hz' : (d2 == 0) = false := by simpa using hz
    clear hok hz
    go_enter Try.func52, Try.ntmps52
    go_wp2_with fail
    refine (C.out _ (rows_alloc h _)).mono ?_
    rintro e1 w2 ⟨rfl, hb2⟩
    have HB := Lib.hid (below_in _ hb2)
    have bc := ((Box.new w _ _).next hb2).cell
    clear hb2
    go_wp2_with fail
    go_ret
    refine ⟨?_, HB.out⟩
    first | rfl | exact ret_bool (by simp; omega)

/-- how many windows are a partition's -/
def cnt (f : Nat → Nat → Int) (p : Int) : Nat → Nat
  | 0 => 0
  | k + 1 => if f k 0 = p then cnt f p k + 1 else cnt f p k
theorem cnt_le (f : Nat → Nat → Int) (p : Int) : ∀ k, cnt f p k ≤ k
  | 0 => Nat.le_refl _
  | k + 1 => by have := cnt_le f p k; rw [cnt]; split <;> omega
theorem windows_any (m : ModeC) (part : Int) (w : World) (h : Hid (Open.RowsIn w m.wa m.wn 3 m.wf)) (hn : m.wn ≤ 100) :
    Calls Try.prog 79 #[.agg #[.int .i64 m.fr, .slice m.wa m.wn m.wc], .int .i64 part] w fun e w' => e = .returned (.int .i64 (cnt m.wf part m.wn)) ∧ Below w.heap.size w w' := by
  obtain ⟨fr, wa, wn, wc, wf⟩ := m
  dsimp only at *
  have R := rows_alloc h (.cells #[.int .i64 fr, .slice wa wn wc] 118)
  have HB : Hid (Below w.heap.size w _) := Lib.hid ((Below.refl w.heap.size w).alloc (Nat.le_refl _) (.cells #[.int .i64 fr, .slice wa wn wc] 118))
  go_enter Try.func79, Try.ntmps79
  go_wp2_with fail
  generalize w.alloc (.cells #[.int .i64 fr, .slice wa wn wc] 118) = w1 at R HB ⊢
  go_loopw [5, 11] (fun v i wr => ∃ k : Nat, k ≤ wn ∧ i = .int .i64 k ∧ v = .int .i64 (cnt wf part k) ∧ Hid (Below w1.heap.size w1 wr)) (fun _ i _ => wn - (intOf i).toNat)
  case atStart => exact ⟨0, by omega, rfl, rfl, Lib.hid (Below.refl _ _)⟩
  case round =>
    obtain ⟨k, hk, rfl, rfl, HC⟩ := hrel
    by_cases hlt : k < wn
    · obtain ⟨b, off, rfl, hl, c0, c1, c2, j0, j1, j2⟩ := rows_at3 R k hlt
      have d0 := keep HC.out c0 hl
      have d1 := keep HC.out c1 hl
      have d2 := keep HC.out c2 hl
      have hc := cnt_le wf part k
      have HC' := fun o => Lib.hid (HC.out.alloc HC.out.size o)
      by_cases hp : wf k 0 = part
      · have e := Lib.hid (show cnt wf part (k + 1) = cnt wf part k + 1 by rw [cnt, if_pos hp])
        rw [hp] at d0
        clear hp c0 c1 c2
        go_wp2_with fail
        go_roundw
        case rel => exact ⟨k + 1, by omega, by go_num, by rw [e.out]; go_num, HC' _⟩
        case measure => simp [intOf]; omega
      · have e := Lib.hid (show cnt wf part (k + 1) = cnt wf part k by rw [cnt, if_neg hp])
        have hp' : (wf k 0 == part) = false := by simpa using hp
        clear hp c0 c1 c2
        go_wp2_with fail
        go_roundw
        case rel => exact ⟨k + 1, by omega, by go_num, by rw [e.out], HC' _⟩
        case measure => simp [intOf]; omega
    · obtain rfl : k = wn := by omega
      go_wp2_with fail
      go_ret
      exact ⟨rfl, below_next HB.out HC.out⟩
end Go.Proofs.Yteikliciijfmmaa.FitP
