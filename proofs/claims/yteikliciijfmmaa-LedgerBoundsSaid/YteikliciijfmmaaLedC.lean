/- Walks of package ledger: Spend, Refill, All. -/
import Derived.Test.YteikliciijfmmaaLedB
namespace Go.Proofs.Yteikliciijfmmaa.LedC
open Go.RowKit Base Kit WideA WideB Plain FitA FitB FitC Conf Alt RefA LedA LedB
set_option linter.unusedVariables false
set_option linter.unusedSimpArgs false

section
variable {w0 w : World} {W : PowC} {q : Int} {bud : Nat → Int} {n l : Nat} {v : Value} {a : Nat → Nat} {cy : Nat → Int}
/-- an account's cycles are set -/
theorem ls_set (h : Hid (Ls w0 w W q bud n l v a cy)) (k : Nat) (hk : k < n) (x : Int) (hx : 0 ≤ x ∧ x ≤ 1099511627776) : Hid (Ls w0 (w.setCell ⟨a k, 10, none⟩ (.int .i64 x)) W q bud n l v a (upd cy k x)) := by
  have hA : Alt (fun i => i = a k) w (w.setCell ⟨a k, 10, none⟩ (.int .i64 x)) := Alt.set _ _ _ rfl
  have hbk := h.out.lm.out.acc k hk
  refine Lib.hid ⟨hA.below h.out.bel h.out.bel.size (fun i hi => by have := h.out.ha k hk; omega), h.out.hl, h.out.ha, h.out.hv, Lib.hid ⟨?_, ?_, ?_, h.out.lm.out.inj⟩, h.out.lev, fun i hi => ?_, h.out.hn, h.out.budI, h.out.qI⟩
  · exact box_alt h.out.lm.out.box hA (fun e => box_ne h.out.lm.out.box hbk (by decide) e)
  · have ho := h.out.lm.out.own
    obtain ⟨h1, h2⟩ := id ho
    refine ⟨h1, ?_⟩
    rcases h2 with h2 | ⟨g, cap, cur, hv, hg, hh, r⟩
    · exact .inl h2
    · refine .inr ⟨g, cap, cur, hv, hg, ?_, r⟩
      rw [Below.heap_setCell]
      · exact hh
      · intro e
        unfold Box at hbk
        simp only at e
        rw [e, hbk] at hh
        simp at hh
  · intro i hi
    unfold upd
    by_cases e : i = k
    · subst e
      rw [if_pos rfl]
      exact hbk.set 10 (.int .i64 x)
    · rw [if_neg e]
      exact box_alt (h.out.lm.out.acc i hi) hA (fun e2 => e (h.out.lm.out.inj i k hi hk e2))
  · unfold upd; split
    · exact hx
    · exact h.out.cyb i hi

def Acc (n : Nat) (a : Nat → Nat) (i : Nat) : Prop := ∃ k, k < n ∧ i = a k
set_option maxRecDepth 100000 in
set_option maxHeartbeats 1000000 in
theorem ls_spend (h : Hid (Ls w0 w W q bud n l v a cy)) (p x : Int) (hx : I64 x) (r : Int) (cy' : Nat → Int) (hr : Hid (spendP W n cy p x = (r, cy'))) :
    Calls Try.prog 30 #[.pointer (some ⟨l, 0, none⟩), .int .i64 p, .int .i64 x] w fun e w' => e = .returned (.int .i64 r) ∧ Hid (Ls w0 w' W q bud n l v a cy') ∧ Alt (Acc n a) w w' := by
  have hr := hr.out
  unfold spendP at hr
  have C0 := Lib.hid (fun w (h : Hid (Ls w0 w W q bud n l v a cy)) => dead_any w l v (Lib.hid h.out.lm.out.box))
  by_cases hp : 0 ≤ p ∧ p < (n : Int)
  · obtain ⟨k, rfl⟩ := Int.eq_ofNat_of_zero_le hp.1
    have hk : k < n := by omega
    rw [Int.toNat_natCast] at hr
    have C1 := Lib.hid (find_any W q bud n w l v a cy k h.out.lm h.out.hn (some ⟨a k, 0, none⟩) (Lib.hid (fnd_in hk)))
    obtain ⟨y0, y1⟩ := h.out.cyb k hk
    by_cases hx0 : x < 0
    · rw [if_pos (.inr hx0)] at hr
      obtain ⟨rfl, rfl⟩ : r = 2 ∧ cy = cy' := by simp only [Prod.mk.injEq] at hr; exact ⟨hr.1.symm, hr.2⟩
      clear hr hp
      go_enter Try.func30, Try.ntmps30
      go_wp2_with fail
      refine C1.out.mono ?_
      rintro e w1 ⟨rfl, rfl⟩
      go_wp2_with fail
      refine (C0.out _ h).mono ?_
      rintro e w1 ⟨rfl, rfl⟩
      go_wp2_with fail
      go_ret
      exact ⟨rfl, h, Alt.refl _ _⟩
    · rw [if_neg (by omega)] at hr
      have hx1 : 0 ≤ x := by omega
      have hx2 := hx.2
      have bc := (ls_acc h k hk).out.cell
      by_cases hbig : 1099511627776 - cy k < x
      · rw [if_pos (.inl hbig)] at hr
        obtain ⟨rfl, rfl⟩ : r = 6 ∧ cy = cy' := by simp only [Prod.mk.injEq] at hr; exact ⟨hr.1.symm, hr.2⟩
        clear hr hp hx0
        go_enter Try.func30, Try.ntmps30
        go_wp2_with fail
        refine C1.out.mono ?_
        rintro e w1 ⟨rfl, rfl⟩
        go_wp2_with fail
        refine (C0.out _ h).mono ?_
        rintro e w1 ⟨rfl, rfl⟩
        go_wp2_with fail
        go_ret
        exact ⟨rfl, h, Alt.refl _ _⟩
      · have hle : x ≤ 1099511627776 - cy k := by omega
        obtain ⟨u, hu⟩ : ∃ u, (cst W (cy k + x)).1 = u := ⟨_, rfl⟩
        obtain ⟨er, he⟩ : ∃ er, (cst W (cy k + x)).2 = er := ⟨_, rfl⟩
        rw [he] at hr
        have C := Lib.hid (fun w h => cost_any W.la W.ln W.lc W.lf (.slice W.na W.nn W.nc) W.sw (.int .i64 W.id) (.int .i64 W.ch) (.int .i64 W.qu) (.int .i64 W.sl) (.int .i64 W.pp) (cy k + x) u er w h ⟨by omega, by omega⟩ (Lib.hid (Prod.ext hu he)))
        have hwr : IntKind.i64.wrap (cy k + x) = cy k + x := IntWalk.i64_in _ (by omega)
        have HW := Lib.hid hwr
        clear hu he hwr
        by_cases hez : er = 0
        · subst hez
          rw [if_neg (by omega)] at hr
          obtain ⟨rfl, rfl⟩ : r = 0 ∧ cy' = upd cy k (cy k + x) := by simp only [Prod.mk.injEq] at hr; exact ⟨hr.1.symm, hr.2.symm⟩
          clear hr hp hx0 hbig
          go_enter Try.func30, Try.ntmps30
          go_wp2_with fail
          refine C1.out.mono ?_
          rintro e w1 ⟨rfl, rfl⟩
          go_wp2_with fail
          refine (C0.out _ h).mono ?_
          rintro e w1 ⟨rfl, rfl⟩
          go_wp2_with fail
          have HD := ls_drew h
          have bd := (ls_acc HD k hk).out.cell
          have hwr := HW.out
          go_region_held3 (fun w' => ∀ i, w'.cell? ⟨a k, i, none⟩ = (#[.int .i64 (bud k), .int .i64 q, .slice W.la W.ln W.lc, .slice W.na W.nn W.nc, .int .i64 W.sw, .int .i64 W.id, .int .i64 W.ch, .int .i64 W.qu, .int .i64 W.sl, .int .i64 W.pp, .int .i64 (cy k)] : Array Value)[i]?)
            (first
              | exact bd
              | exact r5)
            (first
              | (go_at_call 20; refine (C.out _ (by exact ls_lev HD)).mono ?_; rintro e1 w5 ⟨rfl, hb5⟩; have HS := ls_next HD hb5; have r5 := (ls_acc HS k hk).out.cell; have HB := Lib.hid (((Below.refl w.heap.size w).drew).trans hb5); clear hb5))
          clear bc bd r5 hwr
          have bc := (ls_acc HS k hk).out.cell
          have bf := (ls_acc HS k hk).out.frozen
          go_wp2_with fail
          go_ret
          exact ⟨rfl, ls_set HS k hk (cy k + x) ⟨by omega, by omega⟩, (Alt.of_below HB.out).trans (Alt.set _ _ _ ⟨k, hk, rfl⟩)⟩
        · have hez' : (er != 0) = true := by simpa using hez
          rw [if_pos (.inr hez)] at hr
          obtain ⟨rfl, rfl⟩ : r = 6 ∧ cy = cy' := by simp only [Prod.mk.injEq] at hr; exact ⟨hr.1.symm, hr.2⟩
          clear hr hp hx0 hbig hez
          go_enter Try.func30, Try.ntmps30
          go_wp2_with fail
          refine C1.out.mono ?_
          rintro e w1 ⟨rfl, rfl⟩
          go_wp2_with fail
          refine (C0.out _ h).mono ?_
          rintro e w1 ⟨rfl, rfl⟩
          go_wp2_with fail
          have HD := ls_drew h
          have bd := (ls_acc HD k hk).out.cell
          have hwr := HW.out
          go_region_held3 (fun w' => ∀ i, w'.cell? ⟨a k, i, none⟩ = (#[.int .i64 (bud k), .int .i64 q, .slice W.la W.ln W.lc, .slice W.na W.nn W.nc, .int .i64 W.sw, .int .i64 W.id, .int .i64 W.ch, .int .i64 W.qu, .int .i64 W.sl, .int .i64 W.pp, .int .i64 (cy k)] : Array Value)[i]?)
            (first
              | exact bd
              | exact r5)
            (first
              | (go_at_call 20; refine (C.out _ (by exact ls_lev HD)).mono ?_; rintro e1 w5 ⟨rfl, hb5⟩; have HS := ls_next HD hb5; have r5 := (ls_acc HS k hk).out.cell; have HB := Lib.hid (((Below.refl w.heap.size w).drew).trans hb5); clear hb5))
          clear bc bd r5 hwr
          go_wp2_with fail
          go_ret
          exact ⟨rfl, HS, Alt.of_below HB.out⟩
  · rw [if_pos (.inl hp)] at hr
    obtain ⟨rfl, rfl⟩ : r = 2 ∧ cy = cy' := by simp only [Prod.mk.injEq] at hr; exact ⟨hr.1.symm, hr.2⟩
    have C1 := Lib.hid (find_any W q bud n w l v a cy p h.out.lm h.out.hn none (Lib.hid (fnd_out hp)))
    clear hp hr
    go_enter Try.func30, Try.ntmps30
    go_wp2_with fail
    refine C1.out.mono ?_
    rintro e w1 ⟨rfl, rfl⟩
    go_wp2_with fail
    refine (C0.out _ h).mono ?_
    rintro e w1 ⟨rfl, rfl⟩
    go_wp2_with fail
    go_ret
    exact ⟨rfl, h, Alt.refl _ _⟩
end
end Go.Proofs.Yteikliciijfmmaa.LedC
